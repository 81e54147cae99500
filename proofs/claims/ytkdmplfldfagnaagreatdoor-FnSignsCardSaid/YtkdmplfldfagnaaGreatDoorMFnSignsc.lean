/- What is proved here: part 3 of 5 of the proof of the given statement FnSigns: the contracts of the Go functions that it reaches, the plain facts on lists and numbers, and (in the last part) the statement itself. No conditions beyond the given ones. -/
import Derived.Test.YtkdmplfldfagnaaGreatDoorMFnSignswSlim
import Derived.Test.YtkdmplfldfagnaaGreatDoorMFnSignsa
import Derived.Test.YtkdmplfldfagnaaGreatDoorMFnSignsb

section
namespace Go.Proofs.YtkdmplfldfagnaaGreatDoor.Pf
open Go.RowKit Go.Proofs.YtkdmplfldfagnaaGreatDoorW.PrintWords Go.Proofs.YtkdmplfldfagnaaGreatDoorW.PrintLast Go.Proofs.YtkdmplfldfagnaaGreatDoorW.PrintMore
attribute [local go_sem] max2_int min2_int max_two min_two max_three min_three max_four min_four   -- for this text's walks alone
set_option linter.unusedVariables false
set_option linter.unusedSimpArgs false
def spec_FpPow.l0 : Nat → Int → Int → Int → Option (Int)
 | 0, _, _, _ => none
 | k + 1, x1, x5, x6 => if x1 > 0 then (if (Int.tmod x1 2) = 1 then ((spec_FpMul.f x5 x6).bind fun t281 => ((spec_FpMul.f x6 x6).bind fun t282 => (spec_FpPow.l0 k (wrap64 (Int.tdiv x1 2)) t281 t282))) else ((spec_FpMul.f x6 x6).bind fun t283 => (spec_FpPow.l0 k (wrap64 (Int.tdiv x1 2)) x5 t283))) else (some x5)
def spec_FpPow.f (k : Nat) (a0 : Int) (a1 : Int) : Option (Int) := if a1 < 0 then (some 0) else ((spec_FpOf.f a0).bind fun t280 => (spec_FpPow.l0 k a1 1 t280))
set_option maxHeartbeats 8000000 in
set_option maxRecDepth 100000 in
theorem spec_FpPow.calls (k : Nat) (a0 : Int) (a1 : Int) (r : Int) (w : World) (h : spec_FpPow.f k a0 a1 = some r) :
  Calls Tryz.prog 111 #[.int .i64 a0, .int .i64 a1] w fun e w' => e = .returned (.int .i64 r) ∧ Drawn0 w w' := by
 have H : (if a1 < 0 then (some 0) else ((spec_FpOf.f a0).bind fun t280 => (spec_FpPow.l0 k a1 1 t280))) = some r := h
 clear h
 by_cases c3 : a1 < 0
 ·rw [if_pos c3] at H
  have c3b0 := decide_eq_true c3
  clear c3
  obtain rfl := Option.some.inj H
  go_enter Tryz.func111, Tryz.ntmps111
  go_wp2
  go_ret
  exact ⟨rS, rD⟩
 ·rw [if_neg c3] at H
  have c3b0 := decide_eq_false c3
  clear c3
  replace H := Option.bind_eq_some_iff.mp H
  obtain ⟨t280, A40, H⟩ := H
  have A4 := Aside0.mk A40
  clear A40
  have H' := Aside0.mk H
  clear H
  go_enter Tryz.func111, Tryz.ntmps111
  go_wp2_with (first | (refine gC (some 10) Tryz.func62 #[.int .i64 a0] ?_; (with_reducible refine (spec_FpOf.calls a0 t280 _ A4.out).mono ?_); rintro e w' ⟨rfl, ⟨nd, rfl⟩⟩; refine ⟨_, rfl, ?_⟩))
  go_loopg [1, 5, 6] k (fun kq v1 v5 v6 w' => ∃ (x1_1 : Int) (x5_1 : Int) (x6_1 : Int), v1 = .int .i64 x1_1 ∧ v5 = .int .i64 x5_1 ∧ v6 = .int .i64 x6_1 ∧ Aside0 (spec_FpPow.l0 kq x1_1 x5_1 x6_1 = some r) ∧ Aside0 (kq ≤ k) ∧ Drawn0 w w')
  case atStart => exact ⟨(a1), (1), (t280), rS, rS, rS, H', ⟨Nat.le_refl _⟩, by repeat (first | exact Drawn0.refl _ | apply Drawn0.step)⟩
  case round =>
   clear H'
   try clear c1
   try clear p2
   try clear c3
   try clear c3b0
   obtain ⟨x1_1, x5_1, x6_1, rfl, rfl, rfl, HA, HK1, ⟨m1, rfl⟩⟩ := hrel
   cases gk with
   | zero => exact absurd HA.out (by simp [spec_FpPow.l0])
   | succ k1 =>
    have H := HA.out
    clear HA
    simp only [spec_FpPow.l0] at H
    by_cases c5 : x1_1 > 0
    ·rw [if_pos c5] at H
     have c5b0 := decide_eq_true c5
     clear c5
     by_cases c6 : (Int.tmod x1_1 2) = 1
     ·rw [if_pos c6] at H
      have c6b0 : ((Int.tmod x1_1 2) == 1) = true := beq_iff_eq.mpr c6
      have c6b1 : ((Int.tmod x1_1 2) != 1) = false := bne_eq_false_iff_eq.mpr c6
      clear c6
      replace H := Option.bind_eq_some_iff.mp H
      obtain ⟨t281, A70, H⟩ := H
      have A7 := Aside0.mk A70
      clear A70
      replace H := Option.bind_eq_some_iff.mp H
      obtain ⟨t282, A80, H⟩ := H
      have A8 := Aside0.mk A80
      clear A80
      have H' := Aside0.mk H
      clear H
      go_wp2_with (first | (refine gC (some 18) Tryz.func112 #[.int .i64 x5_1, .int .i64 x6_1] ?_; (with_reducible refine (spec_FpMul.calls x5_1 x6_1 t281 _ A7.out).mono ?_); rintro e w' ⟨rfl, ⟨nd, rfl⟩⟩; refine ⟨_, rfl, ?_⟩) | (refine gC (some 21) Tryz.func112 #[.int .i64 x6_1, .int .i64 x6_1] ?_; (with_reducible refine (spec_FpMul.calls x6_1 x6_1 t282 _ A8.out).mono ?_); rintro e w' ⟨rfl, ⟨nd, rfl⟩⟩; refine ⟨_, rfl, ?_⟩))
      go_roundg k1
      case measure => have := HK1.out; omega
      case rel => exact ⟨(wrap64 (Int.tdiv x1_1 2)), (t281), (t282), rS, rS, rS, H', ⟨by have := HK1.out; omega⟩, by repeat (first | exact Drawn0.refl _ | apply Drawn0.step)⟩
     ·rw [if_neg c6] at H
      have c6b0 : ((Int.tmod x1_1 2) == 1) = false := beq_eq_false_iff_ne.mpr c6
      have c6b1 : ((Int.tmod x1_1 2) != 1) = true := bne_iff_ne.mpr c6
      replace H := Option.bind_eq_some_iff.mp H
      obtain ⟨t283, A90, H⟩ := H
      have A9 := Aside0.mk A90
      clear A90
      have H' := Aside0.mk H
      clear H
      go_wp2_with (first | (refine gC (some 21) Tryz.func112 #[.int .i64 x6_1, .int .i64 x6_1] ?_; (with_reducible refine (spec_FpMul.calls x6_1 x6_1 t283 _ A9.out).mono ?_); rintro e w' ⟨rfl, ⟨nd, rfl⟩⟩; refine ⟨_, rfl, ?_⟩))
      go_roundg k1
      case measure => have := HK1.out; omega
      case rel => exact ⟨(wrap64 (Int.tdiv x1_1 2)), (x5_1), (t283), rS, rS, rS, H', ⟨by have := HK1.out; omega⟩, by repeat (first | exact Drawn0.refl _ | apply Drawn0.step)⟩
    ·rw [if_neg c5] at H
     have c5b0 := decide_eq_false c5
     clear c5
     obtain rfl := Option.some.inj H
     go_wp2
     go_ret
     exact ⟨rS, rD⟩
def spec_FpInv.f (k : Nat) (a0 : Int) : Option (Int) := (spec_FpPow.f k a0 12105).bind fun t284 => (some t284)
set_option maxHeartbeats 8000000 in
set_option maxRecDepth 100000 in
theorem spec_FpInv.calls (k : Nat) (a0 : Int) (r : Int) (w : World) (h : spec_FpInv.f k a0 = some r) :
  Calls Tryz.prog 142 #[.int .i64 a0] w fun e w' => e = .returned (.int .i64 r) ∧ Drawn0 w w' := by
 have H : ((spec_FpPow.f k a0 12105).bind fun t284 => (some t284)) = some r := h
 clear h
 replace H := Option.bind_eq_some_iff.mp H
 obtain ⟨t284, A20, H⟩ := H
 have A2 := Aside0.mk A20
 clear A20
 obtain rfl := Option.some.inj H
 go_enter Tryz.func142, Tryz.ntmps142
 go_wp2_with (first | (refine gC (some 4) Tryz.func111 #[.int .i64 a0, .int .i64 12105] ?_; (with_reducible refine (spec_FpPow.calls k a0 12105 t284 _ A2.out).mono ?_); rintro e w' ⟨rfl, ⟨nd, rfl⟩⟩; refine ⟨_, rfl, ?_⟩))
 go_ret
 exact ⟨rS, rD⟩
def spec_l07Slope.f (k : Nat) (a0_0 : Int) (a0_1 : Int) (a0_2 : Bool) (a1_0 : Int) (a1_1 : Int) (a1_2 : Bool) : Option (Int × Bool) := if a0_0 = a1_0 then ((spec_FpAdd.f a0_1 a1_1).bind fun t291 => (if t291 = 0 then (some (0, false)) else ((spec_FpMul.f a0_0 a0_0).bind fun t292 => ((spec_FpMul.f 3 t292).bind fun t293 => ((spec_FpAdd.f t293 1).bind fun t294 => ((spec_FpMul.f 2 a0_1).bind fun t295 => ((spec_FpInv.f k t295).bind fun t296 => ((spec_FpMul.f t294 t296).bind fun t297 => (some (t297, true)))))))))) else ((spec_FpSub.f a1_1 a0_1).bind fun t287 => ((spec_FpSub.f a1_0 a0_0).bind fun t288 => ((spec_FpInv.f k t288).bind fun t289 => ((spec_FpMul.f t287 t289).bind fun t290 => (some (t290, true))))))
set_option maxHeartbeats 8000000 in
set_option maxRecDepth 100000 in
theorem spec_l07Slope.calls (k : Nat) (a0_0 : Int) (a0_1 : Int) (a0_2 : Bool) (a1_0 : Int) (a1_1 : Int) (a1_2 : Bool) (r1 : Int) (r2 : Bool) (w : World) (h : spec_l07Slope.f k a0_0 a0_1 a0_2 a1_0 a1_1 a1_2 = some (r1, r2)) :
  Calls Tryz.prog 140 #[.agg #[.int .i64 a0_0, .int .i64 a0_1, .bool a0_2], .agg #[.int .i64 a1_0, .int .i64 a1_1, .bool a1_2]] w fun e w' => e = .returned (.tuple #[.int .i64 r1, .bool r2]) ∧ Below w.heap.size w w' := by
 have hu28 := Tryz.underlying28
 have HB := Aside0.mk (Below.refl w.heap.size w)
 have H : (if a0_0 = a1_0 then ((spec_FpAdd.f a0_1 a1_1).bind fun t291 => (if t291 = 0 then (some (0, false)) else ((spec_FpMul.f a0_0 a0_0).bind fun t292 => ((spec_FpMul.f 3 t292).bind fun t293 => ((spec_FpAdd.f t293 1).bind fun t294 => ((spec_FpMul.f 2 a0_1).bind fun t295 => ((spec_FpInv.f k t295).bind fun t296 => ((spec_FpMul.f t294 t296).bind fun t297 => (some (t297, true)))))))))) else ((spec_FpSub.f a1_1 a0_1).bind fun t287 => ((spec_FpSub.f a1_0 a0_0).bind fun t288 => ((spec_FpInv.f k t288).bind fun t289 => ((spec_FpMul.f t287 t289).bind fun t290 => (some (t290, true))))))) = some (r1, r2) := h
 clear h
 by_cases c3 : a0_0 = a1_0
 ·rw [if_pos c3] at H
  have c3b0 : (a0_0 == a1_0) = true := beq_iff_eq.mpr c3
  have c3b1 : (a0_0 != a1_0) = false := bne_eq_false_iff_eq.mpr c3
  clear c3
  replace H := Option.bind_eq_some_iff.mp H
  obtain ⟨t291, A40, H⟩ := H
  have A4 := Aside0.mk A40
  clear A40
  by_cases c5 : t291 = 0
  ·rw [if_pos c5] at H
   have c5b0 : (t291 == 0) = true := beq_iff_eq.mpr c5
   have c5b1 : (t291 != 0) = false := bne_eq_false_iff_eq.mpr c5
   clear c5
   simp only [Option.some.injEq, Prod.mk.injEq] at H
   obtain ⟨rfl, rfl⟩ := H
   go_enter Tryz.func140, Tryz.ntmps140
   go_wp2_with (first | (refine gB 2 #[.int .i64 a0_0, .int .i64 a0_1, .bool a0_2] 28 ?_; intro gb285 hg w6 BK285 hb; have GW285 := bG HB hg; replace HB := bS HB hb; clear hb hg) | (refine gB 3 #[.int .i64 a1_0, .int .i64 a1_1, .bool a1_2] 28 ?_; intro gb286 hg w7 BK286 hb; have GW286 := bG HB hg; replace HB := bS HB hb; obtain ⟨NB285_286, NB286_285⟩ := bN BK285 hg; replace BK285 := bB BK285 hb; clear hb hg; obtain ⟨hnb8, hnc8⟩ := nB NB285_286; obtain ⟨hcz9_0, hcz9_1, hcz9_2, hfz9_0, hfz9_1, hfz9_2⟩ := bK3 (w := w7) BK285; obtain ⟨hcz10_0, hcz10_1, hcz10_2, hfz10_0, hfz10_1, hfz10_2⟩ := bK3 (w := w7) BK286) | (go_at_call 114; (with_reducible refine (spec_FpAdd.calls a0_1 a1_1 t291 _ A4.out).mono ?_); rintro e w' ⟨rfl, ⟨nd, rfl⟩⟩; (try exact tD)))
   repeat (go_quiet (first | (refine gB 2 #[.int .i64 a0_0, .int .i64 a0_1, .bool a0_2] 28 ?_; intro gb285 hg w6 BK285 hb; have GW285 := bG HB hg; replace HB := bS HB hb; clear hb hg) | (refine gB 3 #[.int .i64 a1_0, .int .i64 a1_1, .bool a1_2] 28 ?_; intro gb286 hg w7 BK286 hb; have GW286 := bG HB hg; replace HB := bS HB hb; obtain ⟨NB285_286, NB286_285⟩ := bN BK285 hg; replace BK285 := bB BK285 hb; clear hb hg; obtain ⟨hnb8, hnc8⟩ := nB NB285_286; obtain ⟨hcz9_0, hcz9_1, hcz9_2, hfz9_0, hfz9_1, hfz9_2⟩ := bK3 (w := w7) BK285; obtain ⟨hcz10_0, hcz10_1, hcz10_2, hfz10_0, hfz10_1, hfz10_2⟩ := bK3 (w := w7) BK286) | (go_at_call 114; (with_reducible refine (spec_FpAdd.calls a0_1 a1_1 t291 _ A4.out).mono ?_); rintro e w' ⟨rfl, ⟨nd, rfl⟩⟩; (try exact tD))); try go_wp2_with (first | (refine gB 2 #[.int .i64 a0_0, .int .i64 a0_1, .bool a0_2] 28 ?_; intro gb285 hg w6 BK285 hb; have GW285 := bG HB hg; replace HB := bS HB hb; clear hb hg) | (refine gB 3 #[.int .i64 a1_0, .int .i64 a1_1, .bool a1_2] 28 ?_; intro gb286 hg w7 BK286 hb; have GW286 := bG HB hg; replace HB := bS HB hb; obtain ⟨NB285_286, NB286_285⟩ := bN BK285 hg; replace BK285 := bB BK285 hb; clear hb hg; obtain ⟨hnb8, hnc8⟩ := nB NB285_286; obtain ⟨hcz9_0, hcz9_1, hcz9_2, hfz9_0, hfz9_1, hfz9_2⟩ := bK3 (w := w7) BK285; obtain ⟨hcz10_0, hcz10_1, hcz10_2, hfz10_0, hfz10_1, hfz10_2⟩ := bK3 (w := w7) BK286) | (go_at_call 114; (with_reducible refine (spec_FpAdd.calls a0_1 a1_1 t291 _ A4.out).mono ?_); rintro e w' ⟨rfl, ⟨nd, rfl⟩⟩; (try exact tD))))
   go_ret2
   exact ⟨rR, bZ HB⟩
  ·rw [if_neg c5] at H
   have c5b0 : (t291 == 0) = false := beq_eq_false_iff_ne.mpr c5
   have c5b1 : (t291 != 0) = true := bne_iff_ne.mpr c5
   replace H := Option.bind_eq_some_iff.mp H
   obtain ⟨t292, A110, H⟩ := H
   have A11 := Aside0.mk A110
   clear A110
   replace H := Option.bind_eq_some_iff.mp H
   obtain ⟨t293, A120, H⟩ := H
   have A12 := Aside0.mk A120
   clear A120
   replace H := Option.bind_eq_some_iff.mp H
   obtain ⟨t294, A130, H⟩ := H
   have A13 := Aside0.mk A130
   clear A130
   replace H := Option.bind_eq_some_iff.mp H
   obtain ⟨t295, A140, H⟩ := H
   have A14 := Aside0.mk A140
   clear A140
   replace H := Option.bind_eq_some_iff.mp H
   obtain ⟨t296, A150, H⟩ := H
   have A15 := Aside0.mk A150
   clear A150
   replace H := Option.bind_eq_some_iff.mp H
   obtain ⟨t297, A160, H⟩ := H
   have A16 := Aside0.mk A160
   clear A160
   simp only [Option.some.injEq, Prod.mk.injEq] at H
   obtain ⟨rfl, rfl⟩ := H
   go_enter Tryz.func140, Tryz.ntmps140
   go_wp2_with (first | (refine gB 2 #[.int .i64 a0_0, .int .i64 a0_1, .bool a0_2] 28 ?_; intro gb285 hg w17 BK285 hb; have GW285 := bG HB hg; replace HB := bS HB hb; clear hb hg) | (refine gB 3 #[.int .i64 a1_0, .int .i64 a1_1, .bool a1_2] 28 ?_; intro gb286 hg w18 BK286 hb; have GW286 := bG HB hg; replace HB := bS HB hb; obtain ⟨NB285_286, NB286_285⟩ := bN BK285 hg; replace BK285 := bB BK285 hb; clear hb hg; obtain ⟨hnb19, hnc19⟩ := nB NB285_286; obtain ⟨hcz20_0, hcz20_1, hcz20_2, hfz20_0, hfz20_1, hfz20_2⟩ := bK3 (w := w18) BK285; obtain ⟨hcz21_0, hcz21_1, hcz21_2, hfz21_0, hfz21_1, hfz21_2⟩ := bK3 (w := w18) BK286) | (go_at_call 114; (with_reducible refine (spec_FpAdd.calls a0_1 a1_1 t291 _ A4.out).mono ?_); rintro e w' ⟨rfl, ⟨nd, rfl⟩⟩; (try exact tD)) | (go_at_call 112; (with_reducible refine (spec_FpMul.calls a0_0 a0_0 t292 _ A11.out).mono ?_); rintro e w' ⟨rfl, ⟨nd, rfl⟩⟩; (try exact tD)) | (go_at_call 112; (with_reducible refine (spec_FpMul.calls 3 t292 t293 _ A12.out).mono ?_); rintro e w' ⟨rfl, ⟨nd, rfl⟩⟩; (try exact tD)) | (go_at_call 114; (with_reducible refine (spec_FpAdd.calls t293 1 t294 _ A13.out).mono ?_); rintro e w' ⟨rfl, ⟨nd, rfl⟩⟩; (try exact tD)) | (go_at_call 112; (with_reducible refine (spec_FpMul.calls 2 a0_1 t295 _ A14.out).mono ?_); rintro e w' ⟨rfl, ⟨nd, rfl⟩⟩; (try exact tD)) | (go_at_call 142; (with_reducible refine (spec_FpInv.calls k t295 t296 _ A15.out).mono ?_); rintro e w' ⟨rfl, ⟨nd, rfl⟩⟩; (try exact tD)) | (go_at_call 112; (with_reducible refine (spec_FpMul.calls t294 t296 t297 _ A16.out).mono ?_); rintro e w' ⟨rfl, ⟨nd, rfl⟩⟩; (try exact tD)))
   repeat (go_quiet (first | (refine gB 2 #[.int .i64 a0_0, .int .i64 a0_1, .bool a0_2] 28 ?_; intro gb285 hg w17 BK285 hb; have GW285 := bG HB hg; replace HB := bS HB hb; clear hb hg) | (refine gB 3 #[.int .i64 a1_0, .int .i64 a1_1, .bool a1_2] 28 ?_; intro gb286 hg w18 BK286 hb; have GW286 := bG HB hg; replace HB := bS HB hb; obtain ⟨NB285_286, NB286_285⟩ := bN BK285 hg; replace BK285 := bB BK285 hb; clear hb hg; obtain ⟨hnb19, hnc19⟩ := nB NB285_286; obtain ⟨hcz20_0, hcz20_1, hcz20_2, hfz20_0, hfz20_1, hfz20_2⟩ := bK3 (w := w18) BK285; obtain ⟨hcz21_0, hcz21_1, hcz21_2, hfz21_0, hfz21_1, hfz21_2⟩ := bK3 (w := w18) BK286) | (go_at_call 114; (with_reducible refine (spec_FpAdd.calls a0_1 a1_1 t291 _ A4.out).mono ?_); rintro e w' ⟨rfl, ⟨nd, rfl⟩⟩; (try exact tD)) | (go_at_call 112; (with_reducible refine (spec_FpMul.calls a0_0 a0_0 t292 _ A11.out).mono ?_); rintro e w' ⟨rfl, ⟨nd, rfl⟩⟩; (try exact tD)) | (go_at_call 112; (with_reducible refine (spec_FpMul.calls 3 t292 t293 _ A12.out).mono ?_); rintro e w' ⟨rfl, ⟨nd, rfl⟩⟩; (try exact tD)) | (go_at_call 114; (with_reducible refine (spec_FpAdd.calls t293 1 t294 _ A13.out).mono ?_); rintro e w' ⟨rfl, ⟨nd, rfl⟩⟩; (try exact tD)) | (go_at_call 112; (with_reducible refine (spec_FpMul.calls 2 a0_1 t295 _ A14.out).mono ?_); rintro e w' ⟨rfl, ⟨nd, rfl⟩⟩; (try exact tD)) | (go_at_call 142; (with_reducible refine (spec_FpInv.calls k t295 t296 _ A15.out).mono ?_); rintro e w' ⟨rfl, ⟨nd, rfl⟩⟩; (try exact tD)) | (go_at_call 112; (with_reducible refine (spec_FpMul.calls t294 t296 t297 _ A16.out).mono ?_); rintro e w' ⟨rfl, ⟨nd, rfl⟩⟩; (try exact tD))); try go_wp2_with (first | (refine gB 2 #[.int .i64 a0_0, .int .i64 a0_1, .bool a0_2] 28 ?_; intro gb285 hg w17 BK285 hb; have GW285 := bG HB hg; replace HB := bS HB hb; clear hb hg) | (refine gB 3 #[.int .i64 a1_0, .int .i64 a1_1, .bool a1_2] 28 ?_; intro gb286 hg w18 BK286 hb; have GW286 := bG HB hg; replace HB := bS HB hb; obtain ⟨NB285_286, NB286_285⟩ := bN BK285 hg; replace BK285 := bB BK285 hb; clear hb hg; obtain ⟨hnb19, hnc19⟩ := nB NB285_286; obtain ⟨hcz20_0, hcz20_1, hcz20_2, hfz20_0, hfz20_1, hfz20_2⟩ := bK3 (w := w18) BK285; obtain ⟨hcz21_0, hcz21_1, hcz21_2, hfz21_0, hfz21_1, hfz21_2⟩ := bK3 (w := w18) BK286) | (go_at_call 114; (with_reducible refine (spec_FpAdd.calls a0_1 a1_1 t291 _ A4.out).mono ?_); rintro e w' ⟨rfl, ⟨nd, rfl⟩⟩; (try exact tD)) | (go_at_call 112; (with_reducible refine (spec_FpMul.calls a0_0 a0_0 t292 _ A11.out).mono ?_); rintro e w' ⟨rfl, ⟨nd, rfl⟩⟩; (try exact tD)) | (go_at_call 112; (with_reducible refine (spec_FpMul.calls 3 t292 t293 _ A12.out).mono ?_); rintro e w' ⟨rfl, ⟨nd, rfl⟩⟩; (try exact tD)) | (go_at_call 114; (with_reducible refine (spec_FpAdd.calls t293 1 t294 _ A13.out).mono ?_); rintro e w' ⟨rfl, ⟨nd, rfl⟩⟩; (try exact tD)) | (go_at_call 112; (with_reducible refine (spec_FpMul.calls 2 a0_1 t295 _ A14.out).mono ?_); rintro e w' ⟨rfl, ⟨nd, rfl⟩⟩; (try exact tD)) | (go_at_call 142; (with_reducible refine (spec_FpInv.calls k t295 t296 _ A15.out).mono ?_); rintro e w' ⟨rfl, ⟨nd, rfl⟩⟩; (try exact tD)) | (go_at_call 112; (with_reducible refine (spec_FpMul.calls t294 t296 t297 _ A16.out).mono ?_); rintro e w' ⟨rfl, ⟨nd, rfl⟩⟩; (try exact tD))))
   go_ret2
   exact ⟨rR, bZ HB⟩
 ·rw [if_neg c3] at H
  have c3b0 : (a0_0 == a1_0) = false := beq_eq_false_iff_ne.mpr c3
  have c3b1 : (a0_0 != a1_0) = true := bne_iff_ne.mpr c3
  replace H := Option.bind_eq_some_iff.mp H
  obtain ⟨t287, A220, H⟩ := H
  have A22 := Aside0.mk A220
  clear A220
  replace H := Option.bind_eq_some_iff.mp H
  obtain ⟨t288, A230, H⟩ := H
  have A23 := Aside0.mk A230
  clear A230
  replace H := Option.bind_eq_some_iff.mp H
  obtain ⟨t289, A240, H⟩ := H
  have A24 := Aside0.mk A240
  clear A240
  replace H := Option.bind_eq_some_iff.mp H
  obtain ⟨t290, A250, H⟩ := H
  have A25 := Aside0.mk A250
  clear A250
  simp only [Option.some.injEq, Prod.mk.injEq] at H
  obtain ⟨rfl, rfl⟩ := H
  go_enter Tryz.func140, Tryz.ntmps140
  go_wp2_with (first | (refine gB 2 #[.int .i64 a0_0, .int .i64 a0_1, .bool a0_2] 28 ?_; intro gb285 hg w26 BK285 hb; have GW285 := bG HB hg; replace HB := bS HB hb; clear hb hg) | (refine gB 3 #[.int .i64 a1_0, .int .i64 a1_1, .bool a1_2] 28 ?_; intro gb286 hg w27 BK286 hb; have GW286 := bG HB hg; replace HB := bS HB hb; obtain ⟨NB285_286, NB286_285⟩ := bN BK285 hg; replace BK285 := bB BK285 hb; clear hb hg; obtain ⟨hnb28, hnc28⟩ := nB NB285_286; obtain ⟨hcz29_0, hcz29_1, hcz29_2, hfz29_0, hfz29_1, hfz29_2⟩ := bK3 (w := w27) BK285; obtain ⟨hcz30_0, hcz30_1, hcz30_2, hfz30_0, hfz30_1, hfz30_2⟩ := bK3 (w := w27) BK286) | (go_at_call 113; (with_reducible refine (spec_FpSub.calls a1_1 a0_1 t287 _ A22.out).mono ?_); rintro e w' ⟨rfl, ⟨nd, rfl⟩⟩; (try exact tD)) | (go_at_call 113; (with_reducible refine (spec_FpSub.calls a1_0 a0_0 t288 _ A23.out).mono ?_); rintro e w' ⟨rfl, ⟨nd, rfl⟩⟩; (try exact tD)) | (go_at_call 142; (with_reducible refine (spec_FpInv.calls k t288 t289 _ A24.out).mono ?_); rintro e w' ⟨rfl, ⟨nd, rfl⟩⟩; (try exact tD)) | (go_at_call 112; (with_reducible refine (spec_FpMul.calls t287 t289 t290 _ A25.out).mono ?_); rintro e w' ⟨rfl, ⟨nd, rfl⟩⟩; (try exact tD)))
  repeat (go_quiet (first | (refine gB 2 #[.int .i64 a0_0, .int .i64 a0_1, .bool a0_2] 28 ?_; intro gb285 hg w26 BK285 hb; have GW285 := bG HB hg; replace HB := bS HB hb; clear hb hg) | (refine gB 3 #[.int .i64 a1_0, .int .i64 a1_1, .bool a1_2] 28 ?_; intro gb286 hg w27 BK286 hb; have GW286 := bG HB hg; replace HB := bS HB hb; obtain ⟨NB285_286, NB286_285⟩ := bN BK285 hg; replace BK285 := bB BK285 hb; clear hb hg; obtain ⟨hnb28, hnc28⟩ := nB NB285_286; obtain ⟨hcz29_0, hcz29_1, hcz29_2, hfz29_0, hfz29_1, hfz29_2⟩ := bK3 (w := w27) BK285; obtain ⟨hcz30_0, hcz30_1, hcz30_2, hfz30_0, hfz30_1, hfz30_2⟩ := bK3 (w := w27) BK286) | (go_at_call 113; (with_reducible refine (spec_FpSub.calls a1_1 a0_1 t287 _ A22.out).mono ?_); rintro e w' ⟨rfl, ⟨nd, rfl⟩⟩; (try exact tD)) | (go_at_call 113; (with_reducible refine (spec_FpSub.calls a1_0 a0_0 t288 _ A23.out).mono ?_); rintro e w' ⟨rfl, ⟨nd, rfl⟩⟩; (try exact tD)) | (go_at_call 142; (with_reducible refine (spec_FpInv.calls k t288 t289 _ A24.out).mono ?_); rintro e w' ⟨rfl, ⟨nd, rfl⟩⟩; (try exact tD)) | (go_at_call 112; (with_reducible refine (spec_FpMul.calls t287 t289 t290 _ A25.out).mono ?_); rintro e w' ⟨rfl, ⟨nd, rfl⟩⟩; (try exact tD))); try go_wp2_with (first | (refine gB 2 #[.int .i64 a0_0, .int .i64 a0_1, .bool a0_2] 28 ?_; intro gb285 hg w26 BK285 hb; have GW285 := bG HB hg; replace HB := bS HB hb; clear hb hg) | (refine gB 3 #[.int .i64 a1_0, .int .i64 a1_1, .bool a1_2] 28 ?_; intro gb286 hg w27 BK286 hb; have GW286 := bG HB hg; replace HB := bS HB hb; obtain ⟨NB285_286, NB286_285⟩ := bN BK285 hg; replace BK285 := bB BK285 hb; clear hb hg; obtain ⟨hnb28, hnc28⟩ := nB NB285_286; obtain ⟨hcz29_0, hcz29_1, hcz29_2, hfz29_0, hfz29_1, hfz29_2⟩ := bK3 (w := w27) BK285; obtain ⟨hcz30_0, hcz30_1, hcz30_2, hfz30_0, hfz30_1, hfz30_2⟩ := bK3 (w := w27) BK286) | (go_at_call 113; (with_reducible refine (spec_FpSub.calls a1_1 a0_1 t287 _ A22.out).mono ?_); rintro e w' ⟨rfl, ⟨nd, rfl⟩⟩; (try exact tD)) | (go_at_call 113; (with_reducible refine (spec_FpSub.calls a1_0 a0_0 t288 _ A23.out).mono ?_); rintro e w' ⟨rfl, ⟨nd, rfl⟩⟩; (try exact tD)) | (go_at_call 142; (with_reducible refine (spec_FpInv.calls k t288 t289 _ A24.out).mono ?_); rintro e w' ⟨rfl, ⟨nd, rfl⟩⟩; (try exact tD)) | (go_at_call 112; (with_reducible refine (spec_FpMul.calls t287 t289 t290 _ A25.out).mono ?_); rintro e w' ⟨rfl, ⟨nd, rfl⟩⟩; (try exact tD))))
  go_ret2
  exact ⟨rR, bZ HB⟩
def spec_l07Add.f (k : Nat) (a0_0 : Int) (a0_1 : Int) (a0_2 : Bool) (a1_0 : Int) (a1_1 : Int) (a1_2 : Bool) : Option (Int × Int × Bool) := if a0_2 = true then (some (a1_0, a1_1, a1_2)) else (if a1_2 = true then (some (a0_0, a0_1, a0_2)) else ((spec_l07Slope.f k a0_0 a0_1 a0_2 a1_0 a1_1 a1_2).bind fun bt301 => (if bt301.2 = true then ((spec_FpMul.f bt301.1 bt301.1).bind fun t306 => ((spec_FpSub.f t306 a0_0).bind fun t307 => ((spec_FpSub.f t307 a1_0).bind fun t308 => ((spec_FpSub.f a0_0 t308).bind fun t309 => ((spec_FpMul.f bt301.1 t309).bind fun t310 => ((spec_FpSub.f t310 a0_1).bind fun t311 => (some (t308, t311, false)))))))) else ((spec_l07Zero.f).bind fun bt303 => (some (bt303.1, bt303.2.1, bt303.2.2))))))
def spec_l07Add.T8 : Bool × List (List Nat × List Nat) := (true, [([], []), ([], []), ([0, 1], [0, 1]), ([], []), ([3], [3]), ([2, 4, 2], [2, 4]), ([], []), ([6], [6]), ([5, 7, 5], [5, 7]), ([8, 8, 0, 1, 2, 3, 4, 5, 6, 7, 8], [8])])
def spec_l07Add.B8 : List Nat := [0, 0, 3, 0, 8, 31, 0, 64, 255, 511]
theorem spec_l07Add.tab8 : rtab .any (opsOf Tryz.f117 8) = spec_l07Add.T8 := by kernel_rfl
theorem spec_l07Add.bits8 : waitsOk spec_l07Add.T8.2 spec_l07Add.B8 = true := by kernel_rfl
def spec_l07Add.T9 : Bool × List (List Nat × List Nat) := (true, [([], []), ([], []), ([], []), ([2], [2]), ([], []), ([3, 4], [3, 4]), ([1, 5, 5], [1, 5]), ([], []), ([7], [7]), ([6, 8, 6], [6, 8]), ([0, 9], [0, 9]), ([10, 9, 0, 1, 2, 3, 4, 5, 6, 7, 8, 9, 10], [10])])
def spec_l07Add.B9 : List Nat := [0, 0, 0, 4, 0, 28, 62, 0, 128, 510, 1023, 2047]
theorem spec_l07Add.tab9 : rtab .any (opsOf Tryz.f117 9) = spec_l07Add.T9 := by kernel_rfl
theorem spec_l07Add.bits9 : waitsOk spec_l07Add.T9.2 spec_l07Add.B9 = true := by kernel_rfl
set_option maxHeartbeats 8000000 in
set_option maxRecDepth 100000 in
theorem spec_l07Add.calls (k : Nat) (a0_0 : Int) (a0_1 : Int) (a0_2 : Bool) (a1_0 : Int) (a1_1 : Int) (a1_2 : Bool) (r1 : Int) (r2 : Int) (r3 : Bool) (w : World) (h : spec_l07Add.f k a0_0 a0_1 a0_2 a1_0 a1_1 a1_2 = some (r1, r2, r3)) :
  Calls Tryz.prog 117 #[.agg #[.int .i64 a0_0, .int .i64 a0_1, .bool a0_2], .agg #[.int .i64 a1_0, .int .i64 a1_1, .bool a1_2]] w fun e w' => e = .returned (.agg #[.int .i64 r1, .int .i64 r2, .bool r3]) ∧ Below w.heap.size w w' := by
 have hu28 := Tryz.underlying28
 have HB := Aside0.mk (Below.refl w.heap.size w)
 have H : (if a0_2 = true then (some (a1_0, a1_1, a1_2)) else (if a1_2 = true then (some (a0_0, a0_1, a0_2)) else ((spec_l07Slope.f k a0_0 a0_1 a0_2 a1_0 a1_1 a1_2).bind fun bt301 => (if bt301.2 = true then ((spec_FpMul.f bt301.1 bt301.1).bind fun t306 => ((spec_FpSub.f t306 a0_0).bind fun t307 => ((spec_FpSub.f t307 a1_0).bind fun t308 => ((spec_FpSub.f a0_0 t308).bind fun t309 => ((spec_FpMul.f bt301.1 t309).bind fun t310 => ((spec_FpSub.f t310 a0_1).bind fun t311 => (some (t308, t311, false)))))))) else ((spec_l07Zero.f).bind fun bt303 => (some (bt303.1, bt303.2.1, bt303.2.2))))))) = some (r1, r2, r3) := h
 clear h
 by_cases c3 : a0_2 = true
 ·subst c3
  rw [if_pos rfl] at H
  simp only [Option.some.injEq, Prod.mk.injEq] at H
  obtain ⟨rfl, rfl, rfl⟩ := H
  go_enter Tryz.func117, Tryz.ntmps117
  go_wp2_with (first | (refine gB 2 #[.int .i64 a0_0, .int .i64 a0_1, .bool true] 28 ?_; intro gb298 hg w4 BK298 hb; have GW298 := bG HB hg; replace HB := bS HB hb; clear hb hg) | (refine gB 3 #[.int .i64 a1_0, .int .i64 a1_1, .bool a1_2] 28 ?_; intro gb299 hg w5 BK299 hb; have GW299 := bG HB hg; replace HB := bS HB hb; obtain ⟨NB298_299, NB299_298⟩ := bN BK298 hg; replace BK298 := bB BK298 hb; clear hb hg) | (refine gB 4 #[.int .i64 0, .int .i64 0, .bool false] 28 ?_; intro gb300 hg w6 BK300 hb; have GW300 := bG HB hg; replace HB := bS HB hb; obtain ⟨NB298_300, NB300_298⟩ := bN BK298 hg; replace BK298 := bB BK298 hb; obtain ⟨NB299_300, NB300_299⟩ := bN BK299 hg; replace BK299 := bB BK299 hb; clear hb hg; obtain ⟨hnb7, hnc7⟩ := nB NB298_299; obtain ⟨hnb8, hnc8⟩ := nB NB298_300; obtain ⟨hcz9_0, hcz9_1, hcz9_2, hfz9_0, hfz9_1, hfz9_2⟩ := bK3 (w := w6) BK298; obtain ⟨hnb10, hnc10⟩ := nB NB299_300; obtain ⟨hcz11_0, hcz11_1, hcz11_2, hfz11_0, hfz11_1, hfz11_2⟩ := bK3 (w := w6) BK299; obtain ⟨hcz12_0, hcz12_1, hcz12_2, hfz12_0, hfz12_1, hfz12_2⟩ := bK3 (w := w6) BK300))
  refine rC gb300 28 #[.int .i64 a1_0, .int .i64 a1_1, .bool a1_2] (bU BK300) Tryz.underlying28 ?_
  exact ⟨rR, bZ HB⟩
 ·replace c3 := Bool.eq_false_iff.mpr c3
  subst c3
  rw [if_neg (show ¬ (false = true) by decide)] at H
  by_cases c13 : a1_2 = true
  ·subst c13
   rw [if_pos rfl] at H
   simp only [Option.some.injEq, Prod.mk.injEq] at H
   obtain ⟨rfl, rfl, rfl⟩ := H
   go_enter Tryz.func117, Tryz.ntmps117
   go_wp2_with (first | (refine gB 2 #[.int .i64 a0_0, .int .i64 a0_1, .bool false] 28 ?_; intro gb298 hg w14 BK298 hb; have GW298 := bG HB hg; replace HB := bS HB hb; clear hb hg) | (refine gB 3 #[.int .i64 a1_0, .int .i64 a1_1, .bool true] 28 ?_; intro gb299 hg w15 BK299 hb; have GW299 := bG HB hg; replace HB := bS HB hb; obtain ⟨NB298_299, NB299_298⟩ := bN BK298 hg; replace BK298 := bB BK298 hb; clear hb hg) | (refine gB 4 #[.int .i64 0, .int .i64 0, .bool false] 28 ?_; intro gb300 hg w16 BK300 hb; have GW300 := bG HB hg; replace HB := bS HB hb; obtain ⟨NB298_300, NB300_298⟩ := bN BK298 hg; replace BK298 := bB BK298 hb; obtain ⟨NB299_300, NB300_299⟩ := bN BK299 hg; replace BK299 := bB BK299 hb; clear hb hg; obtain ⟨hnb17, hnc17⟩ := nB NB298_299; obtain ⟨hnb18, hnc18⟩ := nB NB298_300; obtain ⟨hcz19_0, hcz19_1, hcz19_2, hfz19_0, hfz19_1, hfz19_2⟩ := bK3 (w := w16) BK298; obtain ⟨hnb20, hnc20⟩ := nB NB299_300; obtain ⟨hcz21_0, hcz21_1, hcz21_2, hfz21_0, hfz21_1, hfz21_2⟩ := bK3 (w := w16) BK299; obtain ⟨hcz22_0, hcz22_1, hcz22_2, hfz22_0, hfz22_1, hfz22_2⟩ := bK3 (w := w16) BK300))
   refine rC gb300 28 #[.int .i64 a0_0, .int .i64 a0_1, .bool false] (bU BK300) Tryz.underlying28 ?_
   exact ⟨rR, bZ HB⟩
  ·replace c13 := Bool.eq_false_iff.mpr c13
   subst c13
   rw [if_neg (show ¬ (false = true) by decide)] at H
   replace H := Option.bind_eq_some_iff.mp H
   obtain ⟨⟨t301, t302⟩, A230, H⟩ := H
   have A23 := Aside0.mk A230
   clear A230
   by_cases c24 : t302 = true
   ·subst c24
    rw [if_pos rfl] at H
    replace H := Option.bind_eq_some_iff.mp H
    obtain ⟨t306, A250, H⟩ := H
    have A25 := Aside0.mk A250
    clear A250
    replace H := Option.bind_eq_some_iff.mp H
    obtain ⟨t307, A260, H⟩ := H
    have A26 := Aside0.mk A260
    clear A260
    replace H := Option.bind_eq_some_iff.mp H
    obtain ⟨t308, A270, H⟩ := H
    have A27 := Aside0.mk A270
    clear A270
    replace H := Option.bind_eq_some_iff.mp H
    obtain ⟨t309, A280, H⟩ := H
    have A28 := Aside0.mk A280
    clear A280
    replace H := Option.bind_eq_some_iff.mp H
    obtain ⟨t310, A290, H⟩ := H
    have A29 := Aside0.mk A290
    clear A290
    replace H := Option.bind_eq_some_iff.mp H
    obtain ⟨t311, A300, H⟩ := H
    have A30 := Aside0.mk A300
    clear A300
    simp only [Option.some.injEq, Prod.mk.injEq] at H
    obtain ⟨rfl, rfl, rfl⟩ := H
    go_enter Tryz.func117, Tryz.ntmps117
    try go_wp2_with (first | (refine gB 2 #[.int .i64 a0_0, .int .i64 a0_1, .bool false] 28 ?_; intro gb298 hg w31 BK298 hb; have GW298 := bG HB hg; replace HB := bS HB hb; clear hb hg) | (refine gB 3 #[.int .i64 a1_0, .int .i64 a1_1, .bool false] 28 ?_; intro gb299 hg w32 BK299 hb; have GW299 := bG HB hg; replace HB := bS HB hb; obtain ⟨NB298_299, NB299_298⟩ := bN BK298 hg; replace BK298 := bB BK298 hb; clear hb hg) | (refine gB 4 #[.int .i64 0, .int .i64 0, .bool false] 28 ?_; intro gb300 hg w33 BK300 hb; have GW300 := bG HB hg; replace HB := bS HB hb; obtain ⟨NB298_300, NB300_298⟩ := bN BK298 hg; replace BK298 := bB BK298 hb; obtain ⟨NB299_300, NB300_299⟩ := bN BK299 hg; replace BK299 := bB BK299 hb; clear hb hg; obtain ⟨hnb34, hnc34⟩ := nB NB298_299; obtain ⟨hnb35, hnc35⟩ := nB NB298_300; obtain ⟨hcz36_0, hcz36_1, hcz36_2, hfz36_0, hfz36_1, hfz36_2⟩ := bK3 (w := w33) BK298; obtain ⟨hnb37, hnc37⟩ := nB NB299_300; obtain ⟨hcz38_0, hcz38_1, hcz38_2, hfz38_0, hfz38_1, hfz38_2⟩ := bK3 (w := w33) BK299) | (refine gC (some 17) Tryz.func140 #[.agg #[.int .i64 a0_0, .int .i64 a0_1, .bool false], .agg #[.int .i64 a1_0, .int .i64 a1_1, .bool false]] ?_; (with_reducible refine (spec_l07Slope.calls k a0_0 a0_1 false a1_0 a1_1 false t301 true _ A23.out).mono ?_); rintro e w39 ⟨rfl, hb⟩; refine ⟨_, rfl, ?_⟩; replace BK298 := bB BK298 hb; replace BK299 := bB BK299 hb; replace BK300 := bB BK300 hb; replace HB := bS HB hb; (try clear hb)))
    replace BK298 := Aside0.mk (blk_drew BK298.out)
    replace BK299 := Aside0.mk (blk_drew BK299.out)
    replace BK300 := Aside0.mk (blk_drew BK300.out)
    replace HB := Aside0.mk (below_drew1 HB.out)
    refine start_ (n := 10) (S := fun w' => SP3 w' gb298 (.int .i64 a0_0) (.int .i64 a0_1) (.bool false) (SQ3 w' gb299 (.int .i64 a1_0) (.int .i64 a1_1) (.bool false))) (ds := []) #[false, false, false, false, false, false, false, false, false, false] (by kernel_rfl) rfl rfl (bS3 BK298 (bT3 BK299)) (fun hHeld => ?_); refine with_tabW spec_l07Add.tab8 spec_l07Add.bits8 (fun HT_ HW_ => ?_)
    generalize w39.drew = w40 at BK298 BK299 BK300 HB hHeld ⊢
    refine pI 0 (some 23) HT_.out ?_
    refine pI 1 (some 24) HT_.out ?_
    refine pI 3 (some 26) HT_.out ?_
    refine pI 6 (some 29) HT_.out ?_
    refine tI6 4 (some 27) HT_.out HW_.out hHeld ?_
    refine tI6 7 (some 30) HT_.out HW_.out hHeld ?_
    refine oI 2 (some 25) HT_.out (fun K hK => ?_)
    refine gO Tryz.func112 #[.int .i64 t301, .int .i64 t301] ?_
    with_reducible refine (spec_FpMul.calls t301 t301 t306 _ A25.out).mono ?_
    rintro e w' ⟨rfl, ⟨nd, rfl⟩⟩
    refine ⟨_, rfl, ?_⟩
    refine hK.out _ _ (bS3 BK298 (bT3 BK299)) (fun hHeld => ?_)
    clear hK K
    refine nO (some 25) ?_
    refine oI 5 (some 28) HT_.out (fun K hK => ?_)
    refine gO Tryz.func113 #[.int .i64 t306, .int .i64 a0_0] ?_
    with_reducible refine (spec_FpSub.calls t306 a0_0 t307 _ A26.out).mono ?_
    rintro e w' ⟨rfl, ⟨nd, rfl⟩⟩
    refine ⟨_, rfl, ?_⟩
    refine hK.out _ _ (bS3 BK298 (bT3 BK299)) (fun hHeld => ?_)
    clear hK K
    refine nO (some 28) ?_
    refine oI 8 (some 31) HT_.out (fun K hK => ?_)
    refine gO Tryz.func113 #[.int .i64 t307, .int .i64 a1_0] ?_
    with_reducible refine (spec_FpSub.calls t307 a1_0 t308 _ A27.out).mono ?_
    rintro e w' ⟨rfl, ⟨nd, rfl⟩⟩
    refine ⟨_, rfl, ?_⟩
    refine hK.out _ _ (bS3 BK298 (bT3 BK299)) (fun hHeld => ?_)
    clear hK K
    refine nO (some 31) ?_
    refine pI 9 (some 7) HT_.out ?_
    refine done_ (done_of HT_.out (by kernel_rfl)) ?_
    try go_wp2
    (try simp only [World.drewN_drewN]); (try (rw [drewN_self w40]; generalize hq_ : World.drewN w40 _ = w40; replace BK298 : Aside0 (w40.heap[gb298]? = some (.cells #[.int .i64 a0_0, .int .i64 a0_1, .bool false] 28 (0, 0))) := ⟨by rw [← hq_]; exact (bP BK298)⟩; replace BK299 : Aside0 (w40.heap[gb299]? = some (.cells #[.int .i64 a1_0, .int .i64 a1_1, .bool false] 28 (0, 0))) := ⟨by rw [← hq_]; exact (bP BK299)⟩; replace BK300 : Aside0 (w40.heap[gb300]? = some (.cells #[.int .i64 0, .int .i64 0, .bool false] 28 (0, 0))) := ⟨by rw [← hq_]; exact (bP BK300)⟩; replace HB : Aside0 (Below w.heap.size w w40) := ⟨by rw [← hq_]; exact (bZ HB)⟩; clear hq_))
    replace BK298 := Aside0.mk (blk_drew BK298.out)
    replace BK299 := Aside0.mk (blk_drew BK299.out)
    replace BK300 := Aside0.mk (blk_drew BK300.out)
    replace HB := Aside0.mk (below_drew1 HB.out)
    refine start_ (n := 12) (S := fun w' => SQ3 w' gb298 (.int .i64 a0_0) (.int .i64 a0_1) (.bool false)) (ds := []) #[false, false, false, false, false, false, false, false, false, false, false, false] (by kernel_rfl) rfl rfl (bT3 BK298) (fun hHeld => ?_); refine with_tabW spec_l07Add.tab9 spec_l07Add.bits9 (fun HT_ HW_ => ?_)
    generalize w40.drew = w41 at BK298 BK299 BK300 HB hHeld ⊢
    refine pI 0 (some 32) HT_.out ?_
    refine pI 1 (some 33) HT_.out ?_
    refine pI 2 (some 34) HT_.out ?_
    refine pI 4 (some 36) HT_.out ?_
    refine pI 7 (some 39) HT_.out ?_
    refine tI3 3 (some 35) HT_.out HW_.out hHeld ?_
    refine tI3 8 (some 40) HT_.out HW_.out hHeld ?_
    refine oI 5 (some 37) HT_.out (fun K hK => ?_)
    refine gO Tryz.func113 #[.int .i64 a0_0, .int .i64 t308] ?_
    with_reducible refine (spec_FpSub.calls a0_0 t308 t309 _ A28.out).mono ?_
    rintro e w' ⟨rfl, ⟨nd, rfl⟩⟩
    refine ⟨_, rfl, ?_⟩
    refine hK.out _ _ (bT3 BK298) (fun hHeld => ?_)
    clear hK K
    refine nO (some 37) ?_
    refine oI 6 (some 38) HT_.out (fun K hK => ?_)
    refine gO Tryz.func112 #[.int .i64 t301, .int .i64 t309] ?_
    with_reducible refine (spec_FpMul.calls t301 t309 t310 _ A29.out).mono ?_
    rintro e w' ⟨rfl, ⟨nd, rfl⟩⟩
    refine ⟨_, rfl, ?_⟩
    refine hK.out _ _ (bT3 BK298) (fun hHeld => ?_)
    clear hK K
    refine nO (some 38) ?_
    refine oI 9 (some 41) HT_.out (fun K hK => ?_)
    refine gO Tryz.func113 #[.int .i64 t310, .int .i64 a0_1] ?_
    with_reducible refine (spec_FpSub.calls t310 a0_1 t311 _ A30.out).mono ?_
    rintro e w' ⟨rfl, ⟨nd, rfl⟩⟩
    refine ⟨_, rfl, ?_⟩
    refine hK.out _ _ (bT3 BK298) (fun hHeld => ?_)
    clear hK K
    refine nO (some 41) ?_
    refine pI 10 (some 42) HT_.out ?_
    refine oI 11 (none) HT_.out (fun K hK => ?_)
    have hs42 : w41.cell? ⟨gb300, 0, none⟩ = some (.int .i64 0) := bc BK300 0
    have hfs42 := blk_frozen BK300.out 0
    have hns42_0 := NB298_300.out
    have hns42_1 := NB299_300.out
    have hms42_0 := NB300_298.out
    have hms42_1 := NB300_299.out
    have hs43 : w41.cell? ⟨gb300, 1, none⟩ = some (.int .i64 0) := bc BK300 1
    have hfs43 := blk_frozen BK300.out 1
    have hns43_0 := NB298_300.out
    have hns43_1 := NB299_300.out
    have hms43_0 := NB300_298.out
    have hms43_1 := NB300_299.out
    have hs44 : w41.cell? ⟨gb300, 2, none⟩ = some (.bool false) := bc BK300 2
    have hfs44 := blk_frozen BK300.out 2
    have hns44_0 := NB298_300.out
    have hns44_1 := NB299_300.out
    have hms44_0 := NB300_298.out
    have hms44_1 := NB300_299.out
    refine skip_ (w1 := ?_) (by rfl) rfl ?_ ?_
    rotate_left
    ·go_simp
     rfl
    refine hK.out _ _ ⟨((cell_far (p := ⟨gb300, _, none⟩) NB298_300.out _).trans (((cell_far (p := ⟨gb300, _, none⟩) NB298_300.out _).trans (((cell_far (p := ⟨gb300, _, none⟩) NB298_300.out _).trans (hHeld.1)))))), ((cell_far (p := ⟨gb300, _, none⟩) NB298_300.out _).trans (((cell_far (p := ⟨gb300, _, none⟩) NB298_300.out _).trans (((cell_far (p := ⟨gb300, _, none⟩) NB298_300.out _).trans (hHeld.2.1)))))), ((cell_far (p := ⟨gb300, _, none⟩) NB298_300.out _).trans (((cell_far (p := ⟨gb300, _, none⟩) NB298_300.out _).trans (((cell_far (p := ⟨gb300, _, none⟩) NB298_300.out _).trans (hHeld.2.2))))))⟩ (fun hHeld => ?_)
    clear hK K
    refine done_ (done_of HT_.out (by kernel_rfl)) ?_
    try go_wp2
    refine rC gb300 28 #[.int .i64 t308, .int .i64 t311, .bool false] (bU BK300) Tryz.underlying28 ?_
    exact ⟨rR, bZ HB⟩
   ·replace c24 := Bool.eq_false_iff.mpr c24
    subst c24
    rw [if_neg (show ¬ (false = true) by decide)] at H
    replace H := Option.bind_eq_some_iff.mp H
    obtain ⟨⟨t303, t304, t305⟩, A450, H⟩ := H
    have A45 := Aside0.mk A450
    clear A450
    simp only [Option.some.injEq, Prod.mk.injEq] at H
    obtain ⟨rfl, rfl, rfl⟩ := H
    go_enter Tryz.func117, Tryz.ntmps117
    go_wp2_with (first | (refine gB 2 #[.int .i64 a0_0, .int .i64 a0_1, .bool false] 28 ?_; intro gb298 hg w46 BK298 hb; have GW298 := bG HB hg; replace HB := bS HB hb; clear hb hg) | (refine gB 3 #[.int .i64 a1_0, .int .i64 a1_1, .bool false] 28 ?_; intro gb299 hg w47 BK299 hb; have GW299 := bG HB hg; replace HB := bS HB hb; obtain ⟨NB298_299, NB299_298⟩ := bN BK298 hg; replace BK298 := bB BK298 hb; clear hb hg) | (refine gB 4 #[.int .i64 0, .int .i64 0, .bool false] 28 ?_; intro gb300 hg w48 BK300 hb; have GW300 := bG HB hg; replace HB := bS HB hb; obtain ⟨NB298_300, NB300_298⟩ := bN BK298 hg; replace BK298 := bB BK298 hb; obtain ⟨NB299_300, NB300_299⟩ := bN BK299 hg; replace BK299 := bB BK299 hb; clear hb hg; obtain ⟨hnb49, hnc49⟩ := nB NB298_299; obtain ⟨hnb50, hnc50⟩ := nB NB298_300; obtain ⟨hcz51_0, hcz51_1, hcz51_2, hfz51_0, hfz51_1, hfz51_2⟩ := bK3 (w := w48) BK298; obtain ⟨hnb52, hnc52⟩ := nB NB299_300; obtain ⟨hcz53_0, hcz53_1, hcz53_2, hfz53_0, hfz53_1, hfz53_2⟩ := bK3 (w := w48) BK299) | (refine gC (some 17) Tryz.func140 #[.agg #[.int .i64 a0_0, .int .i64 a0_1, .bool false], .agg #[.int .i64 a1_0, .int .i64 a1_1, .bool false]] ?_; (with_reducible refine (spec_l07Slope.calls k a0_0 a0_1 false a1_0 a1_1 false t301 false _ A23.out).mono ?_); rintro e w54 ⟨rfl, hb⟩; refine ⟨_, rfl, ?_⟩; replace BK298 := bB BK298 hb; replace BK299 := bB BK299 hb; replace BK300 := bB BK300 hb; replace HB := bS HB hb; (try clear hb)) | (refine gC (some 22) Tryz.func81 #[] ?_; (with_reducible refine (spec_l07Zero.calls  t303 t304 t305 _ A45.out).mono ?_); rintro e w55 ⟨rfl, hb⟩; refine ⟨_, rfl, ?_⟩; replace BK298 := bB BK298 hb; replace BK299 := bB BK299 hb; replace BK300 := bB BK300 hb; replace HB := bS HB hb; (try clear hb); obtain ⟨hcz56_0, hcz56_1, hcz56_2, hfz56_0, hfz56_1, hfz56_2⟩ := bK3 (w := w55) BK300))
    refine rC gb300 28 #[.int .i64 t303, .int .i64 t304, .bool t305] (bU BK300) Tryz.underlying28 ?_
    exact ⟨rR, bZ HB⟩
end Go.Proofs.YtkdmplfldfagnaaGreatDoor.Pf
end
section
namespace Go.Proofs.YtkdmplfldfagnaaGreatDoor.Pf
open Go.RowKit Go.Proofs.YtkdmplfldfagnaaGreatDoorW.PrintWords Go.Proofs.YtkdmplfldfagnaaGreatDoorW.PrintLast Go.Proofs.YtkdmplfldfagnaaGreatDoorW.PrintMore
attribute [local go_sem] max2_int min2_int max_two min_two max_three min_three max_four min_four   -- for this text's walks alone
set_option linter.unusedVariables false
set_option linter.unusedSimpArgs false
mutual
def spec_PointTimes.j0 : Nat → Int → Int → Int → Bool → Option (Int × Int × Bool)
 | 0, _, _, _, _ => none
 | k + 1, x5, x319000, x319001, x319002 => (spec_l07Zero.f).bind fun bt322 => (spec_PointTimes.l0 k x5 x319000 x319001 x319002 bt322.1 bt322.2.1 bt322.2.2)
def spec_PointTimes.l0 : Nat → Int → Int → Int → Bool → Int → Int → Bool → Option (Int × Int × Bool)
 | 0, _, _, _, _, _, _, _ => none
 | k + 1, x5, x319000, x319001, x319002, x326000, x326001, x326002 => if x5 > 0 then (if (Int.tmod x5 2) = 1 then ((spec_l07Add.f k x326000 x326001 x326002 x319000 x319001 x319002).bind fun bt326 => ((spec_l07Add.f k x319000 x319001 x319002 x319000 x319001 x319002).bind fun bt329 => (spec_PointTimes.l0 k (wrap64 (Int.tdiv x5 2)) bt329.1 bt329.2.1 bt329.2.2 bt326.1 bt326.2.1 bt326.2.2))) else ((spec_l07Add.f k x319000 x319001 x319002 x319000 x319001 x319002).bind fun bt332 => (spec_PointTimes.l0 k (wrap64 (Int.tdiv x5 2)) bt332.1 bt332.2.1 bt332.2.2 x326000 x326001 x326002))) else (some (x326000, x326001, x326002))
end
def spec_PointTimes.f (k : Nat) (a0 : Int) (a1_0 : Int) (a1_1 : Int) (a1_2 : Bool) : Option (Int × Int × Bool) := (spec_PointOk.f a1_0 a1_1 a1_2).bind fun t314 => (if t314 = true then (if (Int.tmod a0 12108) < 0 then ((spec_PointNeg.f a1_0 a1_1 a1_2).bind fun bt319 => (spec_PointTimes.j0 k (wrap64 (-(Int.tmod a0 12108))) bt319.1 bt319.2.1 bt319.2.2)) else (spec_PointTimes.j0 k (Int.tmod a0 12108) a1_0 a1_1 a1_2)) else ((spec_l07Zero.f).bind fun bt315 => (some (bt315.1, bt315.2.1, bt315.2.2))))
set_option maxHeartbeats 8000000 in
set_option maxRecDepth 100000 in
theorem spec_PointTimes.calls (k : Nat) (a0 : Int) (a1_0 : Int) (a1_1 : Int) (a1_2 : Bool) (r1 : Int) (r2 : Int) (r3 : Bool) (w : World) (h : spec_PointTimes.f k a0 a1_0 a1_1 a1_2 = some (r1, r2, r3)) :
  Calls Tryz.prog 65 #[.int .i64 a0, .agg #[.int .i64 a1_0, .int .i64 a1_1, .bool a1_2]] w fun e w' => e = .returned (.agg #[.int .i64 r1, .int .i64 r2, .bool r3]) ∧ Below w.heap.size w w' := by
 have hu28 := Tryz.underlying28
 have HB := Aside0.mk (Below.refl w.heap.size w)
 have H : ((spec_PointOk.f a1_0 a1_1 a1_2).bind fun t314 => (if t314 = true then (if (Int.tmod a0 12108) < 0 then ((spec_PointNeg.f a1_0 a1_1 a1_2).bind fun bt319 => (spec_PointTimes.j0 k (wrap64 (-(Int.tmod a0 12108))) bt319.1 bt319.2.1 bt319.2.2)) else (spec_PointTimes.j0 k (Int.tmod a0 12108) a1_0 a1_1 a1_2)) else ((spec_l07Zero.f).bind fun bt315 => (some (bt315.1, bt315.2.1, bt315.2.2))))) = some (r1, r2, r3) := h
 clear h
 replace H := Option.bind_eq_some_iff.mp H
 obtain ⟨t314, A30, H⟩ := H
 have A3 := Aside0.mk A30
 clear A30
 by_cases c4 : t314 = true
 ·subst c4
  rw [if_pos rfl] at H
  have HC5 := Aside0.mk H
  clear H
  go_enter Tryz.func65, Tryz.ntmps65
  go_upto_if 16 with (first | (refine gB 3 #[.int .i64 a1_0, .int .i64 a1_1, .bool a1_2] 28 ?_; intro gb312 hg w6 BK312 hb; have GW312 := bG HB hg; replace HB := bS HB hb; clear hb hg) | (refine gB 4 #[.int .i64 0, .int .i64 0, .bool false] 28 ?_; intro gb313 hg w7 BK313 hb; have GW313 := bG HB hg; replace HB := bS HB hb; obtain ⟨NB312_313, NB313_312⟩ := bN BK312 hg; replace BK312 := bB BK312 hb; clear hb hg; obtain ⟨hnb8, hnc8⟩ := nB NB312_313; obtain ⟨hcz9_0, hcz9_1, hcz9_2, hfz9_0, hfz9_1, hfz9_2⟩ := bK3 (w := w7) BK312) | (refine gC (some 9) Tryz.func115 #[.agg #[.int .i64 a1_0, .int .i64 a1_1, .bool a1_2]] ?_; (with_reducible refine (spec_PointOk.calls a1_0 a1_1 a1_2 true _ A3.out).mono ?_); rintro e w10 ⟨rfl, hb⟩; refine ⟨_, rfl, ?_⟩; replace BK312 := bB BK312 hb; replace BK313 := bB BK313 hb; replace HB := bS HB hb; (try clear hb); obtain ⟨hcz11_0, hcz11_1, hcz11_2, hfz11_0, hfz11_1, hfz11_2⟩ := bK3 (w := w10) BK312) | (refine gB 6 #[.int .i64 0, .int .i64 0, .bool false] 28 ?_; intro gb318 hg w12 BK318 hb; have GW318 := bG HB hg; replace HB := bS HB hb; obtain ⟨NB312_318, NB318_312⟩ := bN BK312 hg; replace BK312 := bB BK312 hb; obtain ⟨NB313_318, NB318_313⟩ := bN BK313 hg; replace BK313 := bB BK313 hb; clear hb hg; obtain ⟨hnb13, hnc13⟩ := nB NB318_312; obtain ⟨hnb14, hnc14⟩ := nB NB318_313; obtain ⟨hcz15_0, hcz15_1, hcz15_2, hfz15_0, hfz15_1, hfz15_2⟩ := bK3 (w := w12) BK318))
  (try simp only [Act.put, List.setIfInBounds_toArray, List.set_cons_zero, List.set_cons_succ])
  go_cut [5] (fun v5 wc => ∃ (kq : Nat) (x5_4 : Int) (x319000_4 : Int) (x319001_4 : Int) (x319002_4 : Bool), v5 = .int .i64 x5_4 ∧ Aside0 (spec_PointTimes.j0 kq x5_4 x319000_4 x319001_4 x319002_4 = some (r1, r2, r3)) ∧ Aside0 (kq ≤ k) ∧ Aside0 (wc.heap[gb312]? = some (.cells #[.int .i64 a1_0, .int .i64 a1_1, .bool a1_2] 28 (0, 0))) ∧ Aside0 (wc.heap[gb313]? = some (.cells #[.int .i64 0, .int .i64 0, .bool false] 28 (0, 0))) ∧ Aside0 (wc.heap[gb318]? = some (.cells #[.int .i64 x319000_4, .int .i64 x319001_4, .bool x319002_4] 28 (0, 0))) ∧ Aside0 (Below w.heap.size w wc))
  case first =>
   have H := HC5.out
   clear HC5
   by_cases c16 : (Int.tmod a0 12108) < 0
   ·rw [if_pos c16] at H
    have c16b0 := decide_eq_true c16
    clear c16
    (first | rw [c16b0] | (simp only [i64_w, i32_w]; rw [c16b0]) | rw [c16b1] | skip)
    replace H := Option.bind_eq_some_iff.mp H
    obtain ⟨⟨t319, t320, t321⟩, A170, H⟩ := H
    have A17 := Aside0.mk A170
    clear A170
    have H' := Aside0.mk H
    clear H
    obtain ⟨hnb18, hnc18⟩ := nB NB312_313
    obtain ⟨hnb19, hnc19⟩ := nB NB312_318
    obtain ⟨hcz20_0, hcz20_1, hcz20_2, hfz20_0, hfz20_1, hfz20_2⟩ := bK3 (w := w12) BK312
    go_wp2_with (first | (refine gC (some 20) Tryz.func116 #[.agg #[.int .i64 a1_0, .int .i64 a1_1, .bool a1_2]] ?_; (with_reducible refine (spec_PointNeg.calls a1_0 a1_1 a1_2 t319 t320 t321 _ A17.out).mono ?_); rintro e w21 ⟨rfl, hb⟩; refine ⟨_, rfl, ?_⟩; replace BK312 := bB BK312 hb; replace BK313 := bB BK313 hb; replace BK318 := bV 28 #[.int .i64 a1_0, .int .i64 a1_1, .bool a1_2] BK318 hb; replace HB := bS HB hb; (try clear hb); obtain ⟨hnb22, hnc22⟩ := nB NB318_313; obtain ⟨hcz23_0, hcz23_1, hcz23_2, hfz23_0, hfz23_1, hfz23_2⟩ := bK3 (w := w21) BK318))
    go_meet
    case rel => exact ⟨_, (wrap64 (-(Int.tmod a0 12108))), (t319), (t320), (t321), rS, H', ⟨by first | omega | exact Nat.le_refl _⟩, ⟨bP BK312⟩, ⟨bP BK313⟩, ⟨bU BK318⟩, ⟨bZ HB⟩⟩
   ·rw [if_neg c16] at H
    have c16b0 := decide_eq_false c16
    clear c16
    (first | rw [c16b0] | (simp only [i64_w, i32_w]; rw [c16b0]) | rw [c16b1] | skip)
    have H' := Aside0.mk H
    clear H
    go_wp2
    go_meet
    case rel => exact ⟨_, (Int.tmod a0 12108), (a1_0), (a1_1), (a1_2), rS, H', ⟨by first | omega | exact Nat.le_refl _⟩, ⟨bP BK312⟩, ⟨bP BK313⟩, ⟨bU BK318⟩, ⟨bZ HB⟩⟩
  case rest =>
   clear HC5
   try clear c1
   try clear c2
   try clear p2
   try clear c4
   try clear c6
   try clear p6
   try clear c8
   try clear c11
   try clear c13
   try clear c14
   try clear c16
   try clear c16b0
   try clear c18
   try clear c19
   try clear c22
   try clear hcz11_0
   try clear hcz11_1
   try clear hcz11_2
   try clear hcz15_0
   try clear hcz15_1
   try clear hcz15_2
   try clear hcz20_0
   try clear hcz20_1
   try clear hcz20_2
   try clear hcz23_0
   try clear hcz23_1
   try clear hcz23_2
   try clear hcz9_0
   try clear hcz9_1
   try clear hcz9_2
   try clear hfz11_0
   try clear hfz11_1
   try clear hfz11_2
   try clear hfz15_0
   try clear hfz15_1
   try clear hfz15_2
   try clear hfz20_0
   try clear hfz20_1
   try clear hfz20_2
   try clear hfz23_0
   try clear hfz23_1
   try clear hfz23_2
   try clear hfz9_0
   try clear hfz9_1
   try clear hfz9_2
   obtain ⟨kq, x5_4, x319000_4, x319001_4, x319002_4, rfl, HA, HJ4, BK312, BK313, BK318, HB⟩ := hcut
   cases kq with
   | zero => exact absurd HA.out (by simp [spec_PointTimes.j0])
   | succ kj4 =>
    have H := HA.out
    clear HA
    simp only [spec_PointTimes.j0] at H
    replace H := Option.bind_eq_some_iff.mp H
    obtain ⟨⟨t322, t323, t324⟩, A240, H⟩ := H
    have A24 := Aside0.mk A240
    clear A240
    have H' := Aside0.mk H
    clear H
    go_wp2_with (first | (refine gC (some 21) Tryz.func81 #[] ?_; (with_reducible refine (spec_l07Zero.calls  t322 t323 t324 _ A24.out).mono ?_); rintro e w25 ⟨rfl, hb⟩; refine ⟨_, rfl, ?_⟩; replace BK312 := bB BK312 hb; replace BK313 := bB BK313 hb; replace BK318 := bB BK318 hb; replace HB := bS HB hb; (try clear hb)) | (refine gB 7 #[.int .i64 0, .int .i64 0, .bool false] 28 ?_; intro gb325 hg w26 BK325 hb; have GW325 := bG HB hg; replace HB := bS HB hb; obtain ⟨NB312_325, NB325_312⟩ := bN BK312 hg; replace BK312 := bB BK312 hb; obtain ⟨NB313_325, NB325_313⟩ := bN BK313 hg; replace BK313 := bB BK313 hb; obtain ⟨NB318_325, NB325_318⟩ := bN BK318 hg; replace BK318 := bB BK318 hb; clear hb hg; obtain ⟨hnb27, hnc27⟩ := nB NB325_312; obtain ⟨hnb28, hnc28⟩ := nB NB325_313; obtain ⟨hnb29, hnc29⟩ := nB NB325_318; obtain ⟨hcz30_0, hcz30_1, hcz30_2, hfz30_0, hfz30_1, hfz30_2⟩ := bK3 (w := w26) BK325))
    go_loopg [5] kj4 (fun kq v5 w' => ∃ (x5_2 : Int) (x319000_2 : Int) (x319001_2 : Int) (x319002_2 : Bool) (x326000_2 : Int) (x326001_2 : Int) (x326002_2 : Bool), v5 = .int .i64 x5_2 ∧ Aside0 (spec_PointTimes.l0 kq x5_2 x319000_2 x319001_2 x319002_2 x326000_2 x326001_2 x326002_2 = some (r1, r2, r3)) ∧ Aside0 (kq ≤ kj4) ∧ Aside0 (w'.heap[gb312]? = some (.cells #[.int .i64 a1_0, .int .i64 a1_1, .bool a1_2] 28 (0, 0))) ∧ Aside0 (w'.heap[gb313]? = some (.cells #[.int .i64 0, .int .i64 0, .bool false] 28 (0, 0))) ∧ Aside0 (w'.heap[gb318]? = some (.cells #[.int .i64 x319000_2, .int .i64 x319001_2, .bool x319002_2] 28 (0, 0))) ∧ Aside0 (w'.heap[gb325]? = some (.cells #[.int .i64 x326000_2, .int .i64 x326001_2, .bool x326002_2] 28 (0, 0))) ∧ Aside0 (Below w.heap.size w w'))
    case atStart => exact ⟨(x5_4), (x319000_4), (x319001_4), (x319002_4), (t322), (t323), (t324), rS, H', ⟨Nat.le_refl _⟩, ⟨bP BK312⟩, ⟨bP BK313⟩, ⟨bP BK318⟩, ⟨bU BK325⟩, ⟨bZ HB⟩⟩
    case round =>
     clear H'
     try clear c1
     try clear c2
     try clear p2
     try clear c4
     try clear c6
     try clear p6
     try clear c8
     try clear c11
     try clear c13
     try clear c14
     try clear c16
     try clear c16b0
     try clear c18
     try clear c19
     try clear c22
     try clear c27
     try clear c28
     try clear c29
     try clear hcz11_0
     try clear hcz11_1
     try clear hcz11_2
     try clear hcz15_0
     try clear hcz15_1
     try clear hcz15_2
     try clear hcz20_0
     try clear hcz20_1
     try clear hcz20_2
     try clear hcz23_0
     try clear hcz23_1
     try clear hcz23_2
     try clear hcz30_0
     try clear hcz30_1
     try clear hcz30_2
     try clear hcz9_0
     try clear hcz9_1
     try clear hcz9_2
     try clear hfz11_0
     try clear hfz11_1
     try clear hfz11_2
     try clear hfz15_0
     try clear hfz15_1
     try clear hfz15_2
     try clear hfz20_0
     try clear hfz20_1
     try clear hfz20_2
     try clear hfz23_0
     try clear hfz23_1
     try clear hfz23_2
     try clear hfz30_0
     try clear hfz30_1
     try clear hfz30_2
     try clear hfz9_0
     try clear hfz9_1
     try clear hfz9_2
     try clear p2
     try clear p6
     obtain ⟨x5_2, x319000_2, x319001_2, x319002_2, x326000_2, x326001_2, x326002_2, rfl, HA, HK2, BK312, BK313, BK318, BK325, HB⟩ := hrel
     cases gk with
     | zero => exact absurd HA.out (by simp [spec_PointTimes.l0])
     | succ k2 =>
      have H := HA.out
      clear HA
      simp only [spec_PointTimes.l0] at H
      by_cases c31 : x5_2 > 0
      ·rw [if_pos c31] at H
       have c31b0 := decide_eq_true c31
       clear c31
       by_cases c32 : (Int.tmod x5_2 2) = 1
       ·rw [if_pos c32] at H
        have c32b0 : ((Int.tmod x5_2 2) == 1) = true := beq_iff_eq.mpr c32
        have c32b1 : ((Int.tmod x5_2 2) != 1) = false := bne_eq_false_iff_eq.mpr c32
        clear c32
        replace H := Option.bind_eq_some_iff.mp H
        obtain ⟨⟨t326, t327, t328⟩, A330, H⟩ := H
        have A33 := Aside0.mk A330
        clear A330
        replace H := Option.bind_eq_some_iff.mp H
        obtain ⟨⟨t329, t330, t331⟩, A340, H⟩ := H
        have A34 := Aside0.mk A340
        clear A340
        have H' := Aside0.mk H
        clear H
        obtain ⟨hnb35, hnc35⟩ := nB NB325_312
        obtain ⟨hnb36, hnc36⟩ := nB NB325_313
        obtain ⟨hnb37, hnc37⟩ := nB NB325_318
        obtain ⟨hcz38_0, hcz38_1, hcz38_2, hfz38_0, hfz38_1, hfz38_2⟩ := bK3 (w := wr) BK325
        obtain ⟨hnb39, hnc39⟩ := nB NB318_312
        obtain ⟨hnb40, hnc40⟩ := nB NB318_313
        obtain ⟨hcz41_0, hcz41_1, hcz41_2, hfz41_0, hfz41_1, hfz41_2⟩ := bK3 (w := wr) BK318
        go_wp2_with (first | (refine gC (some 29) Tryz.func117 #[.agg #[.int .i64 x326000_2, .int .i64 x326001_2, .bool x326002_2], .agg #[.int .i64 x319000_2, .int .i64 x319001_2, .bool x319002_2]] ?_; (with_reducible refine (spec_l07Add.calls k2 x326000_2 x326001_2 x326002_2 x319000_2 x319001_2 x319002_2 t326 t327 t328 _ A33.out).mono ?_); rintro e w42 ⟨rfl, hb⟩; refine ⟨_, rfl, ?_⟩; replace BK312 := bB BK312 hb; replace BK313 := bB BK313 hb; replace BK318 := bB BK318 hb; replace BK325 := bB BK325 hb; replace HB := bS HB hb; (try clear hb); obtain ⟨hcz43_0, hcz43_1, hcz43_2, hfz43_0, hfz43_1, hfz43_2⟩ := bK3 (w := w42) BK325; obtain ⟨hcz44_0, hcz44_1, hcz44_2, hfz44_0, hfz44_1, hfz44_2⟩ := bK3 (w := w42) BK318) | (refine gC (some 32) Tryz.func117 #[.agg #[.int .i64 x319000_2, .int .i64 x319001_2, .bool x319002_2], .agg #[.int .i64 x319000_2, .int .i64 x319001_2, .bool x319002_2]] ?_; (with_reducible refine (spec_l07Add.calls k2 x319000_2 x319001_2 x319002_2 x319000_2 x319001_2 x319002_2 t329 t330 t331 _ A34.out).mono ?_); rintro e w45 ⟨rfl, hb⟩; refine ⟨_, rfl, ?_⟩; replace BK312 := bB BK312 hb; replace BK313 := bB BK313 hb; replace BK318 := bB BK318 hb; replace BK325 := bV 28 #[.int .i64 t326, .int .i64 t327, .bool t328] BK325 hb; replace HB := bS HB hb; (try clear hb); obtain ⟨hcz46_0, hcz46_1, hcz46_2, hfz46_0, hfz46_1, hfz46_2⟩ := bK3 (w := w45) BK318))
        go_roundg k2
        case measure => have := HJ4.out; have := HK2.out; omega
        case rel => exact ⟨(wrap64 (Int.tdiv x5_2 2)), (t329), (t330), (t331), (t326), (t327), (t328), rS, H', ⟨by have := HJ4.out; have := HK2.out; omega⟩, ⟨bP BK312⟩, ⟨bP BK313⟩, ⟨bU BK318⟩, ⟨bP BK325⟩, ⟨bZ HB⟩⟩
       ·rw [if_neg c32] at H
        have c32b0 : ((Int.tmod x5_2 2) == 1) = false := beq_eq_false_iff_ne.mpr c32
        have c32b1 : ((Int.tmod x5_2 2) != 1) = true := bne_iff_ne.mpr c32
        replace H := Option.bind_eq_some_iff.mp H
        obtain ⟨⟨t332, t333, t334⟩, A470, H⟩ := H
        have A47 := Aside0.mk A470
        clear A470
        have H' := Aside0.mk H
        clear H
        obtain ⟨hnb48, hnc48⟩ := nB NB318_312
        obtain ⟨hnb49, hnc49⟩ := nB NB318_313
        obtain ⟨hnb50, hnc50⟩ := nB NB318_325
        obtain ⟨hcz51_0, hcz51_1, hcz51_2, hfz51_0, hfz51_1, hfz51_2⟩ := bK3 (w := wr) BK318
        go_wp2_with (first | (refine gC (some 32) Tryz.func117 #[.agg #[.int .i64 x319000_2, .int .i64 x319001_2, .bool x319002_2], .agg #[.int .i64 x319000_2, .int .i64 x319001_2, .bool x319002_2]] ?_; (with_reducible refine (spec_l07Add.calls k2 x319000_2 x319001_2 x319002_2 x319000_2 x319001_2 x319002_2 t332 t333 t334 _ A47.out).mono ?_); rintro e w52 ⟨rfl, hb⟩; refine ⟨_, rfl, ?_⟩; replace BK312 := bB BK312 hb; replace BK313 := bB BK313 hb; replace BK318 := bB BK318 hb; replace BK325 := bB BK325 hb; replace HB := bS HB hb; (try clear hb); obtain ⟨hcz53_0, hcz53_1, hcz53_2, hfz53_0, hfz53_1, hfz53_2⟩ := bK3 (w := w52) BK318))
        go_roundg k2
        case measure => have := HJ4.out; have := HK2.out; omega
        case rel => exact ⟨(wrap64 (Int.tdiv x5_2 2)), (t332), (t333), (t334), (x326000_2), (x326001_2), (x326002_2), rS, H', ⟨by have := HJ4.out; have := HK2.out; omega⟩, ⟨bP BK312⟩, ⟨bP BK313⟩, ⟨bU BK318⟩, ⟨bP BK325⟩, ⟨bZ HB⟩⟩
      ·rw [if_neg c31] at H
       have c31b0 := decide_eq_false c31
       clear c31
       simp only [Option.some.injEq, Prod.mk.injEq] at H
       obtain ⟨rfl, rfl, rfl⟩ := H
       obtain ⟨hnb54, hnc54⟩ := nB NB325_312
       obtain ⟨hnb55, hnc55⟩ := nB NB325_313
       obtain ⟨hnb56, hnc56⟩ := nB NB325_318
       obtain ⟨hcz57_0, hcz57_1, hcz57_2, hfz57_0, hfz57_1, hfz57_2⟩ := bK3 (w := wr) BK325
       obtain ⟨hnb58, hnc58⟩ := nB NB313_312
       obtain ⟨hnb59, hnc59⟩ := nB NB313_318
       obtain ⟨hcz60_0, hcz60_1, hcz60_2, hfz60_0, hfz60_1, hfz60_2⟩ := bK3 (w := wr) BK313
       go_wp2
       refine rC gb313 28 #[.int .i64 x326000_2, .int .i64 x326001_2, .bool x326002_2] (bU BK313) Tryz.underlying28 ?_
       exact ⟨rR, bZ HB⟩
 ·replace c4 := Bool.eq_false_iff.mpr c4
  subst c4
  rw [if_neg (show ¬ (false = true) by decide)] at H
  replace H := Option.bind_eq_some_iff.mp H
  obtain ⟨⟨t315, t316, t317⟩, A610, H⟩ := H
  have A61 := Aside0.mk A610
  clear A610
  simp only [Option.some.injEq, Prod.mk.injEq] at H
  obtain ⟨rfl, rfl, rfl⟩ := H
  go_enter Tryz.func65, Tryz.ntmps65
  go_wp2_with (first | (refine gB 3 #[.int .i64 a1_0, .int .i64 a1_1, .bool a1_2] 28 ?_; intro gb312 hg w62 BK312 hb; have GW312 := bG HB hg; replace HB := bS HB hb; clear hb hg) | (refine gB 4 #[.int .i64 0, .int .i64 0, .bool false] 28 ?_; intro gb313 hg w63 BK313 hb; have GW313 := bG HB hg; replace HB := bS HB hb; obtain ⟨NB312_313, NB313_312⟩ := bN BK312 hg; replace BK312 := bB BK312 hb; clear hb hg; obtain ⟨hnb64, hnc64⟩ := nB NB312_313; obtain ⟨hcz65_0, hcz65_1, hcz65_2, hfz65_0, hfz65_1, hfz65_2⟩ := bK3 (w := w63) BK312) | (refine gC (some 9) Tryz.func115 #[.agg #[.int .i64 a1_0, .int .i64 a1_1, .bool a1_2]] ?_; (with_reducible refine (spec_PointOk.calls a1_0 a1_1 a1_2 false _ A3.out).mono ?_); rintro e w66 ⟨rfl, hb⟩; refine ⟨_, rfl, ?_⟩; replace BK312 := bB BK312 hb; replace BK313 := bB BK313 hb; replace HB := bS HB hb; (try clear hb)) | (refine gC (some 11) Tryz.func81 #[] ?_; (with_reducible refine (spec_l07Zero.calls  t315 t316 t317 _ A61.out).mono ?_); rintro e w67 ⟨rfl, hb⟩; refine ⟨_, rfl, ?_⟩; replace BK312 := bB BK312 hb; replace BK313 := bB BK313 hb; replace HB := bS HB hb; (try clear hb); obtain ⟨hcz68_0, hcz68_1, hcz68_2, hfz68_0, hfz68_1, hfz68_2⟩ := bK3 (w := w67) BK313))
  refine rC gb313 28 #[.int .i64 t315, .int .i64 t316, .bool t317] (bU BK313) Tryz.underlying28 ?_
  exact ⟨rR, bZ HB⟩
end Go.Proofs.YtkdmplfldfagnaaGreatDoor.Pf
end
section
namespace Go.Proofs.YtkdmplfldfagnaaGreatDoor.Pf
open Go.RowKit Go.Proofs.YtkdmplfldfagnaaGreatDoorW.PrintWords Go.Proofs.YtkdmplfldfagnaaGreatDoorW.PrintLast Go.Proofs.YtkdmplfldfagnaaGreatDoorW.PrintMore
attribute [local go_sem] max2_int min2_int max_two min_two max_three min_three max_four min_four   -- for this text's walks alone
set_option linter.unusedVariables false
set_option linter.unusedSimpArgs false
def spec_Base.f  : Option (Int × Int × Bool) := some (8445, 859, false)
set_option maxHeartbeats 8000000 in
set_option maxRecDepth 100000 in
theorem spec_Base.calls  (r1 : Int) (r2 : Int) (r3 : Bool) (w : World) (h : spec_Base.f  = some (r1, r2, r3)) :
  Calls Tryz.prog 66 #[] w fun e w' => e = .returned (.agg #[.int .i64 r1, .int .i64 r2, .bool r3]) ∧ Below w.heap.size w w' := by
 have hu28 := Tryz.underlying28
 have HB := Aside0.mk (Below.refl w.heap.size w)
 have H : (some (8445, 859, false)) = some (r1, r2, r3) := h
 clear h
 simp only [Option.some.injEq, Prod.mk.injEq] at H
 obtain ⟨rfl, rfl, rfl⟩ := H
 go_enter Tryz.func66, Tryz.ntmps66
 go_wp2_with (first | (refine gB 0 #[.int .i64 0, .int .i64 0, .bool false] 28 ?_; intro gb335 hg w1 BK335 hb; have GW335 := bG HB hg; replace HB := bS HB hb; clear hb hg; obtain ⟨hcz2_0, hcz2_1, hcz2_2, hfz2_0, hfz2_1, hfz2_2⟩ := bK3 (w := w1) BK335))
 refine rC gb335 28 #[.int .i64 8445, .int .i64 859, .bool false] (bU BK335) Tryz.underlying28 ?_
 exact ⟨rR, bZ HB⟩
def spec_Digest.f (a0 : ByteArray) : Option ByteArray := Kp.spec_Digest.f a0
theorem spec_Digest.calls (a0 : ByteArray) (r : ByteArray) (w : World) (h : spec_Digest.f a0 = some r) :
  Calls Tryz.prog 61 #[.string a0] w fun e w' => e = .returned (.string r) ∧ Below w.heap.size w w' :=
 Kp.spec_Digest.calls a0 r w h
def spec_FpRoot.f (k : Nat) (a0 : Int) : Option (Int × Bool) := (spec_FpPow.f k a0 3027).bind fun t344 => ((spec_FpMul.f t344 t344).bind fun t345 => ((spec_FpOf.f a0).bind fun t346 => (if t345 = t346 then ((spec_FpSub.f 0 t344).bind fun t347 => (if t347 < t344 then ((spec_FpSub.f 0 t344).bind fun t348 => (some (t348, true))) else (some (t344, true)))) else (some (0, false)))))
set_option maxHeartbeats 8000000 in
set_option maxRecDepth 100000 in
theorem spec_FpRoot.calls (k : Nat) (a0 : Int) (r1 : Int) (r2 : Bool) (w : World) (h : spec_FpRoot.f k a0 = some (r1, r2)) :
  Calls Tryz.prog 63 #[.int .i64 a0] w fun e w' => e = .returned (.tuple #[.int .i64 r1, .bool r2]) ∧ Drawn0 w w' := by
 have H : ((spec_FpPow.f k a0 3027).bind fun t344 => ((spec_FpMul.f t344 t344).bind fun t345 => ((spec_FpOf.f a0).bind fun t346 => (if t345 = t346 then ((spec_FpSub.f 0 t344).bind fun t347 => (if t347 < t344 then ((spec_FpSub.f 0 t344).bind fun t348 => (some (t348, true))) else (some (t344, true)))) else (some (0, false)))))) = some (r1, r2) := h
 clear h
 replace H := Option.bind_eq_some_iff.mp H
 obtain ⟨t344, A20, H⟩ := H
 have A2 := Aside0.mk A20
 clear A20
 replace H := Option.bind_eq_some_iff.mp H
 obtain ⟨t345, A30, H⟩ := H
 have A3 := Aside0.mk A30
 clear A30
 replace H := Option.bind_eq_some_iff.mp H
 obtain ⟨t346, A40, H⟩ := H
 have A4 := Aside0.mk A40
 clear A40
 by_cases c5 : t345 = t346
 ·rw [if_pos c5] at H
  have c5b0 : (t345 == t346) = true := beq_iff_eq.mpr c5
  have c5b1 : (t345 != t346) = false := bne_eq_false_iff_eq.mpr c5
  clear c5
  replace H := Option.bind_eq_some_iff.mp H
  obtain ⟨t347, A60, H⟩ := H
  have A6 := Aside0.mk A60
  clear A60
  by_cases c7 : t347 < t344
  ·rw [if_pos c7] at H
   have c7b0 := decide_eq_true c7
   clear c7
   replace H := Option.bind_eq_some_iff.mp H
   obtain ⟨t348, A80, H⟩ := H
   have A8 := Aside0.mk A80
   clear A80
   have et348_ : t347 = t348 := Option.some.inj (A6.out.symm.trans A8.out)
   subst et348_
   simp only [Option.some.injEq, Prod.mk.injEq] at H
   obtain ⟨rfl, rfl⟩ := H
   go_enter Tryz.func63, Tryz.ntmps63
   go_wp2_with (first | (refine gC (some 6) Tryz.func111 #[.int .i64 a0, .int .i64 3027] ?_; (with_reducible refine (spec_FpPow.calls k a0 3027 t344 _ A2.out).mono ?_); rintro e w' ⟨rfl, ⟨nd, rfl⟩⟩; refine ⟨_, rfl, ?_⟩) | (refine gC (some 9) Tryz.func112 #[.int .i64 t344, .int .i64 t344] ?_; (with_reducible refine (spec_FpMul.calls t344 t344 t345 _ A3.out).mono ?_); rintro e w' ⟨rfl, ⟨nd, rfl⟩⟩; refine ⟨_, rfl, ?_⟩) | (refine gC (some 11) Tryz.func62 #[.int .i64 a0] ?_; (with_reducible refine (spec_FpOf.calls a0 t346 _ A4.out).mono ?_); rintro e w' ⟨rfl, ⟨nd, rfl⟩⟩; refine ⟨_, rfl, ?_⟩) | (refine gC (some 14) Tryz.func113 #[.int .i64 0, .int .i64 t344] ?_; (with_reducible refine (spec_FpSub.calls 0 t344 t347 _ A6.out).mono ?_); rintro e w' ⟨rfl, ⟨nd, rfl⟩⟩; refine ⟨_, rfl, ?_⟩) | (refine gC (some 18) Tryz.func113 #[.int .i64 0, .int .i64 t344] ?_; (with_reducible refine (spec_FpSub.calls 0 t344 t347 _ A8.out).mono ?_); rintro e w' ⟨rfl, ⟨nd, rfl⟩⟩; refine ⟨_, rfl, ?_⟩))
   go_ret2
   exact ⟨rS, rD⟩
  ·rw [if_neg c7] at H
   have c7b0 := decide_eq_false c7
   clear c7
   simp only [Option.some.injEq, Prod.mk.injEq] at H
   obtain ⟨rfl, rfl⟩ := H
   go_enter Tryz.func63, Tryz.ntmps63
   go_wp2_with (first | (refine gC (some 6) Tryz.func111 #[.int .i64 a0, .int .i64 3027] ?_; (with_reducible refine (spec_FpPow.calls k a0 3027 t344 _ A2.out).mono ?_); rintro e w' ⟨rfl, ⟨nd, rfl⟩⟩; refine ⟨_, rfl, ?_⟩) | (refine gC (some 9) Tryz.func112 #[.int .i64 t344, .int .i64 t344] ?_; (with_reducible refine (spec_FpMul.calls t344 t344 t345 _ A3.out).mono ?_); rintro e w' ⟨rfl, ⟨nd, rfl⟩⟩; refine ⟨_, rfl, ?_⟩) | (refine gC (some 11) Tryz.func62 #[.int .i64 a0] ?_; (with_reducible refine (spec_FpOf.calls a0 t346 _ A4.out).mono ?_); rintro e w' ⟨rfl, ⟨nd, rfl⟩⟩; refine ⟨_, rfl, ?_⟩) | (refine gC (some 14) Tryz.func113 #[.int .i64 0, .int .i64 t344] ?_; (with_reducible refine (spec_FpSub.calls 0 t344 t347 _ A6.out).mono ?_); rintro e w' ⟨rfl, ⟨nd, rfl⟩⟩; refine ⟨_, rfl, ?_⟩))
   go_ret2
   exact ⟨rS, rD⟩
 ·rw [if_neg c5] at H
  have c5b0 : (t345 == t346) = false := beq_eq_false_iff_ne.mpr c5
  have c5b1 : (t345 != t346) = true := bne_iff_ne.mpr c5
  simp only [Option.some.injEq, Prod.mk.injEq] at H
  obtain ⟨rfl, rfl⟩ := H
  go_enter Tryz.func63, Tryz.ntmps63
  go_wp2_with (first | (refine gC (some 6) Tryz.func111 #[.int .i64 a0, .int .i64 3027] ?_; (with_reducible refine (spec_FpPow.calls k a0 3027 t344 _ A2.out).mono ?_); rintro e w' ⟨rfl, ⟨nd, rfl⟩⟩; refine ⟨_, rfl, ?_⟩) | (refine gC (some 9) Tryz.func112 #[.int .i64 t344, .int .i64 t344] ?_; (with_reducible refine (spec_FpMul.calls t344 t344 t345 _ A3.out).mono ?_); rintro e w' ⟨rfl, ⟨nd, rfl⟩⟩; refine ⟨_, rfl, ?_⟩) | (refine gC (some 11) Tryz.func62 #[.int .i64 a0] ?_; (with_reducible refine (spec_FpOf.calls a0 t346 _ A4.out).mono ?_); rintro e w' ⟨rfl, ⟨nd, rfl⟩⟩; refine ⟨_, rfl, ?_⟩))
  go_ret2
  exact ⟨rS, rD⟩
def spec_HashPoint.l0 : Nat → ByteArray → Int → Option (Int × Int × Bool)
 | 0, _, _ => none
 | k + 1, x0, x3 => if x3 < 64 then ((some (([(x3) % 256] : List Int) : List Int)).bind fun y353 => (if (strOfNums y353).size + x0.size ≤ 9223372036854775807 then ((spec_Digest.f ((strOfNums y353) ++ x0)).bind fun t356 => (if 0 < (t356.size : Int) then (if 1 < (t356.size : Int) then (if 2 < (t356.size : Int) then (if 3 < (t356.size : Int) then ((spec_FpOf.f (Go.bits .or .i64 (Go.bits .or .i64 (Go.bits .or .i64 (wrap64 ((wrap64 (bt t356 0)) * 16777216)) (wrap64 ((wrap64 (bt t356 1)) * 65536))) (wrap64 ((wrap64 (bt t356 2)) * 256))) (wrap64 (bt t356 3)))).bind fun t357 => ((spec_l07Right.f t357).bind fun t358 => ((spec_FpRoot.f k t358).bind fun bt359 => ((spec_PointTimes.f k 12 t357 bt359.1 false).bind fun bt361 => (if bt359.2 = true then (if bt361.2.2 = true then (spec_HashPoint.l0 k x0 (wrap64 (x3 + 1))) else (some (bt361.1, bt361.2.1, bt361.2.2))) else (spec_HashPoint.l0 k x0 (wrap64 (x3 + 1)))))))) else (none)) else (none)) else (none)) else (none))) else (none))) else ((spec_Base.f).bind fun bt350 => (some (bt350.1, bt350.2.1, bt350.2.2)))
def spec_HashPoint.f (k : Nat) (a0 : ByteArray) : Option (Int × Int × Bool) := spec_HashPoint.l0 k a0 0
set_option maxHeartbeats 8000000 in
set_option maxRecDepth 100000 in
theorem spec_HashPoint.calls (k : Nat) (a0 : ByteArray) (r1 : Int) (r2 : Int) (r3 : Bool) (w : World) (h : spec_HashPoint.f k a0 = some (r1, r2, r3)) :
  Calls Tryz.prog 22 #[.string a0] w fun e w' => e = .returned (.agg #[.int .i64 r1, .int .i64 r2, .bool r3]) ∧ Below w.heap.size w w' := by
 have hu28 := Tryz.underlying28
 have HB := Aside0.mk (Below.refl w.heap.size w)
 have H : (spec_HashPoint.l0 k a0 0) = some (r1, r2, r3) := h
 clear h
 have H' := Aside0.mk H
 clear H
 go_enter Tryz.func22, Tryz.ntmps22
 go_wp2_with (first | (refine gB 2 #[.int .i64 0, .int .i64 0, .bool false] 28 ?_; intro gb349 hg w2 BK349 hb; have GW349 := bG HB hg; replace HB := bS HB hb; clear hb hg))
 repeat (go_quiet (first | (refine gB 2 #[.int .i64 0, .int .i64 0, .bool false] 28 ?_; intro gb349 hg w2 BK349 hb; have GW349 := bG HB hg; replace HB := bS HB hb; clear hb hg)); try go_wp2_with (first | (refine gB 2 #[.int .i64 0, .int .i64 0, .bool false] 28 ?_; intro gb349 hg w2 BK349 hb; have GW349 := bG HB hg; replace HB := bS HB hb; clear hb hg)))
 go_loopg [3] k (fun kq v3 w' => ∃ (x3_1 : Int) (x350000_1 : Int) (x350001_1 : Int) (x350002_1 : Bool), v3 = .int .i64 x3_1 ∧ Aside0 (spec_HashPoint.l0 kq a0 x3_1 = some (r1, r2, r3)) ∧ Aside0 (kq ≤ k) ∧ Aside0 (w'.heap[gb349]? = some (.cells #[.int .i64 x350000_1, .int .i64 x350001_1, .bool x350002_1] 28 (0, 0))) ∧ Aside0 (Below w.heap.size w w'))
 case atStart => exact ⟨(0), (0), (0), (false), rS, H', ⟨Nat.le_refl _⟩, ⟨bP BK349⟩, ⟨bZ HB⟩⟩
 case round =>
  clear H'
  try clear c2
  try clear p2
  obtain ⟨x3_1, x350000_1, x350001_1, x350002_1, rfl, HA, HK1, BK349, HB⟩ := hrel
  cases gk with
  | zero => exact absurd HA.out (by simp [spec_HashPoint.l0])
  | succ k1 =>
   have H := HA.out
   clear HA
   simp only [spec_HashPoint.l0] at H
   by_cases c3 : x3_1 < 64
   ·rw [if_pos c3] at H
    have c3b0 := decide_eq_true c3
    clear c3
    obtain ⟨y353, hy353⟩ : ∃ y_ : List Int, y_ = (([(x3_1) % 256] : List Int)) := ⟨_, rfl⟩
    replace H : (if (strOfNums y353).size + a0.size ≤ 9223372036854775807 then ((spec_Digest.f ((strOfNums y353) ++ a0)).bind fun t356 => (if 0 < (t356.size : Int) then (if 1 < (t356.size : Int) then (if 2 < (t356.size : Int) then (if 3 < (t356.size : Int) then ((spec_FpOf.f (Go.bits .or .i64 (Go.bits .or .i64 (Go.bits .or .i64 (wrap64 ((wrap64 (bt t356 0)) * 16777216)) (wrap64 ((wrap64 (bt t356 1)) * 65536))) (wrap64 ((wrap64 (bt t356 2)) * 256))) (wrap64 (bt t356 3)))).bind fun t357 => ((spec_l07Right.f t357).bind fun t358 => ((spec_FpRoot.f k1 t358).bind fun bt359 => ((spec_PointTimes.f k1 12 t357 bt359.1 false).bind fun bt361 => (if bt359.2 = true then (if bt361.2.2 = true then (spec_HashPoint.l0 k1 a0 (wrap64 (x3_1 + 1))) else (some (bt361.1, bt361.2.1, bt361.2.2))) else (spec_HashPoint.l0 k1 a0 (wrap64 (x3_1 + 1)))))))) else (none)) else (none)) else (none)) else (none))) else (none)) = some (r1, r2, r3) := by first | (rw [hy353]; with_reducible exact H) | (have H2_ := (Option.bind_some _ _).symm.trans H; rw [hy353]; with_reducible exact H2_) | (have H2_ := (Option.bind_some _ _).symm.trans H; with_reducible exact H2_) | with_reducible exact H | (rw [hy353]; exact H) | exact H
    have Ny353 := Aside0.mk hy353
    clear hy353
    by_cases c4 : (strOfNums y353).size + a0.size ≤ 9223372036854775807
    ·rw [if_pos c4] at H
     have c4b0 := eq_true c4
     have c4b1 := decide_eq_true c4
     try have c4b2 : (9223372036854775807 < (strOfNums y353).size + a0.size) = False := eq_false (Nat.not_lt.2 c4)
     try simp only [ByteArray.size_append] at c4b2
     replace H := Option.bind_eq_some_iff.mp H
     obtain ⟨t356, A50, H⟩ := H
     have A5 := Aside0.mk A50
     clear A50
     by_cases c6 : 0 < (t356.size : Int)
     ·rw [if_pos c6] at H
      have c6b0 := decide_eq_true c6
      have c6b1 : decide (0 < t356.size) = true := decide_eq_true (by omega)
      clear c6
      by_cases c8 : 1 < (t356.size : Int)
      ·rw [if_pos c8] at H
       have c8b0 := decide_eq_true c8
       have c8b1 : decide (1 < t356.size) = true := decide_eq_true (by omega)
       clear c8
       by_cases c10 : 2 < (t356.size : Int)
       ·rw [if_pos c10] at H
        have c10b0 := decide_eq_true c10
        have c10b1 : decide (2 < t356.size) = true := decide_eq_true (by omega)
        clear c10
        by_cases c12 : 3 < (t356.size : Int)
        ·rw [if_pos c12] at H
         have c12b0 := decide_eq_true c12
         have c12b1 : decide (3 < t356.size) = true := decide_eq_true (by omega)
         clear c12
         replace H := Option.bind_eq_some_iff.mp H
         obtain ⟨t357, A140, H⟩ := H
         have A14 := Aside0.mk A140
         clear A140
         replace H := Option.bind_eq_some_iff.mp H
         obtain ⟨t358, A150, H⟩ := H
         have A15 := Aside0.mk A150
         clear A150
         replace H := Option.bind_eq_some_iff.mp H
         obtain ⟨⟨t359, t360⟩, A160, H⟩ := H
         have A16 := Aside0.mk A160
         clear A160
         replace H := Option.bind_eq_some_iff.mp H
         obtain ⟨⟨t361, t362, t363⟩, A170, H⟩ := H
         have A17 := Aside0.mk A170
         clear A170
         by_cases c18 : t360 = true
         ·subst c18
          rw [if_pos rfl] at H
          by_cases c19 : t363 = true
          ·subst c19
           rw [if_pos rfl] at H
           have H' := Aside0.mk H
           clear H
           go_wp2_with (first | ((with_reducible refine gate_dst (N := 15) rfl ?_); refine Kd.R_lit (Kd.int .u8) _ 5 ?hg (N := 15) ?hd (xs := ([(x3_1) % 256] : List Int)) (inner := [.int .u8 ((x3_1) % 256)]) (ok := fun _ => True) (okp := fun _ => True) ?hr ?hp (fun _ hk => hk) trivial (Below.refl _ _) (Nat.le_refl _) (by simp) ?_; (case hd => rfl); (case hg => rfl); (case hr => first | (go_simp; done) | (go_simp; rfl)); (case hp => exact (Reps.one (show Kd.M (Kd.int .u8) _ _ _ ((x3_1) % 256) [.int .u8 ((x3_1) % 256)] from rfl) (Reps.none _ _))); intro v354 w20 ho21 hb hg_ hnew_; clear hg_ hnew_; (first | rw [← Ny353.out] at ho21 | (simp only [Int.reduceToNat] at ho21; rw [← Ny353.out] at ho21)); have HO355 := Aside0.mk (Kd.R_lower ho21 (below_size (bZ HB))); replace BK349 := bB BK349 hb; replace HB := bS HB hb; clear hb ho21; have hcv22 := own_string (P := Tryz.prog) Tryz.underlying22 Tryz.underlying5 Tryz.underlying9 (Kd.own_of_R HO355.out)) | (go_at_call 61; (with_reducible refine (spec_Digest.calls ((strOfNums y353) ++ a0) t356 _ A5.out).mono ?_); rintro e w23 ⟨rfl, hb⟩; replace HO355 := Aside0.mk (Kd.R_below (rP HO355) hb); replace BK349 := bB BK349 hb; replace HB := bS HB hb; (try clear hb); obtain ⟨q7, hx7, qi7⟩ := sX t356 0 0; obtain ⟨q9, hx9, qi9⟩ := sX t356 1 1; obtain ⟨q11, hx11, qi11⟩ := sX t356 2 2; obtain ⟨q13, hx13, qi13⟩ := sX t356 3 3) | (go_at_call 62; (with_reducible refine (spec_FpOf.calls (Go.bits .or .i64 (Go.bits .or .i64 (Go.bits .or .i64 (wrap64 ((wrap64 (bt t356 0)) * 16777216)) (wrap64 ((wrap64 (bt t356 1)) * 65536))) (wrap64 ((wrap64 (bt t356 2)) * 256))) (wrap64 (bt t356 3))) t357 _ A14.out).mono ?_); rintro e w' ⟨rfl, ⟨nd, rfl⟩⟩; (try exact tD)) | (go_at_call 64; (with_reducible refine (spec_l07Right.calls t357 t358 _ A15.out).mono ?_); rintro e w' ⟨rfl, ⟨nd, rfl⟩⟩; (try exact tD)) | (go_at_call 63; (with_reducible refine (spec_FpRoot.calls k1 t358 t359 true _ A16.out).mono ?_); rintro e w' ⟨rfl, ⟨nd, rfl⟩⟩; (try exact tD)) | (go_at_call 65; (with_reducible refine (spec_PointTimes.calls k1 12 t357 t359 false t361 t362 true _ A17.out).mono ?_); rintro e w24 ⟨rfl, hb⟩; replace HO355 := Aside0.mk (Kd.R_below (rP HO355) hb); replace BK349 := bB BK349 hb; replace HB := bS HB hb; (try clear hb)) | ((with_reducible refine gate_dst (N := 8) rfl ?_); refine bE 8 #[.int .i64 0, .int .i64 0, .bool false] 28 ?_; intro gb364 hg w25 hbox hb; replace HO355 := Aside0.mk (Kd.R_below (rP HO355) hb); have BK364 := Aside0.mk (hbox); have GW364 := bG HB hg; replace HB := bS HB hb; obtain ⟨NB349_364, NB364_349⟩ := bN BK349 hg; replace BK349 := bB BK349 hb; clear hb hbox hg; obtain ⟨hnb26, hnc26⟩ := nB NB364_349; obtain ⟨hcz27_0, hcz27_1, hcz27_2, hfz27_0, hfz27_1, hfz27_2⟩ := bK3 (w := w25) BK364))
           repeat (go_quiet (first | ((with_reducible refine gate_dst (N := 15) rfl ?_); refine Kd.R_lit (Kd.int .u8) _ 5 ?hg (N := 15) ?hd (xs := ([(x3_1) % 256] : List Int)) (inner := [.int .u8 ((x3_1) % 256)]) (ok := fun _ => True) (okp := fun _ => True) ?hr ?hp (fun _ hk => hk) trivial (Below.refl _ _) (Nat.le_refl _) (by simp) ?_; (case hd => rfl); (case hg => rfl); (case hr => first | (go_simp; done) | (go_simp; rfl)); (case hp => exact (Reps.one (show Kd.M (Kd.int .u8) _ _ _ ((x3_1) % 256) [.int .u8 ((x3_1) % 256)] from rfl) (Reps.none _ _))); intro v354 w20 ho21 hb hg_ hnew_; clear hg_ hnew_; (first | rw [← Ny353.out] at ho21 | (simp only [Int.reduceToNat] at ho21; rw [← Ny353.out] at ho21)); have HO355 := Aside0.mk (Kd.R_lower ho21 (below_size (bZ HB))); replace BK349 := bB BK349 hb; replace HB := bS HB hb; clear hb ho21; have hcv22 := own_string (P := Tryz.prog) Tryz.underlying22 Tryz.underlying5 Tryz.underlying9 (Kd.own_of_R HO355.out)) | (go_at_call 61; (with_reducible refine (spec_Digest.calls ((strOfNums y353) ++ a0) t356 _ A5.out).mono ?_); rintro e w23 ⟨rfl, hb⟩; replace HO355 := Aside0.mk (Kd.R_below (rP HO355) hb); replace BK349 := bB BK349 hb; replace HB := bS HB hb; (try clear hb); obtain ⟨q7, hx7, qi7⟩ := sX t356 0 0; obtain ⟨q9, hx9, qi9⟩ := sX t356 1 1; obtain ⟨q11, hx11, qi11⟩ := sX t356 2 2; obtain ⟨q13, hx13, qi13⟩ := sX t356 3 3) | (go_at_call 62; (with_reducible refine (spec_FpOf.calls (Go.bits .or .i64 (Go.bits .or .i64 (Go.bits .or .i64 (wrap64 ((wrap64 (bt t356 0)) * 16777216)) (wrap64 ((wrap64 (bt t356 1)) * 65536))) (wrap64 ((wrap64 (bt t356 2)) * 256))) (wrap64 (bt t356 3))) t357 _ A14.out).mono ?_); rintro e w' ⟨rfl, ⟨nd, rfl⟩⟩; (try exact tD)) | (go_at_call 64; (with_reducible refine (spec_l07Right.calls t357 t358 _ A15.out).mono ?_); rintro e w' ⟨rfl, ⟨nd, rfl⟩⟩; (try exact tD)) | (go_at_call 63; (with_reducible refine (spec_FpRoot.calls k1 t358 t359 true _ A16.out).mono ?_); rintro e w' ⟨rfl, ⟨nd, rfl⟩⟩; (try exact tD)) | (go_at_call 65; (with_reducible refine (spec_PointTimes.calls k1 12 t357 t359 false t361 t362 true _ A17.out).mono ?_); rintro e w24 ⟨rfl, hb⟩; replace HO355 := Aside0.mk (Kd.R_below (rP HO355) hb); replace BK349 := bB BK349 hb; replace HB := bS HB hb; (try clear hb)) | ((with_reducible refine gate_dst (N := 8) rfl ?_); refine bE 8 #[.int .i64 0, .int .i64 0, .bool false] 28 ?_; intro gb364 hg w25 hbox hb; replace HO355 := Aside0.mk (Kd.R_below (rP HO355) hb); have BK364 := Aside0.mk (hbox); have GW364 := bG HB hg; replace HB := bS HB hb; obtain ⟨NB349_364, NB364_349⟩ := bN BK349 hg; replace BK349 := bB BK349 hb; clear hb hbox hg; obtain ⟨hnb26, hnc26⟩ := nB NB364_349; obtain ⟨hcz27_0, hcz27_1, hcz27_2, hfz27_0, hfz27_1, hfz27_2⟩ := bK3 (w := w25) BK364)); try go_wp2_with (first | ((with_reducible refine gate_dst (N := 15) rfl ?_); refine Kd.R_lit (Kd.int .u8) _ 5 ?hg (N := 15) ?hd (xs := ([(x3_1) % 256] : List Int)) (inner := [.int .u8 ((x3_1) % 256)]) (ok := fun _ => True) (okp := fun _ => True) ?hr ?hp (fun _ hk => hk) trivial (Below.refl _ _) (Nat.le_refl _) (by simp) ?_; (case hd => rfl); (case hg => rfl); (case hr => first | (go_simp; done) | (go_simp; rfl)); (case hp => exact (Reps.one (show Kd.M (Kd.int .u8) _ _ _ ((x3_1) % 256) [.int .u8 ((x3_1) % 256)] from rfl) (Reps.none _ _))); intro v354 w20 ho21 hb hg_ hnew_; clear hg_ hnew_; (first | rw [← Ny353.out] at ho21 | (simp only [Int.reduceToNat] at ho21; rw [← Ny353.out] at ho21)); have HO355 := Aside0.mk (Kd.R_lower ho21 (below_size (bZ HB))); replace BK349 := bB BK349 hb; replace HB := bS HB hb; clear hb ho21; have hcv22 := own_string (P := Tryz.prog) Tryz.underlying22 Tryz.underlying5 Tryz.underlying9 (Kd.own_of_R HO355.out)) | (go_at_call 61; (with_reducible refine (spec_Digest.calls ((strOfNums y353) ++ a0) t356 _ A5.out).mono ?_); rintro e w23 ⟨rfl, hb⟩; replace HO355 := Aside0.mk (Kd.R_below (rP HO355) hb); replace BK349 := bB BK349 hb; replace HB := bS HB hb; (try clear hb); obtain ⟨q7, hx7, qi7⟩ := sX t356 0 0; obtain ⟨q9, hx9, qi9⟩ := sX t356 1 1; obtain ⟨q11, hx11, qi11⟩ := sX t356 2 2; obtain ⟨q13, hx13, qi13⟩ := sX t356 3 3) | (go_at_call 62; (with_reducible refine (spec_FpOf.calls (Go.bits .or .i64 (Go.bits .or .i64 (Go.bits .or .i64 (wrap64 ((wrap64 (bt t356 0)) * 16777216)) (wrap64 ((wrap64 (bt t356 1)) * 65536))) (wrap64 ((wrap64 (bt t356 2)) * 256))) (wrap64 (bt t356 3))) t357 _ A14.out).mono ?_); rintro e w' ⟨rfl, ⟨nd, rfl⟩⟩; (try exact tD)) | (go_at_call 64; (with_reducible refine (spec_l07Right.calls t357 t358 _ A15.out).mono ?_); rintro e w' ⟨rfl, ⟨nd, rfl⟩⟩; (try exact tD)) | (go_at_call 63; (with_reducible refine (spec_FpRoot.calls k1 t358 t359 true _ A16.out).mono ?_); rintro e w' ⟨rfl, ⟨nd, rfl⟩⟩; (try exact tD)) | (go_at_call 65; (with_reducible refine (spec_PointTimes.calls k1 12 t357 t359 false t361 t362 true _ A17.out).mono ?_); rintro e w24 ⟨rfl, hb⟩; replace HO355 := Aside0.mk (Kd.R_below (rP HO355) hb); replace BK349 := bB BK349 hb; replace HB := bS HB hb; (try clear hb)) | ((with_reducible refine gate_dst (N := 8) rfl ?_); refine bE 8 #[.int .i64 0, .int .i64 0, .bool false] 28 ?_; intro gb364 hg w25 hbox hb; replace HO355 := Aside0.mk (Kd.R_below (rP HO355) hb); have BK364 := Aside0.mk (hbox); have GW364 := bG HB hg; replace HB := bS HB hb; obtain ⟨NB349_364, NB364_349⟩ := bN BK349 hg; replace BK349 := bB BK349 hb; clear hb hbox hg; obtain ⟨hnb26, hnc26⟩ := nB NB364_349; obtain ⟨hcz27_0, hcz27_1, hcz27_2, hfz27_0, hfz27_1, hfz27_2⟩ := bK3 (w := w25) BK364)))
           go_roundg k1
           case measure => have := HK1.out; omega
           case rel => exact ⟨(wrap64 (x3_1 + 1)), (x350000_1), (x350001_1), (x350002_1), rS, H', ⟨by have := HK1.out; omega⟩, ⟨bP BK349⟩, ⟨bZ HB⟩⟩
          ·replace c19 := Bool.eq_false_iff.mpr c19
           subst c19
           rw [if_neg (show ¬ (false = true) by decide)] at H
           simp only [Option.some.injEq, Prod.mk.injEq] at H
           obtain ⟨rfl, rfl, rfl⟩ := H
           go_wp2_with (first | ((with_reducible refine gate_dst (N := 15) rfl ?_); refine Kd.R_lit (Kd.int .u8) _ 5 ?hg (N := 15) ?hd (xs := ([(x3_1) % 256] : List Int)) (inner := [.int .u8 ((x3_1) % 256)]) (ok := fun _ => True) (okp := fun _ => True) ?hr ?hp (fun _ hk => hk) trivial (Below.refl _ _) (Nat.le_refl _) (by simp) ?_; (case hd => rfl); (case hg => rfl); (case hr => first | (go_simp; done) | (go_simp; rfl)); (case hp => exact (Reps.one (show Kd.M (Kd.int .u8) _ _ _ ((x3_1) % 256) [.int .u8 ((x3_1) % 256)] from rfl) (Reps.none _ _))); intro v354 w28 ho29 hb hg_ hnew_; clear hg_ hnew_; (first | rw [← Ny353.out] at ho29 | (simp only [Int.reduceToNat] at ho29; rw [← Ny353.out] at ho29)); have HO355 := Aside0.mk (Kd.R_lower ho29 (below_size (bZ HB))); replace BK349 := bB BK349 hb; replace HB := bS HB hb; clear hb ho29; have hcv30 := own_string (P := Tryz.prog) Tryz.underlying22 Tryz.underlying5 Tryz.underlying9 (Kd.own_of_R HO355.out)) | (go_at_call 61; (with_reducible refine (spec_Digest.calls ((strOfNums y353) ++ a0) t356 _ A5.out).mono ?_); rintro e w31 ⟨rfl, hb⟩; replace HO355 := Aside0.mk (Kd.R_below (rP HO355) hb); replace BK349 := bB BK349 hb; replace HB := bS HB hb; (try clear hb); obtain ⟨q7, hx7, qi7⟩ := sX t356 0 0; obtain ⟨q9, hx9, qi9⟩ := sX t356 1 1; obtain ⟨q11, hx11, qi11⟩ := sX t356 2 2; obtain ⟨q13, hx13, qi13⟩ := sX t356 3 3) | (go_at_call 62; (with_reducible refine (spec_FpOf.calls (Go.bits .or .i64 (Go.bits .or .i64 (Go.bits .or .i64 (wrap64 ((wrap64 (bt t356 0)) * 16777216)) (wrap64 ((wrap64 (bt t356 1)) * 65536))) (wrap64 ((wrap64 (bt t356 2)) * 256))) (wrap64 (bt t356 3))) t357 _ A14.out).mono ?_); rintro e w' ⟨rfl, ⟨nd, rfl⟩⟩; (try exact tD)) | (go_at_call 64; (with_reducible refine (spec_l07Right.calls t357 t358 _ A15.out).mono ?_); rintro e w' ⟨rfl, ⟨nd, rfl⟩⟩; (try exact tD)) | (go_at_call 63; (with_reducible refine (spec_FpRoot.calls k1 t358 t359 true _ A16.out).mono ?_); rintro e w' ⟨rfl, ⟨nd, rfl⟩⟩; (try exact tD)) | (go_at_call 65; (with_reducible refine (spec_PointTimes.calls k1 12 t357 t359 false t361 t362 false _ A17.out).mono ?_); rintro e w32 ⟨rfl, hb⟩; replace HO355 := Aside0.mk (Kd.R_below (rP HO355) hb); replace BK349 := bB BK349 hb; replace HB := bS HB hb; (try clear hb)) | ((with_reducible refine gate_dst (N := 8) rfl ?_); refine bE 8 #[.int .i64 0, .int .i64 0, .bool false] 28 ?_; intro gb364 hg w33 hbox hb; replace HO355 := Aside0.mk (Kd.R_below (rP HO355) hb); have BK364 := Aside0.mk (hbox); have GW364 := bG HB hg; replace HB := bS HB hb; obtain ⟨NB349_364, NB364_349⟩ := bN BK349 hg; replace BK349 := bB BK349 hb; clear hb hbox hg; obtain ⟨hnb34, hnc34⟩ := nB NB364_349; obtain ⟨hcz35_0, hcz35_1, hcz35_2, hfz35_0, hfz35_1, hfz35_2⟩ := bK3 (w := w33) BK364; obtain ⟨hcz36_0, hcz36_1, hcz36_2, hfz36_0, hfz36_1, hfz36_2⟩ := bK3 (w := w33) BK349))
           repeat (go_quiet (first | ((with_reducible refine gate_dst (N := 15) rfl ?_); refine Kd.R_lit (Kd.int .u8) _ 5 ?hg (N := 15) ?hd (xs := ([(x3_1) % 256] : List Int)) (inner := [.int .u8 ((x3_1) % 256)]) (ok := fun _ => True) (okp := fun _ => True) ?hr ?hp (fun _ hk => hk) trivial (Below.refl _ _) (Nat.le_refl _) (by simp) ?_; (case hd => rfl); (case hg => rfl); (case hr => first | (go_simp; done) | (go_simp; rfl)); (case hp => exact (Reps.one (show Kd.M (Kd.int .u8) _ _ _ ((x3_1) % 256) [.int .u8 ((x3_1) % 256)] from rfl) (Reps.none _ _))); intro v354 w28 ho29 hb hg_ hnew_; clear hg_ hnew_; (first | rw [← Ny353.out] at ho29 | (simp only [Int.reduceToNat] at ho29; rw [← Ny353.out] at ho29)); have HO355 := Aside0.mk (Kd.R_lower ho29 (below_size (bZ HB))); replace BK349 := bB BK349 hb; replace HB := bS HB hb; clear hb ho29; have hcv30 := own_string (P := Tryz.prog) Tryz.underlying22 Tryz.underlying5 Tryz.underlying9 (Kd.own_of_R HO355.out)) | (go_at_call 61; (with_reducible refine (spec_Digest.calls ((strOfNums y353) ++ a0) t356 _ A5.out).mono ?_); rintro e w31 ⟨rfl, hb⟩; replace HO355 := Aside0.mk (Kd.R_below (rP HO355) hb); replace BK349 := bB BK349 hb; replace HB := bS HB hb; (try clear hb); obtain ⟨q7, hx7, qi7⟩ := sX t356 0 0; obtain ⟨q9, hx9, qi9⟩ := sX t356 1 1; obtain ⟨q11, hx11, qi11⟩ := sX t356 2 2; obtain ⟨q13, hx13, qi13⟩ := sX t356 3 3) | (go_at_call 62; (with_reducible refine (spec_FpOf.calls (Go.bits .or .i64 (Go.bits .or .i64 (Go.bits .or .i64 (wrap64 ((wrap64 (bt t356 0)) * 16777216)) (wrap64 ((wrap64 (bt t356 1)) * 65536))) (wrap64 ((wrap64 (bt t356 2)) * 256))) (wrap64 (bt t356 3))) t357 _ A14.out).mono ?_); rintro e w' ⟨rfl, ⟨nd, rfl⟩⟩; (try exact tD)) | (go_at_call 64; (with_reducible refine (spec_l07Right.calls t357 t358 _ A15.out).mono ?_); rintro e w' ⟨rfl, ⟨nd, rfl⟩⟩; (try exact tD)) | (go_at_call 63; (with_reducible refine (spec_FpRoot.calls k1 t358 t359 true _ A16.out).mono ?_); rintro e w' ⟨rfl, ⟨nd, rfl⟩⟩; (try exact tD)) | (go_at_call 65; (with_reducible refine (spec_PointTimes.calls k1 12 t357 t359 false t361 t362 false _ A17.out).mono ?_); rintro e w32 ⟨rfl, hb⟩; replace HO355 := Aside0.mk (Kd.R_below (rP HO355) hb); replace BK349 := bB BK349 hb; replace HB := bS HB hb; (try clear hb)) | ((with_reducible refine gate_dst (N := 8) rfl ?_); refine bE 8 #[.int .i64 0, .int .i64 0, .bool false] 28 ?_; intro gb364 hg w33 hbox hb; replace HO355 := Aside0.mk (Kd.R_below (rP HO355) hb); have BK364 := Aside0.mk (hbox); have GW364 := bG HB hg; replace HB := bS HB hb; obtain ⟨NB349_364, NB364_349⟩ := bN BK349 hg; replace BK349 := bB BK349 hb; clear hb hbox hg; obtain ⟨hnb34, hnc34⟩ := nB NB364_349; obtain ⟨hcz35_0, hcz35_1, hcz35_2, hfz35_0, hfz35_1, hfz35_2⟩ := bK3 (w := w33) BK364; obtain ⟨hcz36_0, hcz36_1, hcz36_2, hfz36_0, hfz36_1, hfz36_2⟩ := bK3 (w := w33) BK349)); try go_wp2_with (first | ((with_reducible refine gate_dst (N := 15) rfl ?_); refine Kd.R_lit (Kd.int .u8) _ 5 ?hg (N := 15) ?hd (xs := ([(x3_1) % 256] : List Int)) (inner := [.int .u8 ((x3_1) % 256)]) (ok := fun _ => True) (okp := fun _ => True) ?hr ?hp (fun _ hk => hk) trivial (Below.refl _ _) (Nat.le_refl _) (by simp) ?_; (case hd => rfl); (case hg => rfl); (case hr => first | (go_simp; done) | (go_simp; rfl)); (case hp => exact (Reps.one (show Kd.M (Kd.int .u8) _ _ _ ((x3_1) % 256) [.int .u8 ((x3_1) % 256)] from rfl) (Reps.none _ _))); intro v354 w28 ho29 hb hg_ hnew_; clear hg_ hnew_; (first | rw [← Ny353.out] at ho29 | (simp only [Int.reduceToNat] at ho29; rw [← Ny353.out] at ho29)); have HO355 := Aside0.mk (Kd.R_lower ho29 (below_size (bZ HB))); replace BK349 := bB BK349 hb; replace HB := bS HB hb; clear hb ho29; have hcv30 := own_string (P := Tryz.prog) Tryz.underlying22 Tryz.underlying5 Tryz.underlying9 (Kd.own_of_R HO355.out)) | (go_at_call 61; (with_reducible refine (spec_Digest.calls ((strOfNums y353) ++ a0) t356 _ A5.out).mono ?_); rintro e w31 ⟨rfl, hb⟩; replace HO355 := Aside0.mk (Kd.R_below (rP HO355) hb); replace BK349 := bB BK349 hb; replace HB := bS HB hb; (try clear hb); obtain ⟨q7, hx7, qi7⟩ := sX t356 0 0; obtain ⟨q9, hx9, qi9⟩ := sX t356 1 1; obtain ⟨q11, hx11, qi11⟩ := sX t356 2 2; obtain ⟨q13, hx13, qi13⟩ := sX t356 3 3) | (go_at_call 62; (with_reducible refine (spec_FpOf.calls (Go.bits .or .i64 (Go.bits .or .i64 (Go.bits .or .i64 (wrap64 ((wrap64 (bt t356 0)) * 16777216)) (wrap64 ((wrap64 (bt t356 1)) * 65536))) (wrap64 ((wrap64 (bt t356 2)) * 256))) (wrap64 (bt t356 3))) t357 _ A14.out).mono ?_); rintro e w' ⟨rfl, ⟨nd, rfl⟩⟩; (try exact tD)) | (go_at_call 64; (with_reducible refine (spec_l07Right.calls t357 t358 _ A15.out).mono ?_); rintro e w' ⟨rfl, ⟨nd, rfl⟩⟩; (try exact tD)) | (go_at_call 63; (with_reducible refine (spec_FpRoot.calls k1 t358 t359 true _ A16.out).mono ?_); rintro e w' ⟨rfl, ⟨nd, rfl⟩⟩; (try exact tD)) | (go_at_call 65; (with_reducible refine (spec_PointTimes.calls k1 12 t357 t359 false t361 t362 false _ A17.out).mono ?_); rintro e w32 ⟨rfl, hb⟩; replace HO355 := Aside0.mk (Kd.R_below (rP HO355) hb); replace BK349 := bB BK349 hb; replace HB := bS HB hb; (try clear hb)) | ((with_reducible refine gate_dst (N := 8) rfl ?_); refine bE 8 #[.int .i64 0, .int .i64 0, .bool false] 28 ?_; intro gb364 hg w33 hbox hb; replace HO355 := Aside0.mk (Kd.R_below (rP HO355) hb); have BK364 := Aside0.mk (hbox); have GW364 := bG HB hg; replace HB := bS HB hb; obtain ⟨NB349_364, NB364_349⟩ := bN BK349 hg; replace BK349 := bB BK349 hb; clear hb hbox hg; obtain ⟨hnb34, hnc34⟩ := nB NB364_349; obtain ⟨hcz35_0, hcz35_1, hcz35_2, hfz35_0, hfz35_1, hfz35_2⟩ := bK3 (w := w33) BK364; obtain ⟨hcz36_0, hcz36_1, hcz36_2, hfz36_0, hfz36_1, hfz36_2⟩ := bK3 (w := w33) BK349)))
           refine rC gb349 28 #[.int .i64 t361, .int .i64 t362, .bool false] (bU BK349) Tryz.underlying28 ?_
           exact ⟨rR, bZ HB⟩
         ·replace c18 := Bool.eq_false_iff.mpr c18
          subst c18
          rw [if_neg (show ¬ (false = true) by decide)] at H
          have H' := Aside0.mk H
          clear H
          go_wp2_with (first | ((with_reducible refine gate_dst (N := 15) rfl ?_); refine Kd.R_lit (Kd.int .u8) _ 5 ?hg (N := 15) ?hd (xs := ([(x3_1) % 256] : List Int)) (inner := [.int .u8 ((x3_1) % 256)]) (ok := fun _ => True) (okp := fun _ => True) ?hr ?hp (fun _ hk => hk) trivial (Below.refl _ _) (Nat.le_refl _) (by simp) ?_; (case hd => rfl); (case hg => rfl); (case hr => first | (go_simp; done) | (go_simp; rfl)); (case hp => exact (Reps.one (show Kd.M (Kd.int .u8) _ _ _ ((x3_1) % 256) [.int .u8 ((x3_1) % 256)] from rfl) (Reps.none _ _))); intro v354 w37 ho38 hb hg_ hnew_; clear hg_ hnew_; (first | rw [← Ny353.out] at ho38 | (simp only [Int.reduceToNat] at ho38; rw [← Ny353.out] at ho38)); have HO355 := Aside0.mk (Kd.R_lower ho38 (below_size (bZ HB))); replace BK349 := bB BK349 hb; replace HB := bS HB hb; clear hb ho38; have hcv39 := own_string (P := Tryz.prog) Tryz.underlying22 Tryz.underlying5 Tryz.underlying9 (Kd.own_of_R HO355.out)) | (go_at_call 61; (with_reducible refine (spec_Digest.calls ((strOfNums y353) ++ a0) t356 _ A5.out).mono ?_); rintro e w40 ⟨rfl, hb⟩; replace HO355 := Aside0.mk (Kd.R_below (rP HO355) hb); replace BK349 := bB BK349 hb; replace HB := bS HB hb; (try clear hb); obtain ⟨q7, hx7, qi7⟩ := sX t356 0 0; obtain ⟨q9, hx9, qi9⟩ := sX t356 1 1; obtain ⟨q11, hx11, qi11⟩ := sX t356 2 2; obtain ⟨q13, hx13, qi13⟩ := sX t356 3 3) | (go_at_call 62; (with_reducible refine (spec_FpOf.calls (Go.bits .or .i64 (Go.bits .or .i64 (Go.bits .or .i64 (wrap64 ((wrap64 (bt t356 0)) * 16777216)) (wrap64 ((wrap64 (bt t356 1)) * 65536))) (wrap64 ((wrap64 (bt t356 2)) * 256))) (wrap64 (bt t356 3))) t357 _ A14.out).mono ?_); rintro e w' ⟨rfl, ⟨nd, rfl⟩⟩; (try exact tD)) | (go_at_call 64; (with_reducible refine (spec_l07Right.calls t357 t358 _ A15.out).mono ?_); rintro e w' ⟨rfl, ⟨nd, rfl⟩⟩; (try exact tD)) | (go_at_call 63; (with_reducible refine (spec_FpRoot.calls k1 t358 t359 false _ A16.out).mono ?_); rintro e w' ⟨rfl, ⟨nd, rfl⟩⟩; (try exact tD)) | (go_at_call 65; (with_reducible refine (spec_PointTimes.calls k1 12 t357 t359 false t361 t362 t363 _ A17.out).mono ?_); rintro e w41 ⟨rfl, hb⟩; replace HO355 := Aside0.mk (Kd.R_below (rP HO355) hb); replace BK349 := bB BK349 hb; replace HB := bS HB hb; (try clear hb)) | ((with_reducible refine gate_dst (N := 8) rfl ?_); refine bE 8 #[.int .i64 0, .int .i64 0, .bool false] 28 ?_; intro gb364 hg w42 hbox hb; replace HO355 := Aside0.mk (Kd.R_below (rP HO355) hb); have BK364 := Aside0.mk (hbox); have GW364 := bG HB hg; replace HB := bS HB hb; obtain ⟨NB349_364, NB364_349⟩ := bN BK349 hg; replace BK349 := bB BK349 hb; clear hb hbox hg; obtain ⟨hnb43, hnc43⟩ := nB NB364_349; obtain ⟨hcz44_0, hcz44_1, hcz44_2, hfz44_0, hfz44_1, hfz44_2⟩ := bK3 (w := w42) BK364))
          repeat (go_quiet (first | ((with_reducible refine gate_dst (N := 15) rfl ?_); refine Kd.R_lit (Kd.int .u8) _ 5 ?hg (N := 15) ?hd (xs := ([(x3_1) % 256] : List Int)) (inner := [.int .u8 ((x3_1) % 256)]) (ok := fun _ => True) (okp := fun _ => True) ?hr ?hp (fun _ hk => hk) trivial (Below.refl _ _) (Nat.le_refl _) (by simp) ?_; (case hd => rfl); (case hg => rfl); (case hr => first | (go_simp; done) | (go_simp; rfl)); (case hp => exact (Reps.one (show Kd.M (Kd.int .u8) _ _ _ ((x3_1) % 256) [.int .u8 ((x3_1) % 256)] from rfl) (Reps.none _ _))); intro v354 w37 ho38 hb hg_ hnew_; clear hg_ hnew_; (first | rw [← Ny353.out] at ho38 | (simp only [Int.reduceToNat] at ho38; rw [← Ny353.out] at ho38)); have HO355 := Aside0.mk (Kd.R_lower ho38 (below_size (bZ HB))); replace BK349 := bB BK349 hb; replace HB := bS HB hb; clear hb ho38; have hcv39 := own_string (P := Tryz.prog) Tryz.underlying22 Tryz.underlying5 Tryz.underlying9 (Kd.own_of_R HO355.out)) | (go_at_call 61; (with_reducible refine (spec_Digest.calls ((strOfNums y353) ++ a0) t356 _ A5.out).mono ?_); rintro e w40 ⟨rfl, hb⟩; replace HO355 := Aside0.mk (Kd.R_below (rP HO355) hb); replace BK349 := bB BK349 hb; replace HB := bS HB hb; (try clear hb); obtain ⟨q7, hx7, qi7⟩ := sX t356 0 0; obtain ⟨q9, hx9, qi9⟩ := sX t356 1 1; obtain ⟨q11, hx11, qi11⟩ := sX t356 2 2; obtain ⟨q13, hx13, qi13⟩ := sX t356 3 3) | (go_at_call 62; (with_reducible refine (spec_FpOf.calls (Go.bits .or .i64 (Go.bits .or .i64 (Go.bits .or .i64 (wrap64 ((wrap64 (bt t356 0)) * 16777216)) (wrap64 ((wrap64 (bt t356 1)) * 65536))) (wrap64 ((wrap64 (bt t356 2)) * 256))) (wrap64 (bt t356 3))) t357 _ A14.out).mono ?_); rintro e w' ⟨rfl, ⟨nd, rfl⟩⟩; (try exact tD)) | (go_at_call 64; (with_reducible refine (spec_l07Right.calls t357 t358 _ A15.out).mono ?_); rintro e w' ⟨rfl, ⟨nd, rfl⟩⟩; (try exact tD)) | (go_at_call 63; (with_reducible refine (spec_FpRoot.calls k1 t358 t359 false _ A16.out).mono ?_); rintro e w' ⟨rfl, ⟨nd, rfl⟩⟩; (try exact tD)) | (go_at_call 65; (with_reducible refine (spec_PointTimes.calls k1 12 t357 t359 false t361 t362 t363 _ A17.out).mono ?_); rintro e w41 ⟨rfl, hb⟩; replace HO355 := Aside0.mk (Kd.R_below (rP HO355) hb); replace BK349 := bB BK349 hb; replace HB := bS HB hb; (try clear hb)) | ((with_reducible refine gate_dst (N := 8) rfl ?_); refine bE 8 #[.int .i64 0, .int .i64 0, .bool false] 28 ?_; intro gb364 hg w42 hbox hb; replace HO355 := Aside0.mk (Kd.R_below (rP HO355) hb); have BK364 := Aside0.mk (hbox); have GW364 := bG HB hg; replace HB := bS HB hb; obtain ⟨NB349_364, NB364_349⟩ := bN BK349 hg; replace BK349 := bB BK349 hb; clear hb hbox hg; obtain ⟨hnb43, hnc43⟩ := nB NB364_349; obtain ⟨hcz44_0, hcz44_1, hcz44_2, hfz44_0, hfz44_1, hfz44_2⟩ := bK3 (w := w42) BK364)); try go_wp2_with (first | ((with_reducible refine gate_dst (N := 15) rfl ?_); refine Kd.R_lit (Kd.int .u8) _ 5 ?hg (N := 15) ?hd (xs := ([(x3_1) % 256] : List Int)) (inner := [.int .u8 ((x3_1) % 256)]) (ok := fun _ => True) (okp := fun _ => True) ?hr ?hp (fun _ hk => hk) trivial (Below.refl _ _) (Nat.le_refl _) (by simp) ?_; (case hd => rfl); (case hg => rfl); (case hr => first | (go_simp; done) | (go_simp; rfl)); (case hp => exact (Reps.one (show Kd.M (Kd.int .u8) _ _ _ ((x3_1) % 256) [.int .u8 ((x3_1) % 256)] from rfl) (Reps.none _ _))); intro v354 w37 ho38 hb hg_ hnew_; clear hg_ hnew_; (first | rw [← Ny353.out] at ho38 | (simp only [Int.reduceToNat] at ho38; rw [← Ny353.out] at ho38)); have HO355 := Aside0.mk (Kd.R_lower ho38 (below_size (bZ HB))); replace BK349 := bB BK349 hb; replace HB := bS HB hb; clear hb ho38; have hcv39 := own_string (P := Tryz.prog) Tryz.underlying22 Tryz.underlying5 Tryz.underlying9 (Kd.own_of_R HO355.out)) | (go_at_call 61; (with_reducible refine (spec_Digest.calls ((strOfNums y353) ++ a0) t356 _ A5.out).mono ?_); rintro e w40 ⟨rfl, hb⟩; replace HO355 := Aside0.mk (Kd.R_below (rP HO355) hb); replace BK349 := bB BK349 hb; replace HB := bS HB hb; (try clear hb); obtain ⟨q7, hx7, qi7⟩ := sX t356 0 0; obtain ⟨q9, hx9, qi9⟩ := sX t356 1 1; obtain ⟨q11, hx11, qi11⟩ := sX t356 2 2; obtain ⟨q13, hx13, qi13⟩ := sX t356 3 3) | (go_at_call 62; (with_reducible refine (spec_FpOf.calls (Go.bits .or .i64 (Go.bits .or .i64 (Go.bits .or .i64 (wrap64 ((wrap64 (bt t356 0)) * 16777216)) (wrap64 ((wrap64 (bt t356 1)) * 65536))) (wrap64 ((wrap64 (bt t356 2)) * 256))) (wrap64 (bt t356 3))) t357 _ A14.out).mono ?_); rintro e w' ⟨rfl, ⟨nd, rfl⟩⟩; (try exact tD)) | (go_at_call 64; (with_reducible refine (spec_l07Right.calls t357 t358 _ A15.out).mono ?_); rintro e w' ⟨rfl, ⟨nd, rfl⟩⟩; (try exact tD)) | (go_at_call 63; (with_reducible refine (spec_FpRoot.calls k1 t358 t359 false _ A16.out).mono ?_); rintro e w' ⟨rfl, ⟨nd, rfl⟩⟩; (try exact tD)) | (go_at_call 65; (with_reducible refine (spec_PointTimes.calls k1 12 t357 t359 false t361 t362 t363 _ A17.out).mono ?_); rintro e w41 ⟨rfl, hb⟩; replace HO355 := Aside0.mk (Kd.R_below (rP HO355) hb); replace BK349 := bB BK349 hb; replace HB := bS HB hb; (try clear hb)) | ((with_reducible refine gate_dst (N := 8) rfl ?_); refine bE 8 #[.int .i64 0, .int .i64 0, .bool false] 28 ?_; intro gb364 hg w42 hbox hb; replace HO355 := Aside0.mk (Kd.R_below (rP HO355) hb); have BK364 := Aside0.mk (hbox); have GW364 := bG HB hg; replace HB := bS HB hb; obtain ⟨NB349_364, NB364_349⟩ := bN BK349 hg; replace BK349 := bB BK349 hb; clear hb hbox hg; obtain ⟨hnb43, hnc43⟩ := nB NB364_349; obtain ⟨hcz44_0, hcz44_1, hcz44_2, hfz44_0, hfz44_1, hfz44_2⟩ := bK3 (w := w42) BK364)))
          go_roundg k1
          case measure => have := HK1.out; omega
          case rel => exact ⟨(wrap64 (x3_1 + 1)), (x350000_1), (x350001_1), (x350002_1), rS, H', ⟨by have := HK1.out; omega⟩, ⟨bP BK349⟩, ⟨bZ HB⟩⟩
        ·rw [if_neg c12] at H
         exact absurd H (by simp)
       ·rw [if_neg c10] at H
        exact absurd H (by simp)
      ·rw [if_neg c8] at H
       exact absurd H (by simp)
     ·rw [if_neg c6] at H
      exact absurd H (by simp)
    ·rw [if_neg c4] at H
     exact absurd H (by simp)
   ·rw [if_neg c3] at H
    have c3b0 := decide_eq_false c3
    clear c3
    replace H := Option.bind_eq_some_iff.mp H
    obtain ⟨⟨t350, t351, t352⟩, A450, H⟩ := H
    have A45 := Aside0.mk A450
    clear A450
    simp only [Option.some.injEq, Prod.mk.injEq] at H
    obtain ⟨rfl, rfl, rfl⟩ := H
    go_wp2_with (first | (go_at_call 66; (with_reducible refine (spec_Base.calls  t350 t351 t352 _ A45.out).mono ?_); rintro e w46 ⟨rfl, hb⟩; replace BK349 := bB BK349 hb; replace HB := bS HB hb; (try clear hb); obtain ⟨hcz47_0, hcz47_1, hcz47_2, hfz47_0, hfz47_1, hfz47_2⟩ := bK3 (w := w46) BK349))
    repeat (go_quiet (first | (go_at_call 66; (with_reducible refine (spec_Base.calls  t350 t351 t352 _ A45.out).mono ?_); rintro e w46 ⟨rfl, hb⟩; replace BK349 := bB BK349 hb; replace HB := bS HB hb; (try clear hb); obtain ⟨hcz47_0, hcz47_1, hcz47_2, hfz47_0, hfz47_1, hfz47_2⟩ := bK3 (w := w46) BK349)); try go_wp2_with (first | (go_at_call 66; (with_reducible refine (spec_Base.calls  t350 t351 t352 _ A45.out).mono ?_); rintro e w46 ⟨rfl, hb⟩; replace BK349 := bB BK349 hb; replace HB := bS HB hb; (try clear hb); obtain ⟨hcz47_0, hcz47_1, hcz47_2, hfz47_0, hfz47_1, hfz47_2⟩ := bK3 (w := w46) BK349)))
    refine rC gb349 28 #[.int .i64 t350, .int .i64 t351, .bool t352] (bU BK349) Tryz.underlying28 ?_
    exact ⟨rR, bZ HB⟩
def spec_KeyOf.f (k : Nat) (a0 : Int) : Option (Int × Int × Bool) := (spec_ScOf.f a0).bind fun t337 => ((spec_Base.f).bind fun bt338 => ((spec_PointTimes.f k t337 bt338.1 bt338.2.1 bt338.2.2).bind fun bt341 => (some (bt341.1, bt341.2.1, bt341.2.2))))
set_option maxHeartbeats 8000000 in
set_option maxRecDepth 100000 in
theorem spec_KeyOf.calls (k : Nat) (a0 : Int) (r1 : Int) (r2 : Int) (r3 : Bool) (w : World) (h : spec_KeyOf.f k a0 = some (r1, r2, r3)) :
  Calls Tryz.prog 51 #[.int .i64 a0] w fun e w' => e = .returned (.agg #[.int .i64 r1, .int .i64 r2, .bool r3]) ∧ Below w.heap.size w w' := by
 have hu28 := Tryz.underlying28
 have HB := Aside0.mk (Below.refl w.heap.size w)
 have H : ((spec_ScOf.f a0).bind fun t337 => ((spec_Base.f).bind fun bt338 => ((spec_PointTimes.f k t337 bt338.1 bt338.2.1 bt338.2.2).bind fun bt341 => (some (bt341.1, bt341.2.1, bt341.2.2))))) = some (r1, r2, r3) := h
 clear h
 replace H := Option.bind_eq_some_iff.mp H
 obtain ⟨t337, A20, H⟩ := H
 have A2 := Aside0.mk A20
 clear A20
 replace H := Option.bind_eq_some_iff.mp H
 obtain ⟨⟨t338, t339, t340⟩, A30, H⟩ := H
 have A3 := Aside0.mk A30
 clear A30
 replace H := Option.bind_eq_some_iff.mp H
 obtain ⟨⟨t341, t342, t343⟩, A40, H⟩ := H
 have A4 := Aside0.mk A40
 clear A40
 simp only [Option.some.injEq, Prod.mk.injEq] at H
 obtain ⟨rfl, rfl, rfl⟩ := H
 go_enter Tryz.func51, Tryz.ntmps51
 go_wp2_with (first | (refine gB 2 #[.int .i64 0, .int .i64 0, .bool false] 28 ?_; intro gb336 hg w5 BK336 hb; have GW336 := bG HB hg; replace HB := bS HB hb; clear hb hg) | (refine gC (some 4) Tryz.func16 #[.int .i64 a0] ?_; (with_reducible refine (spec_ScOf.calls a0 t337 _ A2.out).mono ?_); rintro e w' ⟨rfl, ⟨nd, rfl⟩⟩; refine ⟨_, rfl, ?_⟩; (try simp only [World.drewN_drewN]); (try (rw [drewN_self w5]; generalize hq_ : World.drewN w5 _ = w5; replace BK336 : Aside0 (w5.heap[gb336]? = some (.cells #[.int .i64 0, .int .i64 0, .bool false] 28 (0, 0))) := ⟨by rw [← hq_]; exact (bP BK336)⟩; replace HB : Aside0 (Below w.heap.size w w5) := ⟨by rw [← hq_]; exact (bZ HB)⟩; clear hq_))) | (refine gC (some 5) Tryz.func66 #[] ?_; (with_reducible refine (spec_Base.calls  t338 t339 t340 _ A3.out).mono ?_); rintro e w6 ⟨rfl, hb⟩; refine ⟨_, rfl, ?_⟩; replace BK336 := bB BK336 hb; replace HB := bS HB hb; (try clear hb)) | (refine gC (some 6) Tryz.func65 #[.int .i64 t337, .agg #[.int .i64 t338, .int .i64 t339, .bool t340]] ?_; (with_reducible refine (spec_PointTimes.calls k t337 t338 t339 t340 t341 t342 t343 _ A4.out).mono ?_); rintro e w7 ⟨rfl, hb⟩; refine ⟨_, rfl, ?_⟩; replace BK336 := bB BK336 hb; replace HB := bS HB hb; (try clear hb); obtain ⟨hcz8_0, hcz8_1, hcz8_2, hfz8_0, hfz8_1, hfz8_2⟩ := bK3 (w := w7) BK336))
 refine rC gb336 28 #[.int .i64 t341, .int .i64 t342, .bool t343] (bU BK336) Tryz.underlying28 ?_
 exact ⟨rR, bZ HB⟩
def spec_SignWith.f (k : Nat) (a0 : Int) (a1 : ByteArray) : Option (Int × Int × Bool) := (spec_ScOf.f a0).bind fun t366 => ((spec_HashPoint.f k a1).bind fun bt367 => ((spec_PointTimes.f k t366 bt367.1 bt367.2.1 bt367.2.2).bind fun bt370 => (some (bt370.1, bt370.2.1, bt370.2.2))))
set_option maxHeartbeats 8000000 in
set_option maxRecDepth 100000 in
theorem spec_SignWith.calls (k : Nat) (a0 : Int) (a1 : ByteArray) (r1 : Int) (r2 : Int) (r3 : Bool) (w : World) (h : spec_SignWith.f k a0 a1 = some (r1, r2, r3)) :
  Calls Tryz.prog 52 #[.int .i64 a0, .string a1] w fun e w' => e = .returned (.agg #[.int .i64 r1, .int .i64 r2, .bool r3]) ∧ Below w.heap.size w w' := by
 have hu28 := Tryz.underlying28
 have HB := Aside0.mk (Below.refl w.heap.size w)
 have H : ((spec_ScOf.f a0).bind fun t366 => ((spec_HashPoint.f k a1).bind fun bt367 => ((spec_PointTimes.f k t366 bt367.1 bt367.2.1 bt367.2.2).bind fun bt370 => (some (bt370.1, bt370.2.1, bt370.2.2))))) = some (r1, r2, r3) := h
 clear h
 replace H := Option.bind_eq_some_iff.mp H
 obtain ⟨t366, A30, H⟩ := H
 have A3 := Aside0.mk A30
 clear A30
 replace H := Option.bind_eq_some_iff.mp H
 obtain ⟨⟨t367, t368, t369⟩, A40, H⟩ := H
 have A4 := Aside0.mk A40
 clear A40
 replace H := Option.bind_eq_some_iff.mp H
 obtain ⟨⟨t370, t371, t372⟩, A50, H⟩ := H
 have A5 := Aside0.mk A50
 clear A50
 simp only [Option.some.injEq, Prod.mk.injEq] at H
 obtain ⟨rfl, rfl, rfl⟩ := H
 go_enter Tryz.func52, Tryz.ntmps52
 go_wp2_with (first | (refine gB 4 #[.int .i64 0, .int .i64 0, .bool false] 28 ?_; intro gb365 hg w6 BK365 hb; have GW365 := bG HB hg; replace HB := bS HB hb; clear hb hg) | (refine gC (some 6) Tryz.func16 #[.int .i64 a0] ?_; (with_reducible refine (spec_ScOf.calls a0 t366 _ A3.out).mono ?_); rintro e w' ⟨rfl, ⟨nd, rfl⟩⟩; refine ⟨_, rfl, ?_⟩; (try simp only [World.drewN_drewN]); (try (rw [drewN_self w6]; generalize hq_ : World.drewN w6 _ = w6; replace BK365 : Aside0 (w6.heap[gb365]? = some (.cells #[.int .i64 0, .int .i64 0, .bool false] 28 (0, 0))) := ⟨by rw [← hq_]; exact (bP BK365)⟩; replace HB : Aside0 (Below w.heap.size w w6) := ⟨by rw [← hq_]; exact (bZ HB)⟩; clear hq_))) | (refine gC (some 8) Tryz.func22 #[.string a1] ?_; (with_reducible refine (spec_HashPoint.calls k a1 t367 t368 t369 _ A4.out).mono ?_); rintro e w7 ⟨rfl, hb⟩; refine ⟨_, rfl, ?_⟩; replace BK365 := bB BK365 hb; replace HB := bS HB hb; (try clear hb)) | (refine gC (some 9) Tryz.func65 #[.int .i64 t366, .agg #[.int .i64 t367, .int .i64 t368, .bool t369]] ?_; (with_reducible refine (spec_PointTimes.calls k t366 t367 t368 t369 t370 t371 t372 _ A5.out).mono ?_); rintro e w8 ⟨rfl, hb⟩; refine ⟨_, rfl, ?_⟩; replace BK365 := bB BK365 hb; replace HB := bS HB hb; (try clear hb); obtain ⟨hcz9_0, hcz9_1, hcz9_2, hfz9_0, hfz9_1, hfz9_2⟩ := bK3 (w := w8) BK365))
 refine rC gb365 28 #[.int .i64 t370, .int .i64 t371, .bool t372] (bU BK365) Tryz.underlying28 ?_
 exact ⟨rR, bZ HB⟩
def spec_l07Curve.l0 : Nat → Int → Int → List Int → Int → Int → Option (Int × Int × Bool × Int × Int)
 | 0, _, _, _, _, _ => none
 | k + 1, x3, x4, x1000, x1001, x1002 => if x4 < 60 then ((spec_l07Right.f (wrap64 (x3 + x4))).bind fun t380 => ((spec_FpRoot.f k t380).bind fun bt381 => (if bt381.2 = true then (some (wrap64 (x3 + x4), bt381.1, false, x1001, x1002)) else (spec_l07Curve.l0 k x3 (wrap64 (x4 + 1)) x1000 x1001 x1002)))) else ((spec_Base.f).bind fun bt377 => (some (bt377.1, bt377.2.1, bt377.2.2, x1001, x1002)))
def spec_l07Curve.f (k : Nat) (s0_0 : List Int) (s0_1 : Int) (s0_2 : Int) : Option (Int × Int × Bool × Int × Int) := (spec_l01Below.f s0_0 s0_1 s0_2 250).bind fun bt374 => (spec_l07Curve.l0 k bt374.1 0 s0_0 bt374.2.1 bt374.2.2)
set_option maxHeartbeats 8000000 in
set_option maxRecDepth 100000 in
theorem spec_l07Curve.calls (k : Nat) (g : Nat) (s0_0 : List Int) (s0_1 : Int) (s0_2 : Int) (r1 : Int) (r2 : Int) (r3 : Bool) (r4 : Int) (r5 : Int) (w0 w : World) (hI : IsS90 w0 w g s0_0 s0_1 s0_2) (hB : Below w0.heap.size w0 w) (h : spec_l07Curve.f k s0_0 s0_1 s0_2 = some (r1, r2, r3, r4, r5)) :
  Calls Tryz.prog 99 #[.pointer (some ⟨g, 0, none⟩)] w fun e w' => e = .returned (.agg #[.int .i64 r1, .int .i64 r2, .bool r3]) ∧ IsS90 w0 w' g s0_0 r4 r5 ∧ Below w0.heap.size w0 w' ∧ KeepBut w w' g none := by
 have hu28 := Tryz.underlying28
 have HI0 := Aside0.mk hI
 have HK := Aside0.mk (KeepBut.refl w g none)
 have HL := Aside0.mk hB.size
 clear hI
 have HW0 := Aside0.mk hB.size
 have HB := Aside0.mk hB
 clear hB
 have H : ((spec_l01Below.f s0_0 s0_1 s0_2 250).bind fun bt374 => (spec_l07Curve.l0 k bt374.1 0 s0_0 bt374.2.1 bt374.2.2)) = some (r1, r2, r3, r4, r5) := h
 clear h
 replace H := Option.bind_eq_some_iff.mp H
 obtain ⟨⟨t374, t375, t376⟩, A20, H⟩ := H
 have A2 := Aside0.mk A20
 clear A20
 have H' := Aside0.mk H
 clear H
 go_enter Tryz.func99, Tryz.ntmps99
 go_wp2_with (first | ((with_reducible refine gate_dst (N := 2) rfl ?_); refine bE 2 #[.int .i64 0, .int .i64 0, .bool false] 28 ?_; intro gb373 hg w3 hbox hb; replace HB := Aside0.mk (below_step (jZ90 HB HI0) hb); have BK373 := Aside0.mk (hbox); have GW373 := Aside0.mk ((by rw [hg]; exact (keep_size (w := w) (g := g) (row := none) (kZ HK)) : w.heap.size ≤ gb373)); have GE373 := Aside0.mk ((Nat.le_trans HW0.out (by rw [hg]; exact (keep_size (w := w) (g := g) (row := none) (kZ HK)) : w.heap.size ≤ gb373) : w0.heap.size ≤ gb373)); replace HK := Aside0.mk (KeepBut.trans (kZ HK) (KeepBut.of_below hb g none) (.inl rfl)); have NB0_373 := Aside0.mk ((by rw [hg]; exact Nat.ne_of_lt (IsS90.lt (show IsS90 w0 _ g s0_0 s0_1 s0_2 from iZ90 HI0)) : g ≠ gb373)); have NB373_0 := Aside0.mk ((by rw [hg]; exact Nat.ne_of_gt (IsS90.lt (show IsS90 w0 _ g s0_0 s0_1 s0_2 from iZ90 HI0)) : gb373 ≠ g)); replace HI0 := Aside0.mk (IsS90.below (iZ90 HI0) hb); clear hb hbox hg) | (refine gC (some 8) Tryz.func44 #[.pointer (some ⟨g, 0, none⟩), .int .i64 250] ?_; (with_reducible refine (spec_l01Below.calls g s0_0 s0_1 s0_2 250 t374 t375 t376 w0 _ ?side1 ?side2 A2.out).mono ?_); (case side1 => exact iZ90 HI0); (case side2 => exact jZ90 HB HI0); rintro e w4 ⟨rfl, hi, hb, hk⟩; refine ⟨_, rfl, ?_⟩; replace BK373 := Aside0.mk (KeepBut.blk hk (g' := gb373) (o := .cells #[.int .i64 0, .int .i64 0, .bool false] 28 (0, 0)) (bP BK373) NB373_0.out (by simp)); replace HK := Aside0.mk (KeepBut.trans (kZ HK) hk (.inl rfl)); replace HB := Aside0.mk (hb); replace HI0 := Aside0.mk (hi); (try clear hb)))
 go_loopg [4] k (fun kq v4 w' => ∃ (x4_1 : Int) (x374000_1 : Int) (x374001_1 : Int) (x374002_1 : Bool), v4 = .int .i64 x4_1 ∧ Aside0 (spec_l07Curve.l0 kq t374 x4_1 s0_0 t375 t376 = some (r1, r2, r3, r4, r5)) ∧ Aside0 (kq ≤ k) ∧ Aside0 (w'.heap[gb373]? = some (.cells #[.int .i64 x374000_1, .int .i64 x374001_1, .bool x374002_1] 28 (0, 0))) ∧ Aside0 (IsS90 w0 w' g s0_0 t375 t376) ∧ Aside0 (KeepBut w w' g none) ∧ Aside0 (Below w0.heap.size w0 w'))
 case atStart => exact ⟨(0), (0), (0), (false), rS, H', ⟨Nat.le_refl _⟩, ⟨bP BK373⟩, ⟨iZ90 HI0⟩, ⟨kZ HK⟩, ⟨jZ90 HB HI0⟩⟩
 case round =>
  clear H'
  try clear p2
  try clear c4
  obtain ⟨x4_1, x374000_1, x374001_1, x374002_1, rfl, HA, HK1, BK373, HI0, HK, HB⟩ := hrel
  cases gk with
  | zero => exact absurd HA.out (by simp [spec_l07Curve.l0])
  | succ k1 =>
   have H := HA.out
   clear HA
   simp only [spec_l07Curve.l0] at H
   by_cases c5 : x4_1 < 60
   ·rw [if_pos c5] at H
    have c5b0 := decide_eq_true c5
    clear c5
    replace H := Option.bind_eq_some_iff.mp H
    obtain ⟨t380, A60, H⟩ := H
    have A6 := Aside0.mk A60
    clear A60
    replace H := Option.bind_eq_some_iff.mp H
    obtain ⟨⟨t381, t382⟩, A70, H⟩ := H
    have A7 := Aside0.mk A70
    clear A70
    by_cases c8 : t382 = true
    ·subst c8
     rw [if_pos rfl] at H
     simp only [Option.some.injEq, Prod.mk.injEq] at H
     obtain ⟨rfl, rfl, rfl, rfl, rfl⟩ := H
     go_wp2_with (first | (refine gC (some 17) Tryz.func64 #[.int .i64 (wrap64 (t374 + x4_1))] ?_; (with_reducible refine (spec_l07Right.calls (wrap64 (t374 + x4_1)) t380 _ A6.out).mono ?_); rintro e w' ⟨rfl, ⟨nd, rfl⟩⟩; refine ⟨_, rfl, ?_⟩; (try simp only [World.drewN_drewN]); (try (rw [drewN_self wr]; generalize hq_ : World.drewN wr _ = wr; replace BK373 : Aside0 (wr.heap[gb373]? = some (.cells #[.int .i64 x374000_1, .int .i64 x374001_1, .bool x374002_1] 28 (0, 0))) := ⟨by rw [← hq_]; exact (bP BK373)⟩; replace HK : Aside0 (KeepBut w wr g none) := ⟨by rw [← hq_]; exact (kZ HK)⟩; replace HB : Aside0 (Below w0.heap.size w0 wr) := ⟨by rw [← hq_]; exact (jZ90 HB HI0)⟩; replace HI0 : Aside0 (IsS90 w0 wr g s0_0 t375 t376) := ⟨by rw [← hq_]; exact (iZ90 HI0)⟩; clear hq_))) | (refine gC (some 18) Tryz.func63 #[.int .i64 t380] ?_; (with_reducible refine (spec_FpRoot.calls k1 t380 t381 true _ A7.out).mono ?_); rintro e w' ⟨rfl, ⟨nd, rfl⟩⟩; refine ⟨_, rfl, ?_⟩; (try simp only [World.drewN_drewN]); (try (rw [drewN_self wr]; generalize hq_ : World.drewN wr _ = wr; replace BK373 : Aside0 (wr.heap[gb373]? = some (.cells #[.int .i64 x374000_1, .int .i64 x374001_1, .bool x374002_1] 28 (0, 0))) := ⟨by rw [← hq_]; exact (bP BK373)⟩; replace HK : Aside0 (KeepBut w wr g none) := ⟨by rw [← hq_]; exact (kZ HK)⟩; replace HB : Aside0 (Below w0.heap.size w0 wr) := ⟨by rw [← hq_]; exact (jZ90 HB HI0)⟩; replace HI0 : Aside0 (IsS90 w0 wr g s0_0 t375 t376) := ⟨by rw [← hq_]; exact (iZ90 HI0)⟩; clear hq_)); obtain ⟨hnb9, hnc9⟩ := nB NB373_0; obtain ⟨hcz10_0, hcz10_1, hcz10_2, hfz10_0, hfz10_1, hfz10_2⟩ := bK3 (w := wr) BK373))
     refine rC gb373 28 #[.int .i64 (wrap64 (t374 + x4_1)), .int .i64 t381, .bool false] (bU BK373) Tryz.underlying28 ?_
     exact ⟨by first | rfl | (simp [errW_none, errW_some] <;> rfl) | (simp [*, errW_none, errW_some] <;> rfl), iZ90 HI0, jZ90 HB HI0, kZ HK⟩
    ·replace c8 := Bool.eq_false_iff.mpr c8
     subst c8
     rw [if_neg (show ¬ (false = true) by decide)] at H
     have H' := Aside0.mk H
     clear H
     go_wp2_with (first | (refine gC (some 17) Tryz.func64 #[.int .i64 (wrap64 (t374 + x4_1))] ?_; (with_reducible refine (spec_l07Right.calls (wrap64 (t374 + x4_1)) t380 _ A6.out).mono ?_); rintro e w' ⟨rfl, ⟨nd, rfl⟩⟩; refine ⟨_, rfl, ?_⟩) | (refine gC (some 18) Tryz.func63 #[.int .i64 t380] ?_; (with_reducible refine (spec_FpRoot.calls k1 t380 t381 false _ A7.out).mono ?_); rintro e w' ⟨rfl, ⟨nd, rfl⟩⟩; refine ⟨_, rfl, ?_⟩))
     go_roundg k1
     case measure => have := HK1.out; omega
     case rel => exact ⟨(wrap64 (x4_1 + 1)), (x374000_1), (x374001_1), (x374002_1), rS, H', ⟨by have := HK1.out; omega⟩, ⟨bP BK373⟩, ⟨iZ90 HI0⟩, ⟨kZ HK⟩, ⟨jZ90 HB HI0⟩⟩
   ·rw [if_neg c5] at H
    have c5b0 := decide_eq_false c5
    clear c5
    replace H := Option.bind_eq_some_iff.mp H
    obtain ⟨⟨t377, t378, t379⟩, A110, H⟩ := H
    have A11 := Aside0.mk A110
    clear A110
    simp only [Option.some.injEq, Prod.mk.injEq] at H
    obtain ⟨rfl, rfl, rfl, rfl, rfl⟩ := H
    go_wp2_with (first | (refine gC (some 27) Tryz.func66 #[] ?_; (with_reducible refine (spec_Base.calls  t377 t378 t379 _ A11.out).mono ?_); rintro e w12 ⟨rfl, hb⟩; refine ⟨_, rfl, ?_⟩; replace BK373 := bB BK373 hb; replace HK := Aside0.mk (KeepBut.trans (kZ HK) (KeepBut.of_below hb g none) (.inl rfl)); replace HB := Aside0.mk (below_step (jZ90 HB HI0) hb); replace HI0 := Aside0.mk (IsS90.below (iZ90 HI0) hb); (try clear hb); obtain ⟨hnb13, hnc13⟩ := nB NB373_0; obtain ⟨hcz14_0, hcz14_1, hcz14_2, hfz14_0, hfz14_1, hfz14_2⟩ := bK3 (w := w12) BK373))
    refine rC gb373 28 #[.int .i64 t377, .int .i64 t378, .bool t379] (bU BK373) Tryz.underlying28 ?_
    exact ⟨by first | rfl | (simp [errW_none, errW_some] <;> rfl) | (simp [*, errW_none, errW_some] <;> rfl), iZ90 HI0, jZ90 HB HI0, kZ HK⟩
def spec_l04Num.f (s0_0 : List Int) (s0_1 : Int) (s0_2 : Int) : Option (Int × Int × Int) := (spec_l01Below.f s0_0 s0_1 s0_2 256).bind fun bt383 => ((spec_l01Below.f s0_0 bt383.2.1 bt383.2.2 256).bind fun bt386 => ((spec_l01PickInt.f s0_0 bt386.2.1 bt386.2.2 (([0, 1, 2, 3, 12106, 12107, 12108, (-1), wrap64 (5000 + bt383.1), wrap64 (bt386.1 * 47), (-9223372036854775808), 9223372036854775807] : List Int))).bind fun bt392 => (some (bt392.1, bt392.2.1, bt392.2.2))))
set_option maxHeartbeats 8000000 in
set_option maxRecDepth 100000 in
theorem spec_l04Num.calls (g : Nat) (s0_0 : List Int) (s0_1 : Int) (s0_2 : Int) (r1 : Int) (r2 : Int) (r3 : Int) (w0 w : World) (hI : IsS90 w0 w g s0_0 s0_1 s0_2) (hB : Below w0.heap.size w0 w) (h : spec_l04Num.f s0_0 s0_1 s0_2 = some (r1, r2, r3)) :
  Calls Tryz.prog 100 #[.pointer (some ⟨g, 0, none⟩)] w fun e w' => e = .returned (.int .i64 r1) ∧ IsS90 w0 w' g s0_0 r2 r3 ∧ Below w0.heap.size w0 w' ∧ KeepBut w w' g none := by
 have HI0 := Aside0.mk hI
 have HK := Aside0.mk (KeepBut.refl w g none)
 have HL := Aside0.mk hB.size
 clear hI
 have HW0 := Aside0.mk hB.size
 have HB := Aside0.mk hB
 clear hB
 have H : ((spec_l01Below.f s0_0 s0_1 s0_2 256).bind fun bt383 => ((spec_l01Below.f s0_0 bt383.2.1 bt383.2.2 256).bind fun bt386 => ((spec_l01PickInt.f s0_0 bt386.2.1 bt386.2.2 (([0, 1, 2, 3, 12106, 12107, 12108, (-1), wrap64 (5000 + bt383.1), wrap64 (bt386.1 * 47), (-9223372036854775808), 9223372036854775807] : List Int))).bind fun bt392 => (some (bt392.1, bt392.2.1, bt392.2.2))))) = some (r1, r2, r3) := h
 clear h
 replace H := Option.bind_eq_some_iff.mp H
 obtain ⟨⟨t383, t384, t385⟩, A20, H⟩ := H
 have A2 := Aside0.mk A20
 clear A20
 replace H := Option.bind_eq_some_iff.mp H
 obtain ⟨⟨t386, t387, t388⟩, A30, H⟩ := H
 have A3 := Aside0.mk A30
 clear A30
 obtain ⟨y389, hy389⟩ : ∃ y_ : List Int, y_ = (([0, 1, 2, 3, 12106, 12107, 12108, (-1), wrap64 (5000 + t383), wrap64 (t386 * 47), (-9223372036854775808), 9223372036854775807] : List Int)) := ⟨_, rfl⟩
 replace H : ((spec_l01PickInt.f s0_0 t387 t388 y389).bind fun bt392 => (some (bt392.1, bt392.2.1, bt392.2.2))) = some (r1, r2, r3) := by first | (rw [hy389]; with_reducible exact H) | (have H2_ := (Option.bind_some _ _).symm.trans H; rw [hy389]; with_reducible exact H2_) | (have H2_ := (Option.bind_some _ _).symm.trans H; with_reducible exact H2_) | with_reducible exact H | (rw [hy389]; exact H) | exact H
 have Ny389 := Aside0.mk hy389
 clear hy389
 replace H := Option.bind_eq_some_iff.mp H
 obtain ⟨⟨t392, t393, t394⟩, A40, H⟩ := H
 have A4 := Aside0.mk A40
 clear A40
 simp only [Option.some.injEq, Prod.mk.injEq] at H
 obtain ⟨rfl, rfl, rfl⟩ := H
 go_enter Tryz.func100, Tryz.ntmps100
 go_wp2_with (first | (refine gC (some 5) Tryz.func44 #[.pointer (some ⟨g, 0, none⟩), .int .i64 256] ?_; (with_reducible refine (spec_l01Below.calls g s0_0 s0_1 s0_2 256 t383 t384 t385 w0 _ ?side1 ?side2 A2.out).mono ?_); (case side1 => exact iZ90 HI0); (case side2 => exact jZ90 HB HI0); rintro e w5 ⟨rfl, hi, hb, hk⟩; refine ⟨_, rfl, ?_⟩; replace HK := Aside0.mk (KeepBut.trans (kZ HK) hk (.inl rfl)); replace HB := Aside0.mk (hb); replace HI0 := Aside0.mk (hi); (try clear hb)) | (refine gC (some 8) Tryz.func44 #[.pointer (some ⟨g, 0, none⟩), .int .i64 256] ?_; (with_reducible refine (spec_l01Below.calls g s0_0 t384 t385 256 t386 t387 t388 w0 _ ?side1 ?side2 A3.out).mono ?_); (case side1 => exact iZ90 HI0); (case side2 => exact jZ90 HB HI0); rintro e w6 ⟨rfl, hi, hb, hk⟩; refine ⟨_, rfl, ?_⟩; replace HK := Aside0.mk (KeepBut.trans (kZ HK) hk (.inl rfl)); replace HB := Aside0.mk (hb); replace HI0 := Aside0.mk (hi); (try clear hb)) | ((with_reducible refine gate_dst (N := 10) rfl ?_); refine Kd.R_lit (Kd.int .i64) _ 3 ?hg (N := 10) ?hd (xs := ([0, 1, 2, 3, 12106, 12107, 12108, (-1), wrap64 (5000 + t383), wrap64 (t386 * 47), (-9223372036854775808), 9223372036854775807] : List Int)) (inner := [.int .i64 0, .int .i64 1, .int .i64 2, .int .i64 3, .int .i64 12106, .int .i64 12107, .int .i64 12108, .int .i64 (-1), .int .i64 (wrap64 (5000 + t383)), .int .i64 (wrap64 (t386 * 47)), .int .i64 (-9223372036854775808), .int .i64 9223372036854775807]) (ok := fun _ => True) (okp := fun _ => True) ?hr ?hp (fun _ hk => hk) trivial (Below.refl _ _) (Nat.le_refl _) (by simp) ?_; (case hd => rfl); (case hg => rfl); (case hr => first | (go_simp; done) | (go_simp; rfl)); (case hp => exact (Reps.one (show Kd.M (Kd.int .i64) _ _ _ 0 [.int .i64 0] from rfl) (Reps.one (show Kd.M (Kd.int .i64) _ _ _ 1 [.int .i64 1] from rfl) (Reps.one (show Kd.M (Kd.int .i64) _ _ _ 2 [.int .i64 2] from rfl) (Reps.one (show Kd.M (Kd.int .i64) _ _ _ 3 [.int .i64 3] from rfl) (Reps.one (show Kd.M (Kd.int .i64) _ _ _ 12106 [.int .i64 12106] from rfl) (Reps.one (show Kd.M (Kd.int .i64) _ _ _ 12107 [.int .i64 12107] from rfl) (Reps.one (show Kd.M (Kd.int .i64) _ _ _ 12108 [.int .i64 12108] from rfl) (Reps.one (show Kd.M (Kd.int .i64) _ _ _ (-1) [.int .i64 (-1)] from rfl) (Reps.one (show Kd.M (Kd.int .i64) _ _ _ (wrap64 (5000 + t383)) [.int .i64 (wrap64 (5000 + t383))] from rfl) (Reps.one (show Kd.M (Kd.int .i64) _ _ _ (wrap64 (t386 * 47)) [.int .i64 (wrap64 (t386 * 47))] from rfl) (Reps.one (show Kd.M (Kd.int .i64) _ _ _ (-9223372036854775808) [.int .i64 (-9223372036854775808)] from rfl) (Reps.one (show Kd.M (Kd.int .i64) _ _ _ 9223372036854775807 [.int .i64 9223372036854775807] from rfl) (Reps.none _ _)))))))))))))); intro v390 w7 ho8 hb hg_ hnew_; clear hg_ hnew_; (first | rw [← Ny389.out] at ho8 | (simp only [Int.reduceToNat] at ho8; rw [← Ny389.out] at ho8)); have HO391 := Aside0.mk (Kd.R_lower ho8 (keep_size (w := w) (g := g) (row := none) (kZ HK))); replace HK := Aside0.mk (KeepBut.trans (kZ HK) (KeepBut.of_below hb g none) (.inl rfl)); replace HB := Aside0.mk (below_step (jZ90 HB HI0) hb); replace HI0 := Aside0.mk (IsS90.below (iZ90 HI0) hb); clear hb ho8; obtain ⟨Ao9, co9, eo9⟩ := Kd.R_slice HO391.out; subst eo9) | (refine gC (some 11) Tryz.func91 #[.pointer (some ⟨g, 0, none⟩), .slice Ao9 y389.length co9] ?_; (with_reducible refine (spec_l01PickInt.calls g s0_0 t387 t388 _ _ y389 t392 t393 t394 w0 _ ?side1 ?side2 ?side3 ?side4 ?side5 A4.out).mono ?_); (case side1 => exact iZ90 HI0); (case side2 => exact jZ90 HB HI0); (case side3 => exact cP ((Kd.R_reads' HO391.out).2.2)); (case side4 => exact (Kd.R_reads' HO391.out).2.1); (case side5 => exact far_slice (IsS90.own_ne HI0.out HO391.out (by decide))); rintro e w10 ⟨rfl, hi, hb, hk⟩; refine ⟨_, rfl, ?_⟩; replace HO391 := Aside0.mk (Kd.R_mono (Kd.R_keep (IsS90.apart (show IsS90 w0 _ g s0_0 t387 t388 from iZ90 HI0) (rP HO391) (by decide)) hk (fun _ h => h.2)) (fun _ h => h.1)); replace HK := Aside0.mk (KeepBut.trans (kZ HK) hk (.inl rfl)); replace HB := Aside0.mk (hb); replace HI0 := Aside0.mk (hi); (try clear hb)))
 go_ret
 exact ⟨by first | rfl | (simp [errW_none, errW_some] <;> rfl) | (simp [*, errW_none, errW_some] <;> rfl), iZ90 HI0, jZ90 HB HI0, kZ HK⟩
def spec_l07Group.f (k : Nat) (s0_0 : List Int) (s0_1 : Int) (s0_2 : Int) : Option (Int × Int × Bool × Int × Int) := (spec_l01Below.f s0_0 s0_1 s0_2 256).bind fun bt396 => ((spec_l01PickInt.f s0_0 bt396.2.1 bt396.2.2 (([1, 2, 3, 0, 500, 1008, bt396.1] : List Int))).bind fun bt402 => ((spec_Base.f).bind fun bt405 => ((spec_PointTimes.f k bt402.1 bt405.1 bt405.2.1 bt405.2.2).bind fun bt408 => (some (bt408.1, bt408.2.1, bt408.2.2, bt402.2.1, bt402.2.2)))))
set_option maxHeartbeats 8000000 in
set_option maxRecDepth 100000 in
theorem spec_l07Group.calls (k : Nat) (g : Nat) (s0_0 : List Int) (s0_1 : Int) (s0_2 : Int) (r1 : Int) (r2 : Int) (r3 : Bool) (r4 : Int) (r5 : Int) (w0 w : World) (hI : IsS90 w0 w g s0_0 s0_1 s0_2) (hB : Below w0.heap.size w0 w) (h : spec_l07Group.f k s0_0 s0_1 s0_2 = some (r1, r2, r3, r4, r5)) :
  Calls Tryz.prog 101 #[.pointer (some ⟨g, 0, none⟩)] w fun e w' => e = .returned (.agg #[.int .i64 r1, .int .i64 r2, .bool r3]) ∧ IsS90 w0 w' g s0_0 r4 r5 ∧ Below w0.heap.size w0 w' ∧ KeepBut w w' g none := by
 have hu28 := Tryz.underlying28
 have HI0 := Aside0.mk hI
 have HK := Aside0.mk (KeepBut.refl w g none)
 have HL := Aside0.mk hB.size
 clear hI
 have HW0 := Aside0.mk hB.size
 have HB := Aside0.mk hB
 clear hB
 have H : ((spec_l01Below.f s0_0 s0_1 s0_2 256).bind fun bt396 => ((spec_l01PickInt.f s0_0 bt396.2.1 bt396.2.2 (([1, 2, 3, 0, 500, 1008, bt396.1] : List Int))).bind fun bt402 => ((spec_Base.f).bind fun bt405 => ((spec_PointTimes.f k bt402.1 bt405.1 bt405.2.1 bt405.2.2).bind fun bt408 => (some (bt408.1, bt408.2.1, bt408.2.2, bt402.2.1, bt402.2.2)))))) = some (r1, r2, r3, r4, r5) := h
 clear h
 replace H := Option.bind_eq_some_iff.mp H
 obtain ⟨⟨t396, t397, t398⟩, A20, H⟩ := H
 have A2 := Aside0.mk A20
 clear A20
 obtain ⟨y399, hy399⟩ : ∃ y_ : List Int, y_ = (([1, 2, 3, 0, 500, 1008, t396] : List Int)) := ⟨_, rfl⟩
 replace H : ((spec_l01PickInt.f s0_0 t397 t398 y399).bind fun bt402 => ((spec_Base.f).bind fun bt405 => ((spec_PointTimes.f k bt402.1 bt405.1 bt405.2.1 bt405.2.2).bind fun bt408 => (some (bt408.1, bt408.2.1, bt408.2.2, bt402.2.1, bt402.2.2))))) = some (r1, r2, r3, r4, r5) := by first | (rw [hy399]; with_reducible exact H) | (have H2_ := (Option.bind_some _ _).symm.trans H; rw [hy399]; with_reducible exact H2_) | (have H2_ := (Option.bind_some _ _).symm.trans H; with_reducible exact H2_) | with_reducible exact H | (rw [hy399]; exact H) | exact H
 have Ny399 := Aside0.mk hy399
 clear hy399
 replace H := Option.bind_eq_some_iff.mp H
 obtain ⟨⟨t402, t403, t404⟩, A30, H⟩ := H
 have A3 := Aside0.mk A30
 clear A30
 replace H := Option.bind_eq_some_iff.mp H
 obtain ⟨⟨t405, t406, t407⟩, A40, H⟩ := H
 have A4 := Aside0.mk A40
 clear A40
 replace H := Option.bind_eq_some_iff.mp H
 obtain ⟨⟨t408, t409, t410⟩, A50, H⟩ := H
 have A5 := Aside0.mk A50
 clear A50
 simp only [Option.some.injEq, Prod.mk.injEq] at H
 obtain ⟨rfl, rfl, rfl, rfl, rfl⟩ := H
 go_enter Tryz.func101, Tryz.ntmps101
 go_wp2_with (first | ((with_reducible refine gate_dst (N := 2) rfl ?_); refine bE 2 #[.int .i64 0, .int .i64 0, .bool false] 28 ?_; intro gb395 hg w6 hbox hb; replace HB := Aside0.mk (below_step (jZ90 HB HI0) hb); have BK395 := Aside0.mk (hbox); have GW395 := Aside0.mk ((by rw [hg]; exact (keep_size (w := w) (g := g) (row := none) (kZ HK)) : w.heap.size ≤ gb395)); have GE395 := Aside0.mk ((Nat.le_trans HW0.out (by rw [hg]; exact (keep_size (w := w) (g := g) (row := none) (kZ HK)) : w.heap.size ≤ gb395) : w0.heap.size ≤ gb395)); replace HK := Aside0.mk (KeepBut.trans (kZ HK) (KeepBut.of_below hb g none) (.inl rfl)); have NB0_395 := Aside0.mk ((by rw [hg]; exact Nat.ne_of_lt (IsS90.lt (show IsS90 w0 _ g s0_0 s0_1 s0_2 from iZ90 HI0)) : g ≠ gb395)); have NB395_0 := Aside0.mk ((by rw [hg]; exact Nat.ne_of_gt (IsS90.lt (show IsS90 w0 _ g s0_0 s0_1 s0_2 from iZ90 HI0)) : gb395 ≠ g)); replace HI0 := Aside0.mk (IsS90.below (iZ90 HI0) hb); clear hb hbox hg) | (refine gC (some 5) Tryz.func44 #[.pointer (some ⟨g, 0, none⟩), .int .i64 256] ?_; (with_reducible refine (spec_l01Below.calls g s0_0 s0_1 s0_2 256 t396 t397 t398 w0 _ ?side1 ?side2 A2.out).mono ?_); (case side1 => exact iZ90 HI0); (case side2 => exact jZ90 HB HI0); rintro e w7 ⟨rfl, hi, hb, hk⟩; refine ⟨_, rfl, ?_⟩; replace BK395 := Aside0.mk (KeepBut.blk hk (g' := gb395) (o := .cells #[.int .i64 0, .int .i64 0, .bool false] 28 (0, 0)) (bP BK395) NB395_0.out (by simp)); replace HK := Aside0.mk (KeepBut.trans (kZ HK) hk (.inl rfl)); replace HB := Aside0.mk (hb); replace HI0 := Aside0.mk (hi); (try clear hb)) | ((with_reducible refine gate_dst (N := 6) rfl ?_); refine Kd.R_lit (Kd.int .i64) _ 3 ?hg (N := 6) ?hd (xs := ([1, 2, 3, 0, 500, 1008, t396] : List Int)) (inner := [.int .i64 1, .int .i64 2, .int .i64 3, .int .i64 0, .int .i64 500, .int .i64 1008, .int .i64 t396]) (ok := fun _ => True) (okp := fun _ => True) ?hr ?hp (fun _ hk => hk) trivial (Below.refl _ _) (Nat.le_refl _) (by simp) ?_; (case hd => rfl); (case hg => rfl); (case hr => first | (go_simp; done) | (go_simp; rfl)); (case hp => exact (Reps.one (show Kd.M (Kd.int .i64) _ _ _ 1 [.int .i64 1] from rfl) (Reps.one (show Kd.M (Kd.int .i64) _ _ _ 2 [.int .i64 2] from rfl) (Reps.one (show Kd.M (Kd.int .i64) _ _ _ 3 [.int .i64 3] from rfl) (Reps.one (show Kd.M (Kd.int .i64) _ _ _ 0 [.int .i64 0] from rfl) (Reps.one (show Kd.M (Kd.int .i64) _ _ _ 500 [.int .i64 500] from rfl) (Reps.one (show Kd.M (Kd.int .i64) _ _ _ 1008 [.int .i64 1008] from rfl) (Reps.one (show Kd.M (Kd.int .i64) _ _ _ t396 [.int .i64 t396] from rfl) (Reps.none _ _))))))))); intro v400 w8 ho9 hb hg_ hnew_; clear hg_ hnew_; (first | rw [← Ny399.out] at ho9 | (simp only [Int.reduceToNat] at ho9; rw [← Ny399.out] at ho9)); have HO401 := Aside0.mk (Kd.R_lower ho9 (keep_size (w := w) (g := g) (row := none) (kZ HK))); replace BK395 := bB BK395 hb; replace HK := Aside0.mk (KeepBut.trans (kZ HK) (KeepBut.of_below hb g none) (.inl rfl)); replace HB := Aside0.mk (below_step (jZ90 HB HI0) hb); replace HI0 := Aside0.mk (IsS90.below (iZ90 HI0) hb); clear hb ho9; obtain ⟨Ao10, co10, eo10⟩ := Kd.R_slice HO401.out; subst eo10) | (refine gC (some 7) Tryz.func91 #[.pointer (some ⟨g, 0, none⟩), .slice Ao10 y399.length co10] ?_; (with_reducible refine (spec_l01PickInt.calls g s0_0 t397 t398 _ _ y399 t402 t403 t404 w0 _ ?side1 ?side2 ?side3 ?side4 ?side5 A3.out).mono ?_); (case side1 => exact iZ90 HI0); (case side2 => exact jZ90 HB HI0); (case side3 => exact cP ((Kd.R_reads' HO401.out).2.2)); (case side4 => exact (Kd.R_reads' HO401.out).2.1); (case side5 => exact far_slice (IsS90.own_ne HI0.out HO401.out (by decide))); rintro e w11 ⟨rfl, hi, hb, hk⟩; refine ⟨_, rfl, ?_⟩; replace BK395 := Aside0.mk (KeepBut.blk hk (g' := gb395) (o := .cells #[.int .i64 0, .int .i64 0, .bool false] 28 (0, 0)) (bP BK395) NB395_0.out (by simp)); replace HO401 := Aside0.mk (Kd.R_mono (Kd.R_keep (IsS90.apart (show IsS90 w0 _ g s0_0 t397 t398 from iZ90 HI0) (rP HO401) (by decide)) hk (fun _ h => h.2)) (fun _ h => h.1)); replace HK := Aside0.mk (KeepBut.trans (kZ HK) hk (.inl rfl)); replace HB := Aside0.mk (hb); replace HI0 := Aside0.mk (hi); (try clear hb)) | (refine gC (some 8) Tryz.func66 #[] ?_; (with_reducible refine (spec_Base.calls  t405 t406 t407 _ A4.out).mono ?_); rintro e w12 ⟨rfl, hb⟩; refine ⟨_, rfl, ?_⟩; replace HO401 := Aside0.mk (Kd.R_below (rP HO401) hb); replace BK395 := bB BK395 hb; replace HK := Aside0.mk (KeepBut.trans (kZ HK) (KeepBut.of_below hb g none) (.inl rfl)); replace HB := Aside0.mk (below_step (jZ90 HB HI0) hb); replace HI0 := Aside0.mk (IsS90.below (iZ90 HI0) hb); (try clear hb)) | (refine gC (some 9) Tryz.func65 #[.int .i64 t402, .agg #[.int .i64 t405, .int .i64 t406, .bool t407]] ?_; (with_reducible refine (spec_PointTimes.calls k t402 t405 t406 t407 t408 t409 t410 _ A5.out).mono ?_); rintro e w13 ⟨rfl, hb⟩; refine ⟨_, rfl, ?_⟩; replace HO401 := Aside0.mk (Kd.R_below (rP HO401) hb); replace BK395 := bB BK395 hb; replace HK := Aside0.mk (KeepBut.trans (kZ HK) (KeepBut.of_below hb g none) (.inl rfl)); replace HB := Aside0.mk (below_step (jZ90 HB HI0) hb); replace HI0 := Aside0.mk (IsS90.below (iZ90 HI0) hb); (try clear hb); obtain ⟨hnb14, hnc14⟩ := nB NB395_0; obtain ⟨hcz15_0, hcz15_1, hcz15_2, hfz15_0, hfz15_1, hfz15_2⟩ := bK3 (w := w13) BK395))
 refine rC gb395 28 #[.int .i64 t408, .int .i64 t409, .bool t410] (bU BK395) Tryz.underlying28 ?_
 exact ⟨by first | rfl | (simp [errW_none, errW_some] <;> rfl) | (simp [*, errW_none, errW_some] <;> rfl), iZ90 HI0, jZ90 HB HI0, kZ HK⟩
def spec_l07Any.j0 : Nat → Int → Bool → List Int → Int → Int → Option (Int × Int × Bool × Int × Int)
 | 0, _, _, _, _, _ => none
 | k + 1, x4, x5, x1000, x1001, x1002 => if x5 = true then ((spec_l07Curve.f k x1000 x1001 x1002).bind fun bt415 => (some (bt415.1, bt415.2.1, bt415.2.2.1, bt415.2.2.2.1, bt415.2.2.2.2))) else (if x4 = 3 then ((spec_l04Num.f x1000 x1001 x1002).bind fun bt420 => ((spec_l04Num.f x1000 bt420.2.1 bt420.2.2).bind fun bt423 => (some (bt420.1, bt423.1, false, bt423.2.1, bt423.2.2)))) else (if x4 = 4 then ((spec_l01Below.f x1000 x1001 x1002 3).bind fun bt426 => (some (bt426.1, 0, true, bt426.2.1, bt426.2.2))) else (if x4 = 5 then (some (0, 0, false, x1001, x1002)) else ((spec_l07Group.f k x1000 x1001 x1002).bind fun bt429 => (some (bt429.1, bt429.2.1, bt429.2.2.1, bt429.2.2.2.1, bt429.2.2.2.2))))))
def spec_l07Any.f (k : Nat) (s0_0 : List Int) (s0_1 : Int) (s0_2 : Int) : Option (Int × Int × Bool × Int × Int) := (spec_l01Below.f s0_0 s0_1 s0_2 10).bind fun bt412 => (if bt412.1 = 0 then (spec_l07Any.j0 k bt412.1 (bt412.1 == 0) s0_0 bt412.2.1 bt412.2.2) else (if bt412.1 = 1 then (spec_l07Any.j0 k bt412.1 (bt412.1 == 1) s0_0 bt412.2.1 bt412.2.2) else (spec_l07Any.j0 k bt412.1 (bt412.1 == 2) s0_0 bt412.2.1 bt412.2.2)))
set_option maxHeartbeats 8000000 in
set_option maxRecDepth 100000 in
theorem spec_l07Any.calls (k : Nat) (g : Nat) (s0_0 : List Int) (s0_1 : Int) (s0_2 : Int) (r1 : Int) (r2 : Int) (r3 : Bool) (r4 : Int) (r5 : Int) (w0 w : World) (hI : IsS90 w0 w g s0_0 s0_1 s0_2) (hB : Below w0.heap.size w0 w) (h : spec_l07Any.f k s0_0 s0_1 s0_2 = some (r1, r2, r3, r4, r5)) :
  Calls Tryz.prog 59 #[.pointer (some ⟨g, 0, none⟩)] w fun e w' => e = .returned (.agg #[.int .i64 r1, .int .i64 r2, .bool r3]) ∧ IsS90 w0 w' g s0_0 r4 r5 ∧ Below w0.heap.size w0 w' ∧ KeepBut w w' g none := by
 have hu28 := Tryz.underlying28
 have HI0 := Aside0.mk hI
 have HK := Aside0.mk (KeepBut.refl w g none)
 have HL := Aside0.mk hB.size
 clear hI
 have HW0 := Aside0.mk hB.size
 have HB := Aside0.mk hB
 clear hB
 have H : ((spec_l01Below.f s0_0 s0_1 s0_2 10).bind fun bt412 => (if bt412.1 = 0 then (spec_l07Any.j0 k bt412.1 (bt412.1 == 0) s0_0 bt412.2.1 bt412.2.2) else (if bt412.1 = 1 then (spec_l07Any.j0 k bt412.1 (bt412.1 == 1) s0_0 bt412.2.1 bt412.2.2) else (spec_l07Any.j0 k bt412.1 (bt412.1 == 2) s0_0 bt412.2.1 bt412.2.2)))) = some (r1, r2, r3, r4, r5) := h
 clear h
 replace H := Option.bind_eq_some_iff.mp H
 obtain ⟨⟨t412, t413, t414⟩, A20, H⟩ := H
 have A2 := Aside0.mk A20
 clear A20
 have HC3 := Aside0.mk H
 clear H
 go_enter Tryz.func59, Tryz.ntmps59
 go_upto_if 5 with (first | ((with_reducible refine gate_dst (N := 2) rfl ?_); refine bE 2 #[.int .i64 0, .int .i64 0, .bool false] 28 ?_; intro gb411 hg w4 hbox hb; replace HB := Aside0.mk (below_step (jZ90 HB HI0) hb); have BK411 := Aside0.mk (hbox); have GW411 := Aside0.mk ((by rw [hg]; exact (keep_size (w := w) (g := g) (row := none) (kZ HK)) : w.heap.size ≤ gb411)); have GE411 := Aside0.mk ((Nat.le_trans HW0.out (by rw [hg]; exact (keep_size (w := w) (g := g) (row := none) (kZ HK)) : w.heap.size ≤ gb411) : w0.heap.size ≤ gb411)); replace HK := Aside0.mk (KeepBut.trans (kZ HK) (KeepBut.of_below hb g none) (.inl rfl)); have NB0_411 := Aside0.mk ((by rw [hg]; exact Nat.ne_of_lt (IsS90.lt (show IsS90 w0 _ g s0_0 s0_1 s0_2 from iZ90 HI0)) : g ≠ gb411)); have NB411_0 := Aside0.mk ((by rw [hg]; exact Nat.ne_of_gt (IsS90.lt (show IsS90 w0 _ g s0_0 s0_1 s0_2 from iZ90 HI0)) : gb411 ≠ g)); replace HI0 := Aside0.mk (IsS90.below (iZ90 HI0) hb); clear hb hbox hg) | (refine gC (some 4) Tryz.func44 #[.pointer (some ⟨g, 0, none⟩), .int .i64 10] ?_; (with_reducible refine (spec_l01Below.calls g s0_0 s0_1 s0_2 10 t412 t413 t414 w0 _ ?side1 ?side2 A2.out).mono ?_); (case side1 => exact iZ90 HI0); (case side2 => exact jZ90 HB HI0); rintro e w5 ⟨rfl, hi, hb, hk⟩; refine ⟨_, rfl, ?_⟩; replace BK411 := Aside0.mk (KeepBut.blk hk (g' := gb411) (o := .cells #[.int .i64 0, .int .i64 0, .bool false] 28 (0, 0)) (bP BK411) NB411_0.out (by simp)); replace HK := Aside0.mk (KeepBut.trans (kZ HK) hk (.inl rfl)); replace HB := Aside0.mk (hb); replace HI0 := Aside0.mk (hi); (try clear hb)))
 (try simp only [Act.put, List.setIfInBounds_toArray, List.set_cons_zero, List.set_cons_succ])
 go_cut [5] (fun v5 wc => ∃ (kq : Nat) (x5_2 : Bool), v5 = .bool x5_2 ∧ Aside0 (spec_l07Any.j0 kq t412 x5_2 s0_0 t413 t414 = some (r1, r2, r3, r4, r5)) ∧ Aside0 (kq ≤ k) ∧ Aside0 (wc.heap[gb411]? = some (.cells #[.int .i64 0, .int .i64 0, .bool false] 28 (0, 0))) ∧ Aside0 (IsS90 w0 wc g s0_0 t413 t414) ∧ Aside0 (KeepBut w wc g none) ∧ Aside0 (Below w0.heap.size w0 wc))
 case first =>
  have H := HC3.out
  clear HC3
  by_cases c6 : t412 = 0
  ·rw [if_pos c6] at H
   have c6b0 : (t412 == 0) = true := beq_iff_eq.mpr c6
   have c6b1 : (t412 != 0) = false := bne_eq_false_iff_eq.mpr c6
   clear c6
   (first | rw [c6b0] | (simp only [i64_w, i32_w]; rw [c6b0]) | rw [c6b1] | skip)
   have H' := Aside0.mk H
   clear H
   go_wp2
   go_meet
   case rel => exact ⟨_, ((t412 == 0)), rS, H', ⟨by first | omega | exact Nat.le_refl _⟩, ⟨bP BK411⟩, ⟨iZ90 HI0⟩, ⟨kZ HK⟩, ⟨jZ90 HB HI0⟩⟩
  ·rw [if_neg c6] at H
   have c6b0 : (t412 == 0) = false := beq_eq_false_iff_ne.mpr c6
   have c6b1 : (t412 != 0) = true := bne_iff_ne.mpr c6
   (first | rw [c6b0] | (simp only [i64_w, i32_w]; rw [c6b0]) | rw [c6b1] | skip)
   by_cases c7 : t412 = 1
   ·rw [if_pos c7] at H
    have c7b0 : (t412 == 1) = true := beq_iff_eq.mpr c7
    have c7b1 : (t412 != 1) = false := bne_eq_false_iff_eq.mpr c7
    clear c7
    have H' := Aside0.mk H
    clear H
    go_wp2
    go_meet
    case rel => exact ⟨_, ((t412 == 1)), rS, H', ⟨by first | omega | exact Nat.le_refl _⟩, ⟨bP BK411⟩, ⟨iZ90 HI0⟩, ⟨kZ HK⟩, ⟨jZ90 HB HI0⟩⟩
   ·rw [if_neg c7] at H
    have c7b0 : (t412 == 1) = false := beq_eq_false_iff_ne.mpr c7
    have c7b1 : (t412 != 1) = true := bne_iff_ne.mpr c7
    have H' := Aside0.mk H
    clear H
    go_wp2
    go_meet
    case rel => exact ⟨_, ((t412 == 2)), rS, H', ⟨by first | omega | exact Nat.le_refl _⟩, ⟨bP BK411⟩, ⟨iZ90 HI0⟩, ⟨kZ HK⟩, ⟨jZ90 HB HI0⟩⟩
 case rest =>
  clear HC3
  try clear p2
  try clear c4
  try clear c5
  try clear c6
  try clear c6b0
  try clear c6b1
  try clear c7
  try clear c7b0
  try clear c7b1
  obtain ⟨kq, x5_2, rfl, HA, HJ2, BK411, HI0, HK, HB⟩ := hcut
  cases kq with
  | zero => exact absurd HA.out (by simp [spec_l07Any.j0])
  | succ kj2 =>
   have H := HA.out
   clear HA
   simp only [spec_l07Any.j0] at H
   by_cases c8 : x5_2 = true
   ·subst c8
    rw [if_pos rfl] at H
    replace H := Option.bind_eq_some_iff.mp H
    obtain ⟨⟨t415, t416, t417, t418, t419⟩, A90, H⟩ := H
    have A9 := Aside0.mk A90
    clear A90
    simp only [Option.some.injEq, Prod.mk.injEq] at H
    obtain ⟨rfl, rfl, rfl, rfl, rfl⟩ := H
    go_wp2_with (first | (refine gC (some 10) Tryz.func99 #[.pointer (some ⟨g, 0, none⟩)] ?_; (with_reducible refine (spec_l07Curve.calls kj2 g s0_0 t413 t414 t415 t416 t417 t418 t419 w0 _ ?side1 ?side2 A9.out).mono ?_); (case side1 => exact iZ90 HI0); (case side2 => exact jZ90 HB HI0); rintro e w10 ⟨rfl, hi, hb, hk⟩; refine ⟨_, rfl, ?_⟩; replace BK411 := Aside0.mk (KeepBut.blk hk (g' := gb411) (o := .cells #[.int .i64 0, .int .i64 0, .bool false] 28 (0, 0)) (bP BK411) NB411_0.out (by simp)); replace HK := Aside0.mk (KeepBut.trans (kZ HK) hk (.inl rfl)); replace HB := Aside0.mk (hb); replace HI0 := Aside0.mk (hi); (try clear hb); obtain ⟨hnb11, hnc11⟩ := nB NB411_0; obtain ⟨hcz12_0, hcz12_1, hcz12_2, hfz12_0, hfz12_1, hfz12_2⟩ := bK3 (w := w10) BK411))
    refine rC gb411 28 #[.int .i64 t415, .int .i64 t416, .bool t417] (bU BK411) Tryz.underlying28 ?_
    exact ⟨by first | rfl | (simp [errW_none, errW_some] <;> rfl) | (simp [*, errW_none, errW_some] <;> rfl), iZ90 HI0, jZ90 HB HI0, kZ HK⟩
   ·replace c8 := Bool.eq_false_iff.mpr c8
    subst c8
    rw [if_neg (show ¬ (false = true) by decide)] at H
    by_cases c13 : t412 = 3
    ·rw [if_pos c13] at H
     have c13b0 : (t412 == 3) = true := beq_iff_eq.mpr c13
     have c13b1 : (t412 != 3) = false := bne_eq_false_iff_eq.mpr c13
     clear c13
     replace H := Option.bind_eq_some_iff.mp H
     obtain ⟨⟨t420, t421, t422⟩, A140, H⟩ := H
     have A14 := Aside0.mk A140
     clear A140
     replace H := Option.bind_eq_some_iff.mp H
     obtain ⟨⟨t423, t424, t425⟩, A150, H⟩ := H
     have A15 := Aside0.mk A150
     clear A150
     simp only [Option.some.injEq, Prod.mk.injEq] at H
     obtain ⟨rfl, rfl, rfl, rfl, rfl⟩ := H
     go_wp2_with (first | (refine gC (some 14) Tryz.func100 #[.pointer (some ⟨g, 0, none⟩)] ?_; (with_reducible refine (spec_l04Num.calls g s0_0 t413 t414 t420 t421 t422 w0 _ ?side1 ?side2 A14.out).mono ?_); (case side1 => exact iZ90 HI0); (case side2 => exact jZ90 HB HI0); rintro e w16 ⟨rfl, hi, hb, hk⟩; refine ⟨_, rfl, ?_⟩; replace BK411 := Aside0.mk (KeepBut.blk hk (g' := gb411) (o := .cells #[.int .i64 0, .int .i64 0, .bool false] 28 (0, 0)) (bP BK411) NB411_0.out (by simp)); replace HK := Aside0.mk (KeepBut.trans (kZ HK) hk (.inl rfl)); replace HB := Aside0.mk (hb); replace HI0 := Aside0.mk (hi); (try clear hb)) | (refine gC (some 16) Tryz.func100 #[.pointer (some ⟨g, 0, none⟩)] ?_; (with_reducible refine (spec_l04Num.calls g s0_0 t421 t422 t423 t424 t425 w0 _ ?side1 ?side2 A15.out).mono ?_); (case side1 => exact iZ90 HI0); (case side2 => exact jZ90 HB HI0); rintro e w17 ⟨rfl, hi, hb, hk⟩; refine ⟨_, rfl, ?_⟩; replace BK411 := Aside0.mk (KeepBut.blk hk (g' := gb411) (o := .cells #[.int .i64 0, .int .i64 0, .bool false] 28 (0, 0)) (bP BK411) NB411_0.out (by simp)); replace HK := Aside0.mk (KeepBut.trans (kZ HK) hk (.inl rfl)); replace HB := Aside0.mk (hb); replace HI0 := Aside0.mk (hi); (try clear hb); obtain ⟨hnb18, hnc18⟩ := nB NB411_0; obtain ⟨hcz19_0, hcz19_1, hcz19_2, hfz19_0, hfz19_1, hfz19_2⟩ := bK3 (w := w17) BK411))
     refine rC gb411 28 #[.int .i64 t420, .int .i64 t423, .bool false] (bU BK411) Tryz.underlying28 ?_
     exact ⟨by first | rfl | (simp [errW_none, errW_some] <;> rfl) | (simp [*, errW_none, errW_some] <;> rfl), iZ90 HI0, jZ90 HB HI0, kZ HK⟩
    ·rw [if_neg c13] at H
     have c13b0 : (t412 == 3) = false := beq_eq_false_iff_ne.mpr c13
     have c13b1 : (t412 != 3) = true := bne_iff_ne.mpr c13
     by_cases c20 : t412 = 4
     ·rw [if_pos c20] at H
      have c20b0 : (t412 == 4) = true := beq_iff_eq.mpr c20
      have c20b1 : (t412 != 4) = false := bne_eq_false_iff_eq.mpr c20
      clear c20
      replace H := Option.bind_eq_some_iff.mp H
      obtain ⟨⟨t426, t427, t428⟩, A210, H⟩ := H
      have A21 := Aside0.mk A210
      clear A210
      simp only [Option.some.injEq, Prod.mk.injEq] at H
      obtain ⟨rfl, rfl, rfl, rfl, rfl⟩ := H
      go_wp2_with (first | (refine gC (some 21) Tryz.func44 #[.pointer (some ⟨g, 0, none⟩), .int .i64 3] ?_; (with_reducible refine (spec_l01Below.calls g s0_0 t413 t414 3 t426 t427 t428 w0 _ ?side1 ?side2 A21.out).mono ?_); (case side1 => exact iZ90 HI0); (case side2 => exact jZ90 HB HI0); rintro e w22 ⟨rfl, hi, hb, hk⟩; refine ⟨_, rfl, ?_⟩; replace BK411 := Aside0.mk (KeepBut.blk hk (g' := gb411) (o := .cells #[.int .i64 0, .int .i64 0, .bool false] 28 (0, 0)) (bP BK411) NB411_0.out (by simp)); replace HK := Aside0.mk (KeepBut.trans (kZ HK) hk (.inl rfl)); replace HB := Aside0.mk (hb); replace HI0 := Aside0.mk (hi); (try clear hb); obtain ⟨hnb23, hnc23⟩ := nB NB411_0; obtain ⟨hcz24_0, hcz24_1, hcz24_2, hfz24_0, hfz24_1, hfz24_2⟩ := bK3 (w := w22) BK411))
      refine rC gb411 28 #[.int .i64 t426, .int .i64 0, .bool true] (bU BK411) Tryz.underlying28 ?_
      exact ⟨by first | rfl | (simp [errW_none, errW_some] <;> rfl) | (simp [*, errW_none, errW_some] <;> rfl), iZ90 HI0, jZ90 HB HI0, kZ HK⟩
     ·rw [if_neg c20] at H
      have c20b0 : (t412 == 4) = false := beq_eq_false_iff_ne.mpr c20
      have c20b1 : (t412 != 4) = true := bne_iff_ne.mpr c20
      by_cases c25 : t412 = 5
      ·rw [if_pos c25] at H
       have c25b0 : (t412 == 5) = true := beq_iff_eq.mpr c25
       have c25b1 : (t412 != 5) = false := bne_eq_false_iff_eq.mpr c25
       clear c25
       simp only [Option.some.injEq, Prod.mk.injEq] at H
       obtain ⟨rfl, rfl, rfl, rfl, rfl⟩ := H
       obtain ⟨hnb26, hnc26⟩ := nB NB411_0
       obtain ⟨hcz27_0, hcz27_1, hcz27_2, hfz27_0, hfz27_1, hfz27_2⟩ := bK3 (w := wc) BK411
       go_wp2
       refine rC gb411 28 #[.int .i64 0, .int .i64 0, .bool false] (bU BK411) Tryz.underlying28 ?_
       exact ⟨by first | rfl | (simp [errW_none, errW_some] <;> rfl) | (simp [*, errW_none, errW_some] <;> rfl), iZ90 HI0, jZ90 HB HI0, kZ HK⟩
      ·rw [if_neg c25] at H
       have c25b0 : (t412 == 5) = false := beq_eq_false_iff_ne.mpr c25
       have c25b1 : (t412 != 5) = true := bne_iff_ne.mpr c25
       replace H := Option.bind_eq_some_iff.mp H
       obtain ⟨⟨t429, t430, t431, t432, t433⟩, A280, H⟩ := H
       have A28 := Aside0.mk A280
       clear A280
       simp only [Option.some.injEq, Prod.mk.injEq] at H
       obtain ⟨rfl, rfl, rfl, rfl, rfl⟩ := H
       go_wp2_with (first | (refine gC (some 27) Tryz.func101 #[.pointer (some ⟨g, 0, none⟩)] ?_; (with_reducible refine (spec_l07Group.calls kj2 g s0_0 t413 t414 t429 t430 t431 t432 t433 w0 _ ?side1 ?side2 A28.out).mono ?_); (case side1 => exact iZ90 HI0); (case side2 => exact jZ90 HB HI0); rintro e w29 ⟨rfl, hi, hb, hk⟩; refine ⟨_, rfl, ?_⟩; replace BK411 := Aside0.mk (KeepBut.blk hk (g' := gb411) (o := .cells #[.int .i64 0, .int .i64 0, .bool false] 28 (0, 0)) (bP BK411) NB411_0.out (by simp)); replace HK := Aside0.mk (KeepBut.trans (kZ HK) hk (.inl rfl)); replace HB := Aside0.mk (hb); replace HI0 := Aside0.mk (hi); (try clear hb); obtain ⟨hnb30, hnc30⟩ := nB NB411_0; obtain ⟨hcz31_0, hcz31_1, hcz31_2, hfz31_0, hfz31_1, hfz31_2⟩ := bK3 (w := w29) BK411))
       refine rC gb411 28 #[.int .i64 t429, .int .i64 t430, .bool t431] (bU BK411) Tryz.underlying28 ?_
       exact ⟨by first | rfl | (simp [errW_none, errW_some] <;> rfl) | (simp [*, errW_none, errW_some] <;> rfl), iZ90 HI0, jZ90 HB HI0, kZ HK⟩
def spec_DrawSigOk.f (k : Nat) (l0 : List Int) : Option (Int × Int × Bool × ByteArray × Int × Int × Bool) := (spec_l01New.f k l0).bind fun bt436 => ((spec_l01Below.f bt436.1 bt436.2.1 bt436.2.2 6).bind fun bt440 => ((spec_l09Secret.f bt436.1 bt440.2.1 bt440.2.2).bind fun bt443 => ((spec_l01Below.f bt436.1 bt443.2.1 bt443.2.2 6).bind fun bt446 => ((spec_l01Text.f k bt436.1 bt446.2.1 bt446.2.2 bt446.1).bind fun bt449 => ((spec_KeyOf.f k bt443.1).bind fun bt452 => ((spec_SignWith.f k bt443.1 bt449.1).bind fun bt456 => (if bt440.1 = 0 then (if bt449.1.size + 1 ≤ 9223372036854775807 then (some (bt452.1, bt452.2.1, bt452.2.2, bt449.1 ++ (⟨#[120]⟩ : ByteArray), bt456.1, bt456.2.1, bt456.2.2)) else (none)) else (if bt440.1 = 1 then ((spec_l07Any.f k bt436.1 bt449.2.1 bt449.2.2).bind fun bt460 => (some (bt460.1, bt460.2.1, bt460.2.2.1, bt449.1, bt456.1, bt456.2.1, bt456.2.2))) else (if bt440.1 = 2 then ((spec_l07Any.f k bt436.1 bt449.2.1 bt449.2.2).bind fun bt465 => (some (bt452.1, bt452.2.1, bt452.2.2, bt449.1, bt465.1, bt465.2.1, bt465.2.2.1))) else (some (bt452.1, bt452.2.1, bt452.2.2, bt449.1, bt456.1, bt456.2.1, bt456.2.2)))))))))))
set_option maxHeartbeats 8000000 in
set_option maxRecDepth 100000 in
theorem spec_DrawSigOk.calls (k : Nat) (A0 : Option Addr) (c0 : Nat) (l0 : List Int) (r1 : Int) (r2 : Int) (r3 : Bool) (r4 : ByteArray) (r5 : Int) (r6 : Int) (r7 : Bool) (w : World) (hr0 : Kd.C (Kd.int .u8) w A0 l0.length l0) (hc0 : l0.length ≤ c0) (h : spec_DrawSigOk.f k l0 = some (r1, r2, r3, r4, r5, r6, r7)) :
  Calls Tryz.prog 18 #[.slice A0 l0.length c0] w fun e w' => e = .returned (.tuple #[.agg #[.int .i64 r1, .int .i64 r2, .bool r3], .string r4, .agg #[.int .i64 r5, .int .i64 r6, .bool r7]]) ∧ Below w.heap.size w w' := by
 have hu28 := Tryz.underlying28
 have HR0 := Aside0.mk hr0
 have HC0 := Aside0.mk hc0
 clear hr0 hc0
 have HB := Aside0.mk (Below.refl w.heap.size w)
 have H : ((spec_l01New.f k l0).bind fun bt436 => ((spec_l01Below.f bt436.1 bt436.2.1 bt436.2.2 6).bind fun bt440 => ((spec_l09Secret.f bt436.1 bt440.2.1 bt440.2.2).bind fun bt443 => ((spec_l01Below.f bt436.1 bt443.2.1 bt443.2.2 6).bind fun bt446 => ((spec_l01Text.f k bt436.1 bt446.2.1 bt446.2.2 bt446.1).bind fun bt449 => ((spec_KeyOf.f k bt443.1).bind fun bt452 => ((spec_SignWith.f k bt443.1 bt449.1).bind fun bt456 => (if bt440.1 = 0 then (if bt449.1.size + 1 ≤ 9223372036854775807 then (some (bt452.1, bt452.2.1, bt452.2.2, bt449.1 ++ (⟨#[120]⟩ : ByteArray), bt456.1, bt456.2.1, bt456.2.2)) else (none)) else (if bt440.1 = 1 then ((spec_l07Any.f k bt436.1 bt449.2.1 bt449.2.2).bind fun bt460 => (some (bt460.1, bt460.2.1, bt460.2.2.1, bt449.1, bt456.1, bt456.2.1, bt456.2.2))) else (if bt440.1 = 2 then ((spec_l07Any.f k bt436.1 bt449.2.1 bt449.2.2).bind fun bt465 => (some (bt452.1, bt452.2.1, bt452.2.2, bt449.1, bt465.1, bt465.2.1, bt465.2.2.1))) else (some (bt452.1, bt452.2.1, bt452.2.2, bt449.1, bt456.1, bt456.2.1, bt456.2.2)))))))))))) = some (r1, r2, r3, r4, r5, r6, r7) := h
 clear h
 replace H := Option.bind_eq_some_iff.mp H
 obtain ⟨⟨t436, t437, t438⟩, A20, H⟩ := H
 have A2 := Aside0.mk A20
 clear A20
 replace H := Option.bind_eq_some_iff.mp H
 obtain ⟨⟨t440, t441, t442⟩, A30, H⟩ := H
 have A3 := Aside0.mk A30
 clear A30
 replace H := Option.bind_eq_some_iff.mp H
 obtain ⟨⟨t443, t444, t445⟩, A40, H⟩ := H
 have A4 := Aside0.mk A40
 clear A40
 replace H := Option.bind_eq_some_iff.mp H
 obtain ⟨⟨t446, t447, t448⟩, A50, H⟩ := H
 have A5 := Aside0.mk A50
 clear A50
 replace H := Option.bind_eq_some_iff.mp H
 obtain ⟨⟨t449, t450, t451⟩, A60, H⟩ := H
 have A6 := Aside0.mk A60
 clear A60
 replace H := Option.bind_eq_some_iff.mp H
 obtain ⟨⟨t452, t453, t454⟩, A70, H⟩ := H
 have A7 := Aside0.mk A70
 clear A70
 replace H := Option.bind_eq_some_iff.mp H
 obtain ⟨⟨t456, t457, t458⟩, A80, H⟩ := H
 have A8 := Aside0.mk A80
 clear A80
 by_cases c9 : t440 = 0
 ·rw [if_pos c9] at H
  have c9b0 : (t440 == 0) = true := beq_iff_eq.mpr c9
  have c9b1 : (t440 != 0) = false := bne_eq_false_iff_eq.mpr c9
  clear c9
  by_cases c10 : t449.size + 1 ≤ 9223372036854775807
  ·rw [if_pos c10] at H
   have c10b0 := eq_true c10
   have c10b1 := decide_eq_true c10
   try have c10b2 : (9223372036854775807 < t449.size + 1) = False := eq_false (Nat.not_lt.2 c10)
   try simp only [ByteArray.size_append] at c10b2
   simp only [Option.some.injEq, Prod.mk.injEq] at H
   obtain ⟨rfl, rfl, rfl, rfl, rfl, rfl, rfl⟩ := H
   go_enter Tryz.func18, Tryz.ntmps18
   try go_wp2_with (first | (refine gB 2 #[.int .i64 0, .int .i64 0, .bool false] 28 ?_; intro gb434 hg w11 BK434 hb; have GW434 := bG HB hg; have GE434 := bG HB hg; replace HB := bS HB hb; clear hb hg) | (refine gB 4 #[.int .i64 0, .int .i64 0, .bool false] 28 ?_; intro gb435 hg w12 BK435 hb; have GW435 := bG HB hg; have GE435 := bG HB hg; replace HB := bS HB hb; obtain ⟨NB434_435, NB435_434⟩ := bN BK434 hg; replace BK434 := bB BK434 hb; clear hb hg) | (refine gC (some 12) Tryz.func42 #[.slice A0 l0.length c0] ?_; (with_reducible refine (spec_l01New.calls k _ _ l0 t436 t437 t438 w _ ?side1 ?side2 ?side3 A2.out).mono ?_); (case side1 => repeat (first | (with_reducible first | exact HB.out | apply below_alloc | apply pw_below_drewN | apply below_drew1 | refine below_set ?_ GE434.out | refine below_set ?_ GE435.out) | exact HB.out)); (case side2 => exact HR0.out); (case side3 => exact HC0.out); rintro e w13 ⟨g439, rfl, hi, hb, hb2⟩; refine ⟨_, rfl, ?_⟩; replace HB := Aside0.mk (hb); have HI439 := Aside0.mk (hi); have NB439_434 := Aside0.mk (IsS90.ne_blk hi (blk_below (bP BK434) hb2) (by decide)); have NB434_439 := Aside0.mk (Ne.symm (IsS90.ne_blk hi (blk_below (bP BK434) hb2) (by decide))); replace BK434 := Aside0.mk (blk_below (bP BK434) hb2); have NB439_435 := Aside0.mk (IsS90.ne_blk hi (blk_below (bP BK435) hb2) (by decide)); have NB435_439 := Aside0.mk (Ne.symm (IsS90.ne_blk hi (blk_below (bP BK435) hb2) (by decide))); replace BK435 := Aside0.mk (blk_below (bP BK435) hb2); (try clear hb)) | (refine gC (some 14) Tryz.func44 #[.pointer (some ⟨g439, 0, none⟩), .int .i64 6] ?_; (with_reducible refine (spec_l01Below.calls g439 t436 t437 t438 6 t440 t441 t442 w _ ?side1 ?side2 A3.out).mono ?_); (case side1 => exact iZ90 HI439); (case side2 => exact jZ90 HB HI439); rintro e w14 ⟨rfl, hi, hb, hk⟩; refine ⟨_, rfl, ?_⟩; replace BK434 := Aside0.mk (KeepBut.blk hk (g' := gb434) (o := .cells #[.int .i64 0, .int .i64 0, .bool false] 28 (0, 0)) (bP BK434) NB434_439.out (by simp)); replace BK435 := Aside0.mk (KeepBut.blk hk (g' := gb435) (o := .cells #[.int .i64 0, .int .i64 0, .bool false] 28 (0, 0)) (bP BK435) NB435_439.out (by simp)); replace HB := Aside0.mk (hb); replace HI439 := Aside0.mk (hi); (try clear hb)) | (refine gC (some 16) Tryz.func50 #[.pointer (some ⟨g439, 0, none⟩)] ?_; (with_reducible refine (spec_l09Secret.calls g439 t436 t441 t442 t443 t444 t445 w _ ?side1 ?side2 A4.out).mono ?_); (case side1 => exact iZ90 HI439); (case side2 => exact jZ90 HB HI439); rintro e w15 ⟨rfl, hi, hb, hk⟩; refine ⟨_, rfl, ?_⟩; replace BK434 := Aside0.mk (KeepBut.blk hk (g' := gb434) (o := .cells #[.int .i64 0, .int .i64 0, .bool false] 28 (0, 0)) (bP BK434) NB434_439.out (by simp)); replace BK435 := Aside0.mk (KeepBut.blk hk (g' := gb435) (o := .cells #[.int .i64 0, .int .i64 0, .bool false] 28 (0, 0)) (bP BK435) NB435_439.out (by simp)); replace HB := Aside0.mk (hb); replace HI439 := Aside0.mk (hi); (try clear hb)) | (refine gC (some 19) Tryz.func44 #[.pointer (some ⟨g439, 0, none⟩), .int .i64 6] ?_; (with_reducible refine (spec_l01Below.calls g439 t436 t444 t445 6 t446 t447 t448 w _ ?side1 ?side2 A5.out).mono ?_); (case side1 => exact iZ90 HI439); (case side2 => exact jZ90 HB HI439); rintro e w16 ⟨rfl, hi, hb, hk⟩; refine ⟨_, rfl, ?_⟩; replace BK434 := Aside0.mk (KeepBut.blk hk (g' := gb434) (o := .cells #[.int .i64 0, .int .i64 0, .bool false] 28 (0, 0)) (bP BK434) NB434_439.out (by simp)); replace BK435 := Aside0.mk (KeepBut.blk hk (g' := gb435) (o := .cells #[.int .i64 0, .int .i64 0, .bool false] 28 (0, 0)) (bP BK435) NB435_439.out (by simp)); replace HB := Aside0.mk (hb); replace HI439 := Aside0.mk (hi); (try clear hb)) | (refine gC (some 20) Tryz.func49 #[.pointer (some ⟨g439, 0, none⟩), .int .i64 t446] ?_; (with_reducible refine (spec_l01Text.calls k g439 t436 t447 t448 t446 t449 t450 t451 w _ ?side1 ?side2 A6.out).mono ?_); (case side1 => exact iZ90 HI439); (case side2 => exact jZ90 HB HI439); rintro e w17 ⟨rfl, hi, hb, hk⟩; refine ⟨_, rfl, ?_⟩; replace BK434 := Aside0.mk (KeepBut.blk hk (g' := gb434) (o := .cells #[.int .i64 0, .int .i64 0, .bool false] 28 (0, 0)) (bP BK434) NB434_439.out (by simp)); replace BK435 := Aside0.mk (KeepBut.blk hk (g' := gb435) (o := .cells #[.int .i64 0, .int .i64 0, .bool false] 28 (0, 0)) (bP BK435) NB435_439.out (by simp)); replace HB := Aside0.mk (hb); replace HI439 := Aside0.mk (hi); (try clear hb)) | (refine gC (some 22) Tryz.func51 #[.int .i64 t443] ?_; (with_reducible refine (spec_KeyOf.calls k t443 t452 t453 t454 _ A7.out).mono ?_); rintro e w18 ⟨rfl, hb⟩; refine ⟨_, rfl, ?_⟩; replace BK434 := bB BK434 hb; replace BK435 := bB BK435 hb; replace HB := Aside0.mk (below_step (jZ90 HB HI439) hb); replace HI439 := Aside0.mk (IsS90.below (iZ90 HI439) hb); (try clear hb)) | (refine gB 9 #[.int .i64 0, .int .i64 0, .bool false] 28 ?_; intro gb455 hg w19 BK455 hb; have GW455 := Aside0.mk ((by rw [hg]; exact (below_size (jZ90 HB HI439)) : w.heap.size ≤ gb455)); have GE455 := Aside0.mk ((by rw [hg]; exact (below_size (jZ90 HB HI439)) : w.heap.size ≤ gb455)); replace HB := Aside0.mk (below_step (jZ90 HB HI439) hb); obtain ⟨NB434_455, NB455_434⟩ := bN BK434 hg; replace BK434 := bB BK434 hb; obtain ⟨NB435_455, NB455_435⟩ := bN BK435 hg; replace BK435 := bB BK435 hb; have NB439_455 := Aside0.mk ((by rw [hg]; exact Nat.ne_of_lt (IsS90.lt (show IsS90 w _ g439 t436 t450 t451 from iZ90 HI439)) : g439 ≠ gb455)); have NB455_439 := Aside0.mk ((by rw [hg]; exact Nat.ne_of_gt (IsS90.lt (show IsS90 w _ g439 t436 t450 t451 from iZ90 HI439)) : gb455 ≠ g439)); replace HI439 := Aside0.mk (IsS90.below (iZ90 HI439) hb); clear hb hg; obtain ⟨hnb20, hnc20⟩ := nB NB455_434; obtain ⟨hnb21, hnc21⟩ := nB NB455_435; obtain ⟨hnb22, hnc22⟩ := nB NB455_439; obtain ⟨hcz23_0, hcz23_1, hcz23_2, hfz23_0, hfz23_1, hfz23_2⟩ := bK3 (w := w19) BK455) | (refine gC (some 25) Tryz.func52 #[.int .i64 t443, .string t449] ?_; (with_reducible refine (spec_SignWith.calls k t443 t449 t456 t457 t458 _ A8.out).mono ?_); rintro e w24 ⟨rfl, hb⟩; refine ⟨_, rfl, ?_⟩; replace BK434 := bB BK434 hb; replace BK435 := bB BK435 hb; replace BK455 := bV 28 #[.int .i64 t452, .int .i64 t453, .bool t454] BK455 hb; replace HB := Aside0.mk (below_step (jZ90 HB HI439) hb); replace HI439 := Aside0.mk (IsS90.below (show IsS90 w (((w19.setCell ⟨gb455, 0, none⟩ (.int .i64 t452)).setCell ⟨gb455, 1, none⟩ (.int .i64 t453)).setCell ⟨gb455, 2, none⟩ (.bool t454)) g439 t436 t450 t451 from iZ90 HI439) hb); (try clear hb)) | (refine gB 10 #[.int .i64 0, .int .i64 0, .bool false] 28 ?_; intro gb459 hg w25 BK459 hb; have GW459 := Aside0.mk ((by rw [hg]; exact (below_size (jZ90 HB HI439)) : w.heap.size ≤ gb459)); have GE459 := Aside0.mk ((by rw [hg]; exact (below_size (jZ90 HB HI439)) : w.heap.size ≤ gb459)); replace HB := Aside0.mk (below_step (jZ90 HB HI439) hb); obtain ⟨NB434_459, NB459_434⟩ := bN BK434 hg; replace BK434 := bB BK434 hb; obtain ⟨NB435_459, NB459_435⟩ := bN BK435 hg; replace BK435 := bB BK435 hb; obtain ⟨NB455_459, NB459_455⟩ := bN BK455 hg; replace BK455 := bB BK455 hb; have NB439_459 := Aside0.mk ((by rw [hg]; exact Nat.ne_of_lt (IsS90.lt (show IsS90 w _ g439 t436 t450 t451 from iZ90 HI439)) : g439 ≠ gb459)); have NB459_439 := Aside0.mk ((by rw [hg]; exact Nat.ne_of_gt (IsS90.lt (show IsS90 w _ g439 t436 t450 t451 from iZ90 HI439)) : gb459 ≠ g439)); replace HI439 := Aside0.mk (IsS90.below (iZ90 HI439) hb); clear hb hg; obtain ⟨hnb26, hnc26⟩ := nB NB459_434; obtain ⟨hnb27, hnc27⟩ := nB NB459_435; obtain ⟨hnb28, hnc28⟩ := nB NB459_455; obtain ⟨hnb29, hnc29⟩ := nB NB459_439; obtain ⟨hcz30_0, hcz30_1, hcz30_2, hfz30_0, hfz30_1, hfz30_2⟩ := bK3 (w := w25) BK459))
   obtain ⟨w31, hW_⟩ : ∃ W_ : World, W_ = (((w25.setCell ⟨gb459, 0, none⟩ (.int .i64 t456)).setCell ⟨gb459, 1, none⟩ (.int .i64 t457)).setCell ⟨gb459, 2, none⟩ (.bool t458)) := ⟨_, rfl⟩
   replace BK434 := bW hW_ BK434
   replace BK435 := bW hW_ BK435
   replace BK455 := bW hW_ BK455
   replace BK459 := bX hW_ 28 #[.int .i64 t456, .int .i64 t457, .bool t458] BK459
   have n4_ : Aside0 (IsS90 w (((w25.setCell ⟨gb459, 0, none⟩ (.int .i64 t456)).setCell ⟨gb459, 1, none⟩ (.int .i64 t457)).setCell ⟨gb459, 2, none⟩ (.bool t458)) g439 t436 t450 t451) := ⟨iZ90 HI439⟩
   rw [← hW_] at n4_
   have n5_ : Aside0 (Below w.heap.size w (((w25.setCell ⟨gb459, 0, none⟩ (.int .i64 t456)).setCell ⟨gb459, 1, none⟩ (.int .i64 t457)).setCell ⟨gb459, 2, none⟩ (.bool t458))) := ⟨jZ90 HB HI439⟩
   rw [← hW_] at n5_
   (try clear HI439)
   (try clear HB)
   have HI439 := n4_
   clear n4_
   have HB := n5_
   clear n5_
   rw [← hW_]
   clear hW_
   replace BK434 := Aside0.mk (blk_drew BK434.out)
   replace BK435 := Aside0.mk (blk_drew BK435.out)
   replace BK455 := Aside0.mk (blk_drew BK455.out)
   replace BK459 := Aside0.mk (blk_drew BK459.out)
   replace HI439 := Aside0.mk (IsS90.drew HI439.out)
   replace HB := Aside0.mk (below_drew1 HB.out)
   refine start_ (n := 6) (S := fun w' => SP3 w' gb455 (.int .i64 t452) (.int .i64 t453) (.bool t454) (SQ3 w' gb459 (.int .i64 t456) (.int .i64 t457) (.bool t458))) (ds := []) #[false, false, false, false, false, false] (by kernel_rfl) rfl rfl (bS3 BK455 (bT3 BK459)) (fun hHeld => ?_)
   generalize w31.drew = w32 at BK434 BK435 BK455 BK459 HI439 HB hHeld ⊢
   refine pJ 1 (some 40) ?_
   refine tJ 0 (some 39) hHeld ?_
   refine tJ 2 (some 41) hHeld ?_
   refine one_ (i := 3) (N := none) #[true, true, true, true, false, false] rfl rfl (by kernel_rfl) (by decide) (fun K hK => ?_)
   have hs33 : w32.cell? ⟨gb434, 0, none⟩ = some (.int .i64 0) := bc BK434 0
   have hfs33 := blk_frozen BK434.out 0
   have hns33_1 := NB435_434.out
   have hns33_2 := NB455_434.out
   have hns33_3 := NB459_434.out
   have hms33_1 := NB434_435.out
   have hms33_2 := NB434_455.out
   have hms33_3 := NB434_459.out
   have hs34 : w32.cell? ⟨gb434, 1, none⟩ = some (.int .i64 0) := bc BK434 1
   have hfs34 := blk_frozen BK434.out 1
   have hns34_1 := NB435_434.out
   have hns34_2 := NB455_434.out
   have hns34_3 := NB459_434.out
   have hms34_1 := NB434_435.out
   have hms34_2 := NB434_455.out
   have hms34_3 := NB434_459.out
   have hs35 : w32.cell? ⟨gb434, 2, none⟩ = some (.bool false) := bc BK434 2
   have hfs35 := blk_frozen BK434.out 2
   have hns35_1 := NB435_434.out
   have hns35_2 := NB455_434.out
   have hns35_3 := NB459_434.out
   have hms35_1 := NB434_435.out
   have hms35_2 := NB434_455.out
   have hms35_3 := NB434_459.out
   refine skip_ (w1 := ?_) (by rfl) rfl ?_ ?_
   rotate_left
   ·go_simp
    rfl
   refine hK.out _ _ ⟨((cell_far (p := ⟨gb434, _, none⟩) NB455_434.out _).trans (((cell_far (p := ⟨gb434, _, none⟩) NB455_434.out _).trans (((cell_far (p := ⟨gb434, _, none⟩) NB455_434.out _).trans (hHeld.1)))))), ((cell_far (p := ⟨gb434, _, none⟩) NB455_434.out _).trans (((cell_far (p := ⟨gb434, _, none⟩) NB455_434.out _).trans (((cell_far (p := ⟨gb434, _, none⟩) NB455_434.out _).trans (hHeld.2.1)))))), ((cell_far (p := ⟨gb434, _, none⟩) NB455_434.out _).trans (((cell_far (p := ⟨gb434, _, none⟩) NB455_434.out _).trans (((cell_far (p := ⟨gb434, _, none⟩) NB455_434.out _).trans (hHeld.2.2.1)))))), ((cell_far (p := ⟨gb434, _, none⟩) NB459_434.out _).trans (((cell_far (p := ⟨gb434, _, none⟩) NB459_434.out _).trans (((cell_far (p := ⟨gb434, _, none⟩) NB459_434.out _).trans (hHeld.2.2.2.1)))))), ((cell_far (p := ⟨gb434, _, none⟩) NB459_434.out _).trans (((cell_far (p := ⟨gb434, _, none⟩) NB459_434.out _).trans (((cell_far (p := ⟨gb434, _, none⟩) NB459_434.out _).trans (hHeld.2.2.2.2.1)))))), ((cell_far (p := ⟨gb434, _, none⟩) NB459_434.out _).trans (((cell_far (p := ⟨gb434, _, none⟩) NB459_434.out _).trans (((cell_far (p := ⟨gb434, _, none⟩) NB459_434.out _).trans (hHeld.2.2.2.2.2))))))⟩ (fun hHeld => ?_)
   clear hK K
   refine pJ 4 (some 3) ?_
   refine one_ (i := 5) (N := none) #[true, true, true, true, true, true] rfl rfl (by kernel_rfl) (by decide) (fun K hK => ?_)
   have hs36 : w32.cell? ⟨gb435, 0, none⟩ = some (.int .i64 0) := bc BK435 0
   have hfs36 := blk_frozen BK435.out 0
   have hns36_0 := NB434_435.out
   have hns36_2 := NB455_435.out
   have hns36_3 := NB459_435.out
   have hms36_0 := NB435_434.out
   have hms36_2 := NB435_455.out
   have hms36_3 := NB435_459.out
   have hs37 : w32.cell? ⟨gb435, 1, none⟩ = some (.int .i64 0) := bc BK435 1
   have hfs37 := blk_frozen BK435.out 1
   have hns37_0 := NB434_435.out
   have hns37_2 := NB455_435.out
   have hns37_3 := NB459_435.out
   have hms37_0 := NB435_434.out
   have hms37_2 := NB435_455.out
   have hms37_3 := NB435_459.out
   have hs38 : w32.cell? ⟨gb435, 2, none⟩ = some (.bool false) := bc BK435 2
   have hfs38 := blk_frozen BK435.out 2
   have hns38_0 := NB434_435.out
   have hns38_2 := NB455_435.out
   have hns38_3 := NB459_435.out
   have hms38_0 := NB435_434.out
   have hms38_2 := NB435_455.out
   have hms38_3 := NB435_459.out
   refine skip_ (w1 := ?_) (by rfl) rfl ?_ ?_
   rotate_left
   ·go_simp
    rfl
   refine hK.out _ _ ⟨((cell_far (p := ⟨gb435, _, none⟩) NB455_435.out _).trans (((cell_far (p := ⟨gb435, _, none⟩) NB455_435.out _).trans (((cell_far (p := ⟨gb435, _, none⟩) NB455_435.out _).trans (hHeld.1)))))), ((cell_far (p := ⟨gb435, _, none⟩) NB455_435.out _).trans (((cell_far (p := ⟨gb435, _, none⟩) NB455_435.out _).trans (((cell_far (p := ⟨gb435, _, none⟩) NB455_435.out _).trans (hHeld.2.1)))))), ((cell_far (p := ⟨gb435, _, none⟩) NB455_435.out _).trans (((cell_far (p := ⟨gb435, _, none⟩) NB455_435.out _).trans (((cell_far (p := ⟨gb435, _, none⟩) NB455_435.out _).trans (hHeld.2.2.1)))))), ((cell_far (p := ⟨gb435, _, none⟩) NB459_435.out _).trans (((cell_far (p := ⟨gb435, _, none⟩) NB459_435.out _).trans (((cell_far (p := ⟨gb435, _, none⟩) NB459_435.out _).trans (hHeld.2.2.2.1)))))), ((cell_far (p := ⟨gb435, _, none⟩) NB459_435.out _).trans (((cell_far (p := ⟨gb435, _, none⟩) NB459_435.out _).trans (((cell_far (p := ⟨gb435, _, none⟩) NB459_435.out _).trans (hHeld.2.2.2.2.1)))))), ((cell_far (p := ⟨gb435, _, none⟩) NB459_435.out _).trans (((cell_far (p := ⟨gb435, _, none⟩) NB459_435.out _).trans (((cell_far (p := ⟨gb435, _, none⟩) NB459_435.out _).trans (hHeld.2.2.2.2.2))))))⟩ (fun hHeld => ?_)
   clear hK K
   refine done_ (by kernel_rfl) ?_
   try go_wp2
   refine bodyPost_ret (results_list (rs := [.cell 2 28, .tmp 3, .cell 4 28]) rfl (by simp) (.cell gb434 28 #[.int .i64 t452, .int .i64 t453, .bool t454] (0, 0) _ rfl (bU BK434) Tryz.underlying28 rfl (by kernel_rfl) (.tmp (.cell gb435 28 #[.int .i64 t456, .int .i64 t457, .bool t458] (0, 0) _ rfl (bU BK435) Tryz.underlying28 rfl (by kernel_rfl) .nil)))) rfl ?_
   exact ⟨by first | rfl | (simp [errW_none, errW_some] <;> rfl) | (simp [*, errW_none, errW_some] <;> rfl), jZ90 HB HI439⟩
  ·rw [if_neg c10] at H
   exact absurd H (by simp)
 ·rw [if_neg c9] at H
  have c9b0 : (t440 == 0) = false := beq_eq_false_iff_ne.mpr c9
  have c9b1 : (t440 != 0) = true := bne_iff_ne.mpr c9
  by_cases c39 : t440 = 1
  ·rw [if_pos c39] at H
   have c39b0 : (t440 == 1) = true := beq_iff_eq.mpr c39
   have c39b1 : (t440 != 1) = false := bne_eq_false_iff_eq.mpr c39
   clear c39
   replace H := Option.bind_eq_some_iff.mp H
   obtain ⟨⟨t460, t461, t462, t463, t464⟩, A400, H⟩ := H
   have A40 := Aside0.mk A400
   clear A400
   simp only [Option.some.injEq, Prod.mk.injEq] at H
   obtain ⟨rfl, rfl, rfl, rfl, rfl, rfl, rfl⟩ := H
   go_enter Tryz.func18, Tryz.ntmps18
   try go_wp2_with (first | (refine gB 2 #[.int .i64 0, .int .i64 0, .bool false] 28 ?_; intro gb434 hg w41 BK434 hb; have GW434 := bG HB hg; have GE434 := bG HB hg; replace HB := bS HB hb; clear hb hg) | (refine gB 4 #[.int .i64 0, .int .i64 0, .bool false] 28 ?_; intro gb435 hg w42 BK435 hb; have GW435 := bG HB hg; have GE435 := bG HB hg; replace HB := bS HB hb; obtain ⟨NB434_435, NB435_434⟩ := bN BK434 hg; replace BK434 := bB BK434 hb; clear hb hg) | (refine gC (some 12) Tryz.func42 #[.slice A0 l0.length c0] ?_; (with_reducible refine (spec_l01New.calls k _ _ l0 t436 t437 t438 w _ ?side1 ?side2 ?side3 A2.out).mono ?_); (case side1 => repeat (first | (with_reducible first | exact HB.out | apply below_alloc | apply pw_below_drewN | apply below_drew1 | refine below_set ?_ GE434.out | refine below_set ?_ GE435.out) | exact HB.out)); (case side2 => exact HR0.out); (case side3 => exact HC0.out); rintro e w43 ⟨g439, rfl, hi, hb, hb2⟩; refine ⟨_, rfl, ?_⟩; replace HB := Aside0.mk (hb); have HI439 := Aside0.mk (hi); have NB439_434 := Aside0.mk (IsS90.ne_blk hi (blk_below (bP BK434) hb2) (by decide)); have NB434_439 := Aside0.mk (Ne.symm (IsS90.ne_blk hi (blk_below (bP BK434) hb2) (by decide))); replace BK434 := Aside0.mk (blk_below (bP BK434) hb2); have NB439_435 := Aside0.mk (IsS90.ne_blk hi (blk_below (bP BK435) hb2) (by decide)); have NB435_439 := Aside0.mk (Ne.symm (IsS90.ne_blk hi (blk_below (bP BK435) hb2) (by decide))); replace BK435 := Aside0.mk (blk_below (bP BK435) hb2); (try clear hb)) | (refine gC (some 14) Tryz.func44 #[.pointer (some ⟨g439, 0, none⟩), .int .i64 6] ?_; (with_reducible refine (spec_l01Below.calls g439 t436 t437 t438 6 t440 t441 t442 w _ ?side1 ?side2 A3.out).mono ?_); (case side1 => exact iZ90 HI439); (case side2 => exact jZ90 HB HI439); rintro e w44 ⟨rfl, hi, hb, hk⟩; refine ⟨_, rfl, ?_⟩; replace BK434 := Aside0.mk (KeepBut.blk hk (g' := gb434) (o := .cells #[.int .i64 0, .int .i64 0, .bool false] 28 (0, 0)) (bP BK434) NB434_439.out (by simp)); replace BK435 := Aside0.mk (KeepBut.blk hk (g' := gb435) (o := .cells #[.int .i64 0, .int .i64 0, .bool false] 28 (0, 0)) (bP BK435) NB435_439.out (by simp)); replace HB := Aside0.mk (hb); replace HI439 := Aside0.mk (hi); (try clear hb)) | (refine gC (some 16) Tryz.func50 #[.pointer (some ⟨g439, 0, none⟩)] ?_; (with_reducible refine (spec_l09Secret.calls g439 t436 t441 t442 t443 t444 t445 w _ ?side1 ?side2 A4.out).mono ?_); (case side1 => exact iZ90 HI439); (case side2 => exact jZ90 HB HI439); rintro e w45 ⟨rfl, hi, hb, hk⟩; refine ⟨_, rfl, ?_⟩; replace BK434 := Aside0.mk (KeepBut.blk hk (g' := gb434) (o := .cells #[.int .i64 0, .int .i64 0, .bool false] 28 (0, 0)) (bP BK434) NB434_439.out (by simp)); replace BK435 := Aside0.mk (KeepBut.blk hk (g' := gb435) (o := .cells #[.int .i64 0, .int .i64 0, .bool false] 28 (0, 0)) (bP BK435) NB435_439.out (by simp)); replace HB := Aside0.mk (hb); replace HI439 := Aside0.mk (hi); (try clear hb)) | (refine gC (some 19) Tryz.func44 #[.pointer (some ⟨g439, 0, none⟩), .int .i64 6] ?_; (with_reducible refine (spec_l01Below.calls g439 t436 t444 t445 6 t446 t447 t448 w _ ?side1 ?side2 A5.out).mono ?_); (case side1 => exact iZ90 HI439); (case side2 => exact jZ90 HB HI439); rintro e w46 ⟨rfl, hi, hb, hk⟩; refine ⟨_, rfl, ?_⟩; replace BK434 := Aside0.mk (KeepBut.blk hk (g' := gb434) (o := .cells #[.int .i64 0, .int .i64 0, .bool false] 28 (0, 0)) (bP BK434) NB434_439.out (by simp)); replace BK435 := Aside0.mk (KeepBut.blk hk (g' := gb435) (o := .cells #[.int .i64 0, .int .i64 0, .bool false] 28 (0, 0)) (bP BK435) NB435_439.out (by simp)); replace HB := Aside0.mk (hb); replace HI439 := Aside0.mk (hi); (try clear hb)) | (refine gC (some 20) Tryz.func49 #[.pointer (some ⟨g439, 0, none⟩), .int .i64 t446] ?_; (with_reducible refine (spec_l01Text.calls k g439 t436 t447 t448 t446 t449 t450 t451 w _ ?side1 ?side2 A6.out).mono ?_); (case side1 => exact iZ90 HI439); (case side2 => exact jZ90 HB HI439); rintro e w47 ⟨rfl, hi, hb, hk⟩; refine ⟨_, rfl, ?_⟩; replace BK434 := Aside0.mk (KeepBut.blk hk (g' := gb434) (o := .cells #[.int .i64 0, .int .i64 0, .bool false] 28 (0, 0)) (bP BK434) NB434_439.out (by simp)); replace BK435 := Aside0.mk (KeepBut.blk hk (g' := gb435) (o := .cells #[.int .i64 0, .int .i64 0, .bool false] 28 (0, 0)) (bP BK435) NB435_439.out (by simp)); replace HB := Aside0.mk (hb); replace HI439 := Aside0.mk (hi); (try clear hb)) | (refine gC (some 22) Tryz.func51 #[.int .i64 t443] ?_; (with_reducible refine (spec_KeyOf.calls k t443 t452 t453 t454 _ A7.out).mono ?_); rintro e w48 ⟨rfl, hb⟩; refine ⟨_, rfl, ?_⟩; replace BK434 := bB BK434 hb; replace BK435 := bB BK435 hb; replace HB := Aside0.mk (below_step (jZ90 HB HI439) hb); replace HI439 := Aside0.mk (IsS90.below (iZ90 HI439) hb); (try clear hb)) | (refine gB 9 #[.int .i64 0, .int .i64 0, .bool false] 28 ?_; intro gb455 hg w49 BK455 hb; have GW455 := Aside0.mk ((by rw [hg]; exact (below_size (jZ90 HB HI439)) : w.heap.size ≤ gb455)); have GE455 := Aside0.mk ((by rw [hg]; exact (below_size (jZ90 HB HI439)) : w.heap.size ≤ gb455)); replace HB := Aside0.mk (below_step (jZ90 HB HI439) hb); obtain ⟨NB434_455, NB455_434⟩ := bN BK434 hg; replace BK434 := bB BK434 hb; obtain ⟨NB435_455, NB455_435⟩ := bN BK435 hg; replace BK435 := bB BK435 hb; have NB439_455 := Aside0.mk ((by rw [hg]; exact Nat.ne_of_lt (IsS90.lt (show IsS90 w _ g439 t436 t450 t451 from iZ90 HI439)) : g439 ≠ gb455)); have NB455_439 := Aside0.mk ((by rw [hg]; exact Nat.ne_of_gt (IsS90.lt (show IsS90 w _ g439 t436 t450 t451 from iZ90 HI439)) : gb455 ≠ g439)); replace HI439 := Aside0.mk (IsS90.below (iZ90 HI439) hb); clear hb hg; obtain ⟨hnb50, hnc50⟩ := nB NB455_434; obtain ⟨hnb51, hnc51⟩ := nB NB455_435; obtain ⟨hnb52, hnc52⟩ := nB NB455_439; obtain ⟨hcz53_0, hcz53_1, hcz53_2, hfz53_0, hfz53_1, hfz53_2⟩ := bK3 (w := w49) BK455) | (refine gC (some 25) Tryz.func52 #[.int .i64 t443, .string t449] ?_; (with_reducible refine (spec_SignWith.calls k t443 t449 t456 t457 t458 _ A8.out).mono ?_); rintro e w54 ⟨rfl, hb⟩; refine ⟨_, rfl, ?_⟩; replace BK434 := bB BK434 hb; replace BK435 := bB BK435 hb; replace BK455 := bV 28 #[.int .i64 t452, .int .i64 t453, .bool t454] BK455 hb; replace HB := Aside0.mk (below_step (jZ90 HB HI439) hb); replace HI439 := Aside0.mk (IsS90.below (show IsS90 w (((w49.setCell ⟨gb455, 0, none⟩ (.int .i64 t452)).setCell ⟨gb455, 1, none⟩ (.int .i64 t453)).setCell ⟨gb455, 2, none⟩ (.bool t454)) g439 t436 t450 t451 from iZ90 HI439) hb); (try clear hb)) | (refine gB 10 #[.int .i64 0, .int .i64 0, .bool false] 28 ?_; intro gb459 hg w55 BK459 hb; have GW459 := Aside0.mk ((by rw [hg]; exact (below_size (jZ90 HB HI439)) : w.heap.size ≤ gb459)); have GE459 := Aside0.mk ((by rw [hg]; exact (below_size (jZ90 HB HI439)) : w.heap.size ≤ gb459)); replace HB := Aside0.mk (below_step (jZ90 HB HI439) hb); obtain ⟨NB434_459, NB459_434⟩ := bN BK434 hg; replace BK434 := bB BK434 hb; obtain ⟨NB435_459, NB459_435⟩ := bN BK435 hg; replace BK435 := bB BK435 hb; obtain ⟨NB455_459, NB459_455⟩ := bN BK455 hg; replace BK455 := bB BK455 hb; have NB439_459 := Aside0.mk ((by rw [hg]; exact Nat.ne_of_lt (IsS90.lt (show IsS90 w _ g439 t436 t450 t451 from iZ90 HI439)) : g439 ≠ gb459)); have NB459_439 := Aside0.mk ((by rw [hg]; exact Nat.ne_of_gt (IsS90.lt (show IsS90 w _ g439 t436 t450 t451 from iZ90 HI439)) : gb459 ≠ g439)); replace HI439 := Aside0.mk (IsS90.below (iZ90 HI439) hb); clear hb hg; obtain ⟨hnb56, hnc56⟩ := nB NB459_434; obtain ⟨hnb57, hnc57⟩ := nB NB459_435; obtain ⟨hnb58, hnc58⟩ := nB NB459_455; obtain ⟨hnb59, hnc59⟩ := nB NB459_439; obtain ⟨hcz60_0, hcz60_1, hcz60_2, hfz60_0, hfz60_1, hfz60_2⟩ := bK3 (w := w55) BK459) | (refine gC (some 34) Tryz.func59 #[.pointer (some ⟨g439, 0, none⟩)] ?_; (with_reducible refine (spec_l07Any.calls k g439 t436 t450 t451 t460 t461 t462 t463 t464 w _ ?side1 ?side2 A40.out).mono ?_); (case side1 => exact iZ90 HI439); (case side2 => exact jZ90 HB HI439); rintro e w61 ⟨rfl, hi, hb, hk⟩; refine ⟨_, rfl, ?_⟩; replace BK434 := Aside0.mk (KeepBut.blk hk (g' := gb434) (o := .cells #[.int .i64 0, .int .i64 0, .bool false] 28 (0, 0)) (bP BK434) NB434_439.out (by simp)); replace BK435 := Aside0.mk (KeepBut.blk hk (g' := gb435) (o := .cells #[.int .i64 0, .int .i64 0, .bool false] 28 (0, 0)) (bP BK435) NB435_439.out (by simp)); replace BK455 := Aside0.mk (KeepBut.blk hk (g' := gb455) (o := .cells #[.int .i64 t452, .int .i64 t453, .bool t454] 28 (0, 0)) (bP BK455) NB455_439.out (by simp)); replace BK459 := Aside0.mk (KeepBut.blk hk (g' := gb459) (o := .cells #[.int .i64 t456, .int .i64 t457, .bool t458] 28 (0, 0)) (bU BK459) NB459_439.out (by simp)); replace HB := Aside0.mk (hb); replace HI439 := Aside0.mk (hi); (try clear hb); obtain ⟨hcz62_0, hcz62_1, hcz62_2, hfz62_0, hfz62_1, hfz62_2⟩ := bK3 (w := w61) BK455))
   obtain ⟨w63, hW_⟩ : ∃ W_ : World, W_ = (((w61.setCell ⟨gb455, 0, none⟩ (.int .i64 t460)).setCell ⟨gb455, 1, none⟩ (.int .i64 t461)).setCell ⟨gb455, 2, none⟩ (.bool t462)) := ⟨_, rfl⟩
   replace BK434 := bW hW_ BK434
   replace BK435 := bW hW_ BK435
   replace BK455 := bX hW_ 28 #[.int .i64 t460, .int .i64 t461, .bool t462] BK455
   replace BK459 := bW hW_ BK459
   have n4_ : Aside0 (IsS90 w (((w61.setCell ⟨gb455, 0, none⟩ (.int .i64 t460)).setCell ⟨gb455, 1, none⟩ (.int .i64 t461)).setCell ⟨gb455, 2, none⟩ (.bool t462)) g439 t436 t463 t464) := ⟨iZ90 HI439⟩
   rw [← hW_] at n4_
   have n5_ : Aside0 (Below w.heap.size w (((w61.setCell ⟨gb455, 0, none⟩ (.int .i64 t460)).setCell ⟨gb455, 1, none⟩ (.int .i64 t461)).setCell ⟨gb455, 2, none⟩ (.bool t462))) := ⟨jZ90 HB HI439⟩
   rw [← hW_] at n5_
   (try clear HI439)
   (try clear HB)
   have HI439 := n4_
   clear n4_
   have HB := n5_
   clear n5_
   rw [← hW_]
   clear hW_
   replace BK434 := Aside0.mk (blk_drew BK434.out)
   replace BK435 := Aside0.mk (blk_drew BK435.out)
   replace BK455 := Aside0.mk (blk_drew BK455.out)
   replace BK459 := Aside0.mk (blk_drew BK459.out)
   replace HI439 := Aside0.mk (IsS90.drew HI439.out)
   replace HB := Aside0.mk (below_drew1 HB.out)
   refine start_ (n := 6) (S := fun w' => SP3 w' gb455 (.int .i64 t460) (.int .i64 t461) (.bool t462) (SQ3 w' gb459 (.int .i64 t456) (.int .i64 t457) (.bool t458))) (ds := []) #[false, false, false, false, false, false] (by kernel_rfl) rfl rfl (bS3 BK455 (bT3 BK459)) (fun hHeld => ?_)
   generalize w63.drew = w64 at BK434 BK435 BK455 BK459 HI439 HB hHeld ⊢
   refine pJ 1 (some 40) ?_
   refine tJ 0 (some 39) hHeld ?_
   refine tJ 2 (some 41) hHeld ?_
   refine one_ (i := 3) (N := none) #[true, true, true, true, false, false] rfl rfl (by kernel_rfl) (by decide) (fun K hK => ?_)
   have hs65 : w64.cell? ⟨gb434, 0, none⟩ = some (.int .i64 0) := bc BK434 0
   have hfs65 := blk_frozen BK434.out 0
   have hns65_1 := NB435_434.out
   have hns65_2 := NB455_434.out
   have hns65_3 := NB459_434.out
   have hms65_1 := NB434_435.out
   have hms65_2 := NB434_455.out
   have hms65_3 := NB434_459.out
   have hs66 : w64.cell? ⟨gb434, 1, none⟩ = some (.int .i64 0) := bc BK434 1
   have hfs66 := blk_frozen BK434.out 1
   have hns66_1 := NB435_434.out
   have hns66_2 := NB455_434.out
   have hns66_3 := NB459_434.out
   have hms66_1 := NB434_435.out
   have hms66_2 := NB434_455.out
   have hms66_3 := NB434_459.out
   have hs67 : w64.cell? ⟨gb434, 2, none⟩ = some (.bool false) := bc BK434 2
   have hfs67 := blk_frozen BK434.out 2
   have hns67_1 := NB435_434.out
   have hns67_2 := NB455_434.out
   have hns67_3 := NB459_434.out
   have hms67_1 := NB434_435.out
   have hms67_2 := NB434_455.out
   have hms67_3 := NB434_459.out
   refine skip_ (w1 := ?_) (by rfl) rfl ?_ ?_
   rotate_left
   ·go_simp
    rfl
   refine hK.out _ _ ⟨((cell_far (p := ⟨gb434, _, none⟩) NB455_434.out _).trans (((cell_far (p := ⟨gb434, _, none⟩) NB455_434.out _).trans (((cell_far (p := ⟨gb434, _, none⟩) NB455_434.out _).trans (hHeld.1)))))), ((cell_far (p := ⟨gb434, _, none⟩) NB455_434.out _).trans (((cell_far (p := ⟨gb434, _, none⟩) NB455_434.out _).trans (((cell_far (p := ⟨gb434, _, none⟩) NB455_434.out _).trans (hHeld.2.1)))))), ((cell_far (p := ⟨gb434, _, none⟩) NB455_434.out _).trans (((cell_far (p := ⟨gb434, _, none⟩) NB455_434.out _).trans (((cell_far (p := ⟨gb434, _, none⟩) NB455_434.out _).trans (hHeld.2.2.1)))))), ((cell_far (p := ⟨gb434, _, none⟩) NB459_434.out _).trans (((cell_far (p := ⟨gb434, _, none⟩) NB459_434.out _).trans (((cell_far (p := ⟨gb434, _, none⟩) NB459_434.out _).trans (hHeld.2.2.2.1)))))), ((cell_far (p := ⟨gb434, _, none⟩) NB459_434.out _).trans (((cell_far (p := ⟨gb434, _, none⟩) NB459_434.out _).trans (((cell_far (p := ⟨gb434, _, none⟩) NB459_434.out _).trans (hHeld.2.2.2.2.1)))))), ((cell_far (p := ⟨gb434, _, none⟩) NB459_434.out _).trans (((cell_far (p := ⟨gb434, _, none⟩) NB459_434.out _).trans (((cell_far (p := ⟨gb434, _, none⟩) NB459_434.out _).trans (hHeld.2.2.2.2.2))))))⟩ (fun hHeld => ?_)
   clear hK K
   refine pJ 4 (some 3) ?_
   refine one_ (i := 5) (N := none) #[true, true, true, true, true, true] rfl rfl (by kernel_rfl) (by decide) (fun K hK => ?_)
   have hs68 : w64.cell? ⟨gb435, 0, none⟩ = some (.int .i64 0) := bc BK435 0
   have hfs68 := blk_frozen BK435.out 0
   have hns68_0 := NB434_435.out
   have hns68_2 := NB455_435.out
   have hns68_3 := NB459_435.out
   have hms68_0 := NB435_434.out
   have hms68_2 := NB435_455.out
   have hms68_3 := NB435_459.out
   have hs69 : w64.cell? ⟨gb435, 1, none⟩ = some (.int .i64 0) := bc BK435 1
   have hfs69 := blk_frozen BK435.out 1
   have hns69_0 := NB434_435.out
   have hns69_2 := NB455_435.out
   have hns69_3 := NB459_435.out
   have hms69_0 := NB435_434.out
   have hms69_2 := NB435_455.out
   have hms69_3 := NB435_459.out
   have hs70 : w64.cell? ⟨gb435, 2, none⟩ = some (.bool false) := bc BK435 2
   have hfs70 := blk_frozen BK435.out 2
   have hns70_0 := NB434_435.out
   have hns70_2 := NB455_435.out
   have hns70_3 := NB459_435.out
   have hms70_0 := NB435_434.out
   have hms70_2 := NB435_455.out
   have hms70_3 := NB435_459.out
   refine skip_ (w1 := ?_) (by rfl) rfl ?_ ?_
   rotate_left
   ·go_simp
    rfl
   refine hK.out _ _ ⟨((cell_far (p := ⟨gb435, _, none⟩) NB455_435.out _).trans (((cell_far (p := ⟨gb435, _, none⟩) NB455_435.out _).trans (((cell_far (p := ⟨gb435, _, none⟩) NB455_435.out _).trans (hHeld.1)))))), ((cell_far (p := ⟨gb435, _, none⟩) NB455_435.out _).trans (((cell_far (p := ⟨gb435, _, none⟩) NB455_435.out _).trans (((cell_far (p := ⟨gb435, _, none⟩) NB455_435.out _).trans (hHeld.2.1)))))), ((cell_far (p := ⟨gb435, _, none⟩) NB455_435.out _).trans (((cell_far (p := ⟨gb435, _, none⟩) NB455_435.out _).trans (((cell_far (p := ⟨gb435, _, none⟩) NB455_435.out _).trans (hHeld.2.2.1)))))), ((cell_far (p := ⟨gb435, _, none⟩) NB459_435.out _).trans (((cell_far (p := ⟨gb435, _, none⟩) NB459_435.out _).trans (((cell_far (p := ⟨gb435, _, none⟩) NB459_435.out _).trans (hHeld.2.2.2.1)))))), ((cell_far (p := ⟨gb435, _, none⟩) NB459_435.out _).trans (((cell_far (p := ⟨gb435, _, none⟩) NB459_435.out _).trans (((cell_far (p := ⟨gb435, _, none⟩) NB459_435.out _).trans (hHeld.2.2.2.2.1)))))), ((cell_far (p := ⟨gb435, _, none⟩) NB459_435.out _).trans (((cell_far (p := ⟨gb435, _, none⟩) NB459_435.out _).trans (((cell_far (p := ⟨gb435, _, none⟩) NB459_435.out _).trans (hHeld.2.2.2.2.2))))))⟩ (fun hHeld => ?_)
   clear hK K
   refine done_ (by kernel_rfl) ?_
   try go_wp2
   refine bodyPost_ret (results_list (rs := [.cell 2 28, .tmp 3, .cell 4 28]) rfl (by simp) (.cell gb434 28 #[.int .i64 t460, .int .i64 t461, .bool t462] (0, 0) _ rfl (bU BK434) Tryz.underlying28 rfl (by kernel_rfl) (.tmp (.cell gb435 28 #[.int .i64 t456, .int .i64 t457, .bool t458] (0, 0) _ rfl (bU BK435) Tryz.underlying28 rfl (by kernel_rfl) .nil)))) rfl ?_
   exact ⟨by first | rfl | (simp [errW_none, errW_some] <;> rfl) | (simp [*, errW_none, errW_some] <;> rfl), jZ90 HB HI439⟩
  ·rw [if_neg c39] at H
   have c39b0 : (t440 == 1) = false := beq_eq_false_iff_ne.mpr c39
   have c39b1 : (t440 != 1) = true := bne_iff_ne.mpr c39
   by_cases c71 : t440 = 2
   ·rw [if_pos c71] at H
    have c71b0 : (t440 == 2) = true := beq_iff_eq.mpr c71
    have c71b1 : (t440 != 2) = false := bne_eq_false_iff_eq.mpr c71
    clear c71
    replace H := Option.bind_eq_some_iff.mp H
    obtain ⟨⟨t465, t466, t467, t468, t469⟩, A720, H⟩ := H
    have A72 := Aside0.mk A720
    clear A720
    simp only [Option.some.injEq, Prod.mk.injEq] at H
    obtain ⟨rfl, rfl, rfl, rfl, rfl, rfl, rfl⟩ := H
    go_enter Tryz.func18, Tryz.ntmps18
    try go_wp2_with (first | (refine gB 2 #[.int .i64 0, .int .i64 0, .bool false] 28 ?_; intro gb434 hg w73 BK434 hb; have GW434 := bG HB hg; have GE434 := bG HB hg; replace HB := bS HB hb; clear hb hg) | (refine gB 4 #[.int .i64 0, .int .i64 0, .bool false] 28 ?_; intro gb435 hg w74 BK435 hb; have GW435 := bG HB hg; have GE435 := bG HB hg; replace HB := bS HB hb; obtain ⟨NB434_435, NB435_434⟩ := bN BK434 hg; replace BK434 := bB BK434 hb; clear hb hg) | (refine gC (some 12) Tryz.func42 #[.slice A0 l0.length c0] ?_; (with_reducible refine (spec_l01New.calls k _ _ l0 t436 t437 t438 w _ ?side1 ?side2 ?side3 A2.out).mono ?_); (case side1 => repeat (first | (with_reducible first | exact HB.out | apply below_alloc | apply pw_below_drewN | apply below_drew1 | refine below_set ?_ GE434.out | refine below_set ?_ GE435.out) | exact HB.out)); (case side2 => exact HR0.out); (case side3 => exact HC0.out); rintro e w75 ⟨g439, rfl, hi, hb, hb2⟩; refine ⟨_, rfl, ?_⟩; replace HB := Aside0.mk (hb); have HI439 := Aside0.mk (hi); have NB439_434 := Aside0.mk (IsS90.ne_blk hi (blk_below (bP BK434) hb2) (by decide)); have NB434_439 := Aside0.mk (Ne.symm (IsS90.ne_blk hi (blk_below (bP BK434) hb2) (by decide))); replace BK434 := Aside0.mk (blk_below (bP BK434) hb2); have NB439_435 := Aside0.mk (IsS90.ne_blk hi (blk_below (bP BK435) hb2) (by decide)); have NB435_439 := Aside0.mk (Ne.symm (IsS90.ne_blk hi (blk_below (bP BK435) hb2) (by decide))); replace BK435 := Aside0.mk (blk_below (bP BK435) hb2); (try clear hb)) | (refine gC (some 14) Tryz.func44 #[.pointer (some ⟨g439, 0, none⟩), .int .i64 6] ?_; (with_reducible refine (spec_l01Below.calls g439 t436 t437 t438 6 t440 t441 t442 w _ ?side1 ?side2 A3.out).mono ?_); (case side1 => exact iZ90 HI439); (case side2 => exact jZ90 HB HI439); rintro e w76 ⟨rfl, hi, hb, hk⟩; refine ⟨_, rfl, ?_⟩; replace BK434 := Aside0.mk (KeepBut.blk hk (g' := gb434) (o := .cells #[.int .i64 0, .int .i64 0, .bool false] 28 (0, 0)) (bP BK434) NB434_439.out (by simp)); replace BK435 := Aside0.mk (KeepBut.blk hk (g' := gb435) (o := .cells #[.int .i64 0, .int .i64 0, .bool false] 28 (0, 0)) (bP BK435) NB435_439.out (by simp)); replace HB := Aside0.mk (hb); replace HI439 := Aside0.mk (hi); (try clear hb)) | (refine gC (some 16) Tryz.func50 #[.pointer (some ⟨g439, 0, none⟩)] ?_; (with_reducible refine (spec_l09Secret.calls g439 t436 t441 t442 t443 t444 t445 w _ ?side1 ?side2 A4.out).mono ?_); (case side1 => exact iZ90 HI439); (case side2 => exact jZ90 HB HI439); rintro e w77 ⟨rfl, hi, hb, hk⟩; refine ⟨_, rfl, ?_⟩; replace BK434 := Aside0.mk (KeepBut.blk hk (g' := gb434) (o := .cells #[.int .i64 0, .int .i64 0, .bool false] 28 (0, 0)) (bP BK434) NB434_439.out (by simp)); replace BK435 := Aside0.mk (KeepBut.blk hk (g' := gb435) (o := .cells #[.int .i64 0, .int .i64 0, .bool false] 28 (0, 0)) (bP BK435) NB435_439.out (by simp)); replace HB := Aside0.mk (hb); replace HI439 := Aside0.mk (hi); (try clear hb)) | (refine gC (some 19) Tryz.func44 #[.pointer (some ⟨g439, 0, none⟩), .int .i64 6] ?_; (with_reducible refine (spec_l01Below.calls g439 t436 t444 t445 6 t446 t447 t448 w _ ?side1 ?side2 A5.out).mono ?_); (case side1 => exact iZ90 HI439); (case side2 => exact jZ90 HB HI439); rintro e w78 ⟨rfl, hi, hb, hk⟩; refine ⟨_, rfl, ?_⟩; replace BK434 := Aside0.mk (KeepBut.blk hk (g' := gb434) (o := .cells #[.int .i64 0, .int .i64 0, .bool false] 28 (0, 0)) (bP BK434) NB434_439.out (by simp)); replace BK435 := Aside0.mk (KeepBut.blk hk (g' := gb435) (o := .cells #[.int .i64 0, .int .i64 0, .bool false] 28 (0, 0)) (bP BK435) NB435_439.out (by simp)); replace HB := Aside0.mk (hb); replace HI439 := Aside0.mk (hi); (try clear hb)) | (refine gC (some 20) Tryz.func49 #[.pointer (some ⟨g439, 0, none⟩), .int .i64 t446] ?_; (with_reducible refine (spec_l01Text.calls k g439 t436 t447 t448 t446 t449 t450 t451 w _ ?side1 ?side2 A6.out).mono ?_); (case side1 => exact iZ90 HI439); (case side2 => exact jZ90 HB HI439); rintro e w79 ⟨rfl, hi, hb, hk⟩; refine ⟨_, rfl, ?_⟩; replace BK434 := Aside0.mk (KeepBut.blk hk (g' := gb434) (o := .cells #[.int .i64 0, .int .i64 0, .bool false] 28 (0, 0)) (bP BK434) NB434_439.out (by simp)); replace BK435 := Aside0.mk (KeepBut.blk hk (g' := gb435) (o := .cells #[.int .i64 0, .int .i64 0, .bool false] 28 (0, 0)) (bP BK435) NB435_439.out (by simp)); replace HB := Aside0.mk (hb); replace HI439 := Aside0.mk (hi); (try clear hb)) | (refine gC (some 22) Tryz.func51 #[.int .i64 t443] ?_; (with_reducible refine (spec_KeyOf.calls k t443 t452 t453 t454 _ A7.out).mono ?_); rintro e w80 ⟨rfl, hb⟩; refine ⟨_, rfl, ?_⟩; replace BK434 := bB BK434 hb; replace BK435 := bB BK435 hb; replace HB := Aside0.mk (below_step (jZ90 HB HI439) hb); replace HI439 := Aside0.mk (IsS90.below (iZ90 HI439) hb); (try clear hb)) | (refine gB 9 #[.int .i64 0, .int .i64 0, .bool false] 28 ?_; intro gb455 hg w81 BK455 hb; have GW455 := Aside0.mk ((by rw [hg]; exact (below_size (jZ90 HB HI439)) : w.heap.size ≤ gb455)); have GE455 := Aside0.mk ((by rw [hg]; exact (below_size (jZ90 HB HI439)) : w.heap.size ≤ gb455)); replace HB := Aside0.mk (below_step (jZ90 HB HI439) hb); obtain ⟨NB434_455, NB455_434⟩ := bN BK434 hg; replace BK434 := bB BK434 hb; obtain ⟨NB435_455, NB455_435⟩ := bN BK435 hg; replace BK435 := bB BK435 hb; have NB439_455 := Aside0.mk ((by rw [hg]; exact Nat.ne_of_lt (IsS90.lt (show IsS90 w _ g439 t436 t450 t451 from iZ90 HI439)) : g439 ≠ gb455)); have NB455_439 := Aside0.mk ((by rw [hg]; exact Nat.ne_of_gt (IsS90.lt (show IsS90 w _ g439 t436 t450 t451 from iZ90 HI439)) : gb455 ≠ g439)); replace HI439 := Aside0.mk (IsS90.below (iZ90 HI439) hb); clear hb hg; obtain ⟨hnb82, hnc82⟩ := nB NB455_434; obtain ⟨hnb83, hnc83⟩ := nB NB455_435; obtain ⟨hnb84, hnc84⟩ := nB NB455_439; obtain ⟨hcz85_0, hcz85_1, hcz85_2, hfz85_0, hfz85_1, hfz85_2⟩ := bK3 (w := w81) BK455) | (refine gC (some 25) Tryz.func52 #[.int .i64 t443, .string t449] ?_; (with_reducible refine (spec_SignWith.calls k t443 t449 t456 t457 t458 _ A8.out).mono ?_); rintro e w86 ⟨rfl, hb⟩; refine ⟨_, rfl, ?_⟩; replace BK434 := bB BK434 hb; replace BK435 := bB BK435 hb; replace BK455 := bV 28 #[.int .i64 t452, .int .i64 t453, .bool t454] BK455 hb; replace HB := Aside0.mk (below_step (jZ90 HB HI439) hb); replace HI439 := Aside0.mk (IsS90.below (show IsS90 w (((w81.setCell ⟨gb455, 0, none⟩ (.int .i64 t452)).setCell ⟨gb455, 1, none⟩ (.int .i64 t453)).setCell ⟨gb455, 2, none⟩ (.bool t454)) g439 t436 t450 t451 from iZ90 HI439) hb); (try clear hb)) | (refine gB 10 #[.int .i64 0, .int .i64 0, .bool false] 28 ?_; intro gb459 hg w87 BK459 hb; have GW459 := Aside0.mk ((by rw [hg]; exact (below_size (jZ90 HB HI439)) : w.heap.size ≤ gb459)); have GE459 := Aside0.mk ((by rw [hg]; exact (below_size (jZ90 HB HI439)) : w.heap.size ≤ gb459)); replace HB := Aside0.mk (below_step (jZ90 HB HI439) hb); obtain ⟨NB434_459, NB459_434⟩ := bN BK434 hg; replace BK434 := bB BK434 hb; obtain ⟨NB435_459, NB459_435⟩ := bN BK435 hg; replace BK435 := bB BK435 hb; obtain ⟨NB455_459, NB459_455⟩ := bN BK455 hg; replace BK455 := bB BK455 hb; have NB439_459 := Aside0.mk ((by rw [hg]; exact Nat.ne_of_lt (IsS90.lt (show IsS90 w _ g439 t436 t450 t451 from iZ90 HI439)) : g439 ≠ gb459)); have NB459_439 := Aside0.mk ((by rw [hg]; exact Nat.ne_of_gt (IsS90.lt (show IsS90 w _ g439 t436 t450 t451 from iZ90 HI439)) : gb459 ≠ g439)); replace HI439 := Aside0.mk (IsS90.below (iZ90 HI439) hb); clear hb hg; obtain ⟨hnb88, hnc88⟩ := nB NB459_434; obtain ⟨hnb89, hnc89⟩ := nB NB459_435; obtain ⟨hnb90, hnc90⟩ := nB NB459_455; obtain ⟨hnb91, hnc91⟩ := nB NB459_439; obtain ⟨hcz92_0, hcz92_1, hcz92_2, hfz92_0, hfz92_1, hfz92_2⟩ := bK3 (w := w87) BK459) | (refine gC (some 38) Tryz.func59 #[.pointer (some ⟨g439, 0, none⟩)] ?_; (with_reducible refine (spec_l07Any.calls k g439 t436 t450 t451 t465 t466 t467 t468 t469 w _ ?side1 ?side2 A72.out).mono ?_); (case side1 => exact iZ90 HI439); (case side2 => exact jZ90 HB HI439); rintro e w93 ⟨rfl, hi, hb, hk⟩; refine ⟨_, rfl, ?_⟩; replace BK434 := Aside0.mk (KeepBut.blk hk (g' := gb434) (o := .cells #[.int .i64 0, .int .i64 0, .bool false] 28 (0, 0)) (bP BK434) NB434_439.out (by simp)); replace BK435 := Aside0.mk (KeepBut.blk hk (g' := gb435) (o := .cells #[.int .i64 0, .int .i64 0, .bool false] 28 (0, 0)) (bP BK435) NB435_439.out (by simp)); replace BK455 := Aside0.mk (KeepBut.blk hk (g' := gb455) (o := .cells #[.int .i64 t452, .int .i64 t453, .bool t454] 28 (0, 0)) (bP BK455) NB455_439.out (by simp)); replace BK459 := Aside0.mk (KeepBut.blk hk (g' := gb459) (o := .cells #[.int .i64 t456, .int .i64 t457, .bool t458] 28 (0, 0)) (bU BK459) NB459_439.out (by simp)); replace HB := Aside0.mk (hb); replace HI439 := Aside0.mk (hi); (try clear hb); obtain ⟨hcz94_0, hcz94_1, hcz94_2, hfz94_0, hfz94_1, hfz94_2⟩ := bK3 (w := w93) BK459))
    obtain ⟨w95, hW_⟩ : ∃ W_ : World, W_ = (((w93.setCell ⟨gb459, 0, none⟩ (.int .i64 t465)).setCell ⟨gb459, 1, none⟩ (.int .i64 t466)).setCell ⟨gb459, 2, none⟩ (.bool t467)) := ⟨_, rfl⟩
    replace BK434 := bW hW_ BK434
    replace BK435 := bW hW_ BK435
    replace BK455 := bW hW_ BK455
    replace BK459 := bX hW_ 28 #[.int .i64 t465, .int .i64 t466, .bool t467] BK459
    have n4_ : Aside0 (IsS90 w (((w93.setCell ⟨gb459, 0, none⟩ (.int .i64 t465)).setCell ⟨gb459, 1, none⟩ (.int .i64 t466)).setCell ⟨gb459, 2, none⟩ (.bool t467)) g439 t436 t468 t469) := ⟨iZ90 HI439⟩
    rw [← hW_] at n4_
    have n5_ : Aside0 (Below w.heap.size w (((w93.setCell ⟨gb459, 0, none⟩ (.int .i64 t465)).setCell ⟨gb459, 1, none⟩ (.int .i64 t466)).setCell ⟨gb459, 2, none⟩ (.bool t467))) := ⟨jZ90 HB HI439⟩
    rw [← hW_] at n5_
    (try clear HI439)
    (try clear HB)
    have HI439 := n4_
    clear n4_
    have HB := n5_
    clear n5_
    rw [← hW_]
    clear hW_
    replace BK434 := Aside0.mk (blk_drew BK434.out)
    replace BK435 := Aside0.mk (blk_drew BK435.out)
    replace BK455 := Aside0.mk (blk_drew BK455.out)
    replace BK459 := Aside0.mk (blk_drew BK459.out)
    replace HI439 := Aside0.mk (IsS90.drew HI439.out)
    replace HB := Aside0.mk (below_drew1 HB.out)
    refine start_ (n := 6) (S := fun w' => SP3 w' gb455 (.int .i64 t452) (.int .i64 t453) (.bool t454) (SQ3 w' gb459 (.int .i64 t465) (.int .i64 t466) (.bool t467))) (ds := []) #[false, false, false, false, false, false] (by kernel_rfl) rfl rfl (bS3 BK455 (bT3 BK459)) (fun hHeld => ?_)
    generalize w95.drew = w96 at BK434 BK435 BK455 BK459 HI439 HB hHeld ⊢
    refine pJ 1 (some 40) ?_
    refine tJ 0 (some 39) hHeld ?_
    refine tJ 2 (some 41) hHeld ?_
    refine one_ (i := 3) (N := none) #[true, true, true, true, false, false] rfl rfl (by kernel_rfl) (by decide) (fun K hK => ?_)
    have hs97 : w96.cell? ⟨gb434, 0, none⟩ = some (.int .i64 0) := bc BK434 0
    have hfs97 := blk_frozen BK434.out 0
    have hns97_1 := NB435_434.out
    have hns97_2 := NB455_434.out
    have hns97_3 := NB459_434.out
    have hms97_1 := NB434_435.out
    have hms97_2 := NB434_455.out
    have hms97_3 := NB434_459.out
    have hs98 : w96.cell? ⟨gb434, 1, none⟩ = some (.int .i64 0) := bc BK434 1
    have hfs98 := blk_frozen BK434.out 1
    have hns98_1 := NB435_434.out
    have hns98_2 := NB455_434.out
    have hns98_3 := NB459_434.out
    have hms98_1 := NB434_435.out
    have hms98_2 := NB434_455.out
    have hms98_3 := NB434_459.out
    have hs99 : w96.cell? ⟨gb434, 2, none⟩ = some (.bool false) := bc BK434 2
    have hfs99 := blk_frozen BK434.out 2
    have hns99_1 := NB435_434.out
    have hns99_2 := NB455_434.out
    have hns99_3 := NB459_434.out
    have hms99_1 := NB434_435.out
    have hms99_2 := NB434_455.out
    have hms99_3 := NB434_459.out
    refine skip_ (w1 := ?_) (by rfl) rfl ?_ ?_
    rotate_left
    ·go_simp
     rfl
    refine hK.out _ _ ⟨((cell_far (p := ⟨gb434, _, none⟩) NB455_434.out _).trans (((cell_far (p := ⟨gb434, _, none⟩) NB455_434.out _).trans (((cell_far (p := ⟨gb434, _, none⟩) NB455_434.out _).trans (hHeld.1)))))), ((cell_far (p := ⟨gb434, _, none⟩) NB455_434.out _).trans (((cell_far (p := ⟨gb434, _, none⟩) NB455_434.out _).trans (((cell_far (p := ⟨gb434, _, none⟩) NB455_434.out _).trans (hHeld.2.1)))))), ((cell_far (p := ⟨gb434, _, none⟩) NB455_434.out _).trans (((cell_far (p := ⟨gb434, _, none⟩) NB455_434.out _).trans (((cell_far (p := ⟨gb434, _, none⟩) NB455_434.out _).trans (hHeld.2.2.1)))))), ((cell_far (p := ⟨gb434, _, none⟩) NB459_434.out _).trans (((cell_far (p := ⟨gb434, _, none⟩) NB459_434.out _).trans (((cell_far (p := ⟨gb434, _, none⟩) NB459_434.out _).trans (hHeld.2.2.2.1)))))), ((cell_far (p := ⟨gb434, _, none⟩) NB459_434.out _).trans (((cell_far (p := ⟨gb434, _, none⟩) NB459_434.out _).trans (((cell_far (p := ⟨gb434, _, none⟩) NB459_434.out _).trans (hHeld.2.2.2.2.1)))))), ((cell_far (p := ⟨gb434, _, none⟩) NB459_434.out _).trans (((cell_far (p := ⟨gb434, _, none⟩) NB459_434.out _).trans (((cell_far (p := ⟨gb434, _, none⟩) NB459_434.out _).trans (hHeld.2.2.2.2.2))))))⟩ (fun hHeld => ?_)
    clear hK K
    refine pJ 4 (some 3) ?_
    refine one_ (i := 5) (N := none) #[true, true, true, true, true, true] rfl rfl (by kernel_rfl) (by decide) (fun K hK => ?_)
    have hs100 : w96.cell? ⟨gb435, 0, none⟩ = some (.int .i64 0) := bc BK435 0
    have hfs100 := blk_frozen BK435.out 0
    have hns100_0 := NB434_435.out
    have hns100_2 := NB455_435.out
    have hns100_3 := NB459_435.out
    have hms100_0 := NB435_434.out
    have hms100_2 := NB435_455.out
    have hms100_3 := NB435_459.out
    have hs101 : w96.cell? ⟨gb435, 1, none⟩ = some (.int .i64 0) := bc BK435 1
    have hfs101 := blk_frozen BK435.out 1
    have hns101_0 := NB434_435.out
    have hns101_2 := NB455_435.out
    have hns101_3 := NB459_435.out
    have hms101_0 := NB435_434.out
    have hms101_2 := NB435_455.out
    have hms101_3 := NB435_459.out
    have hs102 : w96.cell? ⟨gb435, 2, none⟩ = some (.bool false) := bc BK435 2
    have hfs102 := blk_frozen BK435.out 2
    have hns102_0 := NB434_435.out
    have hns102_2 := NB455_435.out
    have hns102_3 := NB459_435.out
    have hms102_0 := NB435_434.out
    have hms102_2 := NB435_455.out
    have hms102_3 := NB435_459.out
    refine skip_ (w1 := ?_) (by rfl) rfl ?_ ?_
    rotate_left
    ·go_simp
     rfl
    refine hK.out _ _ ⟨((cell_far (p := ⟨gb435, _, none⟩) NB455_435.out _).trans (((cell_far (p := ⟨gb435, _, none⟩) NB455_435.out _).trans (((cell_far (p := ⟨gb435, _, none⟩) NB455_435.out _).trans (hHeld.1)))))), ((cell_far (p := ⟨gb435, _, none⟩) NB455_435.out _).trans (((cell_far (p := ⟨gb435, _, none⟩) NB455_435.out _).trans (((cell_far (p := ⟨gb435, _, none⟩) NB455_435.out _).trans (hHeld.2.1)))))), ((cell_far (p := ⟨gb435, _, none⟩) NB455_435.out _).trans (((cell_far (p := ⟨gb435, _, none⟩) NB455_435.out _).trans (((cell_far (p := ⟨gb435, _, none⟩) NB455_435.out _).trans (hHeld.2.2.1)))))), ((cell_far (p := ⟨gb435, _, none⟩) NB459_435.out _).trans (((cell_far (p := ⟨gb435, _, none⟩) NB459_435.out _).trans (((cell_far (p := ⟨gb435, _, none⟩) NB459_435.out _).trans (hHeld.2.2.2.1)))))), ((cell_far (p := ⟨gb435, _, none⟩) NB459_435.out _).trans (((cell_far (p := ⟨gb435, _, none⟩) NB459_435.out _).trans (((cell_far (p := ⟨gb435, _, none⟩) NB459_435.out _).trans (hHeld.2.2.2.2.1)))))), ((cell_far (p := ⟨gb435, _, none⟩) NB459_435.out _).trans (((cell_far (p := ⟨gb435, _, none⟩) NB459_435.out _).trans (((cell_far (p := ⟨gb435, _, none⟩) NB459_435.out _).trans (hHeld.2.2.2.2.2))))))⟩ (fun hHeld => ?_)
    clear hK K
    refine done_ (by kernel_rfl) ?_
    try go_wp2
    refine bodyPost_ret (results_list (rs := [.cell 2 28, .tmp 3, .cell 4 28]) rfl (by simp) (.cell gb434 28 #[.int .i64 t452, .int .i64 t453, .bool t454] (0, 0) _ rfl (bU BK434) Tryz.underlying28 rfl (by kernel_rfl) (.tmp (.cell gb435 28 #[.int .i64 t465, .int .i64 t466, .bool t467] (0, 0) _ rfl (bU BK435) Tryz.underlying28 rfl (by kernel_rfl) .nil)))) rfl ?_
    exact ⟨by first | rfl | (simp [errW_none, errW_some] <;> rfl) | (simp [*, errW_none, errW_some] <;> rfl), jZ90 HB HI439⟩
   ·rw [if_neg c71] at H
    have c71b0 : (t440 == 2) = false := beq_eq_false_iff_ne.mpr c71
    have c71b1 : (t440 != 2) = true := bne_iff_ne.mpr c71
    simp only [Option.some.injEq, Prod.mk.injEq] at H
    obtain ⟨rfl, rfl, rfl, rfl, rfl, rfl, rfl⟩ := H
    go_enter Tryz.func18, Tryz.ntmps18
    try go_wp2_with (first | (refine gB 2 #[.int .i64 0, .int .i64 0, .bool false] 28 ?_; intro gb434 hg w103 BK434 hb; have GW434 := bG HB hg; have GE434 := bG HB hg; replace HB := bS HB hb; clear hb hg) | (refine gB 4 #[.int .i64 0, .int .i64 0, .bool false] 28 ?_; intro gb435 hg w104 BK435 hb; have GW435 := bG HB hg; have GE435 := bG HB hg; replace HB := bS HB hb; obtain ⟨NB434_435, NB435_434⟩ := bN BK434 hg; replace BK434 := bB BK434 hb; clear hb hg) | (refine gC (some 12) Tryz.func42 #[.slice A0 l0.length c0] ?_; (with_reducible refine (spec_l01New.calls k _ _ l0 t436 t437 t438 w _ ?side1 ?side2 ?side3 A2.out).mono ?_); (case side1 => repeat (first | (with_reducible first | exact HB.out | apply below_alloc | apply pw_below_drewN | apply below_drew1 | refine below_set ?_ GE434.out | refine below_set ?_ GE435.out) | exact HB.out)); (case side2 => exact HR0.out); (case side3 => exact HC0.out); rintro e w105 ⟨g439, rfl, hi, hb, hb2⟩; refine ⟨_, rfl, ?_⟩; replace HB := Aside0.mk (hb); have HI439 := Aside0.mk (hi); have NB439_434 := Aside0.mk (IsS90.ne_blk hi (blk_below (bP BK434) hb2) (by decide)); have NB434_439 := Aside0.mk (Ne.symm (IsS90.ne_blk hi (blk_below (bP BK434) hb2) (by decide))); replace BK434 := Aside0.mk (blk_below (bP BK434) hb2); have NB439_435 := Aside0.mk (IsS90.ne_blk hi (blk_below (bP BK435) hb2) (by decide)); have NB435_439 := Aside0.mk (Ne.symm (IsS90.ne_blk hi (blk_below (bP BK435) hb2) (by decide))); replace BK435 := Aside0.mk (blk_below (bP BK435) hb2); (try clear hb)) | (refine gC (some 14) Tryz.func44 #[.pointer (some ⟨g439, 0, none⟩), .int .i64 6] ?_; (with_reducible refine (spec_l01Below.calls g439 t436 t437 t438 6 t440 t441 t442 w _ ?side1 ?side2 A3.out).mono ?_); (case side1 => exact iZ90 HI439); (case side2 => exact jZ90 HB HI439); rintro e w106 ⟨rfl, hi, hb, hk⟩; refine ⟨_, rfl, ?_⟩; replace BK434 := Aside0.mk (KeepBut.blk hk (g' := gb434) (o := .cells #[.int .i64 0, .int .i64 0, .bool false] 28 (0, 0)) (bP BK434) NB434_439.out (by simp)); replace BK435 := Aside0.mk (KeepBut.blk hk (g' := gb435) (o := .cells #[.int .i64 0, .int .i64 0, .bool false] 28 (0, 0)) (bP BK435) NB435_439.out (by simp)); replace HB := Aside0.mk (hb); replace HI439 := Aside0.mk (hi); (try clear hb)) | (refine gC (some 16) Tryz.func50 #[.pointer (some ⟨g439, 0, none⟩)] ?_; (with_reducible refine (spec_l09Secret.calls g439 t436 t441 t442 t443 t444 t445 w _ ?side1 ?side2 A4.out).mono ?_); (case side1 => exact iZ90 HI439); (case side2 => exact jZ90 HB HI439); rintro e w107 ⟨rfl, hi, hb, hk⟩; refine ⟨_, rfl, ?_⟩; replace BK434 := Aside0.mk (KeepBut.blk hk (g' := gb434) (o := .cells #[.int .i64 0, .int .i64 0, .bool false] 28 (0, 0)) (bP BK434) NB434_439.out (by simp)); replace BK435 := Aside0.mk (KeepBut.blk hk (g' := gb435) (o := .cells #[.int .i64 0, .int .i64 0, .bool false] 28 (0, 0)) (bP BK435) NB435_439.out (by simp)); replace HB := Aside0.mk (hb); replace HI439 := Aside0.mk (hi); (try clear hb)) | (refine gC (some 19) Tryz.func44 #[.pointer (some ⟨g439, 0, none⟩), .int .i64 6] ?_; (with_reducible refine (spec_l01Below.calls g439 t436 t444 t445 6 t446 t447 t448 w _ ?side1 ?side2 A5.out).mono ?_); (case side1 => exact iZ90 HI439); (case side2 => exact jZ90 HB HI439); rintro e w108 ⟨rfl, hi, hb, hk⟩; refine ⟨_, rfl, ?_⟩; replace BK434 := Aside0.mk (KeepBut.blk hk (g' := gb434) (o := .cells #[.int .i64 0, .int .i64 0, .bool false] 28 (0, 0)) (bP BK434) NB434_439.out (by simp)); replace BK435 := Aside0.mk (KeepBut.blk hk (g' := gb435) (o := .cells #[.int .i64 0, .int .i64 0, .bool false] 28 (0, 0)) (bP BK435) NB435_439.out (by simp)); replace HB := Aside0.mk (hb); replace HI439 := Aside0.mk (hi); (try clear hb)) | (refine gC (some 20) Tryz.func49 #[.pointer (some ⟨g439, 0, none⟩), .int .i64 t446] ?_; (with_reducible refine (spec_l01Text.calls k g439 t436 t447 t448 t446 t449 t450 t451 w _ ?side1 ?side2 A6.out).mono ?_); (case side1 => exact iZ90 HI439); (case side2 => exact jZ90 HB HI439); rintro e w109 ⟨rfl, hi, hb, hk⟩; refine ⟨_, rfl, ?_⟩; replace BK434 := Aside0.mk (KeepBut.blk hk (g' := gb434) (o := .cells #[.int .i64 0, .int .i64 0, .bool false] 28 (0, 0)) (bP BK434) NB434_439.out (by simp)); replace BK435 := Aside0.mk (KeepBut.blk hk (g' := gb435) (o := .cells #[.int .i64 0, .int .i64 0, .bool false] 28 (0, 0)) (bP BK435) NB435_439.out (by simp)); replace HB := Aside0.mk (hb); replace HI439 := Aside0.mk (hi); (try clear hb)) | (refine gC (some 22) Tryz.func51 #[.int .i64 t443] ?_; (with_reducible refine (spec_KeyOf.calls k t443 t452 t453 t454 _ A7.out).mono ?_); rintro e w110 ⟨rfl, hb⟩; refine ⟨_, rfl, ?_⟩; replace BK434 := bB BK434 hb; replace BK435 := bB BK435 hb; replace HB := Aside0.mk (below_step (jZ90 HB HI439) hb); replace HI439 := Aside0.mk (IsS90.below (iZ90 HI439) hb); (try clear hb)) | (refine gB 9 #[.int .i64 0, .int .i64 0, .bool false] 28 ?_; intro gb455 hg w111 BK455 hb; have GW455 := Aside0.mk ((by rw [hg]; exact (below_size (jZ90 HB HI439)) : w.heap.size ≤ gb455)); have GE455 := Aside0.mk ((by rw [hg]; exact (below_size (jZ90 HB HI439)) : w.heap.size ≤ gb455)); replace HB := Aside0.mk (below_step (jZ90 HB HI439) hb); obtain ⟨NB434_455, NB455_434⟩ := bN BK434 hg; replace BK434 := bB BK434 hb; obtain ⟨NB435_455, NB455_435⟩ := bN BK435 hg; replace BK435 := bB BK435 hb; have NB439_455 := Aside0.mk ((by rw [hg]; exact Nat.ne_of_lt (IsS90.lt (show IsS90 w _ g439 t436 t450 t451 from iZ90 HI439)) : g439 ≠ gb455)); have NB455_439 := Aside0.mk ((by rw [hg]; exact Nat.ne_of_gt (IsS90.lt (show IsS90 w _ g439 t436 t450 t451 from iZ90 HI439)) : gb455 ≠ g439)); replace HI439 := Aside0.mk (IsS90.below (iZ90 HI439) hb); clear hb hg; obtain ⟨hnb112, hnc112⟩ := nB NB455_434; obtain ⟨hnb113, hnc113⟩ := nB NB455_435; obtain ⟨hnb114, hnc114⟩ := nB NB455_439; obtain ⟨hcz115_0, hcz115_1, hcz115_2, hfz115_0, hfz115_1, hfz115_2⟩ := bK3 (w := w111) BK455) | (refine gC (some 25) Tryz.func52 #[.int .i64 t443, .string t449] ?_; (with_reducible refine (spec_SignWith.calls k t443 t449 t456 t457 t458 _ A8.out).mono ?_); rintro e w116 ⟨rfl, hb⟩; refine ⟨_, rfl, ?_⟩; replace BK434 := bB BK434 hb; replace BK435 := bB BK435 hb; replace BK455 := bV 28 #[.int .i64 t452, .int .i64 t453, .bool t454] BK455 hb; replace HB := Aside0.mk (below_step (jZ90 HB HI439) hb); replace HI439 := Aside0.mk (IsS90.below (show IsS90 w (((w111.setCell ⟨gb455, 0, none⟩ (.int .i64 t452)).setCell ⟨gb455, 1, none⟩ (.int .i64 t453)).setCell ⟨gb455, 2, none⟩ (.bool t454)) g439 t436 t450 t451 from iZ90 HI439) hb); (try clear hb)) | (refine gB 10 #[.int .i64 0, .int .i64 0, .bool false] 28 ?_; intro gb459 hg w117 BK459 hb; have GW459 := Aside0.mk ((by rw [hg]; exact (below_size (jZ90 HB HI439)) : w.heap.size ≤ gb459)); have GE459 := Aside0.mk ((by rw [hg]; exact (below_size (jZ90 HB HI439)) : w.heap.size ≤ gb459)); replace HB := Aside0.mk (below_step (jZ90 HB HI439) hb); obtain ⟨NB434_459, NB459_434⟩ := bN BK434 hg; replace BK434 := bB BK434 hb; obtain ⟨NB435_459, NB459_435⟩ := bN BK435 hg; replace BK435 := bB BK435 hb; obtain ⟨NB455_459, NB459_455⟩ := bN BK455 hg; replace BK455 := bB BK455 hb; have NB439_459 := Aside0.mk ((by rw [hg]; exact Nat.ne_of_lt (IsS90.lt (show IsS90 w _ g439 t436 t450 t451 from iZ90 HI439)) : g439 ≠ gb459)); have NB459_439 := Aside0.mk ((by rw [hg]; exact Nat.ne_of_gt (IsS90.lt (show IsS90 w _ g439 t436 t450 t451 from iZ90 HI439)) : gb459 ≠ g439)); replace HI439 := Aside0.mk (IsS90.below (iZ90 HI439) hb); clear hb hg; obtain ⟨hnb118, hnc118⟩ := nB NB459_434; obtain ⟨hnb119, hnc119⟩ := nB NB459_435; obtain ⟨hnb120, hnc120⟩ := nB NB459_455; obtain ⟨hnb121, hnc121⟩ := nB NB459_439; obtain ⟨hcz122_0, hcz122_1, hcz122_2, hfz122_0, hfz122_1, hfz122_2⟩ := bK3 (w := w117) BK459))
    obtain ⟨w123, hW_⟩ : ∃ W_ : World, W_ = (((w117.setCell ⟨gb459, 0, none⟩ (.int .i64 t456)).setCell ⟨gb459, 1, none⟩ (.int .i64 t457)).setCell ⟨gb459, 2, none⟩ (.bool t458)) := ⟨_, rfl⟩
    replace BK434 := bW hW_ BK434
    replace BK435 := bW hW_ BK435
    replace BK455 := bW hW_ BK455
    replace BK459 := bX hW_ 28 #[.int .i64 t456, .int .i64 t457, .bool t458] BK459
    have n4_ : Aside0 (IsS90 w (((w117.setCell ⟨gb459, 0, none⟩ (.int .i64 t456)).setCell ⟨gb459, 1, none⟩ (.int .i64 t457)).setCell ⟨gb459, 2, none⟩ (.bool t458)) g439 t436 t450 t451) := ⟨iZ90 HI439⟩
    rw [← hW_] at n4_
    have n5_ : Aside0 (Below w.heap.size w (((w117.setCell ⟨gb459, 0, none⟩ (.int .i64 t456)).setCell ⟨gb459, 1, none⟩ (.int .i64 t457)).setCell ⟨gb459, 2, none⟩ (.bool t458))) := ⟨jZ90 HB HI439⟩
    rw [← hW_] at n5_
    (try clear HI439)
    (try clear HB)
    have HI439 := n4_
    clear n4_
    have HB := n5_
    clear n5_
    rw [← hW_]
    clear hW_
    replace BK434 := Aside0.mk (blk_drew BK434.out)
    replace BK435 := Aside0.mk (blk_drew BK435.out)
    replace BK455 := Aside0.mk (blk_drew BK455.out)
    replace BK459 := Aside0.mk (blk_drew BK459.out)
    replace HI439 := Aside0.mk (IsS90.drew HI439.out)
    replace HB := Aside0.mk (below_drew1 HB.out)
    refine start_ (n := 6) (S := fun w' => SP3 w' gb455 (.int .i64 t452) (.int .i64 t453) (.bool t454) (SQ3 w' gb459 (.int .i64 t456) (.int .i64 t457) (.bool t458))) (ds := []) #[false, false, false, false, false, false] (by kernel_rfl) rfl rfl (bS3 BK455 (bT3 BK459)) (fun hHeld => ?_)
    generalize w123.drew = w124 at BK434 BK435 BK455 BK459 HI439 HB hHeld ⊢
    refine pJ 1 (some 40) ?_
    refine tJ 0 (some 39) hHeld ?_
    refine tJ 2 (some 41) hHeld ?_
    refine one_ (i := 3) (N := none) #[true, true, true, true, false, false] rfl rfl (by kernel_rfl) (by decide) (fun K hK => ?_)
    have hs125 : w124.cell? ⟨gb434, 0, none⟩ = some (.int .i64 0) := bc BK434 0
    have hfs125 := blk_frozen BK434.out 0
    have hns125_1 := NB435_434.out
    have hns125_2 := NB455_434.out
    have hns125_3 := NB459_434.out
    have hms125_1 := NB434_435.out
    have hms125_2 := NB434_455.out
    have hms125_3 := NB434_459.out
    have hs126 : w124.cell? ⟨gb434, 1, none⟩ = some (.int .i64 0) := bc BK434 1
    have hfs126 := blk_frozen BK434.out 1
    have hns126_1 := NB435_434.out
    have hns126_2 := NB455_434.out
    have hns126_3 := NB459_434.out
    have hms126_1 := NB434_435.out
    have hms126_2 := NB434_455.out
    have hms126_3 := NB434_459.out
    have hs127 : w124.cell? ⟨gb434, 2, none⟩ = some (.bool false) := bc BK434 2
    have hfs127 := blk_frozen BK434.out 2
    have hns127_1 := NB435_434.out
    have hns127_2 := NB455_434.out
    have hns127_3 := NB459_434.out
    have hms127_1 := NB434_435.out
    have hms127_2 := NB434_455.out
    have hms127_3 := NB434_459.out
    refine skip_ (w1 := ?_) (by rfl) rfl ?_ ?_
    rotate_left
    ·go_simp
     rfl
    refine hK.out _ _ ⟨((cell_far (p := ⟨gb434, _, none⟩) NB455_434.out _).trans (((cell_far (p := ⟨gb434, _, none⟩) NB455_434.out _).trans (((cell_far (p := ⟨gb434, _, none⟩) NB455_434.out _).trans (hHeld.1)))))), ((cell_far (p := ⟨gb434, _, none⟩) NB455_434.out _).trans (((cell_far (p := ⟨gb434, _, none⟩) NB455_434.out _).trans (((cell_far (p := ⟨gb434, _, none⟩) NB455_434.out _).trans (hHeld.2.1)))))), ((cell_far (p := ⟨gb434, _, none⟩) NB455_434.out _).trans (((cell_far (p := ⟨gb434, _, none⟩) NB455_434.out _).trans (((cell_far (p := ⟨gb434, _, none⟩) NB455_434.out _).trans (hHeld.2.2.1)))))), ((cell_far (p := ⟨gb434, _, none⟩) NB459_434.out _).trans (((cell_far (p := ⟨gb434, _, none⟩) NB459_434.out _).trans (((cell_far (p := ⟨gb434, _, none⟩) NB459_434.out _).trans (hHeld.2.2.2.1)))))), ((cell_far (p := ⟨gb434, _, none⟩) NB459_434.out _).trans (((cell_far (p := ⟨gb434, _, none⟩) NB459_434.out _).trans (((cell_far (p := ⟨gb434, _, none⟩) NB459_434.out _).trans (hHeld.2.2.2.2.1)))))), ((cell_far (p := ⟨gb434, _, none⟩) NB459_434.out _).trans (((cell_far (p := ⟨gb434, _, none⟩) NB459_434.out _).trans (((cell_far (p := ⟨gb434, _, none⟩) NB459_434.out _).trans (hHeld.2.2.2.2.2))))))⟩ (fun hHeld => ?_)
    clear hK K
    refine pJ 4 (some 3) ?_
    refine one_ (i := 5) (N := none) #[true, true, true, true, true, true] rfl rfl (by kernel_rfl) (by decide) (fun K hK => ?_)
    have hs128 : w124.cell? ⟨gb435, 0, none⟩ = some (.int .i64 0) := bc BK435 0
    have hfs128 := blk_frozen BK435.out 0
    have hns128_0 := NB434_435.out
    have hns128_2 := NB455_435.out
    have hns128_3 := NB459_435.out
    have hms128_0 := NB435_434.out
    have hms128_2 := NB435_455.out
    have hms128_3 := NB435_459.out
    have hs129 : w124.cell? ⟨gb435, 1, none⟩ = some (.int .i64 0) := bc BK435 1
    have hfs129 := blk_frozen BK435.out 1
    have hns129_0 := NB434_435.out
    have hns129_2 := NB455_435.out
    have hns129_3 := NB459_435.out
    have hms129_0 := NB435_434.out
    have hms129_2 := NB435_455.out
    have hms129_3 := NB435_459.out
    have hs130 : w124.cell? ⟨gb435, 2, none⟩ = some (.bool false) := bc BK435 2
    have hfs130 := blk_frozen BK435.out 2
    have hns130_0 := NB434_435.out
    have hns130_2 := NB455_435.out
    have hns130_3 := NB459_435.out
    have hms130_0 := NB435_434.out
    have hms130_2 := NB435_455.out
    have hms130_3 := NB435_459.out
    refine skip_ (w1 := ?_) (by rfl) rfl ?_ ?_
    rotate_left
    ·go_simp
     rfl
    refine hK.out _ _ ⟨((cell_far (p := ⟨gb435, _, none⟩) NB455_435.out _).trans (((cell_far (p := ⟨gb435, _, none⟩) NB455_435.out _).trans (((cell_far (p := ⟨gb435, _, none⟩) NB455_435.out _).trans (hHeld.1)))))), ((cell_far (p := ⟨gb435, _, none⟩) NB455_435.out _).trans (((cell_far (p := ⟨gb435, _, none⟩) NB455_435.out _).trans (((cell_far (p := ⟨gb435, _, none⟩) NB455_435.out _).trans (hHeld.2.1)))))), ((cell_far (p := ⟨gb435, _, none⟩) NB455_435.out _).trans (((cell_far (p := ⟨gb435, _, none⟩) NB455_435.out _).trans (((cell_far (p := ⟨gb435, _, none⟩) NB455_435.out _).trans (hHeld.2.2.1)))))), ((cell_far (p := ⟨gb435, _, none⟩) NB459_435.out _).trans (((cell_far (p := ⟨gb435, _, none⟩) NB459_435.out _).trans (((cell_far (p := ⟨gb435, _, none⟩) NB459_435.out _).trans (hHeld.2.2.2.1)))))), ((cell_far (p := ⟨gb435, _, none⟩) NB459_435.out _).trans (((cell_far (p := ⟨gb435, _, none⟩) NB459_435.out _).trans (((cell_far (p := ⟨gb435, _, none⟩) NB459_435.out _).trans (hHeld.2.2.2.2.1)))))), ((cell_far (p := ⟨gb435, _, none⟩) NB459_435.out _).trans (((cell_far (p := ⟨gb435, _, none⟩) NB459_435.out _).trans (((cell_far (p := ⟨gb435, _, none⟩) NB459_435.out _).trans (hHeld.2.2.2.2.2))))))⟩ (fun hHeld => ?_)
    clear hK K
    refine done_ (by kernel_rfl) ?_
    try go_wp2
    refine bodyPost_ret (results_list (rs := [.cell 2 28, .tmp 3, .cell 4 28]) rfl (by simp) (.cell gb434 28 #[.int .i64 t452, .int .i64 t453, .bool t454] (0, 0) _ rfl (bU BK434) Tryz.underlying28 rfl (by kernel_rfl) (.tmp (.cell gb435 28 #[.int .i64 t456, .int .i64 t457, .bool t458] (0, 0) _ rfl (bU BK435) Tryz.underlying28 rfl (by kernel_rfl) .nil)))) rfl ?_
    exact ⟨by first | rfl | (simp [errW_none, errW_some] <;> rfl) | (simp [*, errW_none, errW_some] <;> rfl), jZ90 HB HI439⟩
def impl_InGroup.f (k : Nat) (a0_0 : Int) (a0_1 : Int) (a0_2 : Bool) : Option (Bool) := (impl_PointOk.f a0_0 a0_1 a0_2).bind fun t471 => (if t471 = true then ((impl_PointTimes.f k 1009 a0_0 a0_1 a0_2).bind fun bt472 => (some bt472.2.2)) else (some false))
set_option maxHeartbeats 8000000 in
set_option maxRecDepth 100000 in
theorem impl_InGroup.calls (k : Nat) (a0_0 : Int) (a0_1 : Int) (a0_2 : Bool) (r : Bool) (w : World) (h : impl_InGroup.f k a0_0 a0_1 a0_2 = some r) :
  Calls Tryz.prog 21 #[.agg #[.int .i64 a0_0, .int .i64 a0_1, .bool a0_2]] w fun e w' => e = .returned (.bool r) ∧ Below w.heap.size w w' := by
 have hu28 := Tryz.underlying28
 have hfd28_0 : ∀ (x0 : Int) (x1 : Int) (x2 : Bool) (w_ : World), (Instr.field 28 (.agg #[.int .i64 x0, .int .i64 x1, .bool x2]) 0).run Tryz.prog w_ = .ok (.int .i64 x0) w_ := fun _ _ _ _ => by kernel_rfl
 have hfd28_1 : ∀ (x0 : Int) (x1 : Int) (x2 : Bool) (w_ : World), (Instr.field 28 (.agg #[.int .i64 x0, .int .i64 x1, .bool x2]) 1).run Tryz.prog w_ = .ok (.int .i64 x1) w_ := fun _ _ _ _ => by kernel_rfl
 have hfd28_2 : ∀ (x0 : Int) (x1 : Int) (x2 : Bool) (w_ : World), (Instr.field 28 (.agg #[.int .i64 x0, .int .i64 x1, .bool x2]) 2).run Tryz.prog w_ = .ok (.bool x2) w_ := fun _ _ _ _ => by kernel_rfl
 have HB := Aside0.mk (Below.refl w.heap.size w)
 have H : ((impl_PointOk.f a0_0 a0_1 a0_2).bind fun t471 => (if t471 = true then ((impl_PointTimes.f k 1009 a0_0 a0_1 a0_2).bind fun bt472 => (some bt472.2.2)) else (some false))) = some r := h
 clear h
 replace H := Option.bind_eq_some_iff.mp H
 obtain ⟨t471, A20, H⟩ := H
 have A2 := Aside0.mk A20
 clear A20
 by_cases c3 : t471 = true
 ·subst c3
  rw [if_pos rfl] at H
  replace H := Option.bind_eq_some_iff.mp H
  obtain ⟨⟨t472, t473, t474⟩, A40, H⟩ := H
  have A4 := Aside0.mk A40
  clear A40
  obtain rfl := Option.some.inj H
  go_enter Tryz.func21, Tryz.ntmps21
  go_wp2_with (first | (refine gB 1 #[.int .i64 a0_0, .int .i64 a0_1, .bool a0_2] 28 ?_; intro gb470 hg w5 BK470 hb; have GW470 := bG HB hg; replace HB := bS HB hb; clear hb hg; obtain ⟨hcz6_0, hcz6_1, hcz6_2, hfz6_0, hfz6_1, hfz6_2⟩ := bK3 (w := w5) BK470) | (refine gC (some 4) Tryz.func47 #[.agg #[.int .i64 a0_0, .int .i64 a0_1, .bool a0_2]] ?_; (with_reducible refine (impl_PointOk.calls a0_0 a0_1 a0_2 true _ A2.out).mono ?_); rintro e w7 ⟨rfl, hb⟩; refine ⟨_, rfl, ?_⟩; replace BK470 := bB BK470 hb; replace HB := bS HB hb; (try clear hb); obtain ⟨hcz8_0, hcz8_1, hcz8_2, hfz8_0, hfz8_1, hfz8_2⟩ := bK3 (w := w7) BK470) | (go_at_call 45; (with_reducible refine (impl_PointTimes.calls k 1009 a0_0 a0_1 a0_2 t472 t473 t474 _ A4.out).mono ?_); rintro e w9 ⟨rfl, hb⟩; replace BK470 := bB BK470 hb; replace HB := bS HB hb; (try clear hb)))
  go_ret
  exact ⟨rR, bZ HB⟩
 ·replace c3 := Bool.eq_false_iff.mpr c3
  subst c3
  rw [if_neg (show ¬ (false = true) by decide)] at H
  obtain rfl := Option.some.inj H
  go_enter Tryz.func21, Tryz.ntmps21
  go_wp2_with (first | (refine gB 1 #[.int .i64 a0_0, .int .i64 a0_1, .bool a0_2] 28 ?_; intro gb470 hg w10 BK470 hb; have GW470 := bG HB hg; replace HB := bS HB hb; clear hb hg; obtain ⟨hcz11_0, hcz11_1, hcz11_2, hfz11_0, hfz11_1, hfz11_2⟩ := bK3 (w := w10) BK470) | (refine gC (some 4) Tryz.func47 #[.agg #[.int .i64 a0_0, .int .i64 a0_1, .bool a0_2]] ?_; (with_reducible refine (impl_PointOk.calls a0_0 a0_1 a0_2 false _ A2.out).mono ?_); rintro e w12 ⟨rfl, hb⟩; refine ⟨_, rfl, ?_⟩; replace BK470 := bB BK470 hb; replace HB := bS HB hb; (try clear hb)))
  go_ret
  exact ⟨rR, bZ HB⟩
theorem eqA75 (d : Nat) (w : World) (x0 y0 : Int) (x1 y1 : Int) :
    (Op.equalIn (d + 2) 75 (.agg #[.int .i64 x0, .int .i64 x1]) (.agg #[.int .i64 y0, .int .i64 y1])).run Tryz.prog w = .ok (x0 == y0 && (x1 == y1)) w := by
  refine eqA_of Tryz.underlying75 (by kernel_rfl) ?_
  refine eqf_cons (by rfl) (by go_simp; rfl) (by go_simp; rfl) (by go_simp) ?_
  exact eqf_last (by rfl) (by go_simp; rfl) (by go_simp; rfl) (by go_simp)
def impl_TwoMul.f (a0_0 : Int) (a0_1 : Int) (a1_0 : Int) (a1_1 : Int) : Option (Int × Int) := (impl_FpMul.f a0_0 a1_0).bind fun t478 => ((impl_FpMul.f a0_1 a1_1).bind fun t479 => ((impl_FpSub.f t478 t479).bind fun t480 => ((impl_FpMul.f a0_0 a1_1).bind fun t481 => ((impl_FpMul.f a0_1 a1_0).bind fun t482 => ((impl_FpAdd.f t481 t482).bind fun t483 => (some (t480, t483)))))))
def impl_TwoMul.T1 : Bool × List (List Nat × List Nat) := (true, [([], []), ([0], [0]), ([], []), ([2], [2]), ([1, 3], [1, 3]), ([], []), ([5], [5]), ([], []), ([7], [7]), ([6, 8, 4], [6, 8]), ([4, 9, 9], [4, 9]), ([], []), ([11], [11]), ([], []), ([13], [13]), ([12, 14, 10], [12, 14]), ([], []), ([16], [16]), ([], []), ([18], [18]), ([17, 19, 15], [17, 19]), ([15, 20, 20], [15, 20]), ([10, 21], [10, 21]), ([22, 21, 0, 1, 2, 3, 4, 5, 6, 7, 8, 9, 10, 11, 12, 13, 14, 15, 16, 17, 18, 19, 20, 21, 22], [22])])
def impl_TwoMul.B1 : List Nat := [0, 1, 0, 4, 15, 0, 32, 0, 128, 511, 1023, 0, 2048, 0, 8192, 32767, 0, 65536, 0, 262144, 1048575, 2097151, 4194303, 8388607]
theorem impl_TwoMul.tab1 : rtab .any (opsOf Tryz.f104 1) = impl_TwoMul.T1 := by kernel_rfl
theorem impl_TwoMul.bits1 : waitsOk impl_TwoMul.T1.2 impl_TwoMul.B1 = true := by kernel_rfl
set_option maxHeartbeats 8000000 in
set_option maxRecDepth 100000 in
theorem impl_TwoMul.calls (a0_0 : Int) (a0_1 : Int) (a1_0 : Int) (a1_1 : Int) (r1 : Int) (r2 : Int) (w : World) (h : impl_TwoMul.f a0_0 a0_1 a1_0 a1_1 = some (r1, r2)) :
  Calls Tryz.prog 104 #[.agg #[.int .i64 a0_0, .int .i64 a0_1], .agg #[.int .i64 a1_0, .int .i64 a1_1]] w fun e w' => e = .returned (.agg #[.int .i64 r1, .int .i64 r2]) ∧ Below w.heap.size w w' := by
 have hu75 := Tryz.underlying75
 have HB := Aside0.mk (Below.refl w.heap.size w)
 have H : ((impl_FpMul.f a0_0 a1_0).bind fun t478 => ((impl_FpMul.f a0_1 a1_1).bind fun t479 => ((impl_FpSub.f t478 t479).bind fun t480 => ((impl_FpMul.f a0_0 a1_1).bind fun t481 => ((impl_FpMul.f a0_1 a1_0).bind fun t482 => ((impl_FpAdd.f t481 t482).bind fun t483 => (some (t480, t483)))))))) = some (r1, r2) := h
 clear h
 replace H := Option.bind_eq_some_iff.mp H
 obtain ⟨t478, A30, H⟩ := H
 have A3 := Aside0.mk A30
 clear A30
 replace H := Option.bind_eq_some_iff.mp H
 obtain ⟨t479, A40, H⟩ := H
 have A4 := Aside0.mk A40
 clear A40
 replace H := Option.bind_eq_some_iff.mp H
 obtain ⟨t480, A50, H⟩ := H
 have A5 := Aside0.mk A50
 clear A50
 replace H := Option.bind_eq_some_iff.mp H
 obtain ⟨t481, A60, H⟩ := H
 have A6 := Aside0.mk A60
 clear A60
 replace H := Option.bind_eq_some_iff.mp H
 obtain ⟨t482, A70, H⟩ := H
 have A7 := Aside0.mk A70
 clear A70
 replace H := Option.bind_eq_some_iff.mp H
 obtain ⟨t483, A80, H⟩ := H
 have A8 := Aside0.mk A80
 clear A80
 simp only [Option.some.injEq, Prod.mk.injEq] at H
 obtain ⟨rfl, rfl⟩ := H
 go_enter Tryz.func104, Tryz.ntmps104
 try go_wp2_with (first | (refine gB 2 #[.int .i64 a0_0, .int .i64 a0_1] 75 ?_; intro gb475 hg w9 BK475 hb; have GW475 := bG HB hg; replace HB := bS HB hb; clear hb hg) | (refine gB 3 #[.int .i64 a1_0, .int .i64 a1_1] 75 ?_; intro gb476 hg w10 BK476 hb; have GW476 := bG HB hg; replace HB := bS HB hb; obtain ⟨NB475_476, NB476_475⟩ := bN BK475 hg; replace BK475 := bB BK475 hb; clear hb hg) | (refine gB 4 #[.int .i64 0, .int .i64 0] 75 ?_; intro gb477 hg w11 BK477 hb; have GW477 := bG HB hg; replace HB := bS HB hb; obtain ⟨NB475_477, NB477_475⟩ := bN BK475 hg; replace BK475 := bB BK475 hb; obtain ⟨NB476_477, NB477_476⟩ := bN BK476 hg; replace BK476 := bB BK476 hb; clear hb hg))
 replace BK475 := Aside0.mk (blk_drew BK475.out)
 replace BK476 := Aside0.mk (blk_drew BK476.out)
 replace BK477 := Aside0.mk (blk_drew BK477.out)
 replace HB := Aside0.mk (below_drew1 HB.out)
 refine start_ (n := 24) (S := fun w' => SP2 w' gb475 (.int .i64 a0_0) (.int .i64 a0_1) (SQ2 w' gb476 (.int .i64 a1_0) (.int .i64 a1_1))) (ds := []) #[false, false, false, false, false, false, false, false, false, false, false, false, false, false, false, false, false, false, false, false, false, false, false, false] (by kernel_rfl) rfl rfl (bS2 BK475 (bT2 BK476)) (fun hHeld => ?_); refine with_tabW impl_TwoMul.tab1 impl_TwoMul.bits1 (fun HT_ HW_ => ?_)
 generalize w11.drew = w12 at BK475 BK476 BK477 HB hHeld ⊢
 refine pI 0 (some 5) HT_.out ?_
 refine pI 2 (some 7) HT_.out ?_
 refine pI 5 (some 10) HT_.out ?_
 refine pI 7 (some 12) HT_.out ?_
 refine pI 11 (some 16) HT_.out ?_
 refine pI 13 (some 18) HT_.out ?_
 refine pI 16 (some 21) HT_.out ?_
 refine pI 18 (some 23) HT_.out ?_
 refine tI4 1 (some 6) HT_.out HW_.out hHeld ?_
 refine tI4 3 (some 8) HT_.out HW_.out hHeld ?_
 refine tI4 6 (some 11) HT_.out HW_.out hHeld ?_
 refine tI4 8 (some 13) HT_.out HW_.out hHeld ?_
 refine tI4 12 (some 17) HT_.out HW_.out hHeld ?_
 refine tI4 14 (some 19) HT_.out HW_.out hHeld ?_
 refine tI4 17 (some 22) HT_.out HW_.out hHeld ?_
 refine tI4 19 (some 24) HT_.out HW_.out hHeld ?_
 refine oI 4 (some 9) HT_.out (fun K hK => ?_)
 refine gO Tryz.func88 #[.int .i64 a0_0, .int .i64 a1_0] ?_
 with_reducible refine (impl_FpMul.calls a0_0 a1_0 t478 _ A3.out).mono ?_
 rintro e w' ⟨rfl, ⟨nd, rfl⟩⟩
 refine ⟨_, rfl, ?_⟩
 refine hK.out _ _ (bS2 BK475 (bT2 BK476)) (fun hHeld => ?_)
 clear hK K
 refine nO (some 9) ?_
 refine oI 9 (some 14) HT_.out (fun K hK => ?_)
 refine gO Tryz.func88 #[.int .i64 a0_1, .int .i64 a1_1] ?_
 with_reducible refine (impl_FpMul.calls a0_1 a1_1 t479 _ A4.out).mono ?_
 rintro e w' ⟨rfl, ⟨nd, rfl⟩⟩
 refine ⟨_, rfl, ?_⟩
 refine hK.out _ _ (bS2 BK475 (bT2 BK476)) (fun hHeld => ?_)
 clear hK K
 refine nO (some 14) ?_
 refine oI 10 (some 15) HT_.out (fun K hK => ?_)
 refine gO Tryz.func90 #[.int .i64 t478, .int .i64 t479] ?_
 with_reducible refine (impl_FpSub.calls t478 t479 t480 _ A5.out).mono ?_
 rintro e w' ⟨rfl, ⟨nd, rfl⟩⟩
 refine ⟨_, rfl, ?_⟩
 refine hK.out _ _ (bS2 BK475 (bT2 BK476)) (fun hHeld => ?_)
 clear hK K
 refine nO (some 15) ?_
 refine oI 15 (some 20) HT_.out (fun K hK => ?_)
 refine gO Tryz.func88 #[.int .i64 a0_0, .int .i64 a1_1] ?_
 with_reducible refine (impl_FpMul.calls a0_0 a1_1 t481 _ A6.out).mono ?_
 rintro e w' ⟨rfl, ⟨nd, rfl⟩⟩
 refine ⟨_, rfl, ?_⟩
 refine hK.out _ _ (bS2 BK475 (bT2 BK476)) (fun hHeld => ?_)
 clear hK K
 refine nO (some 20) ?_
 refine oI 20 (some 25) HT_.out (fun K hK => ?_)
 refine gO Tryz.func88 #[.int .i64 a0_1, .int .i64 a1_0] ?_
 with_reducible refine (impl_FpMul.calls a0_1 a1_0 t482 _ A7.out).mono ?_
 rintro e w' ⟨rfl, ⟨nd, rfl⟩⟩
 refine ⟨_, rfl, ?_⟩
 refine hK.out _ _ (bS2 BK475 (bT2 BK476)) (fun hHeld => ?_)
 clear hK K
 refine nO (some 25) ?_
 refine oI 21 (some 26) HT_.out (fun K hK => ?_)
 refine gO Tryz.func98 #[.int .i64 t481, .int .i64 t482] ?_
 with_reducible refine (impl_FpAdd.calls t481 t482 t483 _ A8.out).mono ?_
 rintro e w' ⟨rfl, ⟨nd, rfl⟩⟩
 refine ⟨_, rfl, ?_⟩
 refine hK.out _ _ (bS2 BK475 (bT2 BK476)) (fun hHeld => ?_)
 clear hK K
 refine nO (some 26) ?_
 refine pI 22 (some 27) HT_.out ?_
 refine oI 23 (none) HT_.out (fun K hK => ?_)
 have hs13 : w12.cell? ⟨gb477, 0, none⟩ = some (.int .i64 0) := bc BK477 0
 have hfs13 := blk_frozen BK477.out 0
 have hns13_0 := NB475_477.out
 have hns13_1 := NB476_477.out
 have hms13_0 := NB477_475.out
 have hms13_1 := NB477_476.out
 have hs14 : w12.cell? ⟨gb477, 1, none⟩ = some (.int .i64 0) := bc BK477 1
 have hfs14 := blk_frozen BK477.out 1
 have hns14_0 := NB475_477.out
 have hns14_1 := NB476_477.out
 have hms14_0 := NB477_475.out
 have hms14_1 := NB477_476.out
 refine skip_ (w1 := ?_) (by rfl) rfl ?_ ?_
 rotate_left
 ·go_simp
  rfl
 refine hK.out _ _ ⟨((cell_far (p := ⟨gb477, _, none⟩) NB475_477.out _).trans (((cell_far (p := ⟨gb477, _, none⟩) NB475_477.out _).trans (hHeld.1)))), ((cell_far (p := ⟨gb477, _, none⟩) NB475_477.out _).trans (((cell_far (p := ⟨gb477, _, none⟩) NB475_477.out _).trans (hHeld.2.1)))), ((cell_far (p := ⟨gb477, _, none⟩) NB476_477.out _).trans (((cell_far (p := ⟨gb477, _, none⟩) NB476_477.out _).trans (hHeld.2.2.1)))), ((cell_far (p := ⟨gb477, _, none⟩) NB476_477.out _).trans (((cell_far (p := ⟨gb477, _, none⟩) NB476_477.out _).trans (hHeld.2.2.2))))⟩ (fun hHeld => ?_)
 clear hK K
 refine done_ (done_of HT_.out (by kernel_rfl)) ?_
 try go_wp2
 refine rC gb477 75 #[.int .i64 t480, .int .i64 t483] (bU BK477) Tryz.underlying75 ?_
 exact ⟨rR, bZ HB⟩
def bits_Len64.j0 : Nat → Int → Int → Option (Int)
 | 0, _, _ => none
 | k + 1, x0, x2 => if x0 ≥ 65536 then (if (x0 / 65536) ≥ 256 then (if 0 ≤ (((x0 / 65536) / 256) % 256) then (if (((x0 / 65536) / 256) % 256) < 256 then (some (wrap64 ((wrap64 ((wrap64 (x2 + 16)) + 8)) + (wrap64 (bt (⟨#[0, 1, 2, 2, 3, 3, 3, 3, 4, 4, 4, 4, 4, 4, 4, 4, 5, 5, 5, 5, 5, 5, 5, 5, 5, 5, 5, 5, 5, 5, 5, 5, 6, 6, 6, 6, 6, 6, 6, 6, 6, 6, 6, 6, 6, 6, 6, 6, 6, 6, 6, 6, 6, 6, 6, 6, 6, 6, 6, 6, 6, 6, 6, 6, 7, 7, 7, 7, 7, 7, 7, 7, 7, 7, 7, 7, 7, 7, 7, 7, 7, 7, 7, 7, 7, 7, 7, 7, 7, 7, 7, 7, 7, 7, 7, 7, 7, 7, 7, 7, 7, 7, 7, 7, 7, 7, 7, 7, 7, 7, 7, 7, 7, 7, 7, 7, 7, 7, 7, 7, 7, 7, 7, 7, 7, 7, 7, 7, 8, 8, 8, 8, 8, 8, 8, 8, 8, 8, 8, 8, 8, 8, 8, 8, 8, 8, 8, 8, 8, 8, 8, 8, 8, 8, 8, 8, 8, 8, 8, 8, 8, 8, 8, 8, 8, 8, 8, 8, 8, 8, 8, 8, 8, 8, 8, 8, 8, 8, 8, 8, 8, 8, 8, 8, 8, 8, 8, 8, 8, 8, 8, 8, 8, 8, 8, 8, 8, 8, 8, 8, 8, 8, 8, 8, 8, 8, 8, 8, 8, 8, 8, 8, 8, 8, 8, 8, 8, 8, 8, 8, 8, 8, 8, 8, 8, 8, 8, 8, 8, 8, 8, 8, 8, 8, 8, 8, 8, 8, 8, 8, 8, 8, 8, 8, 8, 8, 8, 8, 8, 8, 8, 8, 8, 8, 8, 8]⟩ : ByteArray) (((x0 / 65536) / 256) % 256)))))) else (none)) else (none)) else (if 0 ≤ ((x0 / 65536) % 256) then (if ((x0 / 65536) % 256) < 256 then (some (wrap64 ((wrap64 (x2 + 16)) + (wrap64 (bt (⟨#[0, 1, 2, 2, 3, 3, 3, 3, 4, 4, 4, 4, 4, 4, 4, 4, 5, 5, 5, 5, 5, 5, 5, 5, 5, 5, 5, 5, 5, 5, 5, 5, 6, 6, 6, 6, 6, 6, 6, 6, 6, 6, 6, 6, 6, 6, 6, 6, 6, 6, 6, 6, 6, 6, 6, 6, 6, 6, 6, 6, 6, 6, 6, 6, 7, 7, 7, 7, 7, 7, 7, 7, 7, 7, 7, 7, 7, 7, 7, 7, 7, 7, 7, 7, 7, 7, 7, 7, 7, 7, 7, 7, 7, 7, 7, 7, 7, 7, 7, 7, 7, 7, 7, 7, 7, 7, 7, 7, 7, 7, 7, 7, 7, 7, 7, 7, 7, 7, 7, 7, 7, 7, 7, 7, 7, 7, 7, 7, 8, 8, 8, 8, 8, 8, 8, 8, 8, 8, 8, 8, 8, 8, 8, 8, 8, 8, 8, 8, 8, 8, 8, 8, 8, 8, 8, 8, 8, 8, 8, 8, 8, 8, 8, 8, 8, 8, 8, 8, 8, 8, 8, 8, 8, 8, 8, 8, 8, 8, 8, 8, 8, 8, 8, 8, 8, 8, 8, 8, 8, 8, 8, 8, 8, 8, 8, 8, 8, 8, 8, 8, 8, 8, 8, 8, 8, 8, 8, 8, 8, 8, 8, 8, 8, 8, 8, 8, 8, 8, 8, 8, 8, 8, 8, 8, 8, 8, 8, 8, 8, 8, 8, 8, 8, 8, 8, 8, 8, 8, 8, 8, 8, 8, 8, 8, 8, 8, 8, 8, 8, 8, 8, 8, 8, 8, 8, 8]⟩ : ByteArray) ((x0 / 65536) % 256)))))) else (none)) else (none))) else (if x0 ≥ 256 then (if 0 ≤ ((x0 / 256) % 256) then (if ((x0 / 256) % 256) < 256 then (some (wrap64 ((wrap64 (x2 + 8)) + (wrap64 (bt (⟨#[0, 1, 2, 2, 3, 3, 3, 3, 4, 4, 4, 4, 4, 4, 4, 4, 5, 5, 5, 5, 5, 5, 5, 5, 5, 5, 5, 5, 5, 5, 5, 5, 6, 6, 6, 6, 6, 6, 6, 6, 6, 6, 6, 6, 6, 6, 6, 6, 6, 6, 6, 6, 6, 6, 6, 6, 6, 6, 6, 6, 6, 6, 6, 6, 7, 7, 7, 7, 7, 7, 7, 7, 7, 7, 7, 7, 7, 7, 7, 7, 7, 7, 7, 7, 7, 7, 7, 7, 7, 7, 7, 7, 7, 7, 7, 7, 7, 7, 7, 7, 7, 7, 7, 7, 7, 7, 7, 7, 7, 7, 7, 7, 7, 7, 7, 7, 7, 7, 7, 7, 7, 7, 7, 7, 7, 7, 7, 7, 8, 8, 8, 8, 8, 8, 8, 8, 8, 8, 8, 8, 8, 8, 8, 8, 8, 8, 8, 8, 8, 8, 8, 8, 8, 8, 8, 8, 8, 8, 8, 8, 8, 8, 8, 8, 8, 8, 8, 8, 8, 8, 8, 8, 8, 8, 8, 8, 8, 8, 8, 8, 8, 8, 8, 8, 8, 8, 8, 8, 8, 8, 8, 8, 8, 8, 8, 8, 8, 8, 8, 8, 8, 8, 8, 8, 8, 8, 8, 8, 8, 8, 8, 8, 8, 8, 8, 8, 8, 8, 8, 8, 8, 8, 8, 8, 8, 8, 8, 8, 8, 8, 8, 8, 8, 8, 8, 8, 8, 8, 8, 8, 8, 8, 8, 8, 8, 8, 8, 8, 8, 8, 8, 8, 8, 8, 8, 8]⟩ : ByteArray) ((x0 / 256) % 256)))))) else (none)) else (none)) else (if 0 ≤ ((x0) % 256) then (if ((x0) % 256) < 256 then (some (wrap64 (x2 + (wrap64 (bt (⟨#[0, 1, 2, 2, 3, 3, 3, 3, 4, 4, 4, 4, 4, 4, 4, 4, 5, 5, 5, 5, 5, 5, 5, 5, 5, 5, 5, 5, 5, 5, 5, 5, 6, 6, 6, 6, 6, 6, 6, 6, 6, 6, 6, 6, 6, 6, 6, 6, 6, 6, 6, 6, 6, 6, 6, 6, 6, 6, 6, 6, 6, 6, 6, 6, 7, 7, 7, 7, 7, 7, 7, 7, 7, 7, 7, 7, 7, 7, 7, 7, 7, 7, 7, 7, 7, 7, 7, 7, 7, 7, 7, 7, 7, 7, 7, 7, 7, 7, 7, 7, 7, 7, 7, 7, 7, 7, 7, 7, 7, 7, 7, 7, 7, 7, 7, 7, 7, 7, 7, 7, 7, 7, 7, 7, 7, 7, 7, 7, 8, 8, 8, 8, 8, 8, 8, 8, 8, 8, 8, 8, 8, 8, 8, 8, 8, 8, 8, 8, 8, 8, 8, 8, 8, 8, 8, 8, 8, 8, 8, 8, 8, 8, 8, 8, 8, 8, 8, 8, 8, 8, 8, 8, 8, 8, 8, 8, 8, 8, 8, 8, 8, 8, 8, 8, 8, 8, 8, 8, 8, 8, 8, 8, 8, 8, 8, 8, 8, 8, 8, 8, 8, 8, 8, 8, 8, 8, 8, 8, 8, 8, 8, 8, 8, 8, 8, 8, 8, 8, 8, 8, 8, 8, 8, 8, 8, 8, 8, 8, 8, 8, 8, 8, 8, 8, 8, 8, 8, 8, 8, 8, 8, 8, 8, 8, 8, 8, 8, 8, 8, 8, 8, 8, 8, 8, 8, 8]⟩ : ByteArray) ((x0) % 256)))))) else (none)) else (none)))
def bits_Len64.f (k : Nat) (a0 : Int) : Option (Int) := if a0 ≥ 4294967296 then (bits_Len64.j0 k (a0 / 4294967296) 32) else (bits_Len64.j0 k a0 0)
set_option maxHeartbeats 8000000 in
set_option maxRecDepth 100000 in
theorem bits_Len64.calls (k : Nat) (a0 : Int) (r : Int) (w : World) (h : bits_Len64.f k a0 = some r) :
  Calls Tryz.prog 154 #[.int .u64 a0] w fun e w' => e = .returned (.int .i64 r) ∧ Drawn0 w w' := by
 have H : (if a0 ≥ 4294967296 then (bits_Len64.j0 k (a0 / 4294967296) 32) else (bits_Len64.j0 k a0 0)) = some r := h
 clear h
 have HC2 := Aside0.mk H
 clear H
 go_enter Tryz.func154, Tryz.ntmps154
 go_upto_if 4 with (fail)
 go_cut [0, 2] (fun v0 v2 wc => ∃ (kq : Nat) (x0_1 : Int) (x2_1 : Int), v0 = .int .u64 x0_1 ∧ v2 = .int .i64 x2_1 ∧ Aside0 (bits_Len64.j0 kq x0_1 x2_1 = some r) ∧ Aside0 (kq ≤ k) ∧ Drawn0 w wc)
 case first =>
  have H := HC2.out
  clear HC2
  by_cases c3 : a0 ≥ 4294967296
  ·rw [if_pos c3] at H
   have c3b0 := decide_eq_true c3
   clear c3
   (first | rw [c3b0] | (simp only [i64_w, i32_w]; rw [c3b0]) | rw [c3b1] | skip)
   have H' := Aside0.mk H
   clear H
   go_wp2
   go_meet
   case rel => exact ⟨_, (a0 / 4294967296), (32), rS, rS, H', ⟨by first | omega | exact Nat.le_refl _⟩, by repeat (first | exact Drawn0.refl _ | apply Drawn0.step)⟩
  ·rw [if_neg c3] at H
   have c3b0 := decide_eq_false c3
   clear c3
   (first | rw [c3b0] | (simp only [i64_w, i32_w]; rw [c3b0]) | rw [c3b1] | skip)
   have H' := Aside0.mk H
   clear H
   go_wp2
   go_meet
   case rel => exact ⟨_, (a0), (0), rS, rS, H', ⟨by first | omega | exact Nat.le_refl _⟩, by repeat (first | exact Drawn0.refl _ | apply Drawn0.step)⟩
 case rest =>
  clear HC2
  try clear c1
  try clear p2
  try clear c3
  try clear c3b0
  obtain ⟨kq, x0_1, x2_1, rfl, rfl, HA, HJ1, ⟨mc1, rfl⟩⟩ := hcut
  cases kq with
  | zero => exact absurd HA.out (by simp [bits_Len64.j0])
  | succ kj1 =>
   have H := HA.out
   clear HA
   simp only [bits_Len64.j0] at H
   by_cases c4 : x0_1 ≥ 65536
   ·rw [if_pos c4] at H
    have c4b0 := decide_eq_true c4
    clear c4
    by_cases c5 : (x0_1 / 65536) ≥ 256
    ·rw [if_pos c5] at H
     have c5b0 := decide_eq_true c5
     clear c5
     obtain ⟨ji6, hji6⟩ : ∃ j_ : Int, (((x0_1 / 65536) / 256) % 256) = j_ := ⟨_, rfl⟩
     replace H : (if 0 ≤ (ji6) then (if (ji6) < 256 then (some (wrap64 ((wrap64 ((wrap64 (x2_1 + 16)) + 8)) + (wrap64 (bt (⟨#[0, 1, 2, 2, 3, 3, 3, 3, 4, 4, 4, 4, 4, 4, 4, 4, 5, 5, 5, 5, 5, 5, 5, 5, 5, 5, 5, 5, 5, 5, 5, 5, 6, 6, 6, 6, 6, 6, 6, 6, 6, 6, 6, 6, 6, 6, 6, 6, 6, 6, 6, 6, 6, 6, 6, 6, 6, 6, 6, 6, 6, 6, 6, 6, 7, 7, 7, 7, 7, 7, 7, 7, 7, 7, 7, 7, 7, 7, 7, 7, 7, 7, 7, 7, 7, 7, 7, 7, 7, 7, 7, 7, 7, 7, 7, 7, 7, 7, 7, 7, 7, 7, 7, 7, 7, 7, 7, 7, 7, 7, 7, 7, 7, 7, 7, 7, 7, 7, 7, 7, 7, 7, 7, 7, 7, 7, 7, 7, 8, 8, 8, 8, 8, 8, 8, 8, 8, 8, 8, 8, 8, 8, 8, 8, 8, 8, 8, 8, 8, 8, 8, 8, 8, 8, 8, 8, 8, 8, 8, 8, 8, 8, 8, 8, 8, 8, 8, 8, 8, 8, 8, 8, 8, 8, 8, 8, 8, 8, 8, 8, 8, 8, 8, 8, 8, 8, 8, 8, 8, 8, 8, 8, 8, 8, 8, 8, 8, 8, 8, 8, 8, 8, 8, 8, 8, 8, 8, 8, 8, 8, 8, 8, 8, 8, 8, 8, 8, 8, 8, 8, 8, 8, 8, 8, 8, 8, 8, 8, 8, 8, 8, 8, 8, 8, 8, 8, 8, 8, 8, 8, 8, 8, 8, 8, 8, 8, 8, 8, 8, 8, 8, 8, 8, 8, 8, 8]⟩ : ByteArray) (ji6)))))) else (none)) else (none)) = some r := by first | (rw [hji6] at H; exact H) | (simp only [hji6] at H ⊢; exact H)
     by_cases c7 : 0 ≤ (ji6)
     ·rw [if_pos c7] at H
      have c7b0 := decide_eq_true c7
      clear c7
      by_cases c8 : (ji6) < 256
      ·rw [if_pos c8] at H
       have c8b0 := decide_eq_true c8
       clear c8
       obtain rfl := Option.some.inj H
       have p9 : 0 ≤ ((ji6) : Int) := of_decide_eq_true (by first | (with_reducible assumption) | assumption)
       have q9 : (ji6) < (256 : Int) := of_decide_eq_true (by first | (with_reducible assumption) | assumption)
       have hx9 := bt_at (⟨#[0, 1, 2, 2, 3, 3, 3, 3, 4, 4, 4, 4, 4, 4, 4, 4, 5, 5, 5, 5, 5, 5, 5, 5, 5, 5, 5, 5, 5, 5, 5, 5, 6, 6, 6, 6, 6, 6, 6, 6, 6, 6, 6, 6, 6, 6, 6, 6, 6, 6, 6, 6, 6, 6, 6, 6, 6, 6, 6, 6, 6, 6, 6, 6, 7, 7, 7, 7, 7, 7, 7, 7, 7, 7, 7, 7, 7, 7, 7, 7, 7, 7, 7, 7, 7, 7, 7, 7, 7, 7, 7, 7, 7, 7, 7, 7, 7, 7, 7, 7, 7, 7, 7, 7, 7, 7, 7, 7, 7, 7, 7, 7, 7, 7, 7, 7, 7, 7, 7, 7, 7, 7, 7, 7, 7, 7, 7, 7, 8, 8, 8, 8, 8, 8, 8, 8, 8, 8, 8, 8, 8, 8, 8, 8, 8, 8, 8, 8, 8, 8, 8, 8, 8, 8, 8, 8, 8, 8, 8, 8, 8, 8, 8, 8, 8, 8, 8, 8, 8, 8, 8, 8, 8, 8, 8, 8, 8, 8, 8, 8, 8, 8, 8, 8, 8, 8, 8, 8, 8, 8, 8, 8, 8, 8, 8, 8, 8, 8, 8, 8, 8, 8, 8, 8, 8, 8, 8, 8, 8, 8, 8, 8, 8, 8, 8, 8, 8, 8, 8, 8, 8, 8, 8, 8, 8, 8, 8, 8, 8, 8, 8, 8, 8, 8, 8, 8, 8, 8, 8, 8, 8, 8, 8, 8, 8, 8, 8, 8, 8, 8, 8, 8, 8, 8, 8, 8]⟩ : ByteArray) (ji6)
       replace p9 := eq_true p9
       replace q9 := eq_true q9
       go_wp2
       go_ret
       exact ⟨by first | rfl | (simp; done) | (simp only [← hji6] <;> (first | rfl | simp)) | (simp [*]; done), by repeat (first | exact Drawn0.refl _ | apply Drawn0.step)⟩
      ·rw [if_neg c8] at H
       exact absurd H (by simp)
     ·rw [if_neg c7] at H
      exact absurd H (by simp)
    ·rw [if_neg c5] at H
     have c5b0 := decide_eq_false c5
     clear c5
     obtain ⟨ji10, hji10⟩ : ∃ j_ : Int, ((x0_1 / 65536) % 256) = j_ := ⟨_, rfl⟩
     replace H : (if 0 ≤ (ji10) then (if (ji10) < 256 then (some (wrap64 ((wrap64 (x2_1 + 16)) + (wrap64 (bt (⟨#[0, 1, 2, 2, 3, 3, 3, 3, 4, 4, 4, 4, 4, 4, 4, 4, 5, 5, 5, 5, 5, 5, 5, 5, 5, 5, 5, 5, 5, 5, 5, 5, 6, 6, 6, 6, 6, 6, 6, 6, 6, 6, 6, 6, 6, 6, 6, 6, 6, 6, 6, 6, 6, 6, 6, 6, 6, 6, 6, 6, 6, 6, 6, 6, 7, 7, 7, 7, 7, 7, 7, 7, 7, 7, 7, 7, 7, 7, 7, 7, 7, 7, 7, 7, 7, 7, 7, 7, 7, 7, 7, 7, 7, 7, 7, 7, 7, 7, 7, 7, 7, 7, 7, 7, 7, 7, 7, 7, 7, 7, 7, 7, 7, 7, 7, 7, 7, 7, 7, 7, 7, 7, 7, 7, 7, 7, 7, 7, 8, 8, 8, 8, 8, 8, 8, 8, 8, 8, 8, 8, 8, 8, 8, 8, 8, 8, 8, 8, 8, 8, 8, 8, 8, 8, 8, 8, 8, 8, 8, 8, 8, 8, 8, 8, 8, 8, 8, 8, 8, 8, 8, 8, 8, 8, 8, 8, 8, 8, 8, 8, 8, 8, 8, 8, 8, 8, 8, 8, 8, 8, 8, 8, 8, 8, 8, 8, 8, 8, 8, 8, 8, 8, 8, 8, 8, 8, 8, 8, 8, 8, 8, 8, 8, 8, 8, 8, 8, 8, 8, 8, 8, 8, 8, 8, 8, 8, 8, 8, 8, 8, 8, 8, 8, 8, 8, 8, 8, 8, 8, 8, 8, 8, 8, 8, 8, 8, 8, 8, 8, 8, 8, 8, 8, 8, 8, 8]⟩ : ByteArray) (ji10)))))) else (none)) else (none)) = some r := by first | (rw [hji10] at H; exact H) | (simp only [hji10] at H ⊢; exact H)
     by_cases c11 : 0 ≤ (ji10)
     ·rw [if_pos c11] at H
      have c11b0 := decide_eq_true c11
      clear c11
      by_cases c12 : (ji10) < 256
      ·rw [if_pos c12] at H
       have c12b0 := decide_eq_true c12
       clear c12
       obtain rfl := Option.some.inj H
       have p13 : 0 ≤ ((ji10) : Int) := of_decide_eq_true (by first | (with_reducible assumption) | assumption)
       have q13 : (ji10) < (256 : Int) := of_decide_eq_true (by first | (with_reducible assumption) | assumption)
       have hx13 := bt_at (⟨#[0, 1, 2, 2, 3, 3, 3, 3, 4, 4, 4, 4, 4, 4, 4, 4, 5, 5, 5, 5, 5, 5, 5, 5, 5, 5, 5, 5, 5, 5, 5, 5, 6, 6, 6, 6, 6, 6, 6, 6, 6, 6, 6, 6, 6, 6, 6, 6, 6, 6, 6, 6, 6, 6, 6, 6, 6, 6, 6, 6, 6, 6, 6, 6, 7, 7, 7, 7, 7, 7, 7, 7, 7, 7, 7, 7, 7, 7, 7, 7, 7, 7, 7, 7, 7, 7, 7, 7, 7, 7, 7, 7, 7, 7, 7, 7, 7, 7, 7, 7, 7, 7, 7, 7, 7, 7, 7, 7, 7, 7, 7, 7, 7, 7, 7, 7, 7, 7, 7, 7, 7, 7, 7, 7, 7, 7, 7, 7, 8, 8, 8, 8, 8, 8, 8, 8, 8, 8, 8, 8, 8, 8, 8, 8, 8, 8, 8, 8, 8, 8, 8, 8, 8, 8, 8, 8, 8, 8, 8, 8, 8, 8, 8, 8, 8, 8, 8, 8, 8, 8, 8, 8, 8, 8, 8, 8, 8, 8, 8, 8, 8, 8, 8, 8, 8, 8, 8, 8, 8, 8, 8, 8, 8, 8, 8, 8, 8, 8, 8, 8, 8, 8, 8, 8, 8, 8, 8, 8, 8, 8, 8, 8, 8, 8, 8, 8, 8, 8, 8, 8, 8, 8, 8, 8, 8, 8, 8, 8, 8, 8, 8, 8, 8, 8, 8, 8, 8, 8, 8, 8, 8, 8, 8, 8, 8, 8, 8, 8, 8, 8, 8, 8, 8, 8, 8, 8]⟩ : ByteArray) (ji10)
       replace p13 := eq_true p13
       replace q13 := eq_true q13
       go_wp2
       go_ret
       exact ⟨by first | rfl | (simp; done) | (simp only [← hji10] <;> (first | rfl | simp)) | (simp [*]; done), by repeat (first | exact Drawn0.refl _ | apply Drawn0.step)⟩
      ·rw [if_neg c12] at H
       exact absurd H (by simp)
     ·rw [if_neg c11] at H
      exact absurd H (by simp)
   ·rw [if_neg c4] at H
    have c4b0 := decide_eq_false c4
    clear c4
    by_cases c14 : x0_1 ≥ 256
    ·rw [if_pos c14] at H
     have c14b0 := decide_eq_true c14
     clear c14
     obtain ⟨ji15, hji15⟩ : ∃ j_ : Int, ((x0_1 / 256) % 256) = j_ := ⟨_, rfl⟩
     replace H : (if 0 ≤ (ji15) then (if (ji15) < 256 then (some (wrap64 ((wrap64 (x2_1 + 8)) + (wrap64 (bt (⟨#[0, 1, 2, 2, 3, 3, 3, 3, 4, 4, 4, 4, 4, 4, 4, 4, 5, 5, 5, 5, 5, 5, 5, 5, 5, 5, 5, 5, 5, 5, 5, 5, 6, 6, 6, 6, 6, 6, 6, 6, 6, 6, 6, 6, 6, 6, 6, 6, 6, 6, 6, 6, 6, 6, 6, 6, 6, 6, 6, 6, 6, 6, 6, 6, 7, 7, 7, 7, 7, 7, 7, 7, 7, 7, 7, 7, 7, 7, 7, 7, 7, 7, 7, 7, 7, 7, 7, 7, 7, 7, 7, 7, 7, 7, 7, 7, 7, 7, 7, 7, 7, 7, 7, 7, 7, 7, 7, 7, 7, 7, 7, 7, 7, 7, 7, 7, 7, 7, 7, 7, 7, 7, 7, 7, 7, 7, 7, 7, 8, 8, 8, 8, 8, 8, 8, 8, 8, 8, 8, 8, 8, 8, 8, 8, 8, 8, 8, 8, 8, 8, 8, 8, 8, 8, 8, 8, 8, 8, 8, 8, 8, 8, 8, 8, 8, 8, 8, 8, 8, 8, 8, 8, 8, 8, 8, 8, 8, 8, 8, 8, 8, 8, 8, 8, 8, 8, 8, 8, 8, 8, 8, 8, 8, 8, 8, 8, 8, 8, 8, 8, 8, 8, 8, 8, 8, 8, 8, 8, 8, 8, 8, 8, 8, 8, 8, 8, 8, 8, 8, 8, 8, 8, 8, 8, 8, 8, 8, 8, 8, 8, 8, 8, 8, 8, 8, 8, 8, 8, 8, 8, 8, 8, 8, 8, 8, 8, 8, 8, 8, 8, 8, 8, 8, 8, 8, 8]⟩ : ByteArray) (ji15)))))) else (none)) else (none)) = some r := by first | (rw [hji15] at H; exact H) | (simp only [hji15] at H ⊢; exact H)
     by_cases c16 : 0 ≤ (ji15)
     ·rw [if_pos c16] at H
      have c16b0 := decide_eq_true c16
      clear c16
      by_cases c17 : (ji15) < 256
      ·rw [if_pos c17] at H
       have c17b0 := decide_eq_true c17
       clear c17
       obtain rfl := Option.some.inj H
       have p18 : 0 ≤ ((ji15) : Int) := of_decide_eq_true (by first | (with_reducible assumption) | assumption)
       have q18 : (ji15) < (256 : Int) := of_decide_eq_true (by first | (with_reducible assumption) | assumption)
       have hx18 := bt_at (⟨#[0, 1, 2, 2, 3, 3, 3, 3, 4, 4, 4, 4, 4, 4, 4, 4, 5, 5, 5, 5, 5, 5, 5, 5, 5, 5, 5, 5, 5, 5, 5, 5, 6, 6, 6, 6, 6, 6, 6, 6, 6, 6, 6, 6, 6, 6, 6, 6, 6, 6, 6, 6, 6, 6, 6, 6, 6, 6, 6, 6, 6, 6, 6, 6, 7, 7, 7, 7, 7, 7, 7, 7, 7, 7, 7, 7, 7, 7, 7, 7, 7, 7, 7, 7, 7, 7, 7, 7, 7, 7, 7, 7, 7, 7, 7, 7, 7, 7, 7, 7, 7, 7, 7, 7, 7, 7, 7, 7, 7, 7, 7, 7, 7, 7, 7, 7, 7, 7, 7, 7, 7, 7, 7, 7, 7, 7, 7, 7, 8, 8, 8, 8, 8, 8, 8, 8, 8, 8, 8, 8, 8, 8, 8, 8, 8, 8, 8, 8, 8, 8, 8, 8, 8, 8, 8, 8, 8, 8, 8, 8, 8, 8, 8, 8, 8, 8, 8, 8, 8, 8, 8, 8, 8, 8, 8, 8, 8, 8, 8, 8, 8, 8, 8, 8, 8, 8, 8, 8, 8, 8, 8, 8, 8, 8, 8, 8, 8, 8, 8, 8, 8, 8, 8, 8, 8, 8, 8, 8, 8, 8, 8, 8, 8, 8, 8, 8, 8, 8, 8, 8, 8, 8, 8, 8, 8, 8, 8, 8, 8, 8, 8, 8, 8, 8, 8, 8, 8, 8, 8, 8, 8, 8, 8, 8, 8, 8, 8, 8, 8, 8, 8, 8, 8, 8, 8, 8]⟩ : ByteArray) (ji15)
       replace p18 := eq_true p18
       replace q18 := eq_true q18
       go_wp2
       go_ret
       exact ⟨by first | rfl | (simp; done) | (simp only [← hji15] <;> (first | rfl | simp)) | (simp [*]; done), by repeat (first | exact Drawn0.refl _ | apply Drawn0.step)⟩
      ·rw [if_neg c17] at H
       exact absurd H (by simp)
     ·rw [if_neg c16] at H
      exact absurd H (by simp)
    ·rw [if_neg c14] at H
     have c14b0 := decide_eq_false c14
     clear c14
     obtain ⟨ji19, hji19⟩ : ∃ j_ : Int, ((x0_1) % 256) = j_ := ⟨_, rfl⟩
     replace H : (if 0 ≤ (ji19) then (if (ji19) < 256 then (some (wrap64 (x2_1 + (wrap64 (bt (⟨#[0, 1, 2, 2, 3, 3, 3, 3, 4, 4, 4, 4, 4, 4, 4, 4, 5, 5, 5, 5, 5, 5, 5, 5, 5, 5, 5, 5, 5, 5, 5, 5, 6, 6, 6, 6, 6, 6, 6, 6, 6, 6, 6, 6, 6, 6, 6, 6, 6, 6, 6, 6, 6, 6, 6, 6, 6, 6, 6, 6, 6, 6, 6, 6, 7, 7, 7, 7, 7, 7, 7, 7, 7, 7, 7, 7, 7, 7, 7, 7, 7, 7, 7, 7, 7, 7, 7, 7, 7, 7, 7, 7, 7, 7, 7, 7, 7, 7, 7, 7, 7, 7, 7, 7, 7, 7, 7, 7, 7, 7, 7, 7, 7, 7, 7, 7, 7, 7, 7, 7, 7, 7, 7, 7, 7, 7, 7, 7, 8, 8, 8, 8, 8, 8, 8, 8, 8, 8, 8, 8, 8, 8, 8, 8, 8, 8, 8, 8, 8, 8, 8, 8, 8, 8, 8, 8, 8, 8, 8, 8, 8, 8, 8, 8, 8, 8, 8, 8, 8, 8, 8, 8, 8, 8, 8, 8, 8, 8, 8, 8, 8, 8, 8, 8, 8, 8, 8, 8, 8, 8, 8, 8, 8, 8, 8, 8, 8, 8, 8, 8, 8, 8, 8, 8, 8, 8, 8, 8, 8, 8, 8, 8, 8, 8, 8, 8, 8, 8, 8, 8, 8, 8, 8, 8, 8, 8, 8, 8, 8, 8, 8, 8, 8, 8, 8, 8, 8, 8, 8, 8, 8, 8, 8, 8, 8, 8, 8, 8, 8, 8, 8, 8, 8, 8, 8, 8]⟩ : ByteArray) (ji19)))))) else (none)) else (none)) = some r := by first | (rw [hji19] at H; exact H) | (simp only [hji19] at H ⊢; exact H)
     by_cases c20 : 0 ≤ (ji19)
     ·rw [if_pos c20] at H
      have c20b0 := decide_eq_true c20
      clear c20
      by_cases c21 : (ji19) < 256
      ·rw [if_pos c21] at H
       have c21b0 := decide_eq_true c21
       clear c21
       obtain rfl := Option.some.inj H
       have p22 : 0 ≤ ((ji19) : Int) := of_decide_eq_true (by first | (with_reducible assumption) | assumption)
       have q22 : (ji19) < (256 : Int) := of_decide_eq_true (by first | (with_reducible assumption) | assumption)
       have hx22 := bt_at (⟨#[0, 1, 2, 2, 3, 3, 3, 3, 4, 4, 4, 4, 4, 4, 4, 4, 5, 5, 5, 5, 5, 5, 5, 5, 5, 5, 5, 5, 5, 5, 5, 5, 6, 6, 6, 6, 6, 6, 6, 6, 6, 6, 6, 6, 6, 6, 6, 6, 6, 6, 6, 6, 6, 6, 6, 6, 6, 6, 6, 6, 6, 6, 6, 6, 7, 7, 7, 7, 7, 7, 7, 7, 7, 7, 7, 7, 7, 7, 7, 7, 7, 7, 7, 7, 7, 7, 7, 7, 7, 7, 7, 7, 7, 7, 7, 7, 7, 7, 7, 7, 7, 7, 7, 7, 7, 7, 7, 7, 7, 7, 7, 7, 7, 7, 7, 7, 7, 7, 7, 7, 7, 7, 7, 7, 7, 7, 7, 7, 8, 8, 8, 8, 8, 8, 8, 8, 8, 8, 8, 8, 8, 8, 8, 8, 8, 8, 8, 8, 8, 8, 8, 8, 8, 8, 8, 8, 8, 8, 8, 8, 8, 8, 8, 8, 8, 8, 8, 8, 8, 8, 8, 8, 8, 8, 8, 8, 8, 8, 8, 8, 8, 8, 8, 8, 8, 8, 8, 8, 8, 8, 8, 8, 8, 8, 8, 8, 8, 8, 8, 8, 8, 8, 8, 8, 8, 8, 8, 8, 8, 8, 8, 8, 8, 8, 8, 8, 8, 8, 8, 8, 8, 8, 8, 8, 8, 8, 8, 8, 8, 8, 8, 8, 8, 8, 8, 8, 8, 8, 8, 8, 8, 8, 8, 8, 8, 8, 8, 8, 8, 8, 8, 8, 8, 8, 8, 8]⟩ : ByteArray) (ji19)
       replace p22 := eq_true p22
       replace q22 := eq_true q22
       go_wp2
       go_ret
       exact ⟨by first | rfl | (simp; done) | (simp only [← hji19] <;> (first | rfl | simp)) | (simp [*]; done), by repeat (first | exact Drawn0.refl _ | apply Drawn0.step)⟩
      ·rw [if_neg c21] at H
       exact absurd H (by simp)
     ·rw [if_neg c20] at H
      exact absurd H (by simp)
def bits_Len.f (k : Nat) (a0 : Int) : Option (Int) := (bits_Len64.f k a0).bind fun t484 => (some t484)
set_option maxHeartbeats 8000000 in
set_option maxRecDepth 100000 in
theorem bits_Len.calls (k : Nat) (a0 : Int) (r : Int) (w : World) (h : bits_Len.f k a0 = some r) :
  Calls Tryz.prog 135 #[.int .u64 a0] w fun e w' => e = .returned (.int .i64 r) ∧ Drawn0 w w' := by
 have H : ((bits_Len64.f k a0).bind fun t484 => (some t484)) = some r := h
 clear h
 replace H := Option.bind_eq_some_iff.mp H
 obtain ⟨t484, A20, H⟩ := H
 have A2 := Aside0.mk A20
 clear A20
 obtain rfl := Option.some.inj H
 go_enter Tryz.func135, Tryz.ntmps135
 go_wp2_with (first | (refine gC (some 7) Tryz.func154 #[.int .u64 a0] ?_; (with_reducible refine (bits_Len64.calls k a0 t484 _ A2.out).mono ?_); rintro e w' ⟨rfl, ⟨nd, rfl⟩⟩; refine ⟨_, rfl, ?_⟩))
 go_ret
 exact ⟨rS, rD⟩
end Go.Proofs.YtkdmplfldfagnaaGreatDoor.Pf
end
