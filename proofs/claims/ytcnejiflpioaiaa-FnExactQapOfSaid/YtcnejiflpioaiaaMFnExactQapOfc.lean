/- What is proved here: part 3 of 5 of the proof of the given statement FnExactQapOf: the contracts of the Go functions that it reaches, the plain facts on lists and numbers, and (in the last part) the statement itself. No conditions beyond the given ones. -/
import Derived.Test.YtcnejiflpioaiaaMFnExactQapOfwSlim
import Derived.Test.YtcnejiflpioaiaaMFnExactQapOfa
import Derived.Test.YtcnejiflpioaiaaMFnExactQapOfb

section
namespace Go.Proofs.Ytcnejiflpioaiaa.Pf
open Go.RowKit Go.Proofs.YtcnejiflpioaiaaW.PrintWords Go.Proofs.YtcnejiflpioaiaaW.PrintLast Go.Proofs.YtcnejiflpioaiaaW.PrintMore
attribute [local go_sem] max2_int min2_int max_two min_two max_three min_three max_four min_four   -- for this text's walks alone
set_option linter.unusedVariables false
set_option linter.unusedSimpArgs false

/-! ### impl_SystemOk: function 83 -/
theorem lit_event {P : Program} {ops : Array Oper} {rest : List Oper} {o : Oper} {a : Act} {Q : Exit → Act → World → Prop} {W : World} (hgd : o.guard = none) {N : Tmp} (_hd : o.dst = some N) {cs : Array Value} {t : TypeId} {n : Nat}
  (hrun : (execOp a.eval o).run P W = .ok (.value (.slice (some ⟨W.heap.size, 0, none⟩) n n)) (W.alloc (.cells cs t (0, 0))))
  (h : ∀ g, g = W.heap.size → ∀ w1, w1.heap[g]? = some (.cells cs t (0, 0)) → Below W.heap.size W w1 → wpList P ops Q rest (a.put o.dst (.slice (some ⟨g, 0, none⟩) n n)) w1) : wpList P ops Q (o :: rest) a W :=
 Kd.event_run hgd hrun (h _ rfl _ (blk_new W _) (below_alloc (Below.refl _ _) _))
mutual
def impl_SystemOk.j0 : Nat → Bool → Int → Int → List (S40) → Option (Bool)
 | 0, _, _, _, _ => none
 | k + 1, x27, x428000, x428001, x428002 => if x27 = true then (some false) else (if (x428002.length : Int) < 1 then (impl_SystemOk.j1 k true x428000 x428001 x428002) else (impl_SystemOk.j1 k (decide ((x428002.length : Int) > 16)) x428000 x428001 x428002))
def impl_SystemOk.j1 : Nat → Bool → Int → Int → List (S40) → Option (Bool)
 | 0, _, _, _, _ => none
 | k + 1, x37, x428000, x428001, x428002 => if x37 = true then (some false) else (impl_SystemOk.l0 k x428002 (x428002.length : Int) 0 x428000 x428001 x428002)
def impl_SystemOk.l0 : Nat → List (S40) → Int → Int → Int → Int → List (S40) → Option (Bool)
 | 0, _, _, _, _, _, _ => none
 | k + 1, x39, x40, x41, x428000, x428001, x428002 => if x41 < x40 then (if 0 ≤ x41 then (if x41 < (x39.length : Int) then (if (((rd_T40 x39 x41).f0).length : Int) = x428000 then ((impl_areScalars.f k ((rd_T40 x39 x41).f0)).bind fun t430 => (impl_SystemOk.j3 k x39 x40 x41 (!t430) x428000 x428001 x428002 ((rd_T40 x39 x41).f0) ((rd_T40 x39 x41).f1) ((rd_T40 x39 x41).f2))) else (impl_SystemOk.j3 k x39 x40 x41 true x428000 x428001 x428002 ((rd_T40 x39 x41).f0) ((rd_T40 x39 x41).f1) ((rd_T40 x39 x41).f2))) else (none)) else (none)) else (some true)
def impl_SystemOk.j3 : Nat → List (S40) → Int → Int → Bool → Int → Int → List (S40) → List Int → List Int → List Int → Option (Bool)
 | 0, _, _, _, _, _, _, _, _, _, _ => none
 | k + 1, x39, x40, x41, x66, x428000, x428001, x428002, x430000, x430001, x430002 => if x66 = true then (some false) else (if (x430001.length : Int) = x428000 then ((impl_areScalars.f k x430001).bind fun t431 => (impl_SystemOk.j4 k x39 x40 x41 (!t431) x428000 x428001 x428002 x430000 x430001 x430002)) else (impl_SystemOk.j4 k x39 x40 x41 true x428000 x428001 x428002 x430000 x430001 x430002))
def impl_SystemOk.j4 : Nat → List (S40) → Int → Int → Bool → Int → Int → List (S40) → List Int → List Int → List Int → Option (Bool)
 | 0, _, _, _, _, _, _, _, _, _, _ => none
 | k + 1, x39, x40, x41, x66, x428000, x428001, x428002, x430000, x430001, x430002 => if x66 = true then (some false) else (if (x430002.length : Int) = x428000 then ((impl_areScalars.f k x430002).bind fun t432 => (if t432 = true then (impl_SystemOk.l0 k x39 x40 (wrap64 (x41 + 1)) x428000 x428001 x428002) else (some false))) else (some false))
end
def impl_SystemOk.f (k : Nat) (a0_0 : Int) (a0_1 : Int) (l0_2 : List (S40)) : Option (Bool) := if a0_0 < 1 then (impl_SystemOk.j0 k true a0_0 a0_1 l0_2) else (if a0_0 > 20 then (impl_SystemOk.j0 k true a0_0 a0_1 l0_2) else (if a0_1 < 0 then (impl_SystemOk.j0 k true a0_0 a0_1 l0_2) else (impl_SystemOk.j0 k (decide (a0_1 > (wrap64 (a0_0 - 1)))) a0_0 a0_1 l0_2)))
theorem impl_SystemOk.mono_l : ∀ k, (∀ y0 y1 y2 y3, LeO (impl_SystemOk.j0 k y0 y1 y2 y3) (impl_SystemOk.j0 (k + 1) y0 y1 y2 y3)) ∧ (∀ y0 y1 y2 y3, LeO (impl_SystemOk.j1 k y0 y1 y2 y3) (impl_SystemOk.j1 (k + 1) y0 y1 y2 y3)) ∧ (∀ y0 y1 y2 y3 y4 y5, LeO (impl_SystemOk.l0 k y0 y1 y2 y3 y4 y5) (impl_SystemOk.l0 (k + 1) y0 y1 y2 y3 y4 y5)) ∧ (∀ y0 y1 y2 y3 y4 y5 y6 y7 y8 y9, LeO (impl_SystemOk.j3 k y0 y1 y2 y3 y4 y5 y6 y7 y8 y9) (impl_SystemOk.j3 (k + 1) y0 y1 y2 y3 y4 y5 y6 y7 y8 y9)) ∧ (∀ y0 y1 y2 y3 y4 y5 y6 y7 y8 y9, LeO (impl_SystemOk.j4 k y0 y1 y2 y3 y4 y5 y6 y7 y8 y9) (impl_SystemOk.j4 (k + 1) y0 y1 y2 y3 y4 y5 y6 y7 y8 y9))
 | 0 => ⟨fun _ _ _ _ r h => by simp [impl_SystemOk.j0] at h, fun _ _ _ _ r h => by simp [impl_SystemOk.j1] at h, fun _ _ _ _ _ _ r h => by simp [impl_SystemOk.l0] at h, fun _ _ _ _ _ _ _ _ _ _ r h => by simp [impl_SystemOk.j3] at h, fun _ _ _ _ _ _ _ _ _ _ r h => by simp [impl_SystemOk.j4] at h⟩
 | k + 1 => by
  obtain ⟨ih0, ih1, ih2, ih3, ih4⟩ := impl_SystemOk.mono_l k
  refine ⟨?_, ?_, ?_, ?_, ?_⟩
  ·intro y0 y1 y2 y3
   unfold impl_SystemOk.j0
   with_reducible repeat' first | exact ih0 _ _ _ _ | exact ih1 _ _ _ _ | exact ih2 _ _ _ _ _ _ | exact ih3 _ _ _ _ _ _ _ _ _ _ | exact ih4 _ _ _ _ _ _ _ _ _ _ | exact impl_areScalars.mono _ _ | exact LeO.refl _ | exact LeO.none _ | refine LeO.ite ?_ ?_ | refine LeO.bind ?_ (fun _ => ?_)
  ·intro y0 y1 y2 y3
   unfold impl_SystemOk.j1
   with_reducible repeat' first | exact ih0 _ _ _ _ | exact ih1 _ _ _ _ | exact ih2 _ _ _ _ _ _ | exact ih3 _ _ _ _ _ _ _ _ _ _ | exact ih4 _ _ _ _ _ _ _ _ _ _ | exact impl_areScalars.mono _ _ | exact LeO.refl _ | exact LeO.none _ | refine LeO.ite ?_ ?_ | refine LeO.bind ?_ (fun _ => ?_)
  ·intro y0 y1 y2 y3 y4 y5
   unfold impl_SystemOk.l0
   with_reducible repeat' first | exact ih0 _ _ _ _ | exact ih1 _ _ _ _ | exact ih2 _ _ _ _ _ _ | exact ih3 _ _ _ _ _ _ _ _ _ _ | exact ih4 _ _ _ _ _ _ _ _ _ _ | exact impl_areScalars.mono _ _ | exact LeO.refl _ | exact LeO.none _ | refine LeO.ite ?_ ?_ | refine LeO.bind ?_ (fun _ => ?_)
  ·intro y0 y1 y2 y3 y4 y5 y6 y7 y8 y9
   unfold impl_SystemOk.j3
   with_reducible repeat' first | exact ih0 _ _ _ _ | exact ih1 _ _ _ _ | exact ih2 _ _ _ _ _ _ | exact ih3 _ _ _ _ _ _ _ _ _ _ | exact ih4 _ _ _ _ _ _ _ _ _ _ | exact impl_areScalars.mono _ _ | exact LeO.refl _ | exact LeO.none _ | refine LeO.ite ?_ ?_ | refine LeO.bind ?_ (fun _ => ?_)
  ·intro y0 y1 y2 y3 y4 y5 y6 y7 y8 y9
   unfold impl_SystemOk.j4
   with_reducible repeat' first | exact ih0 _ _ _ _ | exact ih1 _ _ _ _ | exact ih2 _ _ _ _ _ _ | exact ih3 _ _ _ _ _ _ _ _ _ _ | exact ih4 _ _ _ _ _ _ _ _ _ _ | exact impl_areScalars.mono _ _ | exact LeO.refl _ | exact LeO.none _ | refine LeO.ite ?_ ?_ | refine LeO.bind ?_ (fun _ => ?_)
theorem impl_SystemOk.mono : ∀ a0 a1 a2 k, LeO (impl_SystemOk.f k a0 a1 a2) (impl_SystemOk.f (k + 1) a0 a1 a2) := by
 intro a0 a1 a2 k
 obtain ⟨ih0, ih1, ih2, ih3, ih4⟩ := impl_SystemOk.mono_l k
 unfold impl_SystemOk.f
 with_reducible repeat' first | exact ih0 _ _ _ _ | exact ih1 _ _ _ _ | exact ih2 _ _ _ _ _ _ | exact ih3 _ _ _ _ _ _ _ _ _ _ | exact ih4 _ _ _ _ _ _ _ _ _ _ | exact impl_areScalars.mono _ _ | exact LeO.refl _ | exact LeO.none _ | refine LeO.ite ?_ ?_ | refine LeO.bind ?_ (fun _ => ?_)
set_option maxHeartbeats 8000000 in
set_option maxRecDepth 100000 in
theorem impl_SystemOk.calls (k : Nat) (a0_0 : Int) (a0_1 : Int) (A0_2 : Option Addr) (c0_2 : Nat) (l0_2 : List (S40)) (r : Bool) (w : World) (hr0_2 : Kd.C k40 w A0_2 l0_2.length l0_2) (hc0_2 : l0_2.length ≤ c0_2) (h : impl_SystemOk.f k a0_0 a0_1 l0_2 = some r) :
  Calls Try.prog 83 #[.agg #[.int .i64 a0_0, .int .i64 a0_1, .slice A0_2 l0_2.length c0_2]] w fun e w' => e = .returned (.bool r) ∧ Below w.heap.size w w' := by
 have hu32 := Try.underlying32
 have hu40 := Try.underlying40
 have HR0_2 := Aside0.mk hr0_2
 have HC0_2 := Aside0.mk hc0_2
 clear hr0_2 hc0_2
 have HB := Aside0.mk (Below.refl w.heap.size w)
 have H : (if a0_0 < 1 then (impl_SystemOk.j0 k true a0_0 a0_1 l0_2) else (if a0_0 > 20 then (impl_SystemOk.j0 k true a0_0 a0_1 l0_2) else (if a0_1 < 0 then (impl_SystemOk.j0 k true a0_0 a0_1 l0_2) else (impl_SystemOk.j0 k (decide (a0_1 > (wrap64 (a0_0 - 1)))) a0_0 a0_1 l0_2)))) = some r := h
 clear h
 have HC2 := Aside0.mk H
 clear H
 go_enter Try.func83, Try.ntmps83
 go_upto_region 1 with (first | ((with_reducible refine gate_dst (N := 1) rfl ?_); (try (refine gate_guard (by rfl) ?_; dsimp only)); refine box_event ?hg (N := 1) ?hd (cs := #[.int .i64 a0_0, .int .i64 a0_1, .slice A0_2 l0_2.length c0_2]) (t := 32) ?hr ?_; (case hd => rfl); (case hg => rfl); (case hr => first | (go_simp; done) | (go_simp; rfl)); intro gb427 hg w3 hbox hb; have BK427 := Aside0.mk (hbox); have GW427 := bG HB hg; replace HB := bS HB hb; clear hb hbox hg))
 (try simp only [Act.put, List.setIfInBounds_toArray, List.set_cons_zero, List.set_cons_succ])
 go_cut [27] (fun v27 wc => ∃ (kq : Nat) (x27_1 : Bool), v27 = .bool x27_1 ∧ Aside0 (impl_SystemOk.j0 kq x27_1 a0_0 a0_1 l0_2 = some r) ∧ Aside0 (kq ≤ k) ∧ Aside0 (wc.heap[gb427]? = some (.cells #[.int .i64 a0_0, .int .i64 a0_1, (.slice A0_2 l0_2.length c0_2)] 32 (0, 0))) ∧ Aside0 (Below w.heap.size w wc))
 case first =>
  have H := HC2.out
  clear HC2
  by_cases c4 : a0_0 < 1
  ·rw [if_pos c4] at H
   have c4b0 := decide_eq_true c4
   clear c4
   (first | rw [c4b0] | (simp only [i64_w, i32_w]; rw [c4b0]) | rw [c4b1] | skip)
   have H' := Aside0.mk H
   clear H
   obtain ⟨hcz5_0, hcz5_1, hcz5_2, hfz5_0, hfz5_1, hfz5_2⟩ := bK3 (w := w3) BK427
   go_wp2
   go_meet
   case rel => exact ⟨_, (true), rS, H', ⟨by first | omega | exact Nat.le_refl _⟩, ⟨bP BK427⟩, ⟨bZ HB⟩⟩
  ·rw [if_neg c4] at H
   have c4b0 := decide_eq_false c4
   clear c4
   (first | rw [c4b0] | (simp only [i64_w, i32_w]; rw [c4b0]) | rw [c4b1] | skip)
   by_cases c6 : a0_0 > 20
   ·rw [if_pos c6] at H
    have c6b0 := decide_eq_true c6
    clear c6
    have H' := Aside0.mk H
    clear H
    obtain ⟨hcz7_0, hcz7_1, hcz7_2, hfz7_0, hfz7_1, hfz7_2⟩ := bK3 (w := w3) BK427
    go_wp2
    go_meet
    case rel => exact ⟨_, (true), rS, H', ⟨by first | omega | exact Nat.le_refl _⟩, ⟨bP BK427⟩, ⟨bZ HB⟩⟩
   ·rw [if_neg c6] at H
    have c6b0 := decide_eq_false c6
    clear c6
    by_cases c8 : a0_1 < 0
    ·rw [if_pos c8] at H
     have c8b0 := decide_eq_true c8
     clear c8
     have H' := Aside0.mk H
     clear H
     obtain ⟨hcz9_0, hcz9_1, hcz9_2, hfz9_0, hfz9_1, hfz9_2⟩ := bK3 (w := w3) BK427
     go_wp2
     go_meet
     case rel => exact ⟨_, (true), rS, H', ⟨by first | omega | exact Nat.le_refl _⟩, ⟨bP BK427⟩, ⟨bZ HB⟩⟩
    ·rw [if_neg c8] at H
     have c8b0 := decide_eq_false c8
     clear c8
     have H' := Aside0.mk H
     clear H
     obtain ⟨hcz10_0, hcz10_1, hcz10_2, hfz10_0, hfz10_1, hfz10_2⟩ := bK3 (w := w3) BK427
     go_wp2
     go_meet
     case rel => exact ⟨_, (decide (a0_1 > (wrap64 (a0_0 - 1)))), rS, H', ⟨by first | omega | exact Nat.le_refl _⟩, ⟨bP BK427⟩, ⟨bZ HB⟩⟩
 case rest =>
  clear HC2
  try clear p2
  try clear c4
  try clear c4b0
  try clear c6
  try clear c6b0
  try clear p6
  try clear c8
  try clear c8b0
  try clear hcz10_0
  try clear hcz10_1
  try clear hcz10_2
  try clear hcz5_0
  try clear hcz5_1
  try clear hcz5_2
  try clear hcz7_0
  try clear hcz7_1
  try clear hcz7_2
  try clear hcz9_0
  try clear hcz9_1
  try clear hcz9_2
  try clear hfz10_0
  try clear hfz10_1
  try clear hfz10_2
  try clear hfz5_0
  try clear hfz5_1
  try clear hfz5_2
  try clear hfz7_0
  try clear hfz7_1
  try clear hfz7_2
  try clear hfz9_0
  try clear hfz9_1
  try clear hfz9_2
  obtain ⟨kq, x27_1, rfl, HA, HJ1, BK427, HB⟩ := hcut
  cases kq with
  | zero => exact absurd HA.out (by simp [impl_SystemOk.j0])
  | succ kj1 =>
   have H := HA.out
   clear HA
   simp only [impl_SystemOk.j0] at H
   by_cases c11 : x27_1 = true
   ·subst c11
    rw [if_pos rfl] at H
    obtain rfl := Option.some.inj H
    go_wp2
    go_ret
    exact ⟨rR, bZ HB⟩
   ·replace c11 := Bool.eq_false_iff.mpr c11
    subst c11
    rw [if_neg (show ¬ (false = true) by decide)] at H
    have HC12 := Aside0.mk H
    clear H
    go_upto_region 3 with (fail)
    go_cut [37] (fun v37 wc => ∃ (kq : Nat) (x37_11 : Bool), v37 = .bool x37_11 ∧ Aside0 (impl_SystemOk.j1 kq x37_11 a0_0 a0_1 l0_2 = some r) ∧ Aside0 (kq ≤ kj1) ∧ Aside0 (wc.heap[gb427]? = some (.cells #[.int .i64 a0_0, .int .i64 a0_1, (.slice A0_2 l0_2.length c0_2)] 32 (0, 0))) ∧ Aside0 (Below w.heap.size w wc))
    case first =>
     have H := HC12.out
     clear HC12
     by_cases c13 : (l0_2.length : Int) < 1
     ·rw [if_pos c13] at H
      have c13b0 := decide_eq_true c13
      have c13b1 : decide (l0_2.length < 1) = true := decide_eq_true (by omega)
      clear c13
      (first | rw [c13b0] | (simp only [i64_w, i32_w]; rw [c13b0]) | rw [c13b1] | skip)
      have H' := Aside0.mk H
      clear H
      obtain ⟨hcz14_0, hcz14_1, hcz14_2, hfz14_0, hfz14_1, hfz14_2⟩ := bK3 (w := wc) BK427
      go_wp2
      go_meet
      case rel => exact ⟨_, (true), rS, H', ⟨by have := HJ1.out; first | omega | exact Nat.le_refl _⟩, ⟨bP BK427⟩, ⟨bZ HB⟩⟩
     ·rw [if_neg c13] at H
      have c13b0 := decide_eq_false c13
      have c13b1 : decide (l0_2.length < 1) = false := decide_eq_false (by omega)
      clear c13
      (first | rw [c13b0] | (simp only [i64_w, i32_w]; rw [c13b0]) | rw [c13b1] | skip)
      have H' := Aside0.mk H
      clear H
      obtain ⟨hcz15_0, hcz15_1, hcz15_2, hfz15_0, hfz15_1, hfz15_2⟩ := bK3 (w := wc) BK427
      go_wp2
      go_meet
      case rel => exact ⟨_, (decide ((l0_2.length : Int) > 16)), rS, H', ⟨by have := HJ1.out; first | omega | exact Nat.le_refl _⟩, ⟨bP BK427⟩, ⟨bZ HB⟩⟩
    case rest =>
     clear HC12
     try clear c1
     try clear p2
     try clear c4
     try clear c4b0
     try clear c6
     try clear c6b0
     try clear p6
     try clear c8
     try clear c8b0
     try clear c11
     try clear c13
     try clear c13b0
     try clear c13b1
     try clear hcz10_0
     try clear hcz10_1
     try clear hcz10_2
     try clear hcz14_0
     try clear hcz14_1
     try clear hcz14_2
     try clear hcz15_0
     try clear hcz15_1
     try clear hcz15_2
     try clear hcz5_0
     try clear hcz5_1
     try clear hcz5_2
     try clear hcz7_0
     try clear hcz7_1
     try clear hcz7_2
     try clear hcz9_0
     try clear hcz9_1
     try clear hcz9_2
     try clear hfz10_0
     try clear hfz10_1
     try clear hfz10_2
     try clear hfz14_0
     try clear hfz14_1
     try clear hfz14_2
     try clear hfz15_0
     try clear hfz15_1
     try clear hfz15_2
     try clear hfz5_0
     try clear hfz5_1
     try clear hfz5_2
     try clear hfz7_0
     try clear hfz7_1
     try clear hfz7_2
     try clear hfz9_0
     try clear hfz9_1
     try clear hfz9_2
     try clear p2
     try clear p6
     obtain ⟨kq, x37_11, rfl, HA, HJ11, BK427, HB⟩ := hcut
     cases kq with
     | zero => exact absurd HA.out (by simp [impl_SystemOk.j1])
     | succ kj11 =>
      have H := HA.out
      clear HA
      simp only [impl_SystemOk.j1] at H
      by_cases c16 : x37_11 = true
      ·subst c16
       rw [if_pos rfl] at H
       obtain rfl := Option.some.inj H
       go_wp2
       go_ret
       exact ⟨rR, bZ HB⟩
      ·replace c16 := Bool.eq_false_iff.mpr c16
       subst c16
       rw [if_neg (show ¬ (false = true) by decide)] at H
       have H' := Aside0.mk H
       clear H
       obtain ⟨hcz17_0, hcz17_1, hcz17_2, hfz17_0, hfz17_1, hfz17_2⟩ := bK3 (w := wc) BK427
       go_wp2
       go_loopg [41] kj11 (fun kq v41 w' => ∃ (x41_3 : Int), v41 = .int .i64 x41_3 ∧ Aside0 (impl_SystemOk.l0 kq l0_2 (l0_2.length : Int) x41_3 a0_0 a0_1 l0_2 = some r) ∧ Aside0 (kq ≤ kj11) ∧ Aside0 (w'.heap[gb427]? = some (.cells #[.int .i64 a0_0, .int .i64 a0_1, (.slice A0_2 l0_2.length c0_2)] 32 (0, 0))) ∧ Aside0 (Below w.heap.size w w'))
       case atStart => exact ⟨(0), rS, H', ⟨Nat.le_refl _⟩, ⟨bP BK427⟩, ⟨bZ HB⟩⟩
       case round =>
        clear H'
        try clear c1
        try clear p2
        try clear c4
        try clear c4b0
        try clear c6
        try clear c6b0
        try clear p6
        try clear c8
        try clear c8b0
        try clear c11
        try clear c13
        try clear c13b0
        try clear c13b1
        try clear c16
        try clear hcz10_0
        try clear hcz10_1
        try clear hcz10_2
        try clear hcz14_0
        try clear hcz14_1
        try clear hcz14_2
        try clear hcz15_0
        try clear hcz15_1
        try clear hcz15_2
        try clear hcz17_0
        try clear hcz17_1
        try clear hcz17_2
        try clear hcz5_0
        try clear hcz5_1
        try clear hcz5_2
        try clear hcz7_0
        try clear hcz7_1
        try clear hcz7_2
        try clear hcz9_0
        try clear hcz9_1
        try clear hcz9_2
        try clear hfz10_0
        try clear hfz10_1
        try clear hfz10_2
        try clear hfz14_0
        try clear hfz14_1
        try clear hfz14_2
        try clear hfz15_0
        try clear hfz15_1
        try clear hfz15_2
        try clear hfz17_0
        try clear hfz17_1
        try clear hfz17_2
        try clear hfz5_0
        try clear hfz5_1
        try clear hfz5_2
        try clear hfz7_0
        try clear hfz7_1
        try clear hfz7_2
        try clear hfz9_0
        try clear hfz9_1
        try clear hfz9_2
        try clear p2
        try clear p6
        obtain ⟨x41_3, rfl, HA, HK3, BK427, HB⟩ := hrel
        cases gk with
        | zero => exact absurd HA.out (by simp [impl_SystemOk.l0])
        | succ k3 =>
         have H := HA.out
         clear HA
         simp only [impl_SystemOk.l0] at H
         by_cases c18 : x41_3 < (l0_2.length : Int)
         ·rw [if_pos c18] at H
          have c18b0 := decide_eq_true c18
          clear c18
          by_cases c19 : 0 ≤ x41_3
          ·rw [if_pos c19] at H
           have c19b0 := decide_eq_true c19
           clear c19
           by_cases c20 : x41_3 < (l0_2.length : Int)
           ·rw [if_pos c20] at H
            have c20b0 := decide_eq_true c20
            clear c20
            have HC21 := Aside0.mk H
            clear H
            have p428 : 0 ≤ (x41_3 : Int) := of_decide_eq_true (by first | (with_reducible assumption) | assumption)
            have q428 : x41_3 < (l0_2.length : Int) := of_decide_eq_true (by first | (with_reducible assumption) | assumption)
            obtain ⟨ad428, A428_0, c428_0, A428_1, c428_1, A428_2, c428_2, e428, hx428_0, hx428_1, hx428_2, hl428_0, hi428_0, hl428_1, hi428_1, hl428_2, hi428_2⟩ := at_T40 HR0_2.out x41_3 p428 q428
            cases e428
            replace hx428_0 := (hC HB hx428_0 :)
            replace hx428_1 := (hC HB hx428_1 :)
            replace hx428_2 := (hC HB hx428_2 :)
            have HR428_0 := Aside0.mk hi428_0
            have HC428_0 := Aside0.mk hl428_0
            clear hi428_0 hl428_0
            have HR428_1 := Aside0.mk hi428_1
            have HC428_1 := Aside0.mk hl428_1
            clear hi428_1 hl428_1
            have HR428_2 := Aside0.mk hi428_2
            have HC428_2 := Aside0.mk hl428_2
            clear hi428_2 hl428_2
            replace p428 := eq_true p428
            replace q428 := eq_true q428
            go_wp2_with (first | ((with_reducible refine gate_dst (N := 4) rfl ?_); (try (refine gate_guard (by rfl) ?_; dsimp only)); refine box_event ?hg (N := 4) ?hd (cs := #[.slice none 0 0, .slice none 0 0, .slice none 0 0]) (t := 40) ?hr ?_; (case hd => rfl); (case hg => rfl); (case hr => first | (go_simp; done) | (go_simp; rfl)); intro gb429 hg w22 hbox hb; have BK429 := Aside0.mk (hbox); have GW429 := bG HB hg; replace HB := bS HB hb; obtain ⟨NB427_429, NB429_427⟩ := bN BK427 hg; replace BK427 := bB BK427 hb; clear hb hbox hg; obtain ⟨hnb23, hnc23⟩ := nB NB429_427; obtain ⟨hcz24_0, hcz24_1, hcz24_2, hfz24_0, hfz24_1, hfz24_2⟩ := bK3 (w := w22) BK429) | ((with_reducible refine gate_dst (N := 51) rfl ?_); refine lit_event ?hg (N := 51) ?hd (cs := #[(.slice A428_0 ((rd_T40 l0_2 x41_3).f0).length c428_0), (.slice A428_1 ((rd_T40 l0_2 x41_3).f1).length c428_1), (.slice A428_2 ((rd_T40 l0_2 x41_3).f2).length c428_2)]) (t := 22) (n := 3) ?hr ?_; (case hd => rfl); (case hg => rfl); (case hr => first | (go_simp; done) | (go_simp; rfl)); intro gb9901 hg w99 hbox hb; replace BK427 := bB BK427 hb; replace BK429 := bV 40 #[(.slice A428_0 ((rd_T40 l0_2 x41_3).f0).length c428_0), (.slice A428_1 ((rd_T40 l0_2 x41_3).f1).length c428_1), (.slice A428_2 ((rd_T40 l0_2 x41_3).f2).length c428_2)] BK429 hb; replace HB := bS HB hb; have BK9901 := Aside0.mk hbox; clear hb hbox hg; have hczLw99_0 : w99.cell? ⟨gb9901, 0, none⟩ = some (.slice A428_0 ((rd_T40 l0_2 x41_3).f0).length c428_0) := bc BK9901 0; have hczLw99_1 : w99.cell? ⟨gb9901, 1, none⟩ = some (.slice A428_1 ((rd_T40 l0_2 x41_3).f1).length c428_1) := bc BK9901 1; have hczLw99_2 : w99.cell? ⟨gb9901, 2, none⟩ = some (.slice A428_2 ((rd_T40 l0_2 x41_3).f2).length c428_2) := bc BK9901 2; have hfzL0 := blk_frozen BK9901.out 0; have hfzL1 := blk_frozen BK9901.out 1; have hfzL2 := blk_frozen BK9901.out 2))
            refine wp_loop_rounds 4 ?_
            rw [rounds_succ]
            go_upto_region 11 with (fail)
            (try simp only [Act.put, List.setIfInBounds_toArray, List.set_cons_zero, List.set_cons_succ])
            go_cut [66] (fun v66 wc => ∃ (kq : Nat) (x66_20 : Bool), v66 = .bool x66_20 ∧ Aside0 (impl_SystemOk.j3 kq l0_2 (l0_2.length : Int) x41_3 x66_20 a0_0 a0_1 l0_2 ((rd_T40 l0_2 x41_3).f0) ((rd_T40 l0_2 x41_3).f1) ((rd_T40 l0_2 x41_3).f2) = some r) ∧ Aside0 (kq ≤ k3) ∧ Aside0 (wc.heap[gb427]? = some (.cells #[.int .i64 a0_0, .int .i64 a0_1, (.slice (some ad428) l0_2.length c0_2)] 32 (0, 0))) ∧ Aside0 (wc.heap[gb429]? = some (.cells #[(.slice A428_0 ((rd_T40 l0_2 x41_3).f0).length c428_0), (.slice A428_1 ((rd_T40 l0_2 x41_3).f1).length c428_1), (.slice A428_2 ((rd_T40 l0_2 x41_3).f2).length c428_2)] 40 (0, 0))) ∧ Aside0 (wc.heap[gb9901]? = some (.cells #[(.slice A428_0 ((rd_T40 l0_2 x41_3).f0).length c428_0), (.slice A428_1 ((rd_T40 l0_2 x41_3).f1).length c428_1), (.slice A428_2 ((rd_T40 l0_2 x41_3).f2).length c428_2)] 22 (0, 0))) ∧ Aside0 (Below w.heap.size w wc))
            case first =>
             have H := HC21.out
             clear HC21
             by_cases c25 : (((rd_T40 l0_2 x41_3).f0).length : Int) = a0_0
             ·rw [if_pos c25] at H
              have c25b0 : ((((rd_T40 l0_2 x41_3).f0).length : Int) == a0_0) = true := beq_iff_eq.mpr c25
              have c25b1 : ((((rd_T40 l0_2 x41_3).f0).length : Int) != a0_0) = false := bne_eq_false_iff_eq.mpr c25
              clear c25
              (first | rw [c25b0] | (simp only [i64_w, i32_w]; rw [c25b0]) | rw [c25b1] | skip)
              replace H := Option.bind_eq_some_iff.mp H
              obtain ⟨t430, A260, H⟩ := H
              have A26 := Aside0.mk A260
              clear A260
              have H' := Aside0.mk H
              clear H
              obtain ⟨hnb27, hnc27⟩ := nB NB427_429
              obtain ⟨hcz28_0, hcz28_1, hcz28_2, hfz28_0, hfz28_1, hfz28_2⟩ := bK3 (w := w99) BK427
              go_wp2_with (first | (go_at_call 92; (with_reducible refine (impl_areScalars.calls k3 _ _ ((rd_T40 l0_2 x41_3).f0) t430 _ ?side1 ?side2 A26.out).mono ?_); (case side1 => exact Kd.C_below HR428_0.out (bZ HB)); (case side2 => exact HC428_0.out); rintro e w' ⟨rfl, ⟨nd, rfl⟩⟩))
              go_meet
              case rel => exact ⟨_, (!t430), rS, H', ⟨by have := HJ1.out; have := HJ11.out; have := HK3.out; first | omega | exact Nat.le_refl _⟩, ⟨bP BK427⟩, ⟨bP BK429⟩, ⟨bP BK9901⟩, ⟨bZ HB⟩⟩
             ·rw [if_neg c25] at H
              have c25b0 : ((((rd_T40 l0_2 x41_3).f0).length : Int) == a0_0) = false := beq_eq_false_iff_ne.mpr c25
              have c25b1 : ((((rd_T40 l0_2 x41_3).f0).length : Int) != a0_0) = true := bne_iff_ne.mpr c25
              (first | rw [c25b0] | (simp only [i64_w, i32_w]; rw [c25b0]) | rw [c25b1] | skip)
              have H' := Aside0.mk H
              clear H
              obtain ⟨hnb29, hnc29⟩ := nB NB427_429
              obtain ⟨hcz30_0, hcz30_1, hcz30_2, hfz30_0, hfz30_1, hfz30_2⟩ := bK3 (w := w99) BK427
              go_wp2
              go_meet
              case rel => exact ⟨_, (true), rS, H', ⟨by have := HJ1.out; have := HJ11.out; have := HK3.out; first | omega | exact Nat.le_refl _⟩, ⟨bP BK427⟩, ⟨bP BK429⟩, ⟨bP BK9901⟩, ⟨bZ HB⟩⟩
            case rest =>
             clear HC21
             try clear c1
             try clear c2
             try clear p2
             try clear c4
             try clear c4b0
             try clear p4
             try clear q4
             try clear hx4
             try clear c6
             try clear c6b0
             try clear p6
             try clear c8
             try clear c8b0
             try clear c11
             try clear c13
             try clear c13b0
             try clear c13b1
             try clear c16
             try clear c18
             try clear c18b0
             try clear c19
             try clear c19b0
             try clear c20
             try clear c20b0
             try clear c23
             try clear c25
             try clear c25b0
             try clear c25b1
             try clear c27
             try clear c29
             try clear hcz10_0
             try clear hcz10_1
             try clear hcz10_2
             try clear hcz14_0
             try clear hcz14_1
             try clear hcz14_2
             try clear hcz15_0
             try clear hcz15_1
             try clear hcz15_2
             try clear hcz17_0
             try clear hcz17_1
             try clear hcz17_2
             try clear hcz24_0
             try clear hcz24_1
             try clear hcz24_2
             try clear hcz28_0
             try clear hcz28_1
             try clear hcz28_2
             try clear hcz30_0
             try clear hcz30_1
             try clear hcz30_2
             try clear hcz5_0
             try clear hcz5_1
             try clear hcz5_2
             try clear hcz7_0
             try clear hcz7_1
             try clear hcz7_2
             try clear hcz9_0
             try clear hcz9_1
             try clear hcz9_2
             try clear hfz10_0
             try clear hfz10_1
             try clear hfz10_2
             try clear hfz14_0
             try clear hfz14_1
             try clear hfz14_2
             try clear hfz15_0
             try clear hfz15_1
             try clear hfz15_2
             try clear hfz17_0
             try clear hfz17_1
             try clear hfz17_2
             try clear hfz24_0
             try clear hfz24_1
             try clear hfz24_2
             try clear hfz28_0
             try clear hfz28_1
             try clear hfz28_2
             try clear hfz30_0
             try clear hfz30_1
             try clear hfz30_2
             try clear hfz5_0
             try clear hfz5_1
             try clear hfz5_2
             try clear hfz7_0
             try clear hfz7_1
             try clear hfz7_2
             try clear hfz9_0
             try clear hfz9_1
             try clear hfz9_2
             try clear hx428_0
             try clear hx428_1
             try clear hx428_2
             try clear p2
             try clear p428
             try clear p6
             try clear q428
             obtain ⟨kq, x66_20, rfl, HA, HJ20, BK427, BK429, BK9901, HB⟩ := hcut
             cases kq with
             | zero => exact absurd HA.out (by simp [impl_SystemOk.j3])
             | succ kj20 =>
              have H := HA.out
              clear HA
              simp only [impl_SystemOk.j3] at H
              by_cases c31 : x66_20 = true
              ·subst c31
               rw [if_pos rfl] at H
               obtain rfl := Option.some.inj H
               go_wp2
               go_ret
               exact ⟨rR, bZ HB⟩
              ·replace c31 := Bool.eq_false_iff.mpr c31
               subst c31
               rw [if_neg (show ¬ (false = true) by decide)] at H
               have HC32 := Aside0.mk H
               clear H
               obtain ⟨hnb33, hnc33⟩ := nB NB429_427
               obtain ⟨hcz34_0, hcz34_1, hcz34_2, hfz34_0, hfz34_1, hfz34_2⟩ := bK3 (w := wc) BK429
               have hczLwc_0 : wc.cell? ⟨gb9901, 0, none⟩ = some (.slice A428_0 ((rd_T40 l0_2 x41_3).f0).length c428_0) := bc BK9901 0
               have hczLwc_1 : wc.cell? ⟨gb9901, 1, none⟩ = some (.slice A428_1 ((rd_T40 l0_2 x41_3).f1).length c428_1) := bc BK9901 1
               have hczLwc_2 : wc.cell? ⟨gb9901, 2, none⟩ = some (.slice A428_2 ((rd_T40 l0_2 x41_3).f2).length c428_2) := bc BK9901 2
               have hfzc0 := blk_frozen BK9901.out 0
               have hfzc1 := blk_frozen BK9901.out 1
               have hfzc2 := blk_frozen BK9901.out 2
               go_wp2
               rw [rounds_succ]
               go_upto_region 11 with (fail)
               go_cut [66] (fun v66 wc => ∃ (kq : Nat) (x66_31 : Bool), v66 = .bool x66_31 ∧ Aside0 (impl_SystemOk.j4 kq l0_2 (l0_2.length : Int) x41_3 x66_31 a0_0 a0_1 l0_2 ((rd_T40 l0_2 x41_3).f0) ((rd_T40 l0_2 x41_3).f1) ((rd_T40 l0_2 x41_3).f2) = some r) ∧ Aside0 (kq ≤ kj20) ∧ Aside0 (wc.heap[gb427]? = some (.cells #[.int .i64 a0_0, .int .i64 a0_1, (.slice (some ad428) l0_2.length c0_2)] 32 (0, 0))) ∧ Aside0 (wc.heap[gb429]? = some (.cells #[(.slice A428_0 ((rd_T40 l0_2 x41_3).f0).length c428_0), (.slice A428_1 ((rd_T40 l0_2 x41_3).f1).length c428_1), (.slice A428_2 ((rd_T40 l0_2 x41_3).f2).length c428_2)] 40 (0, 0))) ∧ Aside0 (wc.heap[gb9901]? = some (.cells #[(.slice A428_0 ((rd_T40 l0_2 x41_3).f0).length c428_0), (.slice A428_1 ((rd_T40 l0_2 x41_3).f1).length c428_1), (.slice A428_2 ((rd_T40 l0_2 x41_3).f2).length c428_2)] 22 (0, 0))) ∧ Aside0 (Below w.heap.size w wc))
               case first =>
                have H := HC32.out
                clear HC32
                by_cases c35 : (((rd_T40 l0_2 x41_3).f1).length : Int) = a0_0
                ·rw [if_pos c35] at H
                 have c35b0 : ((((rd_T40 l0_2 x41_3).f1).length : Int) == a0_0) = true := beq_iff_eq.mpr c35
                 have c35b1 : ((((rd_T40 l0_2 x41_3).f1).length : Int) != a0_0) = false := bne_eq_false_iff_eq.mpr c35
                 clear c35
                 (first | rw [c35b0] | (simp only [i64_w, i32_w]; rw [c35b0]) | rw [c35b1] | skip)
                 replace H := Option.bind_eq_some_iff.mp H
                 obtain ⟨t431, A360, H⟩ := H
                 have A36 := Aside0.mk A360
                 clear A360
                 have H' := Aside0.mk H
                 clear H
                 obtain ⟨hnb37, hnc37⟩ := nB NB427_429
                 obtain ⟨hcz38_0, hcz38_1, hcz38_2, hfz38_0, hfz38_1, hfz38_2⟩ := bK3 (w := wc) BK427
                 go_wp2_with (first | (go_at_call 92; (with_reducible refine (impl_areScalars.calls kj20 _ _ ((rd_T40 l0_2 x41_3).f1) t431 _ ?side1 ?side2 A36.out).mono ?_); (case side1 => exact cP (Kd.C_below HR428_1.out HB.out)); (case side2 => exact HC428_1.out); rintro e w' ⟨rfl, ⟨nd, rfl⟩⟩))
                 go_meet
                 case rel => exact ⟨_, (!t431), rS, H', ⟨by have := HJ1.out; have := HJ11.out; have := HK3.out; have := HJ20.out; first | omega | exact Nat.le_refl _⟩, ⟨bP BK427⟩, ⟨bP BK429⟩, ⟨bP BK9901⟩, ⟨bZ HB⟩⟩
                ·rw [if_neg c35] at H
                 have c35b0 : ((((rd_T40 l0_2 x41_3).f1).length : Int) == a0_0) = false := beq_eq_false_iff_ne.mpr c35
                 have c35b1 : ((((rd_T40 l0_2 x41_3).f1).length : Int) != a0_0) = true := bne_iff_ne.mpr c35
                 (first | rw [c35b0] | (simp only [i64_w, i32_w]; rw [c35b0]) | rw [c35b1] | skip)
                 have H' := Aside0.mk H
                 clear H
                 obtain ⟨hnb39, hnc39⟩ := nB NB427_429
                 obtain ⟨hcz40_0, hcz40_1, hcz40_2, hfz40_0, hfz40_1, hfz40_2⟩ := bK3 (w := wc) BK427
                 go_wp2
                 go_meet
                 case rel => exact ⟨_, (true), rS, H', ⟨by have := HJ1.out; have := HJ11.out; have := HK3.out; have := HJ20.out; first | omega | exact Nat.le_refl _⟩, ⟨bP BK427⟩, ⟨bP BK429⟩, ⟨bP BK9901⟩, ⟨bZ HB⟩⟩
               case rest =>
                clear HC32
                try clear c1
                try clear c2
                try clear p2
                try clear c3
                try clear c4
                try clear c4b0
                try clear p4
                try clear q4
                try clear hx4
                try clear c6
                try clear c6b0
                try clear p6
                try clear c8
                try clear c8b0
                try clear c11
                try clear c13
                try clear c13b0
                try clear c13b1
                try clear c16
                try clear c18
                try clear c18b0
                try clear c19
                try clear c19b0
                try clear c20
                try clear c20b0
                try clear c23
                try clear c25
                try clear c25b0
                try clear c25b1
                try clear c27
                try clear c29
                try clear c31
                try clear c33
                try clear c35
                try clear c35b0
                try clear c35b1
                try clear c37
                try clear c39
                try clear hcz10_0
                try clear hcz10_1
                try clear hcz10_2
                try clear hcz14_0
                try clear hcz14_1
                try clear hcz14_2
                try clear hcz15_0
                try clear hcz15_1
                try clear hcz15_2
                try clear hcz17_0
                try clear hcz17_1
                try clear hcz17_2
                try clear hcz24_0
                try clear hcz24_1
                try clear hcz24_2
                try clear hcz28_0
                try clear hcz28_1
                try clear hcz28_2
                try clear hcz30_0
                try clear hcz30_1
                try clear hcz30_2
                try clear hcz34_0
                try clear hcz34_1
                try clear hcz34_2
                try clear hcz38_0
                try clear hcz38_1
                try clear hcz38_2
                try clear hcz40_0
                try clear hcz40_1
                try clear hcz40_2
                try clear hcz5_0
                try clear hcz5_1
                try clear hcz5_2
                try clear hcz7_0
                try clear hcz7_1
                try clear hcz7_2
                try clear hcz9_0
                try clear hcz9_1
                try clear hcz9_2
                try clear hfz10_0
                try clear hfz10_1
                try clear hfz10_2
                try clear hfz14_0
                try clear hfz14_1
                try clear hfz14_2
                try clear hfz15_0
                try clear hfz15_1
                try clear hfz15_2
                try clear hfz17_0
                try clear hfz17_1
                try clear hfz17_2
                try clear hfz24_0
                try clear hfz24_1
                try clear hfz24_2
                try clear hfz28_0
                try clear hfz28_1
                try clear hfz28_2
                try clear hfz30_0
                try clear hfz30_1
                try clear hfz30_2
                try clear hfz34_0
                try clear hfz34_1
                try clear hfz34_2
                try clear hfz38_0
                try clear hfz38_1
                try clear hfz38_2
                try clear hfz40_0
                try clear hfz40_1
                try clear hfz40_2
                try clear hfz5_0
                try clear hfz5_1
                try clear hfz5_2
                try clear hfz7_0
                try clear hfz7_1
                try clear hfz7_2
                try clear hfz9_0
                try clear hfz9_1
                try clear hfz9_2
                try clear hx428_0
                try clear hx428_1
                try clear hx428_2
                try clear p2
                try clear p4
                try clear p428
                try clear p6
                try clear q4
                try clear q428
                obtain ⟨kq, x66_31, rfl, HA, HJ31, BK427, BK429, BK9901, HB⟩ := hcut
                cases kq with
                | zero => exact absurd HA.out (by simp [impl_SystemOk.j4])
                | succ kj31 =>
                 have H := HA.out
                 clear HA
                 simp only [impl_SystemOk.j4] at H
                 by_cases c41 : x66_31 = true
                 ·subst c41
                  rw [if_pos rfl] at H
                  obtain rfl := Option.some.inj H
                  go_wp2
                  go_ret
                  exact ⟨rR, bZ HB⟩
                 ·replace c41 := Bool.eq_false_iff.mpr c41
                  subst c41
                  rw [if_neg (show ¬ (false = true) by decide)] at H
                  by_cases c42 : (((rd_T40 l0_2 x41_3).f2).length : Int) = a0_0
                  ·rw [if_pos c42] at H
                   have c42b0 : ((((rd_T40 l0_2 x41_3).f2).length : Int) == a0_0) = true := beq_iff_eq.mpr c42
                   have c42b1 : ((((rd_T40 l0_2 x41_3).f2).length : Int) != a0_0) = false := bne_eq_false_iff_eq.mpr c42
                   clear c42
                   replace H := Option.bind_eq_some_iff.mp H
                   obtain ⟨t432, A430, H⟩ := H
                   have A43 := Aside0.mk A430
                   clear A430
                   by_cases c44 : t432 = true
                   ·subst c44
                    rw [if_pos rfl] at H
                    have H' := Aside0.mk H
                    clear H
                    obtain ⟨hnb45, hnc45⟩ := nB NB429_427
                    obtain ⟨hcz46_0, hcz46_1, hcz46_2, hfz46_0, hfz46_1, hfz46_2⟩ := bK3 (w := wc) BK429
                    obtain ⟨hcz47_0, hcz47_1, hcz47_2, hfz47_0, hfz47_1, hfz47_2⟩ := bK3 (w := wc) BK427
                    have hczLwc_0 : wc.cell? ⟨gb9901, 0, none⟩ = some (.slice A428_0 ((rd_T40 l0_2 x41_3).f0).length c428_0) := bc BK9901 0
                    have hczLwc_1 : wc.cell? ⟨gb9901, 1, none⟩ = some (.slice A428_1 ((rd_T40 l0_2 x41_3).f1).length c428_1) := bc BK9901 1
                    have hczLwc_2 : wc.cell? ⟨gb9901, 2, none⟩ = some (.slice A428_2 ((rd_T40 l0_2 x41_3).f2).length c428_2) := bc BK9901 2
                    have hfzc0 := blk_frozen BK9901.out 0
                    have hfzc1 := blk_frozen BK9901.out 1
                    have hfzc2 := blk_frozen BK9901.out 2
                    go_wp2
                    rw [rounds_succ]
                    go_wp2_with (first | (go_at_call 92; (with_reducible refine (impl_areScalars.calls kj31 _ _ ((rd_T40 l0_2 x41_3).f2) true _ ?side1 ?side2 A43.out).mono ?_); (case side1 => exact cP (Kd.C_below HR428_2.out HB.out)); (case side2 => exact HC428_2.out); rintro e w' ⟨rfl, ⟨nd, rfl⟩⟩))
                    rw [rounds_succ]
                    go_wp2
                    go_roundg kj31
                    case measure => have := HJ1.out; have := HJ11.out; have := HK3.out; have := HJ20.out; have := HJ31.out; omega
                    case rel => exact ⟨(wrap64 (x41_3 + 1)), rS, H', ⟨by have := HJ1.out; have := HJ11.out; have := HK3.out; have := HJ20.out; have := HJ31.out; omega⟩, ⟨bP BK427⟩, ⟨bZ HB⟩⟩
                   ·replace c44 := Bool.eq_false_iff.mpr c44
                    subst c44
                    rw [if_neg (show ¬ (false = true) by decide)] at H
                    obtain rfl := Option.some.inj H
                    obtain ⟨hnb48, hnc48⟩ := nB NB429_427
                    obtain ⟨hcz49_0, hcz49_1, hcz49_2, hfz49_0, hfz49_1, hfz49_2⟩ := bK3 (w := wc) BK429
                    obtain ⟨hcz50_0, hcz50_1, hcz50_2, hfz50_0, hfz50_1, hfz50_2⟩ := bK3 (w := wc) BK427
                    have hczLwc_0 : wc.cell? ⟨gb9901, 0, none⟩ = some (.slice A428_0 ((rd_T40 l0_2 x41_3).f0).length c428_0) := bc BK9901 0
                    have hczLwc_1 : wc.cell? ⟨gb9901, 1, none⟩ = some (.slice A428_1 ((rd_T40 l0_2 x41_3).f1).length c428_1) := bc BK9901 1
                    have hczLwc_2 : wc.cell? ⟨gb9901, 2, none⟩ = some (.slice A428_2 ((rd_T40 l0_2 x41_3).f2).length c428_2) := bc BK9901 2
                    have hfzc0 := blk_frozen BK9901.out 0
                    have hfzc1 := blk_frozen BK9901.out 1
                    have hfzc2 := blk_frozen BK9901.out 2
                    go_wp2
                    rw [rounds_succ]
                    go_wp2_with (first | (go_at_call 92; (with_reducible refine (impl_areScalars.calls kj31 _ _ ((rd_T40 l0_2 x41_3).f2) false _ ?side1 ?side2 A43.out).mono ?_); (case side1 => exact cP (Kd.C_below HR428_2.out HB.out)); (case side2 => exact HC428_2.out); rintro e w' ⟨rfl, ⟨nd, rfl⟩⟩))
                    go_ret
                    exact ⟨rR, bZ HB⟩
                  ·rw [if_neg c42] at H
                   have c42b0 : ((((rd_T40 l0_2 x41_3).f2).length : Int) == a0_0) = false := beq_eq_false_iff_ne.mpr c42
                   have c42b1 : ((((rd_T40 l0_2 x41_3).f2).length : Int) != a0_0) = true := bne_iff_ne.mpr c42
                   obtain rfl := Option.some.inj H
                   obtain ⟨hnb51, hnc51⟩ := nB NB429_427
                   obtain ⟨hcz52_0, hcz52_1, hcz52_2, hfz52_0, hfz52_1, hfz52_2⟩ := bK3 (w := wc) BK429
                   obtain ⟨hcz53_0, hcz53_1, hcz53_2, hfz53_0, hfz53_1, hfz53_2⟩ := bK3 (w := wc) BK427
                   have hczLwc_0 : wc.cell? ⟨gb9901, 0, none⟩ = some (.slice A428_0 ((rd_T40 l0_2 x41_3).f0).length c428_0) := bc BK9901 0
                   have hczLwc_1 : wc.cell? ⟨gb9901, 1, none⟩ = some (.slice A428_1 ((rd_T40 l0_2 x41_3).f1).length c428_1) := bc BK9901 1
                   have hczLwc_2 : wc.cell? ⟨gb9901, 2, none⟩ = some (.slice A428_2 ((rd_T40 l0_2 x41_3).f2).length c428_2) := bc BK9901 2
                   have hfzc0 := blk_frozen BK9901.out 0
                   have hfzc1 := blk_frozen BK9901.out 1
                   have hfzc2 := blk_frozen BK9901.out 2
                   go_wp2
                   rw [rounds_succ]
                   go_wp2
                   go_ret
                   exact ⟨rR, bZ HB⟩
           ·rw [if_neg c20] at H
            exact absurd H (by simp)
          ·rw [if_neg c19] at H
           exact absurd H (by simp)
         ·rw [if_neg c18] at H
          have c18b0 := decide_eq_false c18
          clear c18
          obtain rfl := Option.some.inj H
          go_wp2
          go_ret
          exact ⟨rR, bZ HB⟩



end Go.Proofs.Ytcnejiflpioaiaa.Pf
end
section
namespace Go.Proofs.Ytcnejiflpioaiaa.Pf
open Go.RowKit Go.Proofs.YtcnejiflpioaiaaW.PrintWords Go.Proofs.YtcnejiflpioaiaaW.PrintLast Go.Proofs.YtcnejiflpioaiaaW.PrintMore
attribute [local go_sem] max2_int min2_int max_two min_two max_three min_three max_four min_four   -- for this text's walks alone
set_option linter.unusedVariables false
set_option linter.unusedSimpArgs false

/-! ### impl_QapOf: function 57 -/
mutual
def impl_QapOf.l0 : Nat → Int → Int → Int → Int → List (S40) → List (List Int) → List (List Int) → List (List Int) → Option ((List (List Int)) × (List (List Int)) × (List (List Int)) × Bool)
 | 0, _, _, _, _, _, _, _, _ => none
 | k + 1, x16, x17, x363000, x363001, x363002, x366000, x366001, x366002 => if x17 < x16 then (impl_QapOf.l1 k x17 ([] : List Int) ([] : List Int) ([] : List Int) x16 x17 x363002 (x363002.length : Int) 0 x363000 x363001 x363002 x366000 x366001 x366002) else (some (x366000, x366001, x366002, true))
def impl_QapOf.l1 : Nat → Int → List Int → List Int → List Int → Int → Int → List (S40) → Int → Int → Int → Int → List (S40) → List (List Int) → List (List Int) → List (List Int) → Option ((List (List Int)) × (List (List Int)) × (List (List Int)) × Bool)
 | 0, _, _, _, _, _, _, _, _, _, _, _, _, _, _, _ => none
 | k + 1, x5, x6, x7, x8, x16, x17, x21, x22, x23, x363000, x363001, x363002, x366000, x366001, x366002 => if x23 < x22 then (if 0 ≤ x23 then (if x23 < (x21.length : Int) then (if 0 ≤ x5 then (if x5 < (((rd_T40 x21 x23).f0).length : Int) then (if x6.length < 17592186044416 then (if x5 < (((rd_T40 x21 x23).f1).length : Int) then (if x7.length < 17592186044416 then (if x5 < (((rd_T40 x21 x23).f2).length : Int) then (if x8.length < 17592186044416 then (impl_QapOf.l1 k x5 (x6 ++ [rd ((rd_T40 x21 x23).f0) x5]) (x7 ++ [rd ((rd_T40 x21 x23).f1) x5]) (x8 ++ [rd ((rd_T40 x21 x23).f2) x5]) x16 x17 x21 x22 (wrap64 (x23 + 1)) x363000 x363001 x363002 x366000 x366001 x366002) else (none)) else (none)) else (none)) else (none)) else (none)) else (none)) else (none)) else (none)) else (none)) else ((impl_PolyThrough.f k x6).bind fun t380 => (if x366000.length < 5864062014805 then ((impl_PolyThrough.f k x7).bind fun t386 => (if x366001.length < 5864062014805 then ((impl_PolyThrough.f k x8).bind fun t392 => (if x366002.length < 5864062014805 then (impl_QapOf.l0 k x16 (wrap64 (x17 + 1)) x363000 x363001 x363002 (x366000 ++ [t380]) (x366001 ++ [t386]) (x366002 ++ [t392])) else (none))) else (none))) else (none)))
end
def impl_QapOf.f (k : Nat) (a0_0 : Int) (a0_1 : Int) (l0_2 : List (S40)) : Option ((List (List Int)) × (List (List Int)) × (List (List Int)) × Bool) := (impl_SystemOk.f k a0_0 a0_1 l0_2).bind fun t364 => (if t364 = true then (impl_QapOf.l0 k a0_0 0 a0_0 a0_1 l0_2 ([] : List (List Int)) ([] : List (List Int)) ([] : List (List Int))) else (some (([] : List (List Int)), ([] : List (List Int)), ([] : List (List Int)), false)))
theorem impl_QapOf.mono_l : ∀ k, (∀ y0 y1 y2 y3 y4 y5 y6 y7, LeO (impl_QapOf.l0 k y0 y1 y2 y3 y4 y5 y6 y7) (impl_QapOf.l0 (k + 1) y0 y1 y2 y3 y4 y5 y6 y7)) ∧ (∀ y0 y1 y2 y3 y4 y5 y6 y7 y8 y9 y10 y11 y12 y13 y14, LeO (impl_QapOf.l1 k y0 y1 y2 y3 y4 y5 y6 y7 y8 y9 y10 y11 y12 y13 y14) (impl_QapOf.l1 (k + 1) y0 y1 y2 y3 y4 y5 y6 y7 y8 y9 y10 y11 y12 y13 y14))
 | 0 => ⟨fun _ _ _ _ _ _ _ _ r h => by simp [impl_QapOf.l0] at h, fun _ _ _ _ _ _ _ _ _ _ _ _ _ _ _ r h => by simp [impl_QapOf.l1] at h⟩
 | k + 1 => by
  obtain ⟨ih0, ih1⟩ := impl_QapOf.mono_l k
  refine ⟨?_, ?_⟩
  ·intro y0 y1 y2 y3 y4 y5 y6 y7
   unfold impl_QapOf.l0
   with_reducible repeat' first | exact ih0 _ _ _ _ _ _ _ _ | exact ih1 _ _ _ _ _ _ _ _ _ _ _ _ _ _ _ | exact impl_PolyThrough.mono _ _ | exact impl_SystemOk.mono _ _ _ _ | exact LeO.refl _ | exact LeO.none _ | refine LeO.ite ?_ ?_ | refine LeO.bind ?_ (fun _ => ?_)
  ·intro y0 y1 y2 y3 y4 y5 y6 y7 y8 y9 y10 y11 y12 y13 y14
   unfold impl_QapOf.l1
   with_reducible repeat' first | exact ih0 _ _ _ _ _ _ _ _ | exact ih1 _ _ _ _ _ _ _ _ _ _ _ _ _ _ _ | exact impl_PolyThrough.mono _ _ | exact impl_SystemOk.mono _ _ _ _ | exact LeO.refl _ | exact LeO.none _ | refine LeO.ite ?_ ?_ | refine LeO.bind ?_ (fun _ => ?_)
theorem impl_QapOf.mono : ∀ a0 a1 a2 k, LeO (impl_QapOf.f k a0 a1 a2) (impl_QapOf.f (k + 1) a0 a1 a2) := by
 intro a0 a1 a2 k
 obtain ⟨ih0, ih1⟩ := impl_QapOf.mono_l k
 unfold impl_QapOf.f
 with_reducible repeat' first | exact ih0 _ _ _ _ _ _ _ _ | exact ih1 _ _ _ _ _ _ _ _ _ _ _ _ _ _ _ | exact impl_PolyThrough.mono _ _ | exact impl_SystemOk.mono _ _ _ _ | exact LeO.refl _ | exact LeO.none _ | refine LeO.ite ?_ ?_ | refine LeO.bind ?_ (fun _ => ?_)
def impl_QapOf.T15 : Bool × List (List Nat × List Nat) := (true, [([], []), ([0], [0]), ([], []), ([2], [2]), ([3], [3]), ([1, 4, 3], [1, 4]), ([0, 1, 2, 3, 4, 5], []), ([6, 5, 5, 0, 1, 2, 3, 4, 5], [5, 6])])
def impl_QapOf.B15 : List Nat := [0, 1, 0, 4, 12, 31, 63, 127]
theorem impl_QapOf.tab15 : rtab .any (opsOf Try.f57 15) = impl_QapOf.T15 := by kernel_rfl
theorem impl_QapOf.bits15 : waitsOk impl_QapOf.T15.2 impl_QapOf.B15 = true := by kernel_rfl
def impl_QapOf.T16 : Bool × List (List Nat × List Nat) := (true, [([], []), ([0], [0]), ([], []), ([2], [2]), ([3], [3]), ([1, 4, 3], [1, 4]), ([0, 1, 2, 3, 4, 5], []), ([6, 5, 5, 0, 1, 2, 3, 4, 5], [5, 6])])
def impl_QapOf.B16 : List Nat := [0, 1, 0, 4, 12, 31, 63, 127]
theorem impl_QapOf.tab16 : rtab .any (opsOf Try.f57 16) = impl_QapOf.T16 := by kernel_rfl
theorem impl_QapOf.bits16 : waitsOk impl_QapOf.T16.2 impl_QapOf.B16 = true := by kernel_rfl
def impl_QapOf.T17 : Bool × List (List Nat × List Nat) := (true, [([], []), ([0], [0]), ([], []), ([2], [2]), ([3], [3]), ([1, 4, 3], [1, 4]), ([0, 1, 2, 3, 4, 5], []), ([6, 5, 5, 0, 1, 2, 3, 4, 5], [5, 6])])
def impl_QapOf.B17 : List Nat := [0, 1, 0, 4, 12, 31, 63, 127]
theorem impl_QapOf.tab17 : rtab .any (opsOf Try.f57 17) = impl_QapOf.T17 := by kernel_rfl
theorem impl_QapOf.bits17 : waitsOk impl_QapOf.T17.2 impl_QapOf.B17 = true := by kernel_rfl
set_option maxHeartbeats 8000000 in
set_option maxRecDepth 100000 in
theorem impl_QapOf.calls (k : Nat) (a0_0 : Int) (a0_1 : Int) (A0_2 : Option Addr) (c0_2 : Nat) (l0_2 : List (S40)) (r1 : List (List Int)) (r2 : List (List Int)) (r3 : List (List Int)) (r4 : Bool) (w : World) (hr0_2 : Kd.C k40 w A0_2 l0_2.length l0_2) (hc0_2 : l0_2.length ≤ c0_2) (h : impl_QapOf.f k a0_0 a0_1 l0_2 = some (r1, r2, r3, r4)) :
  Calls Try.prog 57 #[.agg #[.int .i64 a0_0, .int .i64 a0_1, .slice A0_2 l0_2.length c0_2]] w fun e w' => ∃ (F_ : Nat → Nat) (v0_ v1_ v2_ : Value), e = .returned (.tuple #[.agg #[v0_, v1_, v2_], .bool r4]) ∧ Kd.S (own F_ 0 (Kd.slice 3 (Kd.int .i64))) 22 w' w.heap.size (fun k_ => some k_ ≠ (v1_ : Value).ownBlock ∧ some k_ ≠ (v2_ : Value).ownBlock) v0_ r1 ∧ Kd.S (own F_ 1 (Kd.slice 3 (Kd.int .i64))) 22 w' w.heap.size (fun k_ => some k_ ≠ (v0_ : Value).ownBlock ∧ some k_ ≠ (v2_ : Value).ownBlock) v1_ r2 ∧ Kd.S (own F_ 2 (Kd.slice 3 (Kd.int .i64))) 22 w' w.heap.size (fun k_ => some k_ ≠ (v0_ : Value).ownBlock ∧ some k_ ≠ (v1_ : Value).ownBlock) v2_ r3 ∧ Below w.heap.size w w' := by
 have hu32 := Try.underlying32
 have hu61 := Try.underlying61
 have hu40 := Try.underlying40
 have HR0_2 := Aside0.mk hr0_2
 have HC0_2 := Aside0.mk hc0_2
 clear hr0_2 hc0_2
 have HB := Aside0.mk (Below.refl w.heap.size w)
 have H : ((impl_SystemOk.f k a0_0 a0_1 l0_2).bind fun t364 => (if t364 = true then (impl_QapOf.l0 k a0_0 0 a0_0 a0_1 l0_2 ([] : List (List Int)) ([] : List (List Int)) ([] : List (List Int))) else (some (([] : List (List Int)), ([] : List (List Int)), ([] : List (List Int)), false)))) = some (r1, r2, r3, r4) := h
 clear h
 replace H := Option.bind_eq_some_iff.mp H
 obtain ⟨t364, A20, H⟩ := H
 have A2 := Aside0.mk A20
 clear A20
 by_cases c3 : t364 = true
 ·subst c3
  rw [if_pos rfl] at H
  have H' := Aside0.mk H
  clear H
  go_enter Try.func57, Try.ntmps57
  go_wp2_with (first | (refine gB 1 #[.int .i64 a0_0, .int .i64 a0_1, .slice A0_2 l0_2.length c0_2] 32 ?_; intro gb362 hg w4 BK362 hb; have GW362 := bG HB hg; replace HB := bS HB hb; clear hb hg) | (refine gB 2 #[.slice none 0 0, .slice none 0 0, .slice none 0 0] 61 ?_; intro gb363 hg w5 BK363 hb; have GW363 := bG HB hg; replace HB := bS HB hb; obtain ⟨NB362_363, NB363_362⟩ := bN BK362 hg; replace BK362 := bB BK362 hb; clear hb hg; obtain ⟨hnb6, hnc6⟩ := nB NB362_363; obtain ⟨hcz7_0, hcz7_1, hcz7_2, hfz7_0, hfz7_1, hfz7_2⟩ := bK3 (w := w5) BK362) | (refine gC (some 12) Try.func83 #[.agg #[.int .i64 a0_0, .int .i64 a0_1, .slice A0_2 l0_2.length c0_2]] ?_; (with_reducible refine (impl_SystemOk.calls k a0_0 a0_1 _ _ l0_2 true _ ?side1 ?side2 A2.out).mono ?_); (case side1 => exact cP (Kd.C_below HR0_2.out HB.out)); (case side2 => exact HC0_2.out); rintro e w8 ⟨rfl, hb⟩; refine ⟨_, rfl, ?_⟩; replace BK362 := bB BK362 hb; replace BK363 := bB BK363 hb; replace HB := bS HB hb; (try clear hb)) | (refine gB 4 #[.slice none 0 0, .slice none 0 0, .slice none 0 0] 61 ?_; intro gb365 hg w9 BK365 hb; have GW365 := bG HB hg; replace HB := bS HB hb; obtain ⟨NB362_365, NB365_362⟩ := bN BK362 hg; replace BK362 := bB BK362 hb; obtain ⟨NB363_365, NB365_363⟩ := bN BK363 hg; replace BK363 := bB BK363 hb; clear hb hg; obtain ⟨hnb10, hnc10⟩ := nB NB362_365; obtain ⟨hcz11_0, hcz11_1, hcz11_2, hfz11_0, hfz11_1, hfz11_2⟩ := bK3 (w := w9) BK362))
  go_loopg [17] k (fun kq v17 w' => ∃ (F_ : Nat → Nat) (x17_1 : Int) (x366000_1 : List (List Int)) (x366001_1 : List (List Int)) (x366002_1 : List (List Int)) (u366000 : Value) (u366001 : Value) (u366002 : Value), v17 = .int .i64 x17_1 ∧ Aside0 (impl_QapOf.l0 kq a0_0 x17_1 a0_0 a0_1 l0_2 x366000_1 x366001_1 x366002_1 = some (r1, r2, r3, r4)) ∧ Aside0 (kq ≤ k) ∧ Aside0 (Kd.S (own F_ 0 (Kd.slice 3 (Kd.int .i64))) 22 w' w.heap.size (fun k_ => some k_ ≠ (u366001 : Value).ownBlock ∧ some k_ ≠ (u366002 : Value).ownBlock) u366000 x366000_1) ∧ Aside0 (Kd.S (own F_ 1 (Kd.slice 3 (Kd.int .i64))) 22 w' w.heap.size (fun k_ => some k_ ≠ (u366000 : Value).ownBlock ∧ some k_ ≠ (u366002 : Value).ownBlock) u366001 x366001_1) ∧ Aside0 (Kd.S (own F_ 2 (Kd.slice 3 (Kd.int .i64))) 22 w' w.heap.size (fun k_ => some k_ ≠ (u366000 : Value).ownBlock ∧ some k_ ≠ (u366001 : Value).ownBlock) u366002 x366002_1) ∧ Aside0 (w'.heap[gb362]? = some (.cells #[.int .i64 a0_0, .int .i64 a0_1, (.slice A0_2 l0_2.length c0_2)] 32 (0, 0))) ∧ Aside0 (w'.heap[gb363]? = some (.cells #[(.slice none 0 0), (.slice none 0 0), (.slice none 0 0)] 61 (0, 0))) ∧ Aside0 (w'.heap[gb365]? = some (.cells #[u366000, u366001, u366002] 61 (0, 0))) ∧ Aside0 (Below w.heap.size w w'))
  case atStart => exact ⟨(fun _ => 0), (0), (([] : List (List Int))), (([] : List (List Int))), (([] : List (List Int))), (.slice none 0 0), (.slice none 0 0), (.slice none 0 0), rS, H', ⟨Nat.le_refl _⟩, ⟨by first | exact Kd.S_nil _ _ _ _ _ | exact Kd.N_nil _ _ _ _ _ | exact Kd.V_nil _ _ _ _ _ | exact Kd.Q_nil _ _ _ _ _ | exact Kd.R_nil _ _ _ _ _⟩, ⟨by first | exact Kd.S_nil _ _ _ _ _ | exact Kd.N_nil _ _ _ _ _ | exact Kd.V_nil _ _ _ _ _ | exact Kd.Q_nil _ _ _ _ _ | exact Kd.R_nil _ _ _ _ _⟩, ⟨by first | exact Kd.S_nil _ _ _ _ _ | exact Kd.N_nil _ _ _ _ _ | exact Kd.V_nil _ _ _ _ _ | exact Kd.Q_nil _ _ _ _ _ | exact Kd.R_nil _ _ _ _ _⟩, ⟨bP BK362⟩, ⟨bP BK363⟩, ⟨bP BK365⟩, ⟨bZ HB⟩⟩
  case round =>
   clear H'
   try clear c1
   try clear p2
   try clear c3
   try clear c5
   try clear c6
   try clear c8
   try clear c10
   try clear hcz11_0
   try clear hcz11_1
   try clear hcz11_2
   try clear hcz7_0
   try clear hcz7_1
   try clear hcz7_2
   try clear hfz11_0
   try clear hfz11_1
   try clear hfz11_2
   try clear hfz7_0
   try clear hfz7_1
   try clear hfz7_2
   obtain ⟨F_, x17_1, x366000_1, x366001_1, x366002_1, u366000, u366001, u366002, rfl, HA, HK1, HO_366000, HO_366001, HO_366002, BK362, BK363, BK365, HB⟩ := hrel
   cases gk with
   | zero => exact absurd HA.out (by simp [impl_QapOf.l0])
   | succ k1 =>
    have H := HA.out
    clear HA
    simp only [impl_QapOf.l0] at H
    by_cases c12 : x17_1 < a0_0
    ·rw [if_pos c12] at H
     have c12b0 := decide_eq_true c12
     clear c12
     have H' := Aside0.mk H
     clear H
     obtain ⟨hnb13, hnc13⟩ := nB NB362_363
     obtain ⟨hnb14, hnc14⟩ := nB NB362_365
     obtain ⟨hcz15_0, hcz15_1, hcz15_2, hfz15_0, hfz15_1, hfz15_2⟩ := bK3 (w := wr) BK362
     go_wp2
     go_loopg [6, 7, 8, 23] k1 (fun kq v6 v7 v8 v23 w' => ∃ (x6_2 : List Int) (x7_2 : List Int) (x8_2 : List Int) (x23_2 : Int), v23 = .int .i64 x23_2 ∧ Aside0 (impl_QapOf.l1 kq x17_1 x6_2 x7_2 x8_2 a0_0 x17_1 l0_2 (l0_2.length : Int) x23_2 a0_0 a0_1 l0_2 x366000_1 x366001_1 x366002_1 = some (r1, r2, r3, r4)) ∧ Aside0 (kq ≤ k1) ∧ Aside0 (Kd.R (Kd.int .i64) 3 w' w.heap.size (fun k_ => some k_ ≠ (v7 : Value).ownBlock ∧ some k_ ≠ (v8 : Value).ownBlock) v6 x6_2) ∧ Aside0 (Kd.R (Kd.int .i64) 3 w' w.heap.size (fun k_ => some k_ ≠ (v6 : Value).ownBlock ∧ some k_ ≠ (v8 : Value).ownBlock) v7 x7_2) ∧ Aside0 (Kd.R (Kd.int .i64) 3 w' w.heap.size (fun k_ => some k_ ≠ (v6 : Value).ownBlock ∧ some k_ ≠ (v7 : Value).ownBlock) v8 x8_2) ∧ Aside0 (Kd.S (own F_ 0 (Kd.slice 3 (Kd.int .i64))) 22 w' w.heap.size (fun k_ => some k_ ≠ (v6 : Value).ownBlock ∧ some k_ ≠ (v7 : Value).ownBlock ∧ some k_ ≠ (v8 : Value).ownBlock ∧ some k_ ≠ (u366001 : Value).ownBlock ∧ some k_ ≠ (u366002 : Value).ownBlock) u366000 x366000_1) ∧ Aside0 (Kd.S (own F_ 1 (Kd.slice 3 (Kd.int .i64))) 22 w' w.heap.size (fun k_ => some k_ ≠ (v6 : Value).ownBlock ∧ some k_ ≠ (v7 : Value).ownBlock ∧ some k_ ≠ (v8 : Value).ownBlock ∧ some k_ ≠ (u366000 : Value).ownBlock ∧ some k_ ≠ (u366002 : Value).ownBlock) u366001 x366001_1) ∧ Aside0 (Kd.S (own F_ 2 (Kd.slice 3 (Kd.int .i64))) 22 w' w.heap.size (fun k_ => some k_ ≠ (v6 : Value).ownBlock ∧ some k_ ≠ (v7 : Value).ownBlock ∧ some k_ ≠ (v8 : Value).ownBlock ∧ some k_ ≠ (u366000 : Value).ownBlock ∧ some k_ ≠ (u366001 : Value).ownBlock) u366002 x366002_1) ∧ Aside0 (w'.heap[gb362]? = some (.cells #[.int .i64 a0_0, .int .i64 a0_1, (.slice A0_2 l0_2.length c0_2)] 32 (0, 0))) ∧ Aside0 (w'.heap[gb363]? = some (.cells #[(.slice none 0 0), (.slice none 0 0), (.slice none 0 0)] 61 (0, 0))) ∧ Aside0 (w'.heap[gb365]? = some (.cells #[u366000, u366001, u366002] 61 (0, 0))) ∧ Aside0 (Below w.heap.size w w'))
     case atStart => exact ⟨(([] : List Int)), (([] : List Int)), (([] : List Int)), (0), rS, H', ⟨Nat.le_refl _⟩, ⟨by first | exact Kd.R_nil _ _ _ _ _ | exact Kd.N_nil _ _ _ _ _ | exact Kd.V_nil _ _ _ _ _ | exact Kd.Q_nil _ _ _ _ _ | exact Kd.S_nil _ _ _ _ _⟩, ⟨by first | exact Kd.R_nil _ _ _ _ _ | exact Kd.N_nil _ _ _ _ _ | exact Kd.V_nil _ _ _ _ _ | exact Kd.Q_nil _ _ _ _ _ | exact Kd.S_nil _ _ _ _ _⟩, ⟨by first | exact Kd.R_nil _ _ _ _ _ | exact Kd.N_nil _ _ _ _ _ | exact Kd.V_nil _ _ _ _ _ | exact Kd.Q_nil _ _ _ _ _ | exact Kd.S_nil _ _ _ _ _⟩, ⟨by (with_reducible repeat (first | apply Kd.S_alloc | apply Kd.S_drewN | apply Kd.S_drew)); exact Kd.S_mono HO_366000.out (fun _ hk => ⟨(by simp [Value.ownBlock]), ⟨(by simp [Value.ownBlock]), ⟨(by simp [Value.ownBlock]), ⟨hk.1, hk.2⟩⟩⟩⟩)⟩, ⟨by (with_reducible repeat (first | apply Kd.S_alloc | apply Kd.S_drewN | apply Kd.S_drew)); exact Kd.S_mono HO_366001.out (fun _ hk => ⟨(by simp [Value.ownBlock]), ⟨(by simp [Value.ownBlock]), ⟨(by simp [Value.ownBlock]), ⟨hk.1, hk.2⟩⟩⟩⟩)⟩, ⟨by (with_reducible repeat (first | apply Kd.S_alloc | apply Kd.S_drewN | apply Kd.S_drew)); exact Kd.S_mono HO_366002.out (fun _ hk => ⟨(by simp [Value.ownBlock]), ⟨(by simp [Value.ownBlock]), ⟨(by simp [Value.ownBlock]), ⟨hk.1, hk.2⟩⟩⟩⟩)⟩, ⟨bP BK362⟩, ⟨bP BK363⟩, ⟨bP BK365⟩, ⟨bZ HB⟩⟩
     case round =>
      clear H'
      try clear c1
      try clear p2
      try clear c3
      try clear c5
      try clear c6
      try clear c8
      try clear c10
      try clear c12
      try clear c12b0
      try clear c13
      try clear c14
      try clear hcz11_0
      try clear hcz11_1
      try clear hcz11_2
      try clear hcz15_0
      try clear hcz15_1
      try clear hcz15_2
      try clear hcz7_0
      try clear hcz7_1
      try clear hcz7_2
      try clear hfz11_0
      try clear hfz11_1
      try clear hfz11_2
      try clear hfz15_0
      try clear hfz15_1
      try clear hfz15_2
      try clear hfz7_0
      try clear hfz7_1
      try clear hfz7_2
      try clear p2
      obtain ⟨x6_2, x7_2, x8_2, x23_2, rfl, HA, HK2, HO_6, HO_7, HO_8, HO_366000, HO_366001, HO_366002, BK362, BK363, BK365, HB⟩ := hrel
      cases gk with
      | zero => exact absurd HA.out (by simp [impl_QapOf.l1])
      | succ k2 =>
       have H := HA.out
       clear HA
       simp only [impl_QapOf.l1] at H
       by_cases c16 : x23_2 < (l0_2.length : Int)
       ·rw [if_pos c16] at H
        have c16b0 := decide_eq_true c16
        clear c16
        by_cases c17 : 0 ≤ x23_2
        ·rw [if_pos c17] at H
         have c17b0 := decide_eq_true c17
         clear c17
         by_cases c18 : x23_2 < (l0_2.length : Int)
         ·rw [if_pos c18] at H
          have c18b0 := decide_eq_true c18
          clear c18
          by_cases c19 : 0 ≤ x17_1
          ·rw [if_pos c19] at H
           have c19b0 := decide_eq_true c19
           clear c19
           by_cases c20 : x17_1 < (((rd_T40 l0_2 x23_2).f0).length : Int)
           ·rw [if_pos c20] at H
            have c20b0 := decide_eq_true c20
            clear c20
            by_cases c21 : x6_2.length < 17592186044416
            ·rw [if_pos c21] at H
             have LMc21 := Aside0.mk c21
             clear c21
             obtain ⟨y369, hy369⟩ : ∃ y_ : List Int, y_ = (x6_2 ++ [rd ((rd_T40 l0_2 x23_2).f0) x17_1]) := ⟨_, rfl⟩
             replace H : (if x17_1 < (((rd_T40 l0_2 x23_2).f1).length : Int) then (if x7_2.length < 17592186044416 then (if x17_1 < (((rd_T40 l0_2 x23_2).f2).length : Int) then (if x8_2.length < 17592186044416 then (impl_QapOf.l1 k2 x17_1 y369 (x7_2 ++ [rd ((rd_T40 l0_2 x23_2).f1) x17_1]) (x8_2 ++ [rd ((rd_T40 l0_2 x23_2).f2) x17_1]) a0_0 x17_1 l0_2 (l0_2.length : Int) (wrap64 (x23_2 + 1)) a0_0 a0_1 l0_2 x366000_1 x366001_1 x366002_1) else (none)) else (none)) else (none)) else (none)) = some (r1, r2, r3, r4) := by first | (rw [hy369]; with_reducible exact H) | (have H2_ := (Option.bind_some _ _).symm.trans H; rw [hy369]; with_reducible exact H2_) | (have H2_ := (Option.bind_some _ _).symm.trans H; with_reducible exact H2_) | with_reducible exact H | (rw [hy369]; exact H) | exact H
             have Ny369 := Aside0.mk hy369
             clear hy369
             by_cases c22 : x17_1 < (((rd_T40 l0_2 x23_2).f1).length : Int)
             ·rw [if_pos c22] at H
              have c22b0 := decide_eq_true c22
              clear c22
              by_cases c23 : x7_2.length < 17592186044416
              ·rw [if_pos c23] at H
               have LMc23 := Aside0.mk c23
               clear c23
               obtain ⟨y373, hy373⟩ : ∃ y_ : List Int, y_ = (x7_2 ++ [rd ((rd_T40 l0_2 x23_2).f1) x17_1]) := ⟨_, rfl⟩
               replace H : (if x17_1 < (((rd_T40 l0_2 x23_2).f2).length : Int) then (if x8_2.length < 17592186044416 then (impl_QapOf.l1 k2 x17_1 y369 y373 (x8_2 ++ [rd ((rd_T40 l0_2 x23_2).f2) x17_1]) a0_0 x17_1 l0_2 (l0_2.length : Int) (wrap64 (x23_2 + 1)) a0_0 a0_1 l0_2 x366000_1 x366001_1 x366002_1) else (none)) else (none)) = some (r1, r2, r3, r4) := by first | (rw [hy373]; with_reducible exact H) | (have H2_ := (Option.bind_some _ _).symm.trans H; rw [hy373]; with_reducible exact H2_) | (have H2_ := (Option.bind_some _ _).symm.trans H; with_reducible exact H2_) | with_reducible exact H | (rw [hy373]; exact H) | exact H
               have Ny373 := Aside0.mk hy373
               clear hy373
               by_cases c24 : x17_1 < (((rd_T40 l0_2 x23_2).f2).length : Int)
               ·rw [if_pos c24] at H
                have c24b0 := decide_eq_true c24
                clear c24
                by_cases c25 : x8_2.length < 17592186044416
                ·rw [if_pos c25] at H
                 have LMc25 := Aside0.mk c25
                 clear c25
                 obtain ⟨y377, hy377⟩ : ∃ y_ : List Int, y_ = (x8_2 ++ [rd ((rd_T40 l0_2 x23_2).f2) x17_1]) := ⟨_, rfl⟩
                 replace H : (impl_QapOf.l1 k2 x17_1 y369 y373 y377 a0_0 x17_1 l0_2 (l0_2.length : Int) (wrap64 (x23_2 + 1)) a0_0 a0_1 l0_2 x366000_1 x366001_1 x366002_1) = some (r1, r2, r3, r4) := by first | (rw [hy377]; with_reducible exact H) | (have H2_ := (Option.bind_some _ _).symm.trans H; rw [hy377]; with_reducible exact H2_) | (have H2_ := (Option.bind_some _ _).symm.trans H; with_reducible exact H2_) | with_reducible exact H | (rw [hy377]; exact H) | exact H
                 have Ny377 := Aside0.mk hy377
                 clear hy377
                 have H' := Aside0.mk H
                 clear H
                 have p366 : 0 ≤ (x23_2 : Int) := of_decide_eq_true (by first | (with_reducible assumption) | assumption)
                 have q366 : x23_2 < (l0_2.length : Int) := of_decide_eq_true (by first | (with_reducible assumption) | assumption)
                 obtain ⟨ad366, A366_0, c366_0, A366_1, c366_1, A366_2, c366_2, e366, hx366_0, hx366_1, hx366_2, hl366_0, hi366_0, hl366_1, hi366_1, hl366_2, hi366_2⟩ := at_T40 HR0_2.out x23_2 p366 q366
                 cases e366
                 replace hx366_0 := (hC HB hx366_0 :)
                 replace hx366_1 := (hC HB hx366_1 :)
                 replace hx366_2 := (hC HB hx366_2 :)
                 have HR366_0 := Aside0.mk hi366_0
                 have HC366_0 := Aside0.mk hl366_0
                 clear hi366_0 hl366_0
                 have HR366_1 := Aside0.mk hi366_1
                 have HC366_1 := Aside0.mk hl366_1
                 clear hi366_1 hl366_1
                 have HR366_2 := Aside0.mk hi366_2
                 have HC366_2 := Aside0.mk hl366_2
                 clear hi366_2 hl366_2
                 replace p366 := eq_true p366
                 replace q366 := eq_true q366
                 go_wp2_with (first | ((with_reducible refine gate_dst (N := 10) rfl ?_); refine bE 10 #[.slice none 0 0, .slice none 0 0, .slice none 0 0] 40 ?_; intro gb367 hg w26 hbox hb; replace HO_6 := Aside0.mk (Kd.R_below (rP HO_6) hb); replace HO_7 := Aside0.mk (Kd.R_below (rP HO_7) hb); replace HO_8 := Aside0.mk (Kd.R_below (rP HO_8) hb); replace HO_366000 := Aside0.mk (Kd.S_below (by (with_reducible repeat (first | apply Kd.S_alloc | apply Kd.S_drewN | apply Kd.S_drew)); exact HO_366000.out) hb); replace HO_366001 := Aside0.mk (Kd.S_below (by (with_reducible repeat (first | apply Kd.S_alloc | apply Kd.S_drewN | apply Kd.S_drew)); exact HO_366001.out) hb); replace HO_366002 := Aside0.mk (Kd.S_below (by (with_reducible repeat (first | apply Kd.S_alloc | apply Kd.S_drewN | apply Kd.S_drew)); exact HO_366002.out) hb); have BK367 := Aside0.mk (hbox); have GW367 := bG HB hg; replace HB := bS HB hb; obtain ⟨NB362_367, NB367_362⟩ := bN BK362 hg; replace BK362 := bB BK362 hb; obtain ⟨NB363_367, NB367_363⟩ := bN BK363 hg; replace BK363 := bB BK363 hb; obtain ⟨NB365_367, NB367_365⟩ := bN BK365 hg; replace BK365 := bB BK365 hb; clear hb hbox hg; obtain ⟨hnb27, hnc27⟩ := nB NB367_362; obtain ⟨hnb28, hnc28⟩ := nB NB367_363; obtain ⟨hnb29, hnc29⟩ := nB NB367_365; obtain ⟨hcz30_0, hcz30_1, hcz30_2, hfz30_0, hfz30_1, hfz30_2⟩ := bK3 (w := w26) BK367; have p368 : 0 ≤ (x17_1 : Int) := of_decide_eq_true (by first | (with_reducible assumption) | assumption); have q368 : x17_1 < (((rd_T40 l0_2 x23_2).f0).length : Int) := of_decide_eq_true (by first | (with_reducible assumption) | assumption); obtain ⟨ad368, e368, hx368_0⟩ := Kd.at_int HR366_0.out x17_1 p368 q368; cases e368; have hn368_0 : ad368.block ≠ gb367 := Nat.ne_of_lt (Nat.lt_of_lt_of_le (by have := World.block_lt_of_cell? _ _ hx368_0; first | rwa [add_block] at this | exact this) GW367.out); have hn368_1 : ad368.block ≠ gb367 := Nat.ne_of_lt (Nat.lt_of_lt_of_le (by have := World.block_lt_of_cell? _ _ hx368_0; first | rwa [add_block] at this | exact this) GW367.out); have hn368_2 : ad368.block ≠ gb367 := Nat.ne_of_lt (Nat.lt_of_lt_of_le (by have := World.block_lt_of_cell? _ _ hx368_0; first | rwa [add_block] at this | exact this) GW367.out); replace hx368_0 := (hC HB hx368_0 :); replace hx368_0 := (cell_far (p := ⟨gb367, 0, none⟩) (by first | (rw [add_block]; exact hn368_0) | (show (Addr.add _ _).block ≠ _; rw [add_block]; exact hn368_0) | exact hn368_0) (.slice (some ad368) ((rd_T40 l0_2 x23_2).f0).length c366_0)).trans hx368_0; replace hx368_0 := (cell_far (p := ⟨gb367, 1, none⟩) (by first | (rw [add_block]; exact hn368_1) | (show (Addr.add _ _).block ≠ _; rw [add_block]; exact hn368_1) | exact hn368_1) (.slice A366_1 ((rd_T40 l0_2 x23_2).f1).length c366_1)).trans hx368_0; replace hx368_0 := (cell_far (p := ⟨gb367, 2, none⟩) (by first | (rw [add_block]; exact hn368_2) | (show (Addr.add _ _).block ≠ _; rw [add_block]; exact hn368_2) | exact hn368_2) (.slice A366_2 ((rd_T40 l0_2 x23_2).f2).length c366_2)).trans hx368_0; clear hn368_0; clear hn368_1; clear hn368_2; replace p368 := eq_true p368; replace q368 := eq_true q368) | ((with_reducible refine gate_builtin (b := .append) (xs := #[.tmp 27, .tmp 33]) rfl ?_); at_builtin; refine Kd.R_append (Kd.int .i64) (w0 := w) w.heap.size rfl (.tmp 27) (.tmp 33) 22 3 (.int .i64 0) 8 rfl Try.underlying22 info3 rfl (by decide) (by omega) u6 x6_2 (rd ((rd_T40 l0_2 x23_2).f0) x17_1) [.int .i64 (rd ((rd_T40 l0_2 x23_2).f0) x17_1)] (fun k_ => some k_ ≠ (u7 : Value).ownBlock ∧ some k_ ≠ (u8 : Value).ownBlock) (fun _ => False) rfl (by first | (go_simp; done) | (go_simp; rfl)) ?aP (fun _ hk => hk.elim) ?aF ?aO ?aB ?aS ?aL ?_; (case aP => exact rfl); (case aB => exact (bZ HB)); (case aF => exact (fun k_ hk => ⟨Kd.fresh' (Kd.R_lt (by (with_reducible repeat (first | apply Kd.R_alloc | apply Kd.R_drewN | apply Kd.R_drew)); exact (Kd.R_mono (Kd.R_far (p := ⟨gb367, 2, none⟩) (Kd.R_far (p := ⟨gb367, 1, none⟩) (Kd.R_far (p := ⟨gb367, 0, none⟩) (Kd.R_types HO_7.out BK367.out (by decide)) (fun _ hk => hk.2) (.slice (some ad368) ((rd_T40 l0_2 x23_2).f0).length c366_0)) (fun _ hk => hk.2) (.slice A366_1 ((rd_T40 l0_2 x23_2).f1).length c366_1)) (fun _ hk => hk.2) (.slice A366_2 ((rd_T40 l0_2 x23_2).f2).length c366_2)) (fun _ h_ => h_.1)))) k_ hk, Kd.fresh' (Kd.R_lt (by (with_reducible repeat (first | apply Kd.R_alloc | apply Kd.R_drewN | apply Kd.R_drew)); exact (Kd.R_mono (Kd.R_far (p := ⟨gb367, 2, none⟩) (Kd.R_far (p := ⟨gb367, 1, none⟩) (Kd.R_far (p := ⟨gb367, 0, none⟩) (Kd.R_types HO_8.out BK367.out (by decide)) (fun _ hk => hk.2) (.slice (some ad368) ((rd_T40 l0_2 x23_2).f0).length c366_0)) (fun _ hk => hk.2) (.slice A366_1 ((rd_T40 l0_2 x23_2).f1).length c366_1)) (fun _ hk => hk.2) (.slice A366_2 ((rd_T40 l0_2 x23_2).f2).length c366_2)) (fun _ h_ => h_.1)))) k_ hk⟩)); (case aO => exact (by (with_reducible repeat (first | apply Kd.R_alloc | apply Kd.R_drewN | apply Kd.R_drew)); exact Kd.R_mono (Kd.R_far (p := ⟨gb367, 2, none⟩) (Kd.R_far (p := ⟨gb367, 1, none⟩) (Kd.R_far (p := ⟨gb367, 0, none⟩) (Kd.R_types HO_6.out BK367.out (by decide)) (fun _ hk => hk.2) (.slice (some ad368) ((rd_T40 l0_2 x23_2).f0).length c366_0)) (fun _ hk => hk.2) (.slice A366_1 ((rd_T40 l0_2 x23_2).f1).length c366_1)) (fun _ hk => hk.2) (.slice A366_2 ((rd_T40 l0_2 x23_2).f2).length c366_2)) (fun _ hk => ⟨hk.1.1, hk.1.2⟩))); (case aS => exact (below_size (bZ HB))); (case aL => have := LMc21.out; omega); intro v370 w31 ho hb hg hat; rw [← Ny369.out] at ho; replace HO_7 := Aside0.mk (Kd.R_after (ok := (fun k_ => some k_ ≠ (u8 : Value).ownBlock)) (by (with_reducible repeat (first | apply Kd.R_alloc | apply Kd.R_drewN | apply Kd.R_drew)); exact Kd.R_mono (Kd.R_far (p := ⟨gb367, 2, none⟩) (Kd.R_far (p := ⟨gb367, 1, none⟩) (Kd.R_far (p := ⟨gb367, 0, none⟩) (Kd.R_types HO_7.out BK367.out (by decide)) (fun _ hk => hk.2) (.slice (some ad368) ((rd_T40 l0_2 x23_2).f0).length c366_0)) (fun _ hk => hk.2) (.slice A366_1 ((rd_T40 l0_2 x23_2).f1).length c366_1)) (fun _ hk => hk.2) (.slice A366_2 ((rd_T40 l0_2 x23_2).f2).length c366_2)) (fun _ hk => ⟨hk.1.2, hk.1.1⟩)) hg hat); replace HO_8 := Aside0.mk (Kd.R_after (ok := (fun k_ => some k_ ≠ (u7 : Value).ownBlock)) (by (with_reducible repeat (first | apply Kd.R_alloc | apply Kd.R_drewN | apply Kd.R_drew)); exact Kd.R_mono (Kd.R_far (p := ⟨gb367, 2, none⟩) (Kd.R_far (p := ⟨gb367, 1, none⟩) (Kd.R_far (p := ⟨gb367, 0, none⟩) (Kd.R_types HO_8.out BK367.out (by decide)) (fun _ hk => hk.2) (.slice (some ad368) ((rd_T40 l0_2 x23_2).f0).length c366_0)) (fun _ hk => hk.2) (.slice A366_1 ((rd_T40 l0_2 x23_2).f1).length c366_1)) (fun _ hk => hk.2) (.slice A366_2 ((rd_T40 l0_2 x23_2).f2).length c366_2)) (fun _ hk => ⟨hk.1.2, hk.1.1⟩)) hg hat); replace HO_366000 := Aside0.mk (Kd.S_after (ok := (fun k_ => some k_ ≠ (u7 : Value).ownBlock ∧ some k_ ≠ (u8 : Value).ownBlock ∧ some k_ ≠ (u366001 : Value).ownBlock ∧ some k_ ≠ (u366002 : Value).ownBlock)) (by (with_reducible repeat (first | apply Kd.S_alloc | apply Kd.S_drewN | apply Kd.S_drew)); exact Kd.S_mono (Kd.S_far (p := ⟨gb367, 2, none⟩) (Kd.S_far (p := ⟨gb367, 1, none⟩) (Kd.S_far (p := ⟨gb367, 0, none⟩) (Kd.S_types HO_366000.out BK367.out (ownE (by decide))) (fun _ hk => hk.2) (.slice (some ad368) ((rd_T40 l0_2 x23_2).f0).length c366_0)) (fun _ hk => hk.2) (.slice A366_1 ((rd_T40 l0_2 x23_2).f1).length c366_1)) (fun _ hk => hk.2) (.slice A366_2 ((rd_T40 l0_2 x23_2).f2).length c366_2)) (fun _ hk => ⟨⟨hk.1.2.1, ⟨hk.1.2.2.1, ⟨hk.1.2.2.2.1, hk.1.2.2.2.2⟩⟩⟩, hk.1.1⟩)) hg hat); replace HO_366001 := Aside0.mk (Kd.S_after (ok := (fun k_ => some k_ ≠ (u7 : Value).ownBlock ∧ some k_ ≠ (u8 : Value).ownBlock ∧ some k_ ≠ (u366000 : Value).ownBlock ∧ some k_ ≠ (u366002 : Value).ownBlock)) (by (with_reducible repeat (first | apply Kd.S_alloc | apply Kd.S_drewN | apply Kd.S_drew)); exact Kd.S_mono (Kd.S_far (p := ⟨gb367, 2, none⟩) (Kd.S_far (p := ⟨gb367, 1, none⟩) (Kd.S_far (p := ⟨gb367, 0, none⟩) (Kd.S_types HO_366001.out BK367.out (ownE (by decide))) (fun _ hk => hk.2) (.slice (some ad368) ((rd_T40 l0_2 x23_2).f0).length c366_0)) (fun _ hk => hk.2) (.slice A366_1 ((rd_T40 l0_2 x23_2).f1).length c366_1)) (fun _ hk => hk.2) (.slice A366_2 ((rd_T40 l0_2 x23_2).f2).length c366_2)) (fun _ hk => ⟨⟨hk.1.2.1, ⟨hk.1.2.2.1, ⟨hk.1.2.2.2.1, hk.1.2.2.2.2⟩⟩⟩, hk.1.1⟩)) hg hat); replace HO_366002 := Aside0.mk (Kd.S_after (ok := (fun k_ => some k_ ≠ (u7 : Value).ownBlock ∧ some k_ ≠ (u8 : Value).ownBlock ∧ some k_ ≠ (u366000 : Value).ownBlock ∧ some k_ ≠ (u366001 : Value).ownBlock)) (by (with_reducible repeat (first | apply Kd.S_alloc | apply Kd.S_drewN | apply Kd.S_drew)); exact Kd.S_mono (Kd.S_far (p := ⟨gb367, 2, none⟩) (Kd.S_far (p := ⟨gb367, 1, none⟩) (Kd.S_far (p := ⟨gb367, 0, none⟩) (Kd.S_types HO_366002.out BK367.out (ownE (by decide))) (fun _ hk => hk.2) (.slice (some ad368) ((rd_T40 l0_2 x23_2).f0).length c366_0)) (fun _ hk => hk.2) (.slice A366_1 ((rd_T40 l0_2 x23_2).f1).length c366_1)) (fun _ hk => hk.2) (.slice A366_2 ((rd_T40 l0_2 x23_2).f2).length c366_2)) (fun _ hk => ⟨⟨hk.1.2.1, ⟨hk.1.2.2.1, ⟨hk.1.2.2.2.1, hk.1.2.2.2.2⟩⟩⟩, hk.1.1⟩)) hg hat); replace BK362 := Aside0.mk (blk_grown (bP BK362) hg (Kd.R_ne HO_6.out BK362.out (by decide))); replace BK363 := Aside0.mk (blk_grown (bP BK363) hg (Kd.R_ne HO_6.out BK363.out (by decide))); replace BK365 := Aside0.mk (blk_grown (bP BK365) hg (Kd.R_ne HO_6.out BK365.out (by decide))); replace BK367 := Aside0.mk (blk_grown (g := gb367) (o := .cells #[.slice (some ad368) ((rd_T40 l0_2 x23_2).f0).length c366_0, .slice A366_1 ((rd_T40 l0_2 x23_2).f1).length c366_1, .slice A366_2 ((rd_T40 l0_2 x23_2).f2).length c366_2] 40 (0, 0)) (bU BK367) hg (Kd.R_ne HO_6.out BK367.out (by decide))); replace HB := Aside0.mk (hb); have HO371 := Aside0.mk (ho); clear HO_6; clear ho hb hg hat; obtain ⟨hcz32_0, hcz32_1, hcz32_2, hfz32_0, hfz32_1, hfz32_2⟩ := bK3 (w := w31) BK367; have p372 : 0 ≤ (x17_1 : Int) := of_decide_eq_true (by first | (with_reducible assumption) | assumption); have q372 : x17_1 < (((rd_T40 l0_2 x23_2).f1).length : Int) := of_decide_eq_true (by first | (with_reducible assumption) | assumption); obtain ⟨ad372, e372, hx372_0⟩ := Kd.at_int HR366_1.out x17_1 p372 q372; cases e372; replace hx372_0 := (hC HB hx372_0 :); replace p372 := eq_true p372; replace q372 := eq_true q372) | ((with_reducible refine gate_builtin (b := .append) (xs := #[.tmp 35, .tmp 41]) rfl ?_); at_builtin; refine Kd.R_append (Kd.int .i64) (w0 := w) w.heap.size rfl (.tmp 35) (.tmp 41) 22 3 (.int .i64 0) 8 rfl Try.underlying22 info3 rfl (by decide) (by omega) u7 x7_2 (rd ((rd_T40 l0_2 x23_2).f1) x17_1) [.int .i64 (rd ((rd_T40 l0_2 x23_2).f1) x17_1)] (fun k_ => some k_ ≠ (u8 : Value).ownBlock ∧ some k_ ≠ (v370 : Value).ownBlock) (fun _ => False) rfl rfl ?aP (fun _ hk => hk.elim) ?aF ?aO ?aB ?aS ?aL ?_; (case aP => exact rfl); (case aB => exact (bZ HB)); (case aF => exact (fun k_ hk => ⟨Kd.fresh' (Kd.R_lt (rP HO_8)) k_ hk, Kd.fresh' (Kd.R_lt (rP HO371)) k_ hk⟩)); (case aO => exact (rP HO_7)); (case aS => exact (below_size (bZ HB))); (case aL => have := LMc23.out; omega); intro v374 w33 ho hb hg hat; rw [← Ny373.out] at ho; replace HO_8 := Aside0.mk (Kd.R_after (ok := (fun k_ => some k_ ≠ (v370 : Value).ownBlock)) (by (with_reducible repeat (first | apply Kd.R_alloc | apply Kd.R_drewN | apply Kd.R_drew)); exact Kd.R_mono HO_8.out (fun _ hk => ⟨hk.2, hk.1⟩)) hg hat); replace HO_366000 := Aside0.mk (Kd.S_after (ok := (fun k_ => some k_ ≠ (u8 : Value).ownBlock ∧ some k_ ≠ (u366001 : Value).ownBlock ∧ some k_ ≠ (u366002 : Value).ownBlock ∧ some k_ ≠ (v370 : Value).ownBlock)) (by (with_reducible repeat (first | apply Kd.S_alloc | apply Kd.S_drewN | apply Kd.S_drew)); exact Kd.S_mono HO_366000.out (fun _ hk => ⟨⟨hk.1.2.1, ⟨hk.1.2.2.1, ⟨hk.1.2.2.2, hk.2⟩⟩⟩, hk.1.1⟩)) hg hat); replace HO_366001 := Aside0.mk (Kd.S_after (ok := (fun k_ => some k_ ≠ (u8 : Value).ownBlock ∧ some k_ ≠ (u366000 : Value).ownBlock ∧ some k_ ≠ (u366002 : Value).ownBlock ∧ some k_ ≠ (v370 : Value).ownBlock)) (by (with_reducible repeat (first | apply Kd.S_alloc | apply Kd.S_drewN | apply Kd.S_drew)); exact Kd.S_mono HO_366001.out (fun _ hk => ⟨⟨hk.1.2.1, ⟨hk.1.2.2.1, ⟨hk.1.2.2.2, hk.2⟩⟩⟩, hk.1.1⟩)) hg hat); replace HO_366002 := Aside0.mk (Kd.S_after (ok := (fun k_ => some k_ ≠ (u8 : Value).ownBlock ∧ some k_ ≠ (u366000 : Value).ownBlock ∧ some k_ ≠ (u366001 : Value).ownBlock ∧ some k_ ≠ (v370 : Value).ownBlock)) (by (with_reducible repeat (first | apply Kd.S_alloc | apply Kd.S_drewN | apply Kd.S_drew)); exact Kd.S_mono HO_366002.out (fun _ hk => ⟨⟨hk.1.2.1, ⟨hk.1.2.2.1, ⟨hk.1.2.2.2, hk.2⟩⟩⟩, hk.1.1⟩)) hg hat); replace BK362 := Aside0.mk (blk_grown (bP BK362) hg (Kd.R_ne HO_7.out BK362.out (by decide))); replace BK363 := Aside0.mk (blk_grown (bP BK363) hg (Kd.R_ne HO_7.out BK363.out (by decide))); replace BK365 := Aside0.mk (blk_grown (bP BK365) hg (Kd.R_ne HO_7.out BK365.out (by decide))); replace BK367 := Aside0.mk (blk_grown (bP BK367) hg (Kd.R_ne HO_7.out BK367.out (by decide))); replace HO371 := Aside0.mk (Kd.R_after (ok := (fun k_ => some k_ ≠ (u8 : Value).ownBlock)) (by (with_reducible repeat (first | apply Kd.R_alloc | apply Kd.R_drewN | apply Kd.R_drew)); exact Kd.R_mono HO371.out (fun _ hk => ⟨hk.2, hk.1⟩)) hg hat); replace HB := Aside0.mk (hb); have HO375 := Aside0.mk (ho); clear HO_7; clear ho hb hg hat; obtain ⟨hcz34_0, hcz34_1, hcz34_2, hfz34_0, hfz34_1, hfz34_2⟩ := bK3 (w := w33) BK367; have p376 : 0 ≤ (x17_1 : Int) := of_decide_eq_true (by first | (with_reducible assumption) | assumption); have q376 : x17_1 < (((rd_T40 l0_2 x23_2).f2).length : Int) := of_decide_eq_true (by first | (with_reducible assumption) | assumption); obtain ⟨ad376, e376, hx376_0⟩ := Kd.at_int HR366_2.out x17_1 p376 q376; cases e376; replace hx376_0 := (hC HB hx376_0 :); replace p376 := eq_true p376; replace q376 := eq_true q376) | ((with_reducible refine gate_builtin (b := .append) (xs := #[.tmp 43, .tmp 49]) rfl ?_); at_builtin; refine Kd.R_append (Kd.int .i64) (w0 := w) w.heap.size rfl (.tmp 43) (.tmp 49) 22 3 (.int .i64 0) 8 rfl Try.underlying22 info3 rfl (by decide) (by omega) u8 x8_2 (rd ((rd_T40 l0_2 x23_2).f2) x17_1) [.int .i64 (rd ((rd_T40 l0_2 x23_2).f2) x17_1)] (fun k_ => some k_ ≠ (v370 : Value).ownBlock ∧ some k_ ≠ (v374 : Value).ownBlock) (fun _ => False) rfl rfl ?aP (fun _ hk => hk.elim) ?aF ?aO ?aB ?aS ?aL ?_; (case aP => exact rfl); (case aB => exact (bZ HB)); (case aF => exact (fun k_ hk => ⟨Kd.fresh' (Kd.R_lt (rP HO371)) k_ hk, Kd.fresh' (Kd.R_lt (rP HO375)) k_ hk⟩)); (case aO => exact (rP HO_8)); (case aS => exact (below_size (bZ HB))); (case aL => have := LMc25.out; omega); intro v378 w35 ho hb hg hat; rw [← Ny377.out] at ho; replace HO_366000 := Aside0.mk (Kd.S_after (ok := (fun k_ => some k_ ≠ (u366001 : Value).ownBlock ∧ some k_ ≠ (u366002 : Value).ownBlock ∧ some k_ ≠ (v370 : Value).ownBlock ∧ some k_ ≠ (v374 : Value).ownBlock)) (by (with_reducible repeat (first | apply Kd.S_alloc | apply Kd.S_drewN | apply Kd.S_drew)); exact Kd.S_mono HO_366000.out (fun _ hk => ⟨⟨hk.1.2.1, ⟨hk.1.2.2.1, ⟨hk.1.2.2.2, hk.2⟩⟩⟩, hk.1.1⟩)) hg hat); replace HO_366001 := Aside0.mk (Kd.S_after (ok := (fun k_ => some k_ ≠ (u366000 : Value).ownBlock ∧ some k_ ≠ (u366002 : Value).ownBlock ∧ some k_ ≠ (v370 : Value).ownBlock ∧ some k_ ≠ (v374 : Value).ownBlock)) (by (with_reducible repeat (first | apply Kd.S_alloc | apply Kd.S_drewN | apply Kd.S_drew)); exact Kd.S_mono HO_366001.out (fun _ hk => ⟨⟨hk.1.2.1, ⟨hk.1.2.2.1, ⟨hk.1.2.2.2, hk.2⟩⟩⟩, hk.1.1⟩)) hg hat); replace HO_366002 := Aside0.mk (Kd.S_after (ok := (fun k_ => some k_ ≠ (u366000 : Value).ownBlock ∧ some k_ ≠ (u366001 : Value).ownBlock ∧ some k_ ≠ (v370 : Value).ownBlock ∧ some k_ ≠ (v374 : Value).ownBlock)) (by (with_reducible repeat (first | apply Kd.S_alloc | apply Kd.S_drewN | apply Kd.S_drew)); exact Kd.S_mono HO_366002.out (fun _ hk => ⟨⟨hk.1.2.1, ⟨hk.1.2.2.1, ⟨hk.1.2.2.2, hk.2⟩⟩⟩, hk.1.1⟩)) hg hat); replace BK362 := Aside0.mk (blk_grown (bP BK362) hg (Kd.R_ne HO_8.out BK362.out (by decide))); replace BK363 := Aside0.mk (blk_grown (bP BK363) hg (Kd.R_ne HO_8.out BK363.out (by decide))); replace BK365 := Aside0.mk (blk_grown (bP BK365) hg (Kd.R_ne HO_8.out BK365.out (by decide))); replace BK367 := Aside0.mk (blk_grown (bP BK367) hg (Kd.R_ne HO_8.out BK367.out (by decide))); replace HO371 := Aside0.mk (Kd.R_after (ok := (fun k_ => some k_ ≠ (v374 : Value).ownBlock)) (by (with_reducible repeat (first | apply Kd.R_alloc | apply Kd.R_drewN | apply Kd.R_drew)); exact Kd.R_mono HO371.out (fun _ hk => ⟨hk.2, hk.1⟩)) hg hat); replace HO375 := Aside0.mk (Kd.R_after (ok := (fun k_ => some k_ ≠ (v370 : Value).ownBlock)) (by (with_reducible repeat (first | apply Kd.R_alloc | apply Kd.R_drewN | apply Kd.R_drew)); exact Kd.R_mono HO375.out (fun _ hk => ⟨hk.2, hk.1⟩)) hg hat); replace HB := Aside0.mk (hb); have HO379 := Aside0.mk (ho); clear HO_8; clear ho hb hg hat))
                 go_roundg k2
                 case measure => have := HK1.out; have := HK2.out; omega
                 case rel => exact ⟨(y369), (y373), (y377), (wrap64 (x23_2 + 1)), rS, H', ⟨by have := HK1.out; have := HK2.out; omega⟩, ⟨rP HO371⟩, ⟨rP HO375⟩, ⟨rP HO379⟩, ⟨by (with_reducible repeat (first | apply Kd.S_alloc | apply Kd.S_drewN | apply Kd.S_drew)); exact Kd.S_mono HO_366000.out (fun _ hk => ⟨hk.1.2.2.1, ⟨hk.1.2.2.2, ⟨hk.2, ⟨hk.1.1, hk.1.2.1⟩⟩⟩⟩)⟩, ⟨by (with_reducible repeat (first | apply Kd.S_alloc | apply Kd.S_drewN | apply Kd.S_drew)); exact Kd.S_mono HO_366001.out (fun _ hk => ⟨hk.1.2.2.1, ⟨hk.1.2.2.2, ⟨hk.2, ⟨hk.1.1, hk.1.2.1⟩⟩⟩⟩)⟩, ⟨by (with_reducible repeat (first | apply Kd.S_alloc | apply Kd.S_drewN | apply Kd.S_drew)); exact Kd.S_mono HO_366002.out (fun _ hk => ⟨hk.1.2.2.1, ⟨hk.1.2.2.2, ⟨hk.2, ⟨hk.1.1, hk.1.2.1⟩⟩⟩⟩)⟩, ⟨bP BK362⟩, ⟨bP BK363⟩, ⟨bP BK365⟩, ⟨bZ HB⟩⟩
                ·rw [if_neg c25] at H
                 exact absurd H (by simp)
               ·rw [if_neg c24] at H
                exact absurd H (by simp)
              ·rw [if_neg c23] at H
               exact absurd H (by simp)
             ·rw [if_neg c22] at H
              exact absurd H (by simp)
            ·rw [if_neg c21] at H
             exact absurd H (by simp)
           ·rw [if_neg c20] at H
            exact absurd H (by simp)
          ·rw [if_neg c19] at H
           exact absurd H (by simp)
         ·rw [if_neg c18] at H
          exact absurd H (by simp)
        ·rw [if_neg c17] at H
         exact absurd H (by simp)
       ·rw [if_neg c16] at H
        have c16b0 := decide_eq_false c16
        clear c16
        replace H := Option.bind_eq_some_iff.mp H
        obtain ⟨t380, A360, H⟩ := H
        have A36 := Aside0.mk A360
        clear A360
        by_cases c37 : x366000_1.length < 5864062014805
        ·rw [if_pos c37] at H
         have LMc37 := Aside0.mk c37
         clear c37
         obtain ⟨y383, hy383⟩ : ∃ y_ : List (List Int), y_ = (x366000_1 ++ [t380]) := ⟨_, rfl⟩
         replace H : ((impl_PolyThrough.f k2 x7_2).bind fun t386 => (if x366001_1.length < 5864062014805 then ((impl_PolyThrough.f k2 x8_2).bind fun t392 => (if x366002_1.length < 5864062014805 then (impl_QapOf.l0 k2 a0_0 (wrap64 (x17_1 + 1)) a0_0 a0_1 l0_2 y383 (x366001_1 ++ [t386]) (x366002_1 ++ [t392])) else (none))) else (none))) = some (r1, r2, r3, r4) := by first | (rw [hy383]; with_reducible exact H) | (have H2_ := (Option.bind_some _ _).symm.trans H; rw [hy383]; with_reducible exact H2_) | (have H2_ := (Option.bind_some _ _).symm.trans H; with_reducible exact H2_) | with_reducible exact H | (rw [hy383]; exact H) | exact H
         have Ny383 := Aside0.mk hy383
         clear hy383
         replace H := Option.bind_eq_some_iff.mp H
         obtain ⟨t386, A380, H⟩ := H
         have A38 := Aside0.mk A380
         clear A380
         by_cases c39 : x366001_1.length < 5864062014805
         ·rw [if_pos c39] at H
          have LMc39 := Aside0.mk c39
          clear c39
          obtain ⟨y389, hy389⟩ : ∃ y_ : List (List Int), y_ = (x366001_1 ++ [t386]) := ⟨_, rfl⟩
          replace H : ((impl_PolyThrough.f k2 x8_2).bind fun t392 => (if x366002_1.length < 5864062014805 then (impl_QapOf.l0 k2 a0_0 (wrap64 (x17_1 + 1)) a0_0 a0_1 l0_2 y383 y389 (x366002_1 ++ [t392])) else (none))) = some (r1, r2, r3, r4) := by first | (rw [hy389]; with_reducible exact H) | (have H2_ := (Option.bind_some _ _).symm.trans H; rw [hy389]; with_reducible exact H2_) | (have H2_ := (Option.bind_some _ _).symm.trans H; with_reducible exact H2_) | with_reducible exact H | (rw [hy389]; exact H) | exact H
          have Ny389 := Aside0.mk hy389
          clear hy389
          replace H := Option.bind_eq_some_iff.mp H
          obtain ⟨t392, A400, H⟩ := H
          have A40 := Aside0.mk A400
          clear A400
          by_cases c41 : x366002_1.length < 5864062014805
          ·rw [if_pos c41] at H
           have LMc41 := Aside0.mk c41
           clear c41
           obtain ⟨y395, hy395⟩ : ∃ y_ : List (List Int), y_ = (x366002_1 ++ [t392]) := ⟨_, rfl⟩
           replace H : (impl_QapOf.l0 k2 a0_0 (wrap64 (x17_1 + 1)) a0_0 a0_1 l0_2 y383 y389 y395) = some (r1, r2, r3, r4) := by first | (rw [hy395]; with_reducible exact H) | (have H2_ := (Option.bind_some _ _).symm.trans H; rw [hy395]; with_reducible exact H2_) | (have H2_ := (Option.bind_some _ _).symm.trans H; with_reducible exact H2_) | with_reducible exact H | (rw [hy395]; exact H) | exact H
           have Ny395 := Aside0.mk hy395
           clear hy395
           have H' := Aside0.mk H
           clear H
           try go_wp2
           replace HO_6 := Aside0.mk (Kd.R_drew HO_6.out)
           replace HO_7 := Aside0.mk (Kd.R_drew HO_7.out)
           replace HO_8 := Aside0.mk (Kd.R_drew HO_8.out)
           replace HO_366000 := Aside0.mk (Kd.S_drew HO_366000.out)
           replace HO_366001 := Aside0.mk (Kd.S_drew HO_366001.out)
           replace HO_366002 := Aside0.mk (Kd.S_drew HO_366002.out)
           replace BK362 := Aside0.mk (blk_drew BK362.out)
           replace BK363 := Aside0.mk (blk_drew BK363.out)
           replace BK365 := Aside0.mk (blk_drew BK365.out)
           replace HB := Aside0.mk (below_drew1 HB.out)
           obtain ⟨Ao43, co43, eo43⟩ := Kd.R_slice HO_6.out
           (first | subst eo43 | (injection eo43 with f1_ f2_ f3_; have f4_ := f1_.symm; have f5_ := f3_.symm; clear f1_ f2_ f3_; subst f4_; subst f5_))
           refine start_ (n := 8) (S := fun w' => SQ3 w' gb365 (u366000) (u366001) (u366002)) (ds := [7]) #[false, false, false, false, false, false, false, false] (by kernel_rfl) rfl rfl (bT3 BK365) (fun hHeld => ?_); refine with_tabW impl_QapOf.tab15 impl_QapOf.bits15 (fun HT_ HW_ => ?_)
           generalize wr.drew = w42 at HO_6 HO_7 HO_8 HO_366000 HO_366001 HO_366002 BK362 BK363 BK365 HB hHeld ⊢
           refine pI 0 (some 52) HT_.out ?_
           refine pI 2 (some 54) HT_.out ?_
           refine tI3 1 (some 53) HT_.out HW_.out hHeld ?_
           refine oI 3 (some 55) HT_.out (fun K hK => ?_)
           refine gO Try.func46 #[.slice Ao43 x6_2.length co43] ?_
           with_reducible refine (impl_PolyThrough.calls k2 _ _ x6_2 t380 _ ?side1 ?side2 A36.out).mono ?_
           (case side1 => exact cP ((Kd.R_reads' HO_6.out).2.2))
           (case side2 => exact (Kd.R_reads' HO_6.out).2.1)
           rintro e w44 ⟨v381, rfl, ho0, hb⟩
           refine ⟨_, rfl, ?_⟩
           have HF0 := Aside0.mk (fun (k_ : Nat) (e_ : v381.ownBlock = some k_) => (upF_new (Kd.R_base ho0 k_ e_) : (upF F_ w42.heap.size 0) k_ = 0))
           replace HO_366000 := Aside0.mk (Kd.S_elder' (ownUp 0 (by (with_reducible repeat (first | apply Kd.S_alloc | apply Kd.S_drewN | apply Kd.S_drew)); exact HO_366000.out)) (Kd.R_base ho0) hb)
           replace HO_366001 := Aside0.mk (Kd.S_elder' (ownUp 0 (by (with_reducible repeat (first | apply Kd.S_alloc | apply Kd.S_drewN | apply Kd.S_drew)); exact HO_366001.out)) (Kd.R_base ho0) hb)
           replace HO_366002 := Aside0.mk (Kd.S_elder' (ownUp 0 (by (with_reducible repeat (first | apply Kd.S_alloc | apply Kd.S_drewN | apply Kd.S_drew)); exact HO_366002.out)) (Kd.R_base ho0) hb)
           have HO382 := Aside0.mk (Kd.R_lower (Kd.R_new' (Kd.R_new' (Kd.R_new' ho0 (Kd.R_lt (rP HO_6))) (Kd.R_lt (rP HO_7))) (Kd.R_lt (rP HO_8))) (below_size (bZ HB)))
           replace HO_6 := Aside0.mk (Kd.R_elder' (rP HO_6) (Kd.R_base ho0) hb)
           replace HO_7 := Aside0.mk (Kd.R_elder' (rP HO_7) (Kd.R_base ho0) hb)
           replace HO_8 := Aside0.mk (Kd.R_elder' (rP HO_8) (Kd.R_base ho0) hb)
           replace BK362 := bB BK362 hb
           replace BK363 := bB BK363 hb
           replace BK365 := bB BK365 hb
           replace HB := bS HB hb
           (try clear hb)
           (try clear ho0)
           obtain ⟨Ao46, co46, eo46⟩ := Kd.R_slice HO382.out
           (first | subst eo46 | (injection eo46 with f1_ f2_ f3_; have f4_ := f1_.symm; have f5_ := f3_.symm; clear f1_ f2_ f3_; subst f4_; subst f5_))
           refine hK.out _ _ (bT3 BK365) (fun hHeld => ?_)
           clear hK K
           refine nO (some 55) ?_
           refine oI 4 (some 56) HT_.out (fun K hK => ?_)
           refine value_ (w1 := ?_) (v := ?_) (by rfl) rfl ?_ ?_
           rotate_left 2
           ·go_simp
            constructor
            ·rfl
            ·rfl
           refine hK.out _ _ ⟨(blk_cell (blk_alloc BK365.out _) 0).trans rfl, (blk_cell (blk_alloc BK365.out _) 1).trans rfl, (blk_cell (blk_alloc BK365.out _) 2).trans rfl⟩ (fun hHeld => ?_)
           clear hK K
           refine nO (some 56) ?_
           refine oI 5 (some 57) HT_.out (fun K hK => ?_)
           refine Kd.S_append_step (own (upF F_ w42.heap.size 0) 0 (Kd.slice 3 (Kd.int .i64))) (w0 := w) w.heap.size (by rfl) (.tmp 53) (.tmp 56) 48 22 (.slice none 0 0) 24 rfl Try.underlying48 info22 rfl Nat.zero_lt_one (by omega) u366000 x366000_1 t380 [.slice Ao46 t380.length co46] (fun k_ => some k_ ≠ (.slice Ao43 x6_2.length co43 : Value).ownBlock ∧ some k_ ≠ (u7 : Value).ownBlock ∧ some k_ ≠ (u8 : Value).ownBlock ∧ some k_ ≠ (u366001 : Value).ownBlock ∧ some k_ ≠ (u366002 : Value).ownBlock) (fun k_ => some k_ = (.slice Ao46 t380.length co46 : Value).ownBlock) rfl rfl ?aP (fun k_ hk_ => ((Kd.R_mono (ok' := fun k_ => ((fun k_ => some k_ ≠ (.slice Ao43 x6_2.length co43 : Value).ownBlock ∧ some k_ ≠ (u7 : Value).ownBlock ∧ some k_ ≠ (u8 : Value).ownBlock ∧ some k_ ≠ (u366001 : Value).ownBlock ∧ some k_ ≠ (u366002 : Value).ownBlock)) k_ ∧ some k_ ≠ (u366000 : Value).ownBlock) (Kd.R_apart' (Kd.R_apart' (Kd.R_apart' (HO382.out) (Kd.S_typed HO_366001.out) (by decide)) (Kd.S_typed HO_366002.out) (by decide)) (Kd.S_typed HO_366000.out) (by decide)) (fun k_ hk => ⟨⟨hk.1.1.1.1.1.2, ⟨hk.1.1.1.1.2, ⟨hk.1.1.1.2, ⟨hk.1.1.2, hk.1.2⟩⟩⟩⟩, hk.2⟩))).1 k_ hk_.symm) ?aF ?aO ?aB ?aS ?aL ?_
           (case aP => exact ownM (Kd.M_row (Kd.R_mono (Kd.R_tight rfl (Kd.R_mono (ok' := fun k_ => ((fun k_ => some k_ ≠ (.slice Ao43 x6_2.length co43 : Value).ownBlock ∧ some k_ ≠ (u7 : Value).ownBlock ∧ some k_ ≠ (u8 : Value).ownBlock ∧ some k_ ≠ (u366001 : Value).ownBlock ∧ some k_ ≠ (u366002 : Value).ownBlock)) k_ ∧ some k_ ≠ (u366000 : Value).ownBlock) (Kd.R_apart' (Kd.R_apart' (Kd.R_apart' (HO382.out) (Kd.S_typed HO_366001.out) (by decide)) (Kd.S_typed HO_366002.out) (by decide)) (Kd.S_typed HO_366000.out) (by decide)) (fun k_ hk => ⟨⟨hk.1.1.1.1.1.2, ⟨hk.1.1.1.1.2, ⟨hk.1.1.1.2, ⟨hk.1.1.2, hk.1.2⟩⟩⟩⟩, hk.2⟩))) (fun k_ h_ => ⟨h_, HF0.out k_ h_.symm⟩))))
           (case aB => exact (bZ HB))
           (case aF => exact (fun k_ hk => ⟨Kd.fresh' (Kd.R_lt (rP HO_6)) k_ hk, Kd.fresh' (Kd.R_lt (rP HO_7)) k_ hk, Kd.fresh' (Kd.R_lt (rP HO_8)) k_ hk, Kd.fresh' (Kd.S_lt (by (with_reducible repeat (first | apply Kd.S_alloc | apply Kd.S_drewN | apply Kd.S_drew)); exact HO_366001.out)) k_ hk, Kd.fresh' (Kd.S_lt (by (with_reducible repeat (first | apply Kd.S_alloc | apply Kd.S_drewN | apply Kd.S_drew)); exact HO_366002.out)) k_ hk⟩))
           (case aO => exact (by (with_reducible repeat (first | apply Kd.S_alloc | apply Kd.S_drewN | apply Kd.S_drew)); exact Kd.S_mono HO_366000.out (fun k_ hk => ⟨⟨hk.1.1, ⟨hk.1.2.1, ⟨hk.1.2.2.1, ⟨hk.1.2.2.2.1, hk.1.2.2.2.2⟩⟩⟩⟩, fun e_ => hk.2 e_⟩)))
           (case aS => exact (below_size (bZ HB)))
           (case aL => have := LMc37.out; omega)
           intro v384 w45 ho hb hg hat
           rw [← Ny383.out] at ho
           replace HO_6 := Aside0.mk (Kd.R_over' (rP HO_6) (Kd.S_typed (by (with_reducible repeat (first | apply Kd.S_alloc | apply Kd.S_drewN | apply Kd.S_drew)); exact HO_366000.out)) (by decide) hg)
           replace HO_7 := Aside0.mk (Kd.R_over' (rP HO_7) (Kd.S_typed (by (with_reducible repeat (first | apply Kd.S_alloc | apply Kd.S_drewN | apply Kd.S_drew)); exact HO_366000.out)) (by decide) hg)
           replace HO_8 := Aside0.mk (Kd.R_over' (rP HO_8) (Kd.S_typed (by (with_reducible repeat (first | apply Kd.S_alloc | apply Kd.S_drewN | apply Kd.S_drew)); exact HO_366000.out)) (by decide) hg)
           replace HO_366001 := Aside0.mk (Kd.S_after (ok := (fun k_ => some k_ ≠ (.slice Ao43 x6_2.length co43 : Value).ownBlock ∧ some k_ ≠ (u7 : Value).ownBlock ∧ some k_ ≠ (u8 : Value).ownBlock ∧ some k_ ≠ (u366002 : Value).ownBlock ∧ some k_ ≠ (.slice Ao46 t380.length co46 : Value).ownBlock)) (by (with_reducible repeat (first | apply Kd.S_alloc | apply Kd.S_drewN | apply Kd.S_drew)); exact Kd.S_mono HO_366001.out (fun _ hk => ⟨⟨hk.1.1, ⟨hk.1.2.1, ⟨hk.1.2.2.1, ⟨hk.1.2.2.2.2, hk.2⟩⟩⟩⟩, hk.1.2.2.2.1⟩)) hg hat)
           replace HO_366002 := Aside0.mk (Kd.S_after (ok := (fun k_ => some k_ ≠ (.slice Ao43 x6_2.length co43 : Value).ownBlock ∧ some k_ ≠ (u7 : Value).ownBlock ∧ some k_ ≠ (u8 : Value).ownBlock ∧ some k_ ≠ (u366001 : Value).ownBlock ∧ some k_ ≠ (.slice Ao46 t380.length co46 : Value).ownBlock)) (by (with_reducible repeat (first | apply Kd.S_alloc | apply Kd.S_drewN | apply Kd.S_drew)); exact Kd.S_mono HO_366002.out (fun _ hk => ⟨⟨hk.1.1, ⟨hk.1.2.1, ⟨hk.1.2.2.1, ⟨hk.1.2.2.2.2, hk.2⟩⟩⟩⟩, hk.1.2.2.2.1⟩)) hg hat)
           replace BK362 := Aside0.mk (blk_grown (bP BK362) hg (Kd.S_ne HO_366000.out BK362.out (by decide)))
           replace BK363 := Aside0.mk (blk_grown (bP BK363) hg (Kd.S_ne HO_366000.out BK363.out (by decide)))
           replace BK365 := Aside0.mk (blk_grown (bP BK365) hg (Kd.S_ne HO_366000.out BK365.out (by decide)))
           replace HB := Aside0.mk (hb)
           have HO385 := Aside0.mk (ho)
           clear HO_366000 HO382
           clear ho hb hg hat
           obtain ⟨Ao47, co47, eo47⟩ := Kd.S_slice HO385.out
           (first | subst eo47 | (injection eo47 with f1_ f2_ f3_; have f4_ := f1_.symm; have f5_ := f3_.symm; clear f1_ f2_ f3_; subst f4_; subst f5_))
           refine hK.out _ _ (bT3 BK365) (fun hHeld => ?_)
           clear hK K
           refine nO (some 57) ?_
           refine pI 6 (some 58) HT_.out ?_
           refine last_ (i := 7) (N := none) #[true, true, true, true, true, true, true, true] rfl rfl (one_of HT_.out (by kernel_rfl)) (by decide) (fun K hK => ?_)
           have hs48 : w45.cell? ⟨gb365, 0, none⟩ = some (u366000) := bc BK365 0
           have hfs48 := blk_frozen BK365.out 0
           have hns48_0 := NB362_365.out
           have hns48_1 := NB363_365.out
           have hms48_0 := NB365_362.out
           have hms48_1 := NB365_363.out
           refine skip_ (w1 := ?_) (by rfl) rfl ?_ ?_
           rotate_left
           ·go_simp
            rfl
           refine hK.out _ _ ?_
           clear hK K
           refine done_ (done_of HT_.out (by kernel_rfl)) ?_
           try go_wp2
           obtain ⟨w49, hW_⟩ : ∃ W_ : World, W_ = (w45.setCell ⟨gb365, 0, none⟩ (.slice Ao47 y383.length co47)) := ⟨_, rfl⟩
           have n0_ : Aside0 (Kd.R (Kd.int .i64) 3 (w45.setCell ⟨gb365, 0, none⟩ (.slice Ao47 y383.length co47)) w.heap.size (fun k_ => some k_ ≠ (u7 : Value).ownBlock ∧ some k_ ≠ (u8 : Value).ownBlock) (.slice Ao43 x6_2.length co43) x6_2) := ⟨by (with_reducible repeat (first | apply Kd.R_alloc | apply Kd.R_drewN | apply Kd.R_drew)); exact Kd.R_mono (Kd.R_far (p := ⟨gb365, 0, none⟩) (Kd.R_types HO_6.out BK365.out (by decide)) (fun _ hk => hk.2) (.slice Ao47 y383.length co47)) (fun _ hk => ⟨hk.1.1.1, hk.1.1.2⟩)⟩
           rw [← hW_] at n0_
           have n1_ : Aside0 (Kd.R (Kd.int .i64) 3 (w45.setCell ⟨gb365, 0, none⟩ (.slice Ao47 y383.length co47)) w.heap.size (fun k_ => some k_ ≠ (.slice Ao43 x6_2.length co43 : Value).ownBlock ∧ some k_ ≠ (u8 : Value).ownBlock) u7 x7_2) := ⟨by (with_reducible repeat (first | apply Kd.R_alloc | apply Kd.R_drewN | apply Kd.R_drew)); exact Kd.R_mono (Kd.R_far (p := ⟨gb365, 0, none⟩) (Kd.R_types HO_7.out BK365.out (by decide)) (fun _ hk => hk.2) (.slice Ao47 y383.length co47)) (fun _ hk => ⟨hk.1.1.1, hk.1.1.2⟩)⟩
           rw [← hW_] at n1_
           have n2_ : Aside0 (Kd.R (Kd.int .i64) 3 (w45.setCell ⟨gb365, 0, none⟩ (.slice Ao47 y383.length co47)) w.heap.size (fun k_ => some k_ ≠ (.slice Ao43 x6_2.length co43 : Value).ownBlock ∧ some k_ ≠ (u7 : Value).ownBlock) u8 x8_2) := ⟨by (with_reducible repeat (first | apply Kd.R_alloc | apply Kd.R_drewN | apply Kd.R_drew)); exact Kd.R_mono (Kd.R_far (p := ⟨gb365, 0, none⟩) (Kd.R_types HO_8.out BK365.out (by decide)) (fun _ hk => hk.2) (.slice Ao47 y383.length co47)) (fun _ hk => ⟨hk.1.1.1, hk.1.1.2⟩)⟩
           rw [← hW_] at n2_
           have n3_ : Aside0 (Kd.S (own (upF F_ w42.heap.size 0) 1 (Kd.slice 3 (Kd.int .i64))) 22 (w45.setCell ⟨gb365, 0, none⟩ (.slice Ao47 y383.length co47)) w.heap.size (fun k_ => some k_ ≠ (.slice Ao43 x6_2.length co43 : Value).ownBlock ∧ some k_ ≠ (u7 : Value).ownBlock ∧ some k_ ≠ (u8 : Value).ownBlock ∧ some k_ ≠ (u366002 : Value).ownBlock ∧ some k_ ≠ (.slice Ao47 y383.length co47 : Value).ownBlock) u366001 x366001_1) := ⟨by (with_reducible repeat (first | apply Kd.S_alloc | apply Kd.S_drewN | apply Kd.S_drew)); exact Kd.S_mono (Kd.S_far (p := ⟨gb365, 0, none⟩) (Kd.S_types HO_366001.out BK365.out (ownE (by decide))) (fun _ hk => hk.2) (.slice Ao47 y383.length co47)) (fun _ hk => ⟨hk.1.1.1, ⟨hk.1.1.2.1, ⟨hk.1.1.2.2.1, ⟨hk.1.1.2.2.2.1, hk.1.2⟩⟩⟩⟩)⟩
           rw [← hW_] at n3_
           have n4_ : Aside0 (Kd.S (own (upF F_ w42.heap.size 0) 2 (Kd.slice 3 (Kd.int .i64))) 22 (w45.setCell ⟨gb365, 0, none⟩ (.slice Ao47 y383.length co47)) w.heap.size (fun k_ => some k_ ≠ (.slice Ao43 x6_2.length co43 : Value).ownBlock ∧ some k_ ≠ (u7 : Value).ownBlock ∧ some k_ ≠ (u8 : Value).ownBlock ∧ some k_ ≠ (u366001 : Value).ownBlock ∧ some k_ ≠ (.slice Ao47 y383.length co47 : Value).ownBlock) u366002 x366002_1) := ⟨by (with_reducible repeat (first | apply Kd.S_alloc | apply Kd.S_drewN | apply Kd.S_drew)); exact Kd.S_mono (Kd.S_far (p := ⟨gb365, 0, none⟩) (Kd.S_types HO_366002.out BK365.out (ownE (by decide))) (fun _ hk => hk.2) (.slice Ao47 y383.length co47)) (fun _ hk => ⟨hk.1.1.1, ⟨hk.1.1.2.1, ⟨hk.1.1.2.2.1, ⟨hk.1.1.2.2.2.1, hk.1.2⟩⟩⟩⟩)⟩
           rw [← hW_] at n4_
           have n5_ : Aside0 (Kd.S (own (upF F_ w42.heap.size 0) 0 (Kd.slice 3 (Kd.int .i64))) 22 (w45.setCell ⟨gb365, 0, none⟩ (.slice Ao47 y383.length co47)) w.heap.size (fun k_ => some k_ ≠ (.slice Ao43 x6_2.length co43 : Value).ownBlock ∧ some k_ ≠ (u7 : Value).ownBlock ∧ some k_ ≠ (u8 : Value).ownBlock ∧ some k_ ≠ (u366001 : Value).ownBlock ∧ some k_ ≠ (u366002 : Value).ownBlock) (.slice Ao47 y383.length co47) y383) := ⟨by (with_reducible repeat (first | apply Kd.S_alloc | apply Kd.S_drewN | apply Kd.S_drew)); exact Kd.S_mono (Kd.S_far (p := ⟨gb365, 0, none⟩) (Kd.S_types HO385.out BK365.out (ownE (by decide))) (fun _ hk => hk.2) (.slice Ao47 y383.length co47)) (fun _ hk => ⟨hk.1.1, ⟨hk.1.2.1, ⟨hk.1.2.2.1, ⟨hk.1.2.2.2.1, hk.1.2.2.2.2⟩⟩⟩⟩)⟩
           rw [← hW_] at n5_
           replace BK362 := bW hW_ BK362
           replace BK363 := bW hW_ BK363
           replace BK365 := bX hW_ 61 #[.slice Ao47 y383.length co47, u366001, u366002] BK365
           (try clear HO_6)
           (try clear HO_7)
           (try clear HO_8)
           (try clear HO_366001)
           (try clear HO_366002)
           (try clear HO385)
           have HO_6 := n0_
           clear n0_
           have HO_7 := n1_
           clear n1_
           have HO_8 := n2_
           clear n2_
           have HO_366001 := n3_
           clear n3_
           have HO_366002 := n4_
           clear n4_
           have HO385 := n5_
           clear n5_
           replace HB := zW hW_ HB
           rw [← hW_]
           clear hW_
           replace HO_6 := Aside0.mk (Kd.R_drew HO_6.out)
           replace HO_7 := Aside0.mk (Kd.R_drew HO_7.out)
           replace HO_8 := Aside0.mk (Kd.R_drew HO_8.out)
           replace HO_366001 := Aside0.mk (Kd.S_drew HO_366001.out)
           replace HO_366002 := Aside0.mk (Kd.S_drew HO_366002.out)
           replace HO385 := Aside0.mk (Kd.S_drew HO385.out)
           replace BK362 := Aside0.mk (blk_drew BK362.out)
           replace BK363 := Aside0.mk (blk_drew BK363.out)
           replace BK365 := Aside0.mk (blk_drew BK365.out)
           replace HB := Aside0.mk (below_drew1 HB.out)
           obtain ⟨Ao51, co51, eo51⟩ := Kd.R_slice HO_7.out
           (first | subst eo51 | (injection eo51 with f1_ f2_ f3_; have f4_ := f1_.symm; have f5_ := f3_.symm; clear f1_ f2_ f3_; subst f4_; subst f5_))
           refine start_ (n := 8) (S := fun w' => SQ3 w' gb365 (.slice Ao47 y383.length co47) (u366001) (u366002)) (ds := [7]) #[false, false, false, false, false, false, false, false] (by kernel_rfl) rfl rfl (bT3 BK365) (fun hHeld => ?_); refine with_tabW impl_QapOf.tab16 impl_QapOf.bits16 (fun HT_ HW_ => ?_)
           generalize w49.drew = w50 at HO_6 HO_7 HO_8 HO_366001 HO_366002 HO385 BK362 BK363 BK365 HB hHeld ⊢
           refine pI 0 (some 59) HT_.out ?_
           refine pI 2 (some 61) HT_.out ?_
           refine tI3 1 (some 60) HT_.out HW_.out hHeld ?_
           refine oI 3 (some 62) HT_.out (fun K hK => ?_)
           refine gO Try.func46 #[.slice Ao51 x7_2.length co51] ?_
           with_reducible refine (impl_PolyThrough.calls k2 _ _ x7_2 t386 _ ?side1 ?side2 A38.out).mono ?_
           (case side1 => exact cP ((Kd.R_reads' HO_7.out).2.2))
           (case side2 => exact (Kd.R_reads' HO_7.out).2.1)
           rintro e w52 ⟨v387, rfl, ho0, hb⟩
           refine ⟨_, rfl, ?_⟩
           have HF1 := Aside0.mk (fun (k_ : Nat) (e_ : v387.ownBlock = some k_) => (upF_new (Kd.R_base ho0 k_ e_) : (upF (upF F_ w42.heap.size 0) w50.heap.size 1) k_ = 1))
           replace HO_366001 := Aside0.mk (Kd.S_elder' (ownUp 1 (by (with_reducible repeat (first | apply Kd.S_alloc | apply Kd.S_drewN | apply Kd.S_drew)); exact HO_366001.out)) (Kd.R_base ho0) hb)
           replace HO_366002 := Aside0.mk (Kd.S_elder' (ownUp 1 (by (with_reducible repeat (first | apply Kd.S_alloc | apply Kd.S_drewN | apply Kd.S_drew)); exact HO_366002.out)) (Kd.R_base ho0) hb)
           replace HO385 := Aside0.mk (Kd.S_elder' (ownUp 1 (by (with_reducible repeat (first | apply Kd.S_alloc | apply Kd.S_drewN | apply Kd.S_drew)); exact HO385.out)) (Kd.R_base ho0) hb)
           have HO388 := Aside0.mk (Kd.R_lower (Kd.R_new' (Kd.R_new' (Kd.R_new' ho0 (Kd.R_lt (rP HO_6))) (Kd.R_lt (rP HO_7))) (Kd.R_lt (rP HO_8))) (below_size (bZ HB)))
           replace HO_6 := Aside0.mk (Kd.R_elder' (rP HO_6) (Kd.R_base ho0) hb)
           replace HO_7 := Aside0.mk (Kd.R_elder' (rP HO_7) (Kd.R_base ho0) hb)
           replace HO_8 := Aside0.mk (Kd.R_elder' (rP HO_8) (Kd.R_base ho0) hb)
           replace BK362 := bB BK362 hb
           replace BK363 := bB BK363 hb
           replace BK365 := bB BK365 hb
           replace HB := bS HB hb
           (try clear hb)
           (try clear ho0)
           obtain ⟨Ao54, co54, eo54⟩ := Kd.R_slice HO388.out
           (first | subst eo54 | (injection eo54 with f1_ f2_ f3_; have f4_ := f1_.symm; have f5_ := f3_.symm; clear f1_ f2_ f3_; subst f4_; subst f5_))
           refine hK.out _ _ (bT3 BK365) (fun hHeld => ?_)
           clear hK K
           refine nO (some 62) ?_
           refine oI 4 (some 63) HT_.out (fun K hK => ?_)
           refine value_ (w1 := ?_) (v := ?_) (by rfl) rfl ?_ ?_
           rotate_left 2
           ·go_simp
            constructor
            ·rfl
            ·rfl
           refine hK.out _ _ ⟨(blk_cell (blk_alloc BK365.out _) 0).trans rfl, (blk_cell (blk_alloc BK365.out _) 1).trans rfl, (blk_cell (blk_alloc BK365.out _) 2).trans rfl⟩ (fun hHeld => ?_)
           clear hK K
           refine nO (some 63) ?_
           refine oI 5 (some 64) HT_.out (fun K hK => ?_)
           refine Kd.S_append_step (own (upF (upF F_ w42.heap.size 0) w50.heap.size 1) 1 (Kd.slice 3 (Kd.int .i64))) (w0 := w) w.heap.size (by rfl) (.tmp 60) (.tmp 63) 48 22 (.slice none 0 0) 24 rfl Try.underlying48 info22 rfl Nat.zero_lt_one (by omega) u366001 x366001_1 t386 [.slice Ao54 t386.length co54] (fun k_ => some k_ ≠ (.slice Ao43 x6_2.length co43 : Value).ownBlock ∧ some k_ ≠ (.slice Ao51 x7_2.length co51 : Value).ownBlock ∧ some k_ ≠ (u8 : Value).ownBlock ∧ some k_ ≠ (u366002 : Value).ownBlock ∧ some k_ ≠ (.slice Ao47 y383.length co47 : Value).ownBlock) (fun k_ => some k_ = (.slice Ao54 t386.length co54 : Value).ownBlock) rfl rfl ?aP (fun k_ hk_ => ((Kd.R_mono (ok' := fun k_ => ((fun k_ => some k_ ≠ (.slice Ao43 x6_2.length co43 : Value).ownBlock ∧ some k_ ≠ (.slice Ao51 x7_2.length co51 : Value).ownBlock ∧ some k_ ≠ (u8 : Value).ownBlock ∧ some k_ ≠ (u366002 : Value).ownBlock ∧ some k_ ≠ (.slice Ao47 y383.length co47 : Value).ownBlock)) k_ ∧ some k_ ≠ (u366001 : Value).ownBlock) (Kd.R_apart' (Kd.R_apart' (Kd.R_apart' (HO388.out) (Kd.S_typed HO_366002.out) (by decide)) (Kd.S_typed HO385.out) (by decide)) (Kd.S_typed HO_366001.out) (by decide)) (fun k_ hk => ⟨⟨hk.1.1.1.1.1.2, ⟨hk.1.1.1.1.2, ⟨hk.1.1.1.2, ⟨hk.1.1.2, hk.1.2⟩⟩⟩⟩, hk.2⟩))).1 k_ hk_.symm) ?aF ?aO ?aB ?aS ?aL ?_
           (case aP => exact ownM (Kd.M_row (Kd.R_mono (Kd.R_tight rfl (Kd.R_mono (ok' := fun k_ => ((fun k_ => some k_ ≠ (.slice Ao43 x6_2.length co43 : Value).ownBlock ∧ some k_ ≠ (.slice Ao51 x7_2.length co51 : Value).ownBlock ∧ some k_ ≠ (u8 : Value).ownBlock ∧ some k_ ≠ (u366002 : Value).ownBlock ∧ some k_ ≠ (.slice Ao47 y383.length co47 : Value).ownBlock)) k_ ∧ some k_ ≠ (u366001 : Value).ownBlock) (Kd.R_apart' (Kd.R_apart' (Kd.R_apart' (HO388.out) (Kd.S_typed HO_366002.out) (by decide)) (Kd.S_typed HO385.out) (by decide)) (Kd.S_typed HO_366001.out) (by decide)) (fun k_ hk => ⟨⟨hk.1.1.1.1.1.2, ⟨hk.1.1.1.1.2, ⟨hk.1.1.1.2, ⟨hk.1.1.2, hk.1.2⟩⟩⟩⟩, hk.2⟩))) (fun k_ h_ => ⟨h_, HF1.out k_ h_.symm⟩))))
           (case aB => exact (bZ HB))
           (case aF => exact (fun k_ hk => ⟨Kd.fresh' (Kd.R_lt (rP HO_6)) k_ hk, Kd.fresh' (Kd.R_lt (rP HO_7)) k_ hk, Kd.fresh' (Kd.R_lt (rP HO_8)) k_ hk, Kd.fresh' (Kd.S_lt (by (with_reducible repeat (first | apply Kd.S_alloc | apply Kd.S_drewN | apply Kd.S_drew)); exact HO_366002.out)) k_ hk, Kd.fresh' (Kd.S_lt (by (with_reducible repeat (first | apply Kd.S_alloc | apply Kd.S_drewN | apply Kd.S_drew)); exact HO385.out)) k_ hk⟩))
           (case aO => exact (by (with_reducible repeat (first | apply Kd.S_alloc | apply Kd.S_drewN | apply Kd.S_drew)); exact Kd.S_mono HO_366001.out (fun k_ hk => ⟨⟨hk.1.1, ⟨hk.1.2.1, ⟨hk.1.2.2.1, ⟨hk.1.2.2.2.1, hk.1.2.2.2.2⟩⟩⟩⟩, fun e_ => hk.2 e_⟩)))
           (case aS => exact (below_size (bZ HB)))
           (case aL => have := LMc39.out; omega)
           intro v390 w53 ho hb hg hat
           rw [← Ny389.out] at ho
           replace HO_6 := Aside0.mk (Kd.R_over' (rP HO_6) (Kd.S_typed (by (with_reducible repeat (first | apply Kd.S_alloc | apply Kd.S_drewN | apply Kd.S_drew)); exact HO_366001.out)) (by decide) hg)
           replace HO_7 := Aside0.mk (Kd.R_over' (rP HO_7) (Kd.S_typed (by (with_reducible repeat (first | apply Kd.S_alloc | apply Kd.S_drewN | apply Kd.S_drew)); exact HO_366001.out)) (by decide) hg)
           replace HO_8 := Aside0.mk (Kd.R_over' (rP HO_8) (Kd.S_typed (by (with_reducible repeat (first | apply Kd.S_alloc | apply Kd.S_drewN | apply Kd.S_drew)); exact HO_366001.out)) (by decide) hg)
           replace HO_366002 := Aside0.mk (Kd.S_after (ok := (fun k_ => some k_ ≠ (.slice Ao43 x6_2.length co43 : Value).ownBlock ∧ some k_ ≠ (.slice Ao51 x7_2.length co51 : Value).ownBlock ∧ some k_ ≠ (u8 : Value).ownBlock ∧ some k_ ≠ (.slice Ao47 y383.length co47 : Value).ownBlock ∧ some k_ ≠ (.slice Ao54 t386.length co54 : Value).ownBlock)) (by (with_reducible repeat (first | apply Kd.S_alloc | apply Kd.S_drewN | apply Kd.S_drew)); exact Kd.S_mono HO_366002.out (fun _ hk => ⟨⟨hk.1.1, ⟨hk.1.2.1, ⟨hk.1.2.2.1, ⟨hk.1.2.2.2.2, hk.2⟩⟩⟩⟩, hk.1.2.2.2.1⟩)) hg hat)
           replace BK362 := Aside0.mk (blk_grown (bP BK362) hg (Kd.S_ne HO_366001.out BK362.out (by decide)))
           replace BK363 := Aside0.mk (blk_grown (bP BK363) hg (Kd.S_ne HO_366001.out BK363.out (by decide)))
           replace BK365 := Aside0.mk (blk_grown (bP BK365) hg (Kd.S_ne HO_366001.out BK365.out (by decide)))
           replace HO385 := Aside0.mk (Kd.S_after (ok := (fun k_ => some k_ ≠ (.slice Ao43 x6_2.length co43 : Value).ownBlock ∧ some k_ ≠ (.slice Ao51 x7_2.length co51 : Value).ownBlock ∧ some k_ ≠ (u8 : Value).ownBlock ∧ some k_ ≠ (u366002 : Value).ownBlock ∧ some k_ ≠ (.slice Ao54 t386.length co54 : Value).ownBlock)) (by (with_reducible repeat (first | apply Kd.S_alloc | apply Kd.S_drewN | apply Kd.S_drew)); exact Kd.S_mono HO385.out (fun _ hk => ⟨⟨hk.1.1, ⟨hk.1.2.1, ⟨hk.1.2.2.1, ⟨hk.1.2.2.2.2, hk.2⟩⟩⟩⟩, hk.1.2.2.2.1⟩)) hg hat)
           replace HB := Aside0.mk (hb)
           have HO391 := Aside0.mk (ho)
           clear HO_366001 HO388
           clear ho hb hg hat
           obtain ⟨Ao55, co55, eo55⟩ := Kd.S_slice HO391.out
           (first | subst eo55 | (injection eo55 with f1_ f2_ f3_; have f4_ := f1_.symm; have f5_ := f3_.symm; clear f1_ f2_ f3_; subst f4_; subst f5_))
           refine hK.out _ _ (bT3 BK365) (fun hHeld => ?_)
           clear hK K
           refine nO (some 64) ?_
           refine pI 6 (some 65) HT_.out ?_
           refine last_ (i := 7) (N := none) #[true, true, true, true, true, true, true, true] rfl rfl (one_of HT_.out (by kernel_rfl)) (by decide) (fun K hK => ?_)
           have hs56 : w53.cell? ⟨gb365, 1, none⟩ = some (u366001) := bc BK365 1
           have hfs56 := blk_frozen BK365.out 1
           have hns56_0 := NB362_365.out
           have hns56_1 := NB363_365.out
           have hms56_0 := NB365_362.out
           have hms56_1 := NB365_363.out
           refine skip_ (w1 := ?_) (by rfl) rfl ?_ ?_
           rotate_left
           ·go_simp
            rfl
           refine hK.out _ _ ?_
           clear hK K
           refine done_ (done_of HT_.out (by kernel_rfl)) ?_
           try go_wp2
           obtain ⟨w57, hW_⟩ : ∃ W_ : World, W_ = (w53.setCell ⟨gb365, 1, none⟩ (.slice Ao55 y389.length co55)) := ⟨_, rfl⟩
           have n0_ : Aside0 (Kd.R (Kd.int .i64) 3 (w53.setCell ⟨gb365, 1, none⟩ (.slice Ao55 y389.length co55)) w.heap.size (fun k_ => some k_ ≠ (.slice Ao51 x7_2.length co51 : Value).ownBlock ∧ some k_ ≠ (u8 : Value).ownBlock) (.slice Ao43 x6_2.length co43) x6_2) := ⟨by (with_reducible repeat (first | apply Kd.R_alloc | apply Kd.R_drewN | apply Kd.R_drew)); exact Kd.R_mono (Kd.R_far (p := ⟨gb365, 1, none⟩) (Kd.R_types HO_6.out BK365.out (by decide)) (fun _ hk => hk.2) (.slice Ao55 y389.length co55)) (fun _ hk => ⟨hk.1.1.1, hk.1.1.2⟩)⟩
           rw [← hW_] at n0_
           have n1_ : Aside0 (Kd.R (Kd.int .i64) 3 (w53.setCell ⟨gb365, 1, none⟩ (.slice Ao55 y389.length co55)) w.heap.size (fun k_ => some k_ ≠ (.slice Ao43 x6_2.length co43 : Value).ownBlock ∧ some k_ ≠ (u8 : Value).ownBlock) (.slice Ao51 x7_2.length co51) x7_2) := ⟨by (with_reducible repeat (first | apply Kd.R_alloc | apply Kd.R_drewN | apply Kd.R_drew)); exact Kd.R_mono (Kd.R_far (p := ⟨gb365, 1, none⟩) (Kd.R_types HO_7.out BK365.out (by decide)) (fun _ hk => hk.2) (.slice Ao55 y389.length co55)) (fun _ hk => ⟨hk.1.1.1, hk.1.1.2⟩)⟩
           rw [← hW_] at n1_
           have n2_ : Aside0 (Kd.R (Kd.int .i64) 3 (w53.setCell ⟨gb365, 1, none⟩ (.slice Ao55 y389.length co55)) w.heap.size (fun k_ => some k_ ≠ (.slice Ao43 x6_2.length co43 : Value).ownBlock ∧ some k_ ≠ (.slice Ao51 x7_2.length co51 : Value).ownBlock) u8 x8_2) := ⟨by (with_reducible repeat (first | apply Kd.R_alloc | apply Kd.R_drewN | apply Kd.R_drew)); exact Kd.R_mono (Kd.R_far (p := ⟨gb365, 1, none⟩) (Kd.R_types HO_8.out BK365.out (by decide)) (fun _ hk => hk.2) (.slice Ao55 y389.length co55)) (fun _ hk => ⟨hk.1.1.1, hk.1.1.2⟩)⟩
           rw [← hW_] at n2_
           have n3_ : Aside0 (Kd.S (own (upF (upF F_ w42.heap.size 0) w50.heap.size 1) 2 (Kd.slice 3 (Kd.int .i64))) 22 (w53.setCell ⟨gb365, 1, none⟩ (.slice Ao55 y389.length co55)) w.heap.size (fun k_ => some k_ ≠ (.slice Ao43 x6_2.length co43 : Value).ownBlock ∧ some k_ ≠ (.slice Ao51 x7_2.length co51 : Value).ownBlock ∧ some k_ ≠ (u8 : Value).ownBlock ∧ some k_ ≠ (.slice Ao47 y383.length co47 : Value).ownBlock ∧ some k_ ≠ (.slice Ao55 y389.length co55 : Value).ownBlock) u366002 x366002_1) := ⟨by (with_reducible repeat (first | apply Kd.S_alloc | apply Kd.S_drewN | apply Kd.S_drew)); exact Kd.S_mono (Kd.S_far (p := ⟨gb365, 1, none⟩) (Kd.S_types HO_366002.out BK365.out (ownE (by decide))) (fun _ hk => hk.2) (.slice Ao55 y389.length co55)) (fun _ hk => ⟨hk.1.1.1, ⟨hk.1.1.2.1, ⟨hk.1.1.2.2.1, ⟨hk.1.1.2.2.2.1, hk.1.2⟩⟩⟩⟩)⟩
           rw [← hW_] at n3_
           have n4_ : Aside0 (Kd.S (own (upF (upF F_ w42.heap.size 0) w50.heap.size 1) 0 (Kd.slice 3 (Kd.int .i64))) 22 (w53.setCell ⟨gb365, 1, none⟩ (.slice Ao55 y389.length co55)) w.heap.size (fun k_ => some k_ ≠ (.slice Ao43 x6_2.length co43 : Value).ownBlock ∧ some k_ ≠ (.slice Ao51 x7_2.length co51 : Value).ownBlock ∧ some k_ ≠ (u8 : Value).ownBlock ∧ some k_ ≠ (u366002 : Value).ownBlock ∧ some k_ ≠ (.slice Ao55 y389.length co55 : Value).ownBlock) (.slice Ao47 y383.length co47) y383) := ⟨by (with_reducible repeat (first | apply Kd.S_alloc | apply Kd.S_drewN | apply Kd.S_drew)); exact Kd.S_mono (Kd.S_far (p := ⟨gb365, 1, none⟩) (Kd.S_types HO385.out BK365.out (ownE (by decide))) (fun _ hk => hk.2) (.slice Ao55 y389.length co55)) (fun _ hk => ⟨hk.1.1.1, ⟨hk.1.1.2.1, ⟨hk.1.1.2.2.1, ⟨hk.1.1.2.2.2.1, hk.1.2⟩⟩⟩⟩)⟩
           rw [← hW_] at n4_
           have n5_ : Aside0 (Kd.S (own (upF (upF F_ w42.heap.size 0) w50.heap.size 1) 1 (Kd.slice 3 (Kd.int .i64))) 22 (w53.setCell ⟨gb365, 1, none⟩ (.slice Ao55 y389.length co55)) w.heap.size (fun k_ => some k_ ≠ (.slice Ao43 x6_2.length co43 : Value).ownBlock ∧ some k_ ≠ (.slice Ao51 x7_2.length co51 : Value).ownBlock ∧ some k_ ≠ (u8 : Value).ownBlock ∧ some k_ ≠ (u366002 : Value).ownBlock ∧ some k_ ≠ (.slice Ao47 y383.length co47 : Value).ownBlock) (.slice Ao55 y389.length co55) y389) := ⟨by (with_reducible repeat (first | apply Kd.S_alloc | apply Kd.S_drewN | apply Kd.S_drew)); exact Kd.S_mono (Kd.S_far (p := ⟨gb365, 1, none⟩) (Kd.S_types HO391.out BK365.out (ownE (by decide))) (fun _ hk => hk.2) (.slice Ao55 y389.length co55)) (fun _ hk => ⟨hk.1.1, ⟨hk.1.2.1, ⟨hk.1.2.2.1, ⟨hk.1.2.2.2.1, hk.1.2.2.2.2⟩⟩⟩⟩)⟩
           rw [← hW_] at n5_
           replace BK362 := bW hW_ BK362
           replace BK363 := bW hW_ BK363
           replace BK365 := bX hW_ 61 #[.slice Ao47 y383.length co47, .slice Ao55 y389.length co55, u366002] BK365
           (try clear HO_6)
           (try clear HO_7)
           (try clear HO_8)
           (try clear HO_366002)
           (try clear HO385)
           (try clear HO391)
           have HO_6 := n0_
           clear n0_
           have HO_7 := n1_
           clear n1_
           have HO_8 := n2_
           clear n2_
           have HO_366002 := n3_
           clear n3_
           have HO385 := n4_
           clear n4_
           have HO391 := n5_
           clear n5_
           replace HB := zW hW_ HB
           rw [← hW_]
           clear hW_
           replace HO_6 := Aside0.mk (Kd.R_drew HO_6.out)
           replace HO_7 := Aside0.mk (Kd.R_drew HO_7.out)
           replace HO_8 := Aside0.mk (Kd.R_drew HO_8.out)
           replace HO_366002 := Aside0.mk (Kd.S_drew HO_366002.out)
           replace HO385 := Aside0.mk (Kd.S_drew HO385.out)
           replace HO391 := Aside0.mk (Kd.S_drew HO391.out)
           replace BK362 := Aside0.mk (blk_drew BK362.out)
           replace BK363 := Aside0.mk (blk_drew BK363.out)
           replace BK365 := Aside0.mk (blk_drew BK365.out)
           replace HB := Aside0.mk (below_drew1 HB.out)
           obtain ⟨Ao59, co59, eo59⟩ := Kd.R_slice HO_8.out
           (first | subst eo59 | (injection eo59 with f1_ f2_ f3_; have f4_ := f1_.symm; have f5_ := f3_.symm; clear f1_ f2_ f3_; subst f4_; subst f5_))
           refine start_ (n := 8) (S := fun w' => SQ3 w' gb365 (.slice Ao47 y383.length co47) (.slice Ao55 y389.length co55) (u366002)) (ds := [7]) #[false, false, false, false, false, false, false, false] (by kernel_rfl) rfl rfl (bT3 BK365) (fun hHeld => ?_); refine with_tabW impl_QapOf.tab17 impl_QapOf.bits17 (fun HT_ HW_ => ?_)
           generalize w57.drew = w58 at HO_6 HO_7 HO_8 HO_366002 HO385 HO391 BK362 BK363 BK365 HB hHeld ⊢
           refine pI 0 (some 66) HT_.out ?_
           refine pI 2 (some 68) HT_.out ?_
           refine tI3 1 (some 67) HT_.out HW_.out hHeld ?_
           refine oI 3 (some 69) HT_.out (fun K hK => ?_)
           refine gO Try.func46 #[.slice Ao59 x8_2.length co59] ?_
           with_reducible refine (impl_PolyThrough.calls k2 _ _ x8_2 t392 _ ?side1 ?side2 A40.out).mono ?_
           (case side1 => exact cP ((Kd.R_reads' HO_8.out).2.2))
           (case side2 => exact (Kd.R_reads' HO_8.out).2.1)
           rintro e w60 ⟨v393, rfl, ho0, hb⟩
           refine ⟨_, rfl, ?_⟩
           have HF2 := Aside0.mk (fun (k_ : Nat) (e_ : v393.ownBlock = some k_) => (upF_new (Kd.R_base ho0 k_ e_) : (upF (upF (upF F_ w42.heap.size 0) w50.heap.size 1) w58.heap.size 2) k_ = 2))
           replace HO_366002 := Aside0.mk (Kd.S_elder' (ownUp 2 (by (with_reducible repeat (first | apply Kd.S_alloc | apply Kd.S_drewN | apply Kd.S_drew)); exact HO_366002.out)) (Kd.R_base ho0) hb)
           replace HO385 := Aside0.mk (Kd.S_elder' (ownUp 2 (by (with_reducible repeat (first | apply Kd.S_alloc | apply Kd.S_drewN | apply Kd.S_drew)); exact HO385.out)) (Kd.R_base ho0) hb)
           replace HO391 := Aside0.mk (Kd.S_elder' (ownUp 2 (by (with_reducible repeat (first | apply Kd.S_alloc | apply Kd.S_drewN | apply Kd.S_drew)); exact HO391.out)) (Kd.R_base ho0) hb)
           have HO394 := Aside0.mk (Kd.R_lower (Kd.R_new' (Kd.R_new' (Kd.R_new' ho0 (Kd.R_lt (rP HO_6))) (Kd.R_lt (rP HO_7))) (Kd.R_lt (rP HO_8))) (below_size (bZ HB)))
           replace HO_6 := Aside0.mk (Kd.R_elder' (rP HO_6) (Kd.R_base ho0) hb)
           replace HO_7 := Aside0.mk (Kd.R_elder' (rP HO_7) (Kd.R_base ho0) hb)
           replace HO_8 := Aside0.mk (Kd.R_elder' (rP HO_8) (Kd.R_base ho0) hb)
           replace BK362 := bB BK362 hb
           replace BK363 := bB BK363 hb
           replace BK365 := bB BK365 hb
           replace HB := bS HB hb
           (try clear hb)
           (try clear ho0)
           obtain ⟨Ao62, co62, eo62⟩ := Kd.R_slice HO394.out
           (first | subst eo62 | (injection eo62 with f1_ f2_ f3_; have f4_ := f1_.symm; have f5_ := f3_.symm; clear f1_ f2_ f3_; subst f4_; subst f5_))
           refine hK.out _ _ (bT3 BK365) (fun hHeld => ?_)
           clear hK K
           refine nO (some 69) ?_
           refine oI 4 (some 70) HT_.out (fun K hK => ?_)
           refine value_ (w1 := ?_) (v := ?_) (by rfl) rfl ?_ ?_
           rotate_left 2
           ·go_simp
            constructor
            ·rfl
            ·rfl
           refine hK.out _ _ ⟨(blk_cell (blk_alloc BK365.out _) 0).trans rfl, (blk_cell (blk_alloc BK365.out _) 1).trans rfl, (blk_cell (blk_alloc BK365.out _) 2).trans rfl⟩ (fun hHeld => ?_)
           clear hK K
           refine nO (some 70) ?_
           refine oI 5 (some 71) HT_.out (fun K hK => ?_)
           refine Kd.S_append_step (own (upF (upF (upF F_ w42.heap.size 0) w50.heap.size 1) w58.heap.size 2) 2 (Kd.slice 3 (Kd.int .i64))) (w0 := w) w.heap.size (by rfl) (.tmp 67) (.tmp 70) 48 22 (.slice none 0 0) 24 rfl Try.underlying48 info22 rfl Nat.zero_lt_one (by omega) u366002 x366002_1 t392 [.slice Ao62 t392.length co62] (fun k_ => some k_ ≠ (.slice Ao43 x6_2.length co43 : Value).ownBlock ∧ some k_ ≠ (.slice Ao51 x7_2.length co51 : Value).ownBlock ∧ some k_ ≠ (.slice Ao59 x8_2.length co59 : Value).ownBlock ∧ some k_ ≠ (.slice Ao47 y383.length co47 : Value).ownBlock ∧ some k_ ≠ (.slice Ao55 y389.length co55 : Value).ownBlock) (fun k_ => some k_ = (.slice Ao62 t392.length co62 : Value).ownBlock) rfl rfl ?aP (fun k_ hk_ => ((Kd.R_mono (ok' := fun k_ => ((fun k_ => some k_ ≠ (.slice Ao43 x6_2.length co43 : Value).ownBlock ∧ some k_ ≠ (.slice Ao51 x7_2.length co51 : Value).ownBlock ∧ some k_ ≠ (.slice Ao59 x8_2.length co59 : Value).ownBlock ∧ some k_ ≠ (.slice Ao47 y383.length co47 : Value).ownBlock ∧ some k_ ≠ (.slice Ao55 y389.length co55 : Value).ownBlock)) k_ ∧ some k_ ≠ (u366002 : Value).ownBlock) (Kd.R_apart' (Kd.R_apart' (Kd.R_apart' (HO394.out) (Kd.S_typed HO385.out) (by decide)) (Kd.S_typed HO391.out) (by decide)) (Kd.S_typed HO_366002.out) (by decide)) (fun k_ hk => ⟨⟨hk.1.1.1.1.1.2, ⟨hk.1.1.1.1.2, ⟨hk.1.1.1.2, ⟨hk.1.1.2, hk.1.2⟩⟩⟩⟩, hk.2⟩))).1 k_ hk_.symm) ?aF ?aO ?aB ?aS ?aL ?_
           (case aP => exact ownM (Kd.M_row (Kd.R_mono (Kd.R_tight rfl (Kd.R_mono (ok' := fun k_ => ((fun k_ => some k_ ≠ (.slice Ao43 x6_2.length co43 : Value).ownBlock ∧ some k_ ≠ (.slice Ao51 x7_2.length co51 : Value).ownBlock ∧ some k_ ≠ (.slice Ao59 x8_2.length co59 : Value).ownBlock ∧ some k_ ≠ (.slice Ao47 y383.length co47 : Value).ownBlock ∧ some k_ ≠ (.slice Ao55 y389.length co55 : Value).ownBlock)) k_ ∧ some k_ ≠ (u366002 : Value).ownBlock) (Kd.R_apart' (Kd.R_apart' (Kd.R_apart' (HO394.out) (Kd.S_typed HO385.out) (by decide)) (Kd.S_typed HO391.out) (by decide)) (Kd.S_typed HO_366002.out) (by decide)) (fun k_ hk => ⟨⟨hk.1.1.1.1.1.2, ⟨hk.1.1.1.1.2, ⟨hk.1.1.1.2, ⟨hk.1.1.2, hk.1.2⟩⟩⟩⟩, hk.2⟩))) (fun k_ h_ => ⟨h_, HF2.out k_ h_.symm⟩))))
           (case aB => exact (bZ HB))
           (case aF => exact (fun k_ hk => ⟨Kd.fresh' (Kd.R_lt (rP HO_6)) k_ hk, Kd.fresh' (Kd.R_lt (rP HO_7)) k_ hk, Kd.fresh' (Kd.R_lt (rP HO_8)) k_ hk, Kd.fresh' (Kd.S_lt (by (with_reducible repeat (first | apply Kd.S_alloc | apply Kd.S_drewN | apply Kd.S_drew)); exact HO385.out)) k_ hk, Kd.fresh' (Kd.S_lt (by (with_reducible repeat (first | apply Kd.S_alloc | apply Kd.S_drewN | apply Kd.S_drew)); exact HO391.out)) k_ hk⟩))
           (case aO => exact (by (with_reducible repeat (first | apply Kd.S_alloc | apply Kd.S_drewN | apply Kd.S_drew)); exact Kd.S_mono HO_366002.out (fun k_ hk => ⟨⟨hk.1.1, ⟨hk.1.2.1, ⟨hk.1.2.2.1, ⟨hk.1.2.2.2.1, hk.1.2.2.2.2⟩⟩⟩⟩, fun e_ => hk.2 e_⟩)))
           (case aS => exact (below_size (bZ HB)))
           (case aL => have := LMc41.out; omega)
           intro v396 w61 ho hb hg hat
           rw [← Ny395.out] at ho
           replace HO_6 := Aside0.mk (Kd.R_over' (rP HO_6) (Kd.S_typed (by (with_reducible repeat (first | apply Kd.S_alloc | apply Kd.S_drewN | apply Kd.S_drew)); exact HO_366002.out)) (by decide) hg)
           replace HO_7 := Aside0.mk (Kd.R_over' (rP HO_7) (Kd.S_typed (by (with_reducible repeat (first | apply Kd.S_alloc | apply Kd.S_drewN | apply Kd.S_drew)); exact HO_366002.out)) (by decide) hg)
           replace HO_8 := Aside0.mk (Kd.R_over' (rP HO_8) (Kd.S_typed (by (with_reducible repeat (first | apply Kd.S_alloc | apply Kd.S_drewN | apply Kd.S_drew)); exact HO_366002.out)) (by decide) hg)
           replace BK362 := Aside0.mk (blk_grown (bP BK362) hg (Kd.S_ne HO_366002.out BK362.out (by decide)))
           replace BK363 := Aside0.mk (blk_grown (bP BK363) hg (Kd.S_ne HO_366002.out BK363.out (by decide)))
           replace BK365 := Aside0.mk (blk_grown (bP BK365) hg (Kd.S_ne HO_366002.out BK365.out (by decide)))
           replace HO385 := Aside0.mk (Kd.S_after (ok := (fun k_ => some k_ ≠ (.slice Ao43 x6_2.length co43 : Value).ownBlock ∧ some k_ ≠ (.slice Ao51 x7_2.length co51 : Value).ownBlock ∧ some k_ ≠ (.slice Ao59 x8_2.length co59 : Value).ownBlock ∧ some k_ ≠ (.slice Ao55 y389.length co55 : Value).ownBlock ∧ some k_ ≠ (.slice Ao62 t392.length co62 : Value).ownBlock)) (by (with_reducible repeat (first | apply Kd.S_alloc | apply Kd.S_drewN | apply Kd.S_drew)); exact Kd.S_mono HO385.out (fun _ hk => ⟨⟨hk.1.1, ⟨hk.1.2.1, ⟨hk.1.2.2.1, ⟨hk.1.2.2.2.2, hk.2⟩⟩⟩⟩, hk.1.2.2.2.1⟩)) hg hat)
           replace HO391 := Aside0.mk (Kd.S_after (ok := (fun k_ => some k_ ≠ (.slice Ao43 x6_2.length co43 : Value).ownBlock ∧ some k_ ≠ (.slice Ao51 x7_2.length co51 : Value).ownBlock ∧ some k_ ≠ (.slice Ao59 x8_2.length co59 : Value).ownBlock ∧ some k_ ≠ (.slice Ao47 y383.length co47 : Value).ownBlock ∧ some k_ ≠ (.slice Ao62 t392.length co62 : Value).ownBlock)) (by (with_reducible repeat (first | apply Kd.S_alloc | apply Kd.S_drewN | apply Kd.S_drew)); exact Kd.S_mono HO391.out (fun _ hk => ⟨⟨hk.1.1, ⟨hk.1.2.1, ⟨hk.1.2.2.1, ⟨hk.1.2.2.2.2, hk.2⟩⟩⟩⟩, hk.1.2.2.2.1⟩)) hg hat)
           replace HB := Aside0.mk (hb)
           have HO397 := Aside0.mk (ho)
           clear HO_366002 HO394
           clear ho hb hg hat
           obtain ⟨Ao63, co63, eo63⟩ := Kd.S_slice HO397.out
           (first | subst eo63 | (injection eo63 with f1_ f2_ f3_; have f4_ := f1_.symm; have f5_ := f3_.symm; clear f1_ f2_ f3_; subst f4_; subst f5_))
           refine hK.out _ _ (bT3 BK365) (fun hHeld => ?_)
           clear hK K
           refine nO (some 71) ?_
           refine pI 6 (some 72) HT_.out ?_
           refine last_ (i := 7) (N := none) #[true, true, true, true, true, true, true, true] rfl rfl (one_of HT_.out (by kernel_rfl)) (by decide) (fun K hK => ?_)
           have hs64 : w61.cell? ⟨gb365, 2, none⟩ = some (u366002) := bc BK365 2
           have hfs64 := blk_frozen BK365.out 2
           have hns64_0 := NB362_365.out
           have hns64_1 := NB363_365.out
           have hms64_0 := NB365_362.out
           have hms64_1 := NB365_363.out
           refine skip_ (w1 := ?_) (by rfl) rfl ?_ ?_
           rotate_left
           ·go_simp
            rfl
           refine hK.out _ _ ?_
           clear hK K
           refine done_ (done_of HT_.out (by kernel_rfl)) ?_
           try go_wp2
           go_roundg k2
           case measure => have := HK1.out; have := HK2.out; omega
           case rel => exact ⟨(upF (upF (upF F_ w42.heap.size 0) w50.heap.size 1) w58.heap.size 2), (wrap64 (x17_1 + 1)), (y383), (y389), (y395), (.slice Ao47 y383.length co47), (.slice Ao55 y389.length co55), (.slice Ao63 y395.length co63), rS, H', ⟨by have := HK1.out; have := HK2.out; omega⟩, ⟨by (with_reducible repeat (first | apply Kd.S_alloc | apply Kd.S_drewN | apply Kd.S_drew)); exact Kd.S_mono (Kd.S_far (p := ⟨gb365, 2, none⟩) (Kd.S_types HO385.out BK365.out (ownE (by decide))) (fun _ hk => hk.2) (.slice Ao63 y395.length co63)) (fun _ hk => ⟨hk.1.1.2.2.2.1, hk.1.2⟩)⟩, ⟨by (with_reducible repeat (first | apply Kd.S_alloc | apply Kd.S_drewN | apply Kd.S_drew)); exact Kd.S_mono (Kd.S_far (p := ⟨gb365, 2, none⟩) (Kd.S_types HO391.out BK365.out (ownE (by decide))) (fun _ hk => hk.2) (.slice Ao63 y395.length co63)) (fun _ hk => ⟨hk.1.1.2.2.2.1, hk.1.2⟩)⟩, ⟨by (with_reducible repeat (first | apply Kd.S_alloc | apply Kd.S_drewN | apply Kd.S_drew)); exact Kd.S_mono (Kd.S_far (p := ⟨gb365, 2, none⟩) (Kd.S_types HO397.out BK365.out (ownE (by decide))) (fun _ hk => hk.2) (.slice Ao63 y395.length co63)) (fun _ hk => ⟨hk.1.2.2.2.1, hk.1.2.2.2.2⟩)⟩, ⟨bP BK362⟩, ⟨bP BK363⟩, ⟨bU BK365⟩, ⟨bZ HB⟩⟩
          ·rw [if_neg c41] at H
           exact absurd H (by simp)
         ·rw [if_neg c39] at H
          exact absurd H (by simp)
        ·rw [if_neg c37] at H
         exact absurd H (by simp)
    ·rw [if_neg c12] at H
     have c12b0 := decide_eq_false c12
     clear c12
     simp only [Option.some.injEq, Prod.mk.injEq] at H
     obtain ⟨rfl, rfl, rfl, rfl⟩ := H
     obtain ⟨hnb65, hnc65⟩ := nB NB365_362
     obtain ⟨hnb66, hnc66⟩ := nB NB365_363
     obtain ⟨hcz67_0, hcz67_1, hcz67_2, hfz67_0, hfz67_1, hfz67_2⟩ := bK3 (w := wr) BK365
     obtain ⟨Ao68, co68, eo68⟩ := Kd.S_slice HO_366000.out
     subst eo68
     obtain ⟨hnb69, hnc69⟩ := nB NB363_362
     obtain ⟨hcz70_0, hcz70_1, hcz70_2, hfz70_0, hfz70_1, hfz70_2⟩ := bK3 (w := wr) BK363
     obtain ⟨Ao71, co71, eo71⟩ := Kd.S_slice HO_366001.out
     subst eo71
     obtain ⟨Ao72, co72, eo72⟩ := Kd.S_slice HO_366002.out
     subst eo72
     go_wp2
     refine bodyPost_ret (results_ct rfl _ _ gb363 61 #[.slice Ao68 x366000_1.length co68, .slice Ao71 x366001_1.length co71, .slice Ao72 x366002_1.length co72] (0, 0) _ rfl (bU BK363) Try.underlying61 rfl (by kernel_rfl)) rfl ?_
     exact ⟨F_, _, _, _, by first | rfl | (simp [errW_none, errW_some] <;> rfl) | (simp [*, errW_none, errW_some] <;> rfl), by (with_reducible repeat (first | apply Kd.S_alloc | apply Kd.S_drewN | apply Kd.S_drew)); exact Kd.S_mono (Kd.S_far (p := ⟨gb363, 2, none⟩) (Kd.S_far (p := ⟨gb363, 1, none⟩) (Kd.S_far (p := ⟨gb363, 0, none⟩) (Kd.S_types HO_366000.out BK363.out (ownE (by decide))) (fun _ hk => hk.2) (.slice Ao68 x366000_1.length co68)) (fun _ hk => hk.2) (.slice Ao71 x366001_1.length co71)) (fun _ hk => hk.2) (.slice Ao72 x366002_1.length co72)) (fun _ hk => ⟨hk.1.1, hk.1.2⟩), by (with_reducible repeat (first | apply Kd.S_alloc | apply Kd.S_drewN | apply Kd.S_drew)); exact Kd.S_mono (Kd.S_far (p := ⟨gb363, 2, none⟩) (Kd.S_far (p := ⟨gb363, 1, none⟩) (Kd.S_far (p := ⟨gb363, 0, none⟩) (Kd.S_types HO_366001.out BK363.out (ownE (by decide))) (fun _ hk => hk.2) (.slice Ao68 x366000_1.length co68)) (fun _ hk => hk.2) (.slice Ao71 x366001_1.length co71)) (fun _ hk => hk.2) (.slice Ao72 x366002_1.length co72)) (fun _ hk => ⟨hk.1.1, hk.1.2⟩), by (with_reducible repeat (first | apply Kd.S_alloc | apply Kd.S_drewN | apply Kd.S_drew)); exact Kd.S_mono (Kd.S_far (p := ⟨gb363, 2, none⟩) (Kd.S_far (p := ⟨gb363, 1, none⟩) (Kd.S_far (p := ⟨gb363, 0, none⟩) (Kd.S_types HO_366002.out BK363.out (ownE (by decide))) (fun _ hk => hk.2) (.slice Ao68 x366000_1.length co68)) (fun _ hk => hk.2) (.slice Ao71 x366001_1.length co71)) (fun _ hk => hk.2) (.slice Ao72 x366002_1.length co72)) (fun _ hk => ⟨hk.1.1, hk.1.2⟩), bZ HB⟩
 ·replace c3 := Bool.eq_false_iff.mpr c3
  subst c3
  rw [if_neg (show ¬ (false = true) by decide)] at H
  simp only [Option.some.injEq, Prod.mk.injEq] at H
  obtain ⟨rfl, rfl, rfl, rfl⟩ := H
  go_enter Try.func57, Try.ntmps57
  go_wp2_with (first | (refine gB 1 #[.int .i64 a0_0, .int .i64 a0_1, .slice A0_2 l0_2.length c0_2] 32 ?_; intro gb362 hg w73 BK362 hb; have GW362 := bG HB hg; replace HB := bS HB hb; clear hb hg) | (refine gB 2 #[.slice none 0 0, .slice none 0 0, .slice none 0 0] 61 ?_; intro gb363 hg w74 BK363 hb; have GW363 := bG HB hg; replace HB := bS HB hb; obtain ⟨NB362_363, NB363_362⟩ := bN BK362 hg; replace BK362 := bB BK362 hb; clear hb hg; obtain ⟨hnb75, hnc75⟩ := nB NB362_363; obtain ⟨hcz76_0, hcz76_1, hcz76_2, hfz76_0, hfz76_1, hfz76_2⟩ := bK3 (w := w74) BK362) | (refine gC (some 12) Try.func83 #[.agg #[.int .i64 a0_0, .int .i64 a0_1, .slice A0_2 l0_2.length c0_2]] ?_; (with_reducible refine (impl_SystemOk.calls k a0_0 a0_1 _ _ l0_2 false _ ?side1 ?side2 A2.out).mono ?_); (case side1 => exact cP (Kd.C_below HR0_2.out HB.out)); (case side2 => exact HC0_2.out); rintro e w77 ⟨rfl, hb⟩; refine ⟨_, rfl, ?_⟩; replace BK362 := bB BK362 hb; replace BK363 := bB BK363 hb; replace HB := bS HB hb; (try clear hb); obtain ⟨hcz78_0, hcz78_1, hcz78_2, hfz78_0, hfz78_1, hfz78_2⟩ := bK3 (w := w77) BK363))
  refine bodyPost_ret (results_ct rfl _ _ gb363 61 #[.slice none 0 0, .slice none 0 0, .slice none 0 0] (0, 0) _ rfl (bU BK363) Try.underlying61 rfl (by kernel_rfl)) rfl ?_
  exact ⟨(fun _ => 0), _, _, _, by first | rfl | (simp [errW_none, errW_some] <;> rfl) | (simp [*, errW_none, errW_some] <;> rfl), by first | exact Kd.S_nil _ _ _ _ _ | exact Kd.N_nil _ _ _ _ _ | exact Kd.V_nil _ _ _ _ _ | exact Kd.Q_nil _ _ _ _ _ | exact Kd.R_nil _ _ _ _ _, by first | exact Kd.S_nil _ _ _ _ _ | exact Kd.N_nil _ _ _ _ _ | exact Kd.V_nil _ _ _ _ _ | exact Kd.Q_nil _ _ _ _ _ | exact Kd.R_nil _ _ _ _ _, by first | exact Kd.S_nil _ _ _ _ _ | exact Kd.N_nil _ _ _ _ _ | exact Kd.V_nil _ _ _ _ _ | exact Kd.Q_nil _ _ _ _ _ | exact Kd.R_nil _ _ _ _ _, bZ HB⟩

end Go.Proofs.Ytcnejiflpioaiaa.Pf
end
section
namespace Go.Proofs.Ytcnejiflpioaiaa.Pf
open Go.RowKit Go.Proofs.YtcnejiflpioaiaaW.PrintWords Go.Proofs.YtcnejiflpioaiaaW.PrintLast Go.Proofs.YtcnejiflpioaiaaW.PrintMore
attribute [local go_sem] max2_int min2_int max_two min_two max_three min_three max_four min_four   -- for this text's walks alone
set_option linter.unusedVariables false
set_option linter.unusedSimpArgs false
/-! ### laws_eqIntS: function 18 -/
def laws_eqIntS.l0 : Nat → List Int → List Int → Int → Option (Bool)
 | 0, _, _, _ => none
 | k + 1, x0, x1, x5 => if x5 < (x0.length : Int) then (if 0 ≤ x5 then (if x5 < (x1.length : Int) then (if (rd x0 x5) = (rd x1 x5) then (laws_eqIntS.l0 k x0 x1 (wrap64 (x5 + 1))) else (some false)) else (none)) else (none)) else (some true)
def laws_eqIntS.f (k : Nat) (l0 : List Int) (l1 : List Int) : Option (Bool) := if (l0.length : Int) = (l1.length : Int) then (laws_eqIntS.l0 k l0 l1 0) else (some false)
theorem laws_eqIntS.mono_l : ∀ k, (∀ y0 y1 y2, LeO (laws_eqIntS.l0 k y0 y1 y2) (laws_eqIntS.l0 (k + 1) y0 y1 y2))
 | 0 => fun _ _ _ r h => by simp [laws_eqIntS.l0] at h
 | k + 1 => by
  have ih0 := laws_eqIntS.mono_l k
  ·intro y0 y1 y2
   unfold laws_eqIntS.l0
   with_reducible repeat' first | exact ih0 _ _ _ | exact LeO.refl _ | exact LeO.none _ | refine LeO.ite ?_ ?_ | refine LeO.bind ?_ (fun _ => ?_)
theorem laws_eqIntS.mono : ∀ a0 a1 k, LeO (laws_eqIntS.f k a0 a1) (laws_eqIntS.f (k + 1) a0 a1) := by
 intro a0 a1 k
 have ih0 := laws_eqIntS.mono_l k
 unfold laws_eqIntS.f
 with_reducible repeat' first | exact ih0 _ _ _ | exact LeO.refl _ | exact LeO.none _ | refine LeO.ite ?_ ?_ | refine LeO.bind ?_ (fun _ => ?_)
set_option maxHeartbeats 8000000 in
set_option maxRecDepth 100000 in
theorem laws_eqIntS.calls (k : Nat) (A0 : Option Addr) (c0 : Nat) (l0 : List Int) (A1 : Option Addr) (c1 : Nat) (l1 : List Int) (r : Bool) (w : World) (hr0 : Kd.C (Kd.int .i64) w A0 l0.length l0) (hc0 : l0.length ≤ c0) (hr1 : Kd.C (Kd.int .i64) w A1 l1.length l1) (hc1 : l1.length ≤ c1) (h : laws_eqIntS.f k l0 l1 = some r) :
  Calls Try.prog 18 #[.slice A0 l0.length c0, .slice A1 l1.length c1] w fun e w' => e = .returned (.bool r) ∧ Drawn0 w w' := by
 have HR0 := Aside0.mk hr0
 have HC0 := Aside0.mk hc0
 clear hr0 hc0
 have HR1 := Aside0.mk hr1
 have HC1 := Aside0.mk hc1
 clear hr1 hc1
 have H : (if (l0.length : Int) = (l1.length : Int) then (laws_eqIntS.l0 k l0 l1 0) else (some false)) = some r := h
 clear h
 by_cases c3 : (l0.length : Int) = (l1.length : Int)
 ·rw [if_pos c3] at H
  have c3b0 : ((l0.length : Int) == (l1.length : Int)) = true := beq_iff_eq.mpr c3
  have c3b1 : ((l0.length : Int) != (l1.length : Int)) = false := bne_eq_false_iff_eq.mpr c3
  have c3b2 : (l0.length == l1.length) = true := by first | simpa using c3 | (simp at c3 ⊢; omega)
  clear c3
  have H' := Aside0.mk H
  clear H
  go_enter Try.func18, Try.ntmps18
  go_wp2
  repeat (go_quiet (fail); try go_wp2)
  go_loopg [5] k (fun kq v5 w' => ∃ (x5_1 : Int), v5 = .int .i64 x5_1 ∧ Aside0 (laws_eqIntS.l0 kq l0 l1 x5_1 = some r) ∧ Aside0 (kq ≤ k) ∧ Drawn0 w w')
  case atStart => exact ⟨(0), rS, H', ⟨Nat.le_refl _⟩, by repeat (first | exact Drawn0.refl _ | apply Drawn0.step)⟩
  case round =>
   clear H'
   try clear c1
   try clear p2
   try clear c3
   try clear c3b0
   try clear c3b1
   try clear c3b2
   obtain ⟨x5_1, rfl, HA, HK1, ⟨m1, rfl⟩⟩ := hrel
   cases gk with
   | zero => exact absurd HA.out (by simp [laws_eqIntS.l0])
   | succ k1 =>
    have H := HA.out
    clear HA
    simp only [laws_eqIntS.l0] at H
    by_cases c4 : x5_1 < (l0.length : Int)
    ·rw [if_pos c4] at H
     have c4b0 := decide_eq_true c4
     clear c4
     by_cases c5 : 0 ≤ x5_1
     ·rw [if_pos c5] at H
      have c5b0 := decide_eq_true c5
      clear c5
      by_cases c6 : x5_1 < (l1.length : Int)
      ·rw [if_pos c6] at H
       have c6b0 := decide_eq_true c6
       clear c6
       by_cases c7 : (rd l0 x5_1) = (rd l1 x5_1)
       ·rw [if_pos c7] at H
        have c7b0 : ((rd l0 x5_1) == (rd l1 x5_1)) = true := beq_iff_eq.mpr c7
        have c7b1 : ((rd l0 x5_1) != (rd l1 x5_1)) = false := bne_eq_false_iff_eq.mpr c7
        clear c7
        have H' := Aside0.mk H
        clear H
        have p398 : 0 ≤ (x5_1 : Int) := of_decide_eq_true (by first | (with_reducible assumption) | assumption)
        have q398 : x5_1 < (l0.length : Int) := of_decide_eq_true (by first | (with_reducible assumption) | assumption)
        obtain ⟨ad398, e398, hx398_0⟩ := Kd.at_int HR0.out x5_1 p398 q398
        cases e398
        replace p398 := eq_true p398
        replace q398 := eq_true q398
        have p399 : 0 ≤ (x5_1 : Int) := of_decide_eq_true (by first | (with_reducible assumption) | assumption)
        have q399 : x5_1 < (l1.length : Int) := of_decide_eq_true (by first | (with_reducible assumption) | assumption)
        obtain ⟨ad399, e399, hx399_0⟩ := Kd.at_int HR1.out x5_1 p399 q399
        cases e399
        replace p399 := eq_true p399
        replace q399 := eq_true q399
        go_wp2
        repeat (go_quiet (fail); try go_wp2)
        go_roundg k1
        case measure => have := HK1.out; omega
        case rel => exact ⟨(wrap64 (x5_1 + 1)), rS, H', ⟨by have := HK1.out; omega⟩, by repeat (first | exact Drawn0.refl _ | apply Drawn0.step)⟩
       ·rw [if_neg c7] at H
        have c7b0 : ((rd l0 x5_1) == (rd l1 x5_1)) = false := beq_eq_false_iff_ne.mpr c7
        have c7b1 : ((rd l0 x5_1) != (rd l1 x5_1)) = true := bne_iff_ne.mpr c7
        obtain rfl := Option.some.inj H
        have p398 : 0 ≤ (x5_1 : Int) := of_decide_eq_true (by first | (with_reducible assumption) | assumption)
        have q398 : x5_1 < (l0.length : Int) := of_decide_eq_true (by first | (with_reducible assumption) | assumption)
        obtain ⟨ad398, e398, hx398_0⟩ := Kd.at_int HR0.out x5_1 p398 q398
        cases e398
        replace p398 := eq_true p398
        replace q398 := eq_true q398
        have p399 : 0 ≤ (x5_1 : Int) := of_decide_eq_true (by first | (with_reducible assumption) | assumption)
        have q399 : x5_1 < (l1.length : Int) := of_decide_eq_true (by first | (with_reducible assumption) | assumption)
        obtain ⟨ad399, e399, hx399_0⟩ := Kd.at_int HR1.out x5_1 p399 q399
        cases e399
        replace p399 := eq_true p399
        replace q399 := eq_true q399
        go_wp2
        repeat (go_quiet (fail); try go_wp2)
        go_ret
        exact ⟨rS, rD⟩
      ·rw [if_neg c6] at H
       exact absurd H (by simp)
     ·rw [if_neg c5] at H
      exact absurd H (by simp)
    ·rw [if_neg c4] at H
     have c4b0 := decide_eq_false c4
     clear c4
     obtain rfl := Option.some.inj H
     go_wp2
     repeat (go_quiet (fail); try go_wp2)
     go_ret
     exact ⟨rS, rD⟩
 ·rw [if_neg c3] at H
  have c3b0 : ((l0.length : Int) == (l1.length : Int)) = false := beq_eq_false_iff_ne.mpr c3
  have c3b1 : ((l0.length : Int) != (l1.length : Int)) = true := bne_iff_ne.mpr c3
  have c3b2 : (l0.length == l1.length) = false := by first | simpa using c3 | (simp at c3 ⊢; omega)
  obtain rfl := Option.some.inj H
  go_enter Try.func18, Try.ntmps18
  go_wp2
  repeat (go_quiet (fail); try go_wp2)
  go_ret
  exact ⟨rS, rD⟩
/-! ### laws_eqIntSS: function 43 -/
def laws_eqIntSS.l0 : Nat → List (List Int) → List (List Int) → Int → Option (Bool)
 | 0, _, _, _ => none
 | k + 1, x0, x1, x5 => if x5 < (x0.length : Int) then (if 0 ≤ x5 then (if x5 < (x1.length : Int) then ((laws_eqIntS.f k (rd_L1 x0 x5) (rd_L1 x1 x5)).bind fun t402 => (if t402 = true then (laws_eqIntSS.l0 k x0 x1 (wrap64 (x5 + 1))) else (some false))) else (none)) else (none)) else (some true)
def laws_eqIntSS.f (k : Nat) (l0 : List (List Int)) (l1 : List (List Int)) : Option (Bool) := if (l0.length : Int) = (l1.length : Int) then (laws_eqIntSS.l0 k l0 l1 0) else (some false)
theorem laws_eqIntSS.mono_l : ∀ k, (∀ y0 y1 y2, LeO (laws_eqIntSS.l0 k y0 y1 y2) (laws_eqIntSS.l0 (k + 1) y0 y1 y2))
 | 0 => fun _ _ _ r h => by simp [laws_eqIntSS.l0] at h
 | k + 1 => by
  have ih0 := laws_eqIntSS.mono_l k
  ·intro y0 y1 y2
   unfold laws_eqIntSS.l0
   with_reducible repeat' first | exact ih0 _ _ _ | exact laws_eqIntS.mono _ _ _ | exact LeO.refl _ | exact LeO.none _ | refine LeO.ite ?_ ?_ | refine LeO.bind ?_ (fun _ => ?_)
theorem laws_eqIntSS.mono : ∀ a0 a1 k, LeO (laws_eqIntSS.f k a0 a1) (laws_eqIntSS.f (k + 1) a0 a1) := by
 intro a0 a1 k
 have ih0 := laws_eqIntSS.mono_l k
 unfold laws_eqIntSS.f
 with_reducible repeat' first | exact ih0 _ _ _ | exact laws_eqIntS.mono _ _ _ | exact LeO.refl _ | exact LeO.none _ | refine LeO.ite ?_ ?_ | refine LeO.bind ?_ (fun _ => ?_)
set_option maxHeartbeats 8000000 in
set_option maxRecDepth 100000 in
theorem laws_eqIntSS.calls (k : Nat) (A0 : Option Addr) (c0 : Nat) (l0 : List (List Int)) (A1 : Option Addr) (c1 : Nat) (l1 : List (List Int)) (r : Bool) (w : World) (hr0 : Kd.C (Kd.slice 3 (Kd.int .i64)) w A0 l0.length l0) (hc0 : l0.length ≤ c0) (hr1 : Kd.C (Kd.slice 3 (Kd.int .i64)) w A1 l1.length l1) (hc1 : l1.length ≤ c1) (h : laws_eqIntSS.f k l0 l1 = some r) :
  Calls Try.prog 43 #[.slice A0 l0.length c0, .slice A1 l1.length c1] w fun e w' => e = .returned (.bool r) ∧ Drawn0 w w' := by
 have HR0 := Aside0.mk hr0
 have HC0 := Aside0.mk hc0
 clear hr0 hc0
 have HR1 := Aside0.mk hr1
 have HC1 := Aside0.mk hc1
 clear hr1 hc1
 have H : (if (l0.length : Int) = (l1.length : Int) then (laws_eqIntSS.l0 k l0 l1 0) else (some false)) = some r := h
 clear h
 by_cases c3 : (l0.length : Int) = (l1.length : Int)
 ·rw [if_pos c3] at H
  have c3b0 : ((l0.length : Int) == (l1.length : Int)) = true := beq_iff_eq.mpr c3
  have c3b1 : ((l0.length : Int) != (l1.length : Int)) = false := bne_eq_false_iff_eq.mpr c3
  have c3b2 : (l0.length == l1.length) = true := by first | simpa using c3 | (simp at c3 ⊢; omega)
  clear c3
  have H' := Aside0.mk H
  clear H
  go_enter Try.func43, Try.ntmps43
  go_wp2
  repeat (go_quiet (fail); try go_wp2)
  go_loopg [5] k (fun kq v5 w' => ∃ (x5_1 : Int), v5 = .int .i64 x5_1 ∧ Aside0 (laws_eqIntSS.l0 kq l0 l1 x5_1 = some r) ∧ Aside0 (kq ≤ k) ∧ Drawn0 w w')
  case atStart => exact ⟨(0), rS, H', ⟨Nat.le_refl _⟩, by repeat (first | exact Drawn0.refl _ | apply Drawn0.step)⟩
  case round =>
   clear H'
   try clear c1
   try clear p2
   try clear c3
   try clear c3b0
   try clear c3b1
   try clear c3b2
   obtain ⟨x5_1, rfl, HA, HK1, ⟨m1, rfl⟩⟩ := hrel
   cases gk with
   | zero => exact absurd HA.out (by simp [laws_eqIntSS.l0])
   | succ k1 =>
    have H := HA.out
    clear HA
    simp only [laws_eqIntSS.l0] at H
    by_cases c4 : x5_1 < (l0.length : Int)
    ·rw [if_pos c4] at H
     have c4b0 := decide_eq_true c4
     clear c4
     by_cases c5 : 0 ≤ x5_1
     ·rw [if_pos c5] at H
      have c5b0 := decide_eq_true c5
      clear c5
      by_cases c6 : x5_1 < (l1.length : Int)
      ·rw [if_pos c6] at H
       have c6b0 := decide_eq_true c6
       clear c6
       replace H := Option.bind_eq_some_iff.mp H
       obtain ⟨t402, A70, H⟩ := H
       have A7 := Aside0.mk A70
       clear A70
       by_cases c8 : t402 = true
       ·subst c8
        rw [if_pos rfl] at H
        have H' := Aside0.mk H
        clear H
        have p400 : 0 ≤ (x5_1 : Int) := of_decide_eq_true (by first | (with_reducible assumption) | assumption)
        have q400 : x5_1 < (l0.length : Int) := of_decide_eq_true (by first | (with_reducible assumption) | assumption)
        obtain ⟨ad400, A400_0, c400_0, e400, hx400_0, hl400_0, hi400_0⟩ := at_L1 HR0.out x5_1 p400 q400
        cases e400
        have HR400_0 := Aside0.mk hi400_0
        have HC400_0 := Aside0.mk hl400_0
        clear hi400_0 hl400_0
        replace p400 := eq_true p400
        replace q400 := eq_true q400
        have p401 : 0 ≤ (x5_1 : Int) := of_decide_eq_true (by first | (with_reducible assumption) | assumption)
        have q401 : x5_1 < (l1.length : Int) := of_decide_eq_true (by first | (with_reducible assumption) | assumption)
        obtain ⟨ad401, A401_0, c401_0, e401, hx401_0, hl401_0, hi401_0⟩ := at_L1 HR1.out x5_1 p401 q401
        cases e401
        have HR401_0 := Aside0.mk hi401_0
        have HC401_0 := Aside0.mk hl401_0
        clear hi401_0 hl401_0
        replace p401 := eq_true p401
        replace q401 := eq_true q401
        go_wp2_with (first | (go_at_call 18; (with_reducible refine (laws_eqIntS.calls k1 _ _ (rd_L1 l0 x5_1) _ _ (rd_L1 l1 x5_1) true _ ?side1 ?side2 ?side3 ?side4 A7.out).mono ?_); (case side1 => exact cP HR400_0.out); (case side2 => exact HC400_0.out); (case side3 => exact cP HR401_0.out); (case side4 => exact HC401_0.out); rintro e w' ⟨rfl, ⟨nd, rfl⟩⟩; (try exact tD)))
        repeat (go_quiet (first | (go_at_call 18; (with_reducible refine (laws_eqIntS.calls k1 _ _ (rd_L1 l0 x5_1) _ _ (rd_L1 l1 x5_1) true _ ?side1 ?side2 ?side3 ?side4 A7.out).mono ?_); (case side1 => exact cP HR400_0.out); (case side2 => exact HC400_0.out); (case side3 => exact cP HR401_0.out); (case side4 => exact HC401_0.out); rintro e w' ⟨rfl, ⟨nd, rfl⟩⟩; (try exact tD))); try go_wp2_with (first | (go_at_call 18; (with_reducible refine (laws_eqIntS.calls k1 _ _ (rd_L1 l0 x5_1) _ _ (rd_L1 l1 x5_1) true _ ?side1 ?side2 ?side3 ?side4 A7.out).mono ?_); (case side1 => exact cP HR400_0.out); (case side2 => exact HC400_0.out); (case side3 => exact cP HR401_0.out); (case side4 => exact HC401_0.out); rintro e w' ⟨rfl, ⟨nd, rfl⟩⟩; (try exact tD))))
        go_roundg k1
        case measure => have := HK1.out; omega
        case rel => exact ⟨(wrap64 (x5_1 + 1)), rS, H', ⟨by have := HK1.out; omega⟩, by repeat (first | exact Drawn0.refl _ | apply Drawn0.step)⟩
       ·replace c8 := Bool.eq_false_iff.mpr c8
        subst c8
        rw [if_neg (show ¬ (false = true) by decide)] at H
        obtain rfl := Option.some.inj H
        have p400 : 0 ≤ (x5_1 : Int) := of_decide_eq_true (by first | (with_reducible assumption) | assumption)
        have q400 : x5_1 < (l0.length : Int) := of_decide_eq_true (by first | (with_reducible assumption) | assumption)
        obtain ⟨ad400, A400_0, c400_0, e400, hx400_0, hl400_0, hi400_0⟩ := at_L1 HR0.out x5_1 p400 q400
        cases e400
        have HR400_0 := Aside0.mk hi400_0
        have HC400_0 := Aside0.mk hl400_0
        clear hi400_0 hl400_0
        replace p400 := eq_true p400
        replace q400 := eq_true q400
        have p401 : 0 ≤ (x5_1 : Int) := of_decide_eq_true (by first | (with_reducible assumption) | assumption)
        have q401 : x5_1 < (l1.length : Int) := of_decide_eq_true (by first | (with_reducible assumption) | assumption)
        obtain ⟨ad401, A401_0, c401_0, e401, hx401_0, hl401_0, hi401_0⟩ := at_L1 HR1.out x5_1 p401 q401
        cases e401
        have HR401_0 := Aside0.mk hi401_0
        have HC401_0 := Aside0.mk hl401_0
        clear hi401_0 hl401_0
        replace p401 := eq_true p401
        replace q401 := eq_true q401
        go_wp2_with (first | (go_at_call 18; (with_reducible refine (laws_eqIntS.calls k1 _ _ (rd_L1 l0 x5_1) _ _ (rd_L1 l1 x5_1) false _ ?side1 ?side2 ?side3 ?side4 A7.out).mono ?_); (case side1 => exact cP HR400_0.out); (case side2 => exact HC400_0.out); (case side3 => exact cP HR401_0.out); (case side4 => exact HC401_0.out); rintro e w' ⟨rfl, ⟨nd, rfl⟩⟩; (try exact tD)))
        repeat (go_quiet (first | (go_at_call 18; (with_reducible refine (laws_eqIntS.calls k1 _ _ (rd_L1 l0 x5_1) _ _ (rd_L1 l1 x5_1) false _ ?side1 ?side2 ?side3 ?side4 A7.out).mono ?_); (case side1 => exact cP HR400_0.out); (case side2 => exact HC400_0.out); (case side3 => exact cP HR401_0.out); (case side4 => exact HC401_0.out); rintro e w' ⟨rfl, ⟨nd, rfl⟩⟩; (try exact tD))); try go_wp2_with (first | (go_at_call 18; (with_reducible refine (laws_eqIntS.calls k1 _ _ (rd_L1 l0 x5_1) _ _ (rd_L1 l1 x5_1) false _ ?side1 ?side2 ?side3 ?side4 A7.out).mono ?_); (case side1 => exact cP HR400_0.out); (case side2 => exact HC400_0.out); (case side3 => exact cP HR401_0.out); (case side4 => exact HC401_0.out); rintro e w' ⟨rfl, ⟨nd, rfl⟩⟩; (try exact tD))))
        go_ret
        exact ⟨rS, rD⟩
      ·rw [if_neg c6] at H
       exact absurd H (by simp)
     ·rw [if_neg c5] at H
      exact absurd H (by simp)
    ·rw [if_neg c4] at H
     have c4b0 := decide_eq_false c4
     clear c4
     obtain rfl := Option.some.inj H
     go_wp2
     repeat (go_quiet (fail); try go_wp2)
     go_ret
     exact ⟨rS, rD⟩
 ·rw [if_neg c3] at H
  have c3b0 : ((l0.length : Int) == (l1.length : Int)) = false := beq_eq_false_iff_ne.mpr c3
  have c3b1 : ((l0.length : Int) != (l1.length : Int)) = true := bne_iff_ne.mpr c3
  have c3b2 : (l0.length == l1.length) = false := by first | simpa using c3 | (simp at c3 ⊢; omega)
  obtain rfl := Option.some.inj H
  go_enter Try.func43, Try.ntmps43
  go_wp2
  repeat (go_quiet (fail); try go_wp2)
  go_ret
  exact ⟨rS, rD⟩
/-! ### laws_eqQap: function 58 -/
def laws_eqQap.f (k : Nat) (l0_0 : List (List Int)) (l0_1 : List (List Int)) (l0_2 : List (List Int)) (l1_0 : List (List Int)) (l1_1 : List (List Int)) (l1_2 : List (List Int)) : Option (Bool) := (laws_eqIntSS.f k l0_0 l1_0).bind fun t405 => (if t405 = true then ((laws_eqIntSS.f k l0_1 l1_1).bind fun t406 => (if t406 = true then ((laws_eqIntSS.f k l0_2 l1_2).bind fun t407 => (if t407 = true then (some true) else (some false))) else (some false))) else (some false))
theorem laws_eqQap.mono : ∀ a0 a1 a2 a3 a4 a5 k, LeO (laws_eqQap.f k a0 a1 a2 a3 a4 a5) (laws_eqQap.f (k + 1) a0 a1 a2 a3 a4 a5) := by
 intro a0 a1 a2 a3 a4 a5 k
 unfold laws_eqQap.f
 with_reducible repeat' first | exact laws_eqIntSS.mono _ _ _ | exact LeO.refl _ | exact LeO.none _ | refine LeO.ite ?_ ?_ | refine LeO.bind ?_ (fun _ => ?_)
set_option maxHeartbeats 8000000 in
set_option maxRecDepth 100000 in
theorem laws_eqQap.calls (k : Nat) (A0_0 : Option Addr) (c0_0 : Nat) (l0_0 : List (List Int)) (A0_1 : Option Addr) (c0_1 : Nat) (l0_1 : List (List Int)) (A0_2 : Option Addr) (c0_2 : Nat) (l0_2 : List (List Int)) (A1_0 : Option Addr) (c1_0 : Nat) (l1_0 : List (List Int)) (A1_1 : Option Addr) (c1_1 : Nat) (l1_1 : List (List Int)) (A1_2 : Option Addr) (c1_2 : Nat) (l1_2 : List (List Int)) (r : Bool) (w : World) (hr0_0 : Kd.C (Kd.slice 3 (Kd.int .i64)) w A0_0 l0_0.length l0_0) (hc0_0 : l0_0.length ≤ c0_0) (hr0_1 : Kd.C (Kd.slice 3 (Kd.int .i64)) w A0_1 l0_1.length l0_1) (hc0_1 : l0_1.length ≤ c0_1) (hr0_2 : Kd.C (Kd.slice 3 (Kd.int .i64)) w A0_2 l0_2.length l0_2) (hc0_2 : l0_2.length ≤ c0_2) (hr1_0 : Kd.C (Kd.slice 3 (Kd.int .i64)) w A1_0 l1_0.length l1_0) (hc1_0 : l1_0.length ≤ c1_0) (hr1_1 : Kd.C (Kd.slice 3 (Kd.int .i64)) w A1_1 l1_1.length l1_1) (hc1_1 : l1_1.length ≤ c1_1) (hr1_2 : Kd.C (Kd.slice 3 (Kd.int .i64)) w A1_2 l1_2.length l1_2) (hc1_2 : l1_2.length ≤ c1_2) (h : laws_eqQap.f k l0_0 l0_1 l0_2 l1_0 l1_1 l1_2 = some r) :
  Calls Try.prog 58 #[.agg #[.slice A0_0 l0_0.length c0_0, .slice A0_1 l0_1.length c0_1, .slice A0_2 l0_2.length c0_2], .agg #[.slice A1_0 l1_0.length c1_0, .slice A1_1 l1_1.length c1_1, .slice A1_2 l1_2.length c1_2]] w fun e w' => e = .returned (.bool r) ∧ Below w.heap.size w w' := by
 have hu61 := Try.underlying61
 have HR0_0 := Aside0.mk hr0_0
 have HC0_0 := Aside0.mk hc0_0
 clear hr0_0 hc0_0
 have HR0_1 := Aside0.mk hr0_1
 have HC0_1 := Aside0.mk hc0_1
 clear hr0_1 hc0_1
 have HR0_2 := Aside0.mk hr0_2
 have HC0_2 := Aside0.mk hc0_2
 clear hr0_2 hc0_2
 have HR1_0 := Aside0.mk hr1_0
 have HC1_0 := Aside0.mk hc1_0
 clear hr1_0 hc1_0
 have HR1_1 := Aside0.mk hr1_1
 have HC1_1 := Aside0.mk hc1_1
 clear hr1_1 hc1_1
 have HR1_2 := Aside0.mk hr1_2
 have HC1_2 := Aside0.mk hc1_2
 clear hr1_2 hc1_2
 have HB := Aside0.mk (Below.refl w.heap.size w)
 have H : ((laws_eqIntSS.f k l0_0 l1_0).bind fun t405 => (if t405 = true then ((laws_eqIntSS.f k l0_1 l1_1).bind fun t406 => (if t406 = true then ((laws_eqIntSS.f k l0_2 l1_2).bind fun t407 => (if t407 = true then (some true) else (some false))) else (some false))) else (some false))) = some r := h
 clear h
 replace H := Option.bind_eq_some_iff.mp H
 obtain ⟨t405, A30, H⟩ := H
 have A3 := Aside0.mk A30
 clear A30
 by_cases c4 : t405 = true
 ·subst c4
  rw [if_pos rfl] at H
  replace H := Option.bind_eq_some_iff.mp H
  obtain ⟨t406, A50, H⟩ := H
  have A5 := Aside0.mk A50
  clear A50
  by_cases c6 : t406 = true
  ·subst c6
   rw [if_pos rfl] at H
   replace H := Option.bind_eq_some_iff.mp H
   obtain ⟨t407, A70, H⟩ := H
   have A7 := Aside0.mk A70
   clear A70
   by_cases c8 : t407 = true
   ·subst c8
    rw [if_pos rfl] at H
    obtain rfl := Option.some.inj H
    go_enter Try.func58, Try.ntmps58
    go_wp2_with (first | (refine gB 2 #[.slice A0_0 l0_0.length c0_0, .slice A0_1 l0_1.length c0_1, .slice A0_2 l0_2.length c0_2] 61 ?_; intro gb403 hg w9 BK403 hb; have GW403 := bG HB hg; replace HB := bS HB hb; clear hb hg) | (refine gB 3 #[.slice A1_0 l1_0.length c1_0, .slice A1_1 l1_1.length c1_1, .slice A1_2 l1_2.length c1_2] 61 ?_; intro gb404 hg w10 BK404 hb; have GW404 := bG HB hg; replace HB := bS HB hb; obtain ⟨NB403_404, NB404_403⟩ := bN BK403 hg; replace BK403 := bB BK403 hb; clear hb hg; obtain ⟨hnb11, hnc11⟩ := nB NB403_404; obtain ⟨hcz12_0, hcz12_1, hcz12_2, hfz12_0, hfz12_1, hfz12_2⟩ := bK3 (w := w10) BK403; obtain ⟨hcz13_0, hcz13_1, hcz13_2, hfz13_0, hfz13_1, hfz13_2⟩ := bK3 (w := w10) BK404) | (refine gC (some 9) Try.func43 #[.slice A0_0 l0_0.length c0_0, .slice A1_0 l1_0.length c1_0] ?_; (with_reducible refine (laws_eqIntSS.calls k _ _ l0_0 _ _ l1_0 true _ ?side1 ?side2 ?side3 ?side4 A3.out).mono ?_); (case side1 => exact cP (Kd.C_below HR0_0.out HB.out)); (case side2 => exact HC0_0.out); (case side3 => exact cP (Kd.C_below HR1_0.out HB.out)); (case side4 => exact HC1_0.out); rintro e w' ⟨rfl, ⟨nd, rfl⟩⟩; refine ⟨_, rfl, ?_⟩) | (refine gC (some 15) Try.func43 #[.slice A0_1 l0_1.length c0_1, .slice A1_1 l1_1.length c1_1] ?_; (with_reducible refine (laws_eqIntSS.calls k _ _ l0_1 _ _ l1_1 true _ ?side1 ?side2 ?side3 ?side4 A5.out).mono ?_); (case side1 => exact cP (Kd.C_below HR0_1.out (bZ HB))); (case side2 => exact HC0_1.out); (case side3 => exact cP (Kd.C_below HR1_1.out (bZ HB))); (case side4 => exact HC1_1.out); rintro e w' ⟨rfl, ⟨nd, rfl⟩⟩; refine ⟨_, rfl, ?_⟩) | (refine gC (some 21) Try.func43 #[.slice A0_2 l0_2.length c0_2, .slice A1_2 l1_2.length c1_2] ?_; (with_reducible refine (laws_eqIntSS.calls k _ _ l0_2 _ _ l1_2 true _ ?side1 ?side2 ?side3 ?side4 A7.out).mono ?_); (case side1 => exact cP (Kd.C_below HR0_2.out (bZ HB))); (case side2 => exact HC0_2.out); (case side3 => exact cP (Kd.C_below HR1_2.out (bZ HB))); (case side4 => exact HC1_2.out); rintro e w' ⟨rfl, ⟨nd, rfl⟩⟩; refine ⟨_, rfl, ?_⟩))
    go_ret
    exact ⟨rR, bZ HB⟩
   ·replace c8 := Bool.eq_false_iff.mpr c8
    subst c8
    rw [if_neg (show ¬ (false = true) by decide)] at H
    obtain rfl := Option.some.inj H
    go_enter Try.func58, Try.ntmps58
    go_wp2_with (first | (refine gB 2 #[.slice A0_0 l0_0.length c0_0, .slice A0_1 l0_1.length c0_1, .slice A0_2 l0_2.length c0_2] 61 ?_; intro gb403 hg w14 BK403 hb; have GW403 := bG HB hg; replace HB := bS HB hb; clear hb hg) | (refine gB 3 #[.slice A1_0 l1_0.length c1_0, .slice A1_1 l1_1.length c1_1, .slice A1_2 l1_2.length c1_2] 61 ?_; intro gb404 hg w15 BK404 hb; have GW404 := bG HB hg; replace HB := bS HB hb; obtain ⟨NB403_404, NB404_403⟩ := bN BK403 hg; replace BK403 := bB BK403 hb; clear hb hg; obtain ⟨hnb16, hnc16⟩ := nB NB403_404; obtain ⟨hcz17_0, hcz17_1, hcz17_2, hfz17_0, hfz17_1, hfz17_2⟩ := bK3 (w := w15) BK403; obtain ⟨hcz18_0, hcz18_1, hcz18_2, hfz18_0, hfz18_1, hfz18_2⟩ := bK3 (w := w15) BK404) | (refine gC (some 9) Try.func43 #[.slice A0_0 l0_0.length c0_0, .slice A1_0 l1_0.length c1_0] ?_; (with_reducible refine (laws_eqIntSS.calls k _ _ l0_0 _ _ l1_0 true _ ?side1 ?side2 ?side3 ?side4 A3.out).mono ?_); (case side1 => exact cP (Kd.C_below HR0_0.out HB.out)); (case side2 => exact HC0_0.out); (case side3 => exact cP (Kd.C_below HR1_0.out HB.out)); (case side4 => exact HC1_0.out); rintro e w' ⟨rfl, ⟨nd, rfl⟩⟩; refine ⟨_, rfl, ?_⟩) | (refine gC (some 15) Try.func43 #[.slice A0_1 l0_1.length c0_1, .slice A1_1 l1_1.length c1_1] ?_; (with_reducible refine (laws_eqIntSS.calls k _ _ l0_1 _ _ l1_1 true _ ?side1 ?side2 ?side3 ?side4 A5.out).mono ?_); (case side1 => exact cP (Kd.C_below HR0_1.out (bZ HB))); (case side2 => exact HC0_1.out); (case side3 => exact cP (Kd.C_below HR1_1.out (bZ HB))); (case side4 => exact HC1_1.out); rintro e w' ⟨rfl, ⟨nd, rfl⟩⟩; refine ⟨_, rfl, ?_⟩) | (refine gC (some 21) Try.func43 #[.slice A0_2 l0_2.length c0_2, .slice A1_2 l1_2.length c1_2] ?_; (with_reducible refine (laws_eqIntSS.calls k _ _ l0_2 _ _ l1_2 false _ ?side1 ?side2 ?side3 ?side4 A7.out).mono ?_); (case side1 => exact cP (Kd.C_below HR0_2.out (bZ HB))); (case side2 => exact HC0_2.out); (case side3 => exact cP (Kd.C_below HR1_2.out (bZ HB))); (case side4 => exact HC1_2.out); rintro e w' ⟨rfl, ⟨nd, rfl⟩⟩; refine ⟨_, rfl, ?_⟩))
    go_ret
    exact ⟨rR, bZ HB⟩
  ·replace c6 := Bool.eq_false_iff.mpr c6
   subst c6
   rw [if_neg (show ¬ (false = true) by decide)] at H
   obtain rfl := Option.some.inj H
   go_enter Try.func58, Try.ntmps58
   go_wp2_with (first | (refine gB 2 #[.slice A0_0 l0_0.length c0_0, .slice A0_1 l0_1.length c0_1, .slice A0_2 l0_2.length c0_2] 61 ?_; intro gb403 hg w19 BK403 hb; have GW403 := bG HB hg; replace HB := bS HB hb; clear hb hg) | (refine gB 3 #[.slice A1_0 l1_0.length c1_0, .slice A1_1 l1_1.length c1_1, .slice A1_2 l1_2.length c1_2] 61 ?_; intro gb404 hg w20 BK404 hb; have GW404 := bG HB hg; replace HB := bS HB hb; obtain ⟨NB403_404, NB404_403⟩ := bN BK403 hg; replace BK403 := bB BK403 hb; clear hb hg; obtain ⟨hnb21, hnc21⟩ := nB NB403_404; obtain ⟨hcz22_0, hcz22_1, hcz22_2, hfz22_0, hfz22_1, hfz22_2⟩ := bK3 (w := w20) BK403; obtain ⟨hcz23_0, hcz23_1, hcz23_2, hfz23_0, hfz23_1, hfz23_2⟩ := bK3 (w := w20) BK404) | (refine gC (some 9) Try.func43 #[.slice A0_0 l0_0.length c0_0, .slice A1_0 l1_0.length c1_0] ?_; (with_reducible refine (laws_eqIntSS.calls k _ _ l0_0 _ _ l1_0 true _ ?side1 ?side2 ?side3 ?side4 A3.out).mono ?_); (case side1 => exact cP (Kd.C_below HR0_0.out HB.out)); (case side2 => exact HC0_0.out); (case side3 => exact cP (Kd.C_below HR1_0.out HB.out)); (case side4 => exact HC1_0.out); rintro e w' ⟨rfl, ⟨nd, rfl⟩⟩; refine ⟨_, rfl, ?_⟩) | (refine gC (some 15) Try.func43 #[.slice A0_1 l0_1.length c0_1, .slice A1_1 l1_1.length c1_1] ?_; (with_reducible refine (laws_eqIntSS.calls k _ _ l0_1 _ _ l1_1 false _ ?side1 ?side2 ?side3 ?side4 A5.out).mono ?_); (case side1 => exact cP (Kd.C_below HR0_1.out (bZ HB))); (case side2 => exact HC0_1.out); (case side3 => exact cP (Kd.C_below HR1_1.out (bZ HB))); (case side4 => exact HC1_1.out); rintro e w' ⟨rfl, ⟨nd, rfl⟩⟩; refine ⟨_, rfl, ?_⟩))
   go_ret
   exact ⟨rR, bZ HB⟩
 ·replace c4 := Bool.eq_false_iff.mpr c4
  subst c4
  rw [if_neg (show ¬ (false = true) by decide)] at H
  obtain rfl := Option.some.inj H
  go_enter Try.func58, Try.ntmps58
  go_wp2_with (first | (refine gB 2 #[.slice A0_0 l0_0.length c0_0, .slice A0_1 l0_1.length c0_1, .slice A0_2 l0_2.length c0_2] 61 ?_; intro gb403 hg w24 BK403 hb; have GW403 := bG HB hg; replace HB := bS HB hb; clear hb hg) | (refine gB 3 #[.slice A1_0 l1_0.length c1_0, .slice A1_1 l1_1.length c1_1, .slice A1_2 l1_2.length c1_2] 61 ?_; intro gb404 hg w25 BK404 hb; have GW404 := bG HB hg; replace HB := bS HB hb; obtain ⟨NB403_404, NB404_403⟩ := bN BK403 hg; replace BK403 := bB BK403 hb; clear hb hg; obtain ⟨hnb26, hnc26⟩ := nB NB403_404; obtain ⟨hcz27_0, hcz27_1, hcz27_2, hfz27_0, hfz27_1, hfz27_2⟩ := bK3 (w := w25) BK403; obtain ⟨hcz28_0, hcz28_1, hcz28_2, hfz28_0, hfz28_1, hfz28_2⟩ := bK3 (w := w25) BK404) | (refine gC (some 9) Try.func43 #[.slice A0_0 l0_0.length c0_0, .slice A1_0 l1_0.length c1_0] ?_; (with_reducible refine (laws_eqIntSS.calls k _ _ l0_0 _ _ l1_0 false _ ?side1 ?side2 ?side3 ?side4 A3.out).mono ?_); (case side1 => exact cP (Kd.C_below HR0_0.out HB.out)); (case side2 => exact HC0_0.out); (case side3 => exact cP (Kd.C_below HR1_0.out HB.out)); (case side4 => exact HC1_0.out); rintro e w' ⟨rfl, ⟨nd, rfl⟩⟩; refine ⟨_, rfl, ?_⟩))
  go_ret
  exact ⟨rR, bZ HB⟩
/-! ### laws_eqRow: function 97 -/
def laws_eqRow.f (k : Nat) (l0_0 : List Int) (l0_1 : List Int) (l0_2 : List Int) (l1_0 : List Int) (l1_1 : List Int) (l1_2 : List Int) : Option (Bool) := (laws_eqIntS.f k l0_0 l1_0).bind fun t410 => (if t410 = true then ((laws_eqIntS.f k l0_1 l1_1).bind fun t411 => (if t411 = true then ((laws_eqIntS.f k l0_2 l1_2).bind fun t412 => (if t412 = true then (some true) else (some false))) else (some false))) else (some false))
theorem laws_eqRow.mono : ∀ a0 a1 a2 a3 a4 a5 k, LeO (laws_eqRow.f k a0 a1 a2 a3 a4 a5) (laws_eqRow.f (k + 1) a0 a1 a2 a3 a4 a5) := by
 intro a0 a1 a2 a3 a4 a5 k
 unfold laws_eqRow.f
 with_reducible repeat' first | exact laws_eqIntS.mono _ _ _ | exact LeO.refl _ | exact LeO.none _ | refine LeO.ite ?_ ?_ | refine LeO.bind ?_ (fun _ => ?_)
set_option maxHeartbeats 8000000 in
set_option maxRecDepth 100000 in
theorem laws_eqRow.calls (k : Nat) (A0_0 : Option Addr) (c0_0 : Nat) (l0_0 : List Int) (A0_1 : Option Addr) (c0_1 : Nat) (l0_1 : List Int) (A0_2 : Option Addr) (c0_2 : Nat) (l0_2 : List Int) (A1_0 : Option Addr) (c1_0 : Nat) (l1_0 : List Int) (A1_1 : Option Addr) (c1_1 : Nat) (l1_1 : List Int) (A1_2 : Option Addr) (c1_2 : Nat) (l1_2 : List Int) (r : Bool) (w : World) (hr0_0 : Kd.C (Kd.int .i64) w A0_0 l0_0.length l0_0) (hc0_0 : l0_0.length ≤ c0_0) (hr0_1 : Kd.C (Kd.int .i64) w A0_1 l0_1.length l0_1) (hc0_1 : l0_1.length ≤ c0_1) (hr0_2 : Kd.C (Kd.int .i64) w A0_2 l0_2.length l0_2) (hc0_2 : l0_2.length ≤ c0_2) (hr1_0 : Kd.C (Kd.int .i64) w A1_0 l1_0.length l1_0) (hc1_0 : l1_0.length ≤ c1_0) (hr1_1 : Kd.C (Kd.int .i64) w A1_1 l1_1.length l1_1) (hc1_1 : l1_1.length ≤ c1_1) (hr1_2 : Kd.C (Kd.int .i64) w A1_2 l1_2.length l1_2) (hc1_2 : l1_2.length ≤ c1_2) (h : laws_eqRow.f k l0_0 l0_1 l0_2 l1_0 l1_1 l1_2 = some r) :
  Calls Try.prog 97 #[.agg #[.slice A0_0 l0_0.length c0_0, .slice A0_1 l0_1.length c0_1, .slice A0_2 l0_2.length c0_2], .agg #[.slice A1_0 l1_0.length c1_0, .slice A1_1 l1_1.length c1_1, .slice A1_2 l1_2.length c1_2]] w fun e w' => e = .returned (.bool r) ∧ Below w.heap.size w w' := by
 have hu40 := Try.underlying40
 have HR0_0 := Aside0.mk hr0_0
 have HC0_0 := Aside0.mk hc0_0
 clear hr0_0 hc0_0
 have HR0_1 := Aside0.mk hr0_1
 have HC0_1 := Aside0.mk hc0_1
 clear hr0_1 hc0_1
 have HR0_2 := Aside0.mk hr0_2
 have HC0_2 := Aside0.mk hc0_2
 clear hr0_2 hc0_2
 have HR1_0 := Aside0.mk hr1_0
 have HC1_0 := Aside0.mk hc1_0
 clear hr1_0 hc1_0
 have HR1_1 := Aside0.mk hr1_1
 have HC1_1 := Aside0.mk hc1_1
 clear hr1_1 hc1_1
 have HR1_2 := Aside0.mk hr1_2
 have HC1_2 := Aside0.mk hc1_2
 clear hr1_2 hc1_2
 have HB := Aside0.mk (Below.refl w.heap.size w)
 have H : ((laws_eqIntS.f k l0_0 l1_0).bind fun t410 => (if t410 = true then ((laws_eqIntS.f k l0_1 l1_1).bind fun t411 => (if t411 = true then ((laws_eqIntS.f k l0_2 l1_2).bind fun t412 => (if t412 = true then (some true) else (some false))) else (some false))) else (some false))) = some r := h
 clear h
 replace H := Option.bind_eq_some_iff.mp H
 obtain ⟨t410, A30, H⟩ := H
 have A3 := Aside0.mk A30
 clear A30
 by_cases c4 : t410 = true
 ·subst c4
  rw [if_pos rfl] at H
  replace H := Option.bind_eq_some_iff.mp H
  obtain ⟨t411, A50, H⟩ := H
  have A5 := Aside0.mk A50
  clear A50
  by_cases c6 : t411 = true
  ·subst c6
   rw [if_pos rfl] at H
   replace H := Option.bind_eq_some_iff.mp H
   obtain ⟨t412, A70, H⟩ := H
   have A7 := Aside0.mk A70
   clear A70
   by_cases c8 : t412 = true
   ·subst c8
    rw [if_pos rfl] at H
    obtain rfl := Option.some.inj H
    go_enter Try.func97, Try.ntmps97
    go_wp2_with (first | (refine gB 2 #[.slice A0_0 l0_0.length c0_0, .slice A0_1 l0_1.length c0_1, .slice A0_2 l0_2.length c0_2] 40 ?_; intro gb408 hg w9 BK408 hb; have GW408 := bG HB hg; replace HB := bS HB hb; clear hb hg) | (refine gB 3 #[.slice A1_0 l1_0.length c1_0, .slice A1_1 l1_1.length c1_1, .slice A1_2 l1_2.length c1_2] 40 ?_; intro gb409 hg w10 BK409 hb; have GW409 := bG HB hg; replace HB := bS HB hb; obtain ⟨NB408_409, NB409_408⟩ := bN BK408 hg; replace BK408 := bB BK408 hb; clear hb hg; obtain ⟨hnb11, hnc11⟩ := nB NB408_409; obtain ⟨hcz12_0, hcz12_1, hcz12_2, hfz12_0, hfz12_1, hfz12_2⟩ := bK3 (w := w10) BK408; obtain ⟨hcz13_0, hcz13_1, hcz13_2, hfz13_0, hfz13_1, hfz13_2⟩ := bK3 (w := w10) BK409) | (refine gC (some 9) Try.func18 #[.slice A0_0 l0_0.length c0_0, .slice A1_0 l1_0.length c1_0] ?_; (with_reducible refine (laws_eqIntS.calls k _ _ l0_0 _ _ l1_0 true _ ?side1 ?side2 ?side3 ?side4 A3.out).mono ?_); (case side1 => exact cP (Kd.C_below HR0_0.out HB.out)); (case side2 => exact HC0_0.out); (case side3 => exact cP (Kd.C_below HR1_0.out HB.out)); (case side4 => exact HC1_0.out); rintro e w' ⟨rfl, ⟨nd, rfl⟩⟩; refine ⟨_, rfl, ?_⟩) | (refine gC (some 15) Try.func18 #[.slice A0_1 l0_1.length c0_1, .slice A1_1 l1_1.length c1_1] ?_; (with_reducible refine (laws_eqIntS.calls k _ _ l0_1 _ _ l1_1 true _ ?side1 ?side2 ?side3 ?side4 A5.out).mono ?_); (case side1 => exact cP (Kd.C_below HR0_1.out (bZ HB))); (case side2 => exact HC0_1.out); (case side3 => exact cP (Kd.C_below HR1_1.out (bZ HB))); (case side4 => exact HC1_1.out); rintro e w' ⟨rfl, ⟨nd, rfl⟩⟩; refine ⟨_, rfl, ?_⟩) | (refine gC (some 21) Try.func18 #[.slice A0_2 l0_2.length c0_2, .slice A1_2 l1_2.length c1_2] ?_; (with_reducible refine (laws_eqIntS.calls k _ _ l0_2 _ _ l1_2 true _ ?side1 ?side2 ?side3 ?side4 A7.out).mono ?_); (case side1 => exact cP (Kd.C_below HR0_2.out (bZ HB))); (case side2 => exact HC0_2.out); (case side3 => exact cP (Kd.C_below HR1_2.out (bZ HB))); (case side4 => exact HC1_2.out); rintro e w' ⟨rfl, ⟨nd, rfl⟩⟩; refine ⟨_, rfl, ?_⟩))
    go_ret
    exact ⟨rR, bZ HB⟩
   ·replace c8 := Bool.eq_false_iff.mpr c8
    subst c8
    rw [if_neg (show ¬ (false = true) by decide)] at H
    obtain rfl := Option.some.inj H
    go_enter Try.func97, Try.ntmps97
    go_wp2_with (first | (refine gB 2 #[.slice A0_0 l0_0.length c0_0, .slice A0_1 l0_1.length c0_1, .slice A0_2 l0_2.length c0_2] 40 ?_; intro gb408 hg w14 BK408 hb; have GW408 := bG HB hg; replace HB := bS HB hb; clear hb hg) | (refine gB 3 #[.slice A1_0 l1_0.length c1_0, .slice A1_1 l1_1.length c1_1, .slice A1_2 l1_2.length c1_2] 40 ?_; intro gb409 hg w15 BK409 hb; have GW409 := bG HB hg; replace HB := bS HB hb; obtain ⟨NB408_409, NB409_408⟩ := bN BK408 hg; replace BK408 := bB BK408 hb; clear hb hg; obtain ⟨hnb16, hnc16⟩ := nB NB408_409; obtain ⟨hcz17_0, hcz17_1, hcz17_2, hfz17_0, hfz17_1, hfz17_2⟩ := bK3 (w := w15) BK408; obtain ⟨hcz18_0, hcz18_1, hcz18_2, hfz18_0, hfz18_1, hfz18_2⟩ := bK3 (w := w15) BK409) | (refine gC (some 9) Try.func18 #[.slice A0_0 l0_0.length c0_0, .slice A1_0 l1_0.length c1_0] ?_; (with_reducible refine (laws_eqIntS.calls k _ _ l0_0 _ _ l1_0 true _ ?side1 ?side2 ?side3 ?side4 A3.out).mono ?_); (case side1 => exact cP (Kd.C_below HR0_0.out HB.out)); (case side2 => exact HC0_0.out); (case side3 => exact cP (Kd.C_below HR1_0.out HB.out)); (case side4 => exact HC1_0.out); rintro e w' ⟨rfl, ⟨nd, rfl⟩⟩; refine ⟨_, rfl, ?_⟩) | (refine gC (some 15) Try.func18 #[.slice A0_1 l0_1.length c0_1, .slice A1_1 l1_1.length c1_1] ?_; (with_reducible refine (laws_eqIntS.calls k _ _ l0_1 _ _ l1_1 true _ ?side1 ?side2 ?side3 ?side4 A5.out).mono ?_); (case side1 => exact cP (Kd.C_below HR0_1.out (bZ HB))); (case side2 => exact HC0_1.out); (case side3 => exact cP (Kd.C_below HR1_1.out (bZ HB))); (case side4 => exact HC1_1.out); rintro e w' ⟨rfl, ⟨nd, rfl⟩⟩; refine ⟨_, rfl, ?_⟩) | (refine gC (some 21) Try.func18 #[.slice A0_2 l0_2.length c0_2, .slice A1_2 l1_2.length c1_2] ?_; (with_reducible refine (laws_eqIntS.calls k _ _ l0_2 _ _ l1_2 false _ ?side1 ?side2 ?side3 ?side4 A7.out).mono ?_); (case side1 => exact cP (Kd.C_below HR0_2.out (bZ HB))); (case side2 => exact HC0_2.out); (case side3 => exact cP (Kd.C_below HR1_2.out (bZ HB))); (case side4 => exact HC1_2.out); rintro e w' ⟨rfl, ⟨nd, rfl⟩⟩; refine ⟨_, rfl, ?_⟩))
    go_ret
    exact ⟨rR, bZ HB⟩
  ·replace c6 := Bool.eq_false_iff.mpr c6
   subst c6
   rw [if_neg (show ¬ (false = true) by decide)] at H
   obtain rfl := Option.some.inj H
   go_enter Try.func97, Try.ntmps97
   go_wp2_with (first | (refine gB 2 #[.slice A0_0 l0_0.length c0_0, .slice A0_1 l0_1.length c0_1, .slice A0_2 l0_2.length c0_2] 40 ?_; intro gb408 hg w19 BK408 hb; have GW408 := bG HB hg; replace HB := bS HB hb; clear hb hg) | (refine gB 3 #[.slice A1_0 l1_0.length c1_0, .slice A1_1 l1_1.length c1_1, .slice A1_2 l1_2.length c1_2] 40 ?_; intro gb409 hg w20 BK409 hb; have GW409 := bG HB hg; replace HB := bS HB hb; obtain ⟨NB408_409, NB409_408⟩ := bN BK408 hg; replace BK408 := bB BK408 hb; clear hb hg; obtain ⟨hnb21, hnc21⟩ := nB NB408_409; obtain ⟨hcz22_0, hcz22_1, hcz22_2, hfz22_0, hfz22_1, hfz22_2⟩ := bK3 (w := w20) BK408; obtain ⟨hcz23_0, hcz23_1, hcz23_2, hfz23_0, hfz23_1, hfz23_2⟩ := bK3 (w := w20) BK409) | (refine gC (some 9) Try.func18 #[.slice A0_0 l0_0.length c0_0, .slice A1_0 l1_0.length c1_0] ?_; (with_reducible refine (laws_eqIntS.calls k _ _ l0_0 _ _ l1_0 true _ ?side1 ?side2 ?side3 ?side4 A3.out).mono ?_); (case side1 => exact cP (Kd.C_below HR0_0.out HB.out)); (case side2 => exact HC0_0.out); (case side3 => exact cP (Kd.C_below HR1_0.out HB.out)); (case side4 => exact HC1_0.out); rintro e w' ⟨rfl, ⟨nd, rfl⟩⟩; refine ⟨_, rfl, ?_⟩) | (refine gC (some 15) Try.func18 #[.slice A0_1 l0_1.length c0_1, .slice A1_1 l1_1.length c1_1] ?_; (with_reducible refine (laws_eqIntS.calls k _ _ l0_1 _ _ l1_1 false _ ?side1 ?side2 ?side3 ?side4 A5.out).mono ?_); (case side1 => exact cP (Kd.C_below HR0_1.out (bZ HB))); (case side2 => exact HC0_1.out); (case side3 => exact cP (Kd.C_below HR1_1.out (bZ HB))); (case side4 => exact HC1_1.out); rintro e w' ⟨rfl, ⟨nd, rfl⟩⟩; refine ⟨_, rfl, ?_⟩))
   go_ret
   exact ⟨rR, bZ HB⟩
 ·replace c4 := Bool.eq_false_iff.mpr c4
  subst c4
  rw [if_neg (show ¬ (false = true) by decide)] at H
  obtain rfl := Option.some.inj H
  go_enter Try.func97, Try.ntmps97
  go_wp2_with (first | (refine gB 2 #[.slice A0_0 l0_0.length c0_0, .slice A0_1 l0_1.length c0_1, .slice A0_2 l0_2.length c0_2] 40 ?_; intro gb408 hg w24 BK408 hb; have GW408 := bG HB hg; replace HB := bS HB hb; clear hb hg) | (refine gB 3 #[.slice A1_0 l1_0.length c1_0, .slice A1_1 l1_1.length c1_1, .slice A1_2 l1_2.length c1_2] 40 ?_; intro gb409 hg w25 BK409 hb; have GW409 := bG HB hg; replace HB := bS HB hb; obtain ⟨NB408_409, NB409_408⟩ := bN BK408 hg; replace BK408 := bB BK408 hb; clear hb hg; obtain ⟨hnb26, hnc26⟩ := nB NB408_409; obtain ⟨hcz27_0, hcz27_1, hcz27_2, hfz27_0, hfz27_1, hfz27_2⟩ := bK3 (w := w25) BK408; obtain ⟨hcz28_0, hcz28_1, hcz28_2, hfz28_0, hfz28_1, hfz28_2⟩ := bK3 (w := w25) BK409) | (refine gC (some 9) Try.func18 #[.slice A0_0 l0_0.length c0_0, .slice A1_0 l1_0.length c1_0] ?_; (with_reducible refine (laws_eqIntS.calls k _ _ l0_0 _ _ l1_0 false _ ?side1 ?side2 ?side3 ?side4 A3.out).mono ?_); (case side1 => exact cP (Kd.C_below HR0_0.out HB.out)); (case side2 => exact HC0_0.out); (case side3 => exact cP (Kd.C_below HR1_0.out HB.out)); (case side4 => exact HC1_0.out); rintro e w' ⟨rfl, ⟨nd, rfl⟩⟩; refine ⟨_, rfl, ?_⟩))
  go_ret
  exact ⟨rR, bZ HB⟩
/-! ### laws_eqRowS: function 84 -/
def laws_eqRowS.l0 : Nat → List (S40) → List (S40) → Int → Option (Bool)
 | 0, _, _, _ => none
 | k + 1, x0, x1, x5 => if x5 < (x0.length : Int) then (if 0 ≤ x5 then (if x5 < (x1.length : Int) then ((laws_eqRow.f k ((rd_T40 x0 x5).f0) ((rd_T40 x0 x5).f1) ((rd_T40 x0 x5).f2) ((rd_T40 x1 x5).f0) ((rd_T40 x1 x5).f1) ((rd_T40 x1 x5).f2)).bind fun t415 => (if t415 = true then (laws_eqRowS.l0 k x0 x1 (wrap64 (x5 + 1))) else (some false))) else (none)) else (none)) else (some true)
def laws_eqRowS.f (k : Nat) (l0 : List (S40)) (l1 : List (S40)) : Option (Bool) := if (l0.length : Int) = (l1.length : Int) then (laws_eqRowS.l0 k l0 l1 0) else (some false)
theorem laws_eqRowS.mono_l : ∀ k, (∀ y0 y1 y2, LeO (laws_eqRowS.l0 k y0 y1 y2) (laws_eqRowS.l0 (k + 1) y0 y1 y2))
 | 0 => fun _ _ _ r h => by simp [laws_eqRowS.l0] at h
 | k + 1 => by
  have ih0 := laws_eqRowS.mono_l k
  ·intro y0 y1 y2
   unfold laws_eqRowS.l0
   with_reducible repeat' first | exact ih0 _ _ _ | exact laws_eqRow.mono _ _ _ _ _ _ _ | exact LeO.refl _ | exact LeO.none _ | refine LeO.ite ?_ ?_ | refine LeO.bind ?_ (fun _ => ?_)
theorem laws_eqRowS.mono : ∀ a0 a1 k, LeO (laws_eqRowS.f k a0 a1) (laws_eqRowS.f (k + 1) a0 a1) := by
 intro a0 a1 k
 have ih0 := laws_eqRowS.mono_l k
 unfold laws_eqRowS.f
 with_reducible repeat' first | exact ih0 _ _ _ | exact laws_eqRow.mono _ _ _ _ _ _ _ | exact LeO.refl _ | exact LeO.none _ | refine LeO.ite ?_ ?_ | refine LeO.bind ?_ (fun _ => ?_)
def laws_eqRowS.T6 : Bool × List (List Nat × List Nat) := (true, [([], []), ([], []), ([0, 1], [0, 1]), ([2], [2]), ([], []), ([], []), ([4, 5], [4, 5]), ([6], [6]), ([3, 7], [3, 7]), ([8], [8])])
def laws_eqRowS.B6 : List Nat := [0, 0, 3, 7, 0, 0, 48, 112, 255, 511]
theorem laws_eqRowS.tab6 : rtab .any (opsOf Try.f84 6) = laws_eqRowS.T6 := by kernel_rfl
theorem laws_eqRowS.bits6 : waitsOk laws_eqRowS.T6.2 laws_eqRowS.B6 = true := by kernel_rfl
set_option maxHeartbeats 8000000 in
set_option maxRecDepth 100000 in
theorem laws_eqRowS.calls (k : Nat) (A0 : Option Addr) (c0 : Nat) (l0 : List (S40)) (A1 : Option Addr) (c1 : Nat) (l1 : List (S40)) (r : Bool) (w : World) (hr0 : Kd.C k40 w A0 l0.length l0) (hc0 : l0.length ≤ c0) (hr1 : Kd.C k40 w A1 l1.length l1) (hc1 : l1.length ≤ c1) (h : laws_eqRowS.f k l0 l1 = some r) :
  Calls Try.prog 84 #[.slice A0 l0.length c0, .slice A1 l1.length c1] w fun e w' => e = .returned (.bool r) ∧ Below w.heap.size w w' := by
 have hu40 := Try.underlying40
 have HR0 := Aside0.mk hr0
 have HC0 := Aside0.mk hc0
 clear hr0 hc0
 have HR1 := Aside0.mk hr1
 have HC1 := Aside0.mk hc1
 clear hr1 hc1
 have HB := Aside0.mk (Below.refl w.heap.size w)
 have H : (if (l0.length : Int) = (l1.length : Int) then (laws_eqRowS.l0 k l0 l1 0) else (some false)) = some r := h
 clear h
 by_cases c3 : (l0.length : Int) = (l1.length : Int)
 ·rw [if_pos c3] at H
  have c3b0 : ((l0.length : Int) == (l1.length : Int)) = true := beq_iff_eq.mpr c3
  have c3b1 : ((l0.length : Int) != (l1.length : Int)) = false := bne_eq_false_iff_eq.mpr c3
  have c3b2 : (l0.length == l1.length) = true := by first | simpa using c3 | (simp at c3 ⊢; omega)
  clear c3
  have H' := Aside0.mk H
  clear H
  go_enter Try.func84, Try.ntmps84
  go_wp2
  go_loopg [5] k (fun kq v5 w' => ∃ (x5_1 : Int), v5 = .int .i64 x5_1 ∧ Aside0 (laws_eqRowS.l0 kq l0 l1 x5_1 = some r) ∧ Aside0 (kq ≤ k) ∧ Aside0 (Below w.heap.size w w'))
  case atStart => exact ⟨(0), rS, H', ⟨Nat.le_refl _⟩, ⟨bZ HB⟩⟩
  case round =>
   clear H'
   try clear c1
   try clear p2
   try clear c3
   try clear c3b0
   try clear c3b1
   try clear c3b2
   obtain ⟨x5_1, rfl, HA, HK1, HB⟩ := hrel
   cases gk with
   | zero => exact absurd HA.out (by simp [laws_eqRowS.l0])
   | succ k1 =>
    have H := HA.out
    clear HA
    simp only [laws_eqRowS.l0] at H
    by_cases c4 : x5_1 < (l0.length : Int)
    ·rw [if_pos c4] at H
     have c4b0 := decide_eq_true c4
     clear c4
     by_cases c5 : 0 ≤ x5_1
     ·rw [if_pos c5] at H
      have c5b0 := decide_eq_true c5
      clear c5
      by_cases c6 : x5_1 < (l1.length : Int)
      ·rw [if_pos c6] at H
       have c6b0 := decide_eq_true c6
       clear c6
       replace H := Option.bind_eq_some_iff.mp H
       obtain ⟨t415, A70, H⟩ := H
       have A7 := Aside0.mk A70
       clear A70
       by_cases c8 : t415 = true
       ·subst c8
        rw [if_pos rfl] at H
        have H' := Aside0.mk H
        clear H
        try go_wp2
        replace HB := Aside0.mk (below_drew1 HB.out)
        have p413 : 0 ≤ (x5_1 : Int) := of_decide_eq_true (by first | (with_reducible assumption) | assumption)
        have q413 : x5_1 < (l0.length : Int) := of_decide_eq_true (by first | (with_reducible assumption) | assumption)
        obtain ⟨ad413, A413_0, c413_0, A413_1, c413_1, A413_2, c413_2, e413, hx413_0, hx413_1, hx413_2, hl413_0, hi413_0, hl413_1, hi413_1, hl413_2, hi413_2⟩ := at_T40 HR0.out x5_1 p413 q413
        have hw413_2 := hx413_2
        have hw413_1 := hx413_1
        have hw413_0 := hx413_0
        cases e413
        replace hx413_0 := (hC HB hx413_0 :)
        replace hx413_1 := (hC HB hx413_1 :)
        replace hx413_2 := (hC HB hx413_2 :)
        have HR413_0 := Aside0.mk hi413_0
        have HC413_0 := Aside0.mk hl413_0
        clear hi413_0 hl413_0
        have HR413_1 := Aside0.mk hi413_1
        have HC413_1 := Aside0.mk hl413_1
        clear hi413_1 hl413_1
        have HR413_2 := Aside0.mk hi413_2
        have HC413_2 := Aside0.mk hl413_2
        clear hi413_2 hl413_2
        replace p413 := eq_true p413
        replace q413 := eq_true q413
        have p414 : 0 ≤ (x5_1 : Int) := of_decide_eq_true (by first | (with_reducible assumption) | assumption)
        have q414 : x5_1 < (l1.length : Int) := of_decide_eq_true (by first | (with_reducible assumption) | assumption)
        obtain ⟨ad414, A414_0, c414_0, A414_1, c414_1, A414_2, c414_2, e414, hx414_0, hx414_1, hx414_2, hl414_0, hi414_0, hl414_1, hi414_1, hl414_2, hi414_2⟩ := at_T40 HR1.out x5_1 p414 q414
        have hw414_2 := hx414_2
        have hw414_1 := hx414_1
        have hw414_0 := hx414_0
        cases e414
        replace hx414_0 := (hC HB hx414_0 :)
        replace hx414_1 := (hC HB hx414_1 :)
        replace hx414_2 := (hC HB hx414_2 :)
        have HR414_0 := Aside0.mk hi414_0
        have HC414_0 := Aside0.mk hl414_0
        clear hi414_0 hl414_0
        have HR414_1 := Aside0.mk hi414_1
        have HC414_1 := Aside0.mk hl414_1
        clear hi414_1 hl414_1
        have HR414_2 := Aside0.mk hi414_2
        have HC414_2 := Aside0.mk hl414_2
        clear hi414_2 hl414_2
        replace p414 := eq_true p414
        replace q414 := eq_true q414
        refine start_ (n := 10) (S := fun w' => w'.cell? (ad413.add ((x5_1).toNat * 3)) = some (.slice A413_0 ((rd_T40 l0 x5_1).f0).length c413_0) ∧ w'.cell? ⟨(ad413.add ((x5_1).toNat * 3)).block, (ad413.add ((x5_1).toNat * 3)).off + 1, none⟩ = some (.slice A413_1 ((rd_T40 l0 x5_1).f1).length c413_1) ∧ w'.cell? ⟨(ad413.add ((x5_1).toNat * 3)).block, (ad413.add ((x5_1).toNat * 3)).off + 2, none⟩ = some (.slice A413_2 ((rd_T40 l0 x5_1).f2).length c413_2) ∧ w'.cell? (ad414.add ((x5_1).toNat * 3)) = some (.slice A414_0 ((rd_T40 l1 x5_1).f0).length c414_0) ∧ w'.cell? ⟨(ad414.add ((x5_1).toNat * 3)).block, (ad414.add ((x5_1).toNat * 3)).off + 1, none⟩ = some (.slice A414_1 ((rd_T40 l1 x5_1).f1).length c414_1) ∧ w'.cell? ⟨(ad414.add ((x5_1).toNat * 3)).block, (ad414.add ((x5_1).toNat * 3)).off + 2, none⟩ = some (.slice A414_2 ((rd_T40 l1 x5_1).f2).length c414_2)) (ds := []) #[false, false, false, false, false, false, false, false, false, false] (by kernel_rfl) rfl rfl ⟨((hC HB hw413_0 :)), ((hC HB hw413_1 :)), ((hC HB hw413_2 :)), ((hC HB hw414_0 :)), ((hC HB hw414_1 :)), ((hC HB hw414_2 :))⟩ (fun hHeld => ?_); refine with_tabW laws_eqRowS.tab6 laws_eqRowS.bits6 (fun HT_ HW_ => ?_)
        generalize wr.drew = w9 at HB HR413_0 HR413_1 HR413_2 HR414_0 HR414_1 HR414_2 hx413_0 hx413_1 hx413_2 hx414_0 hx414_1 hx414_2 hHeld ⊢
        refine pI 0 (some 17) HT_.out ?_
        refine pI 1 (some 18) HT_.out ?_
        refine pI 2 (some 19) HT_.out ?_
        refine pI 4 (some 21) HT_.out ?_
        refine pI 5 (some 22) HT_.out ?_
        refine pI 6 (some 23) HT_.out ?_
        refine tI6 3 (some 20) HT_.out HW_.out hHeld ?_
        refine tI6 7 (some 24) HT_.out HW_.out hHeld ?_
        refine oI 8 (some 25) HT_.out (fun K hK => ?_)
        refine gO Try.func97 #[.agg #[.slice A413_0 ((rd_T40 l0 x5_1).f0).length c413_0, .slice A413_1 ((rd_T40 l0 x5_1).f1).length c413_1, .slice A413_2 ((rd_T40 l0 x5_1).f2).length c413_2], .agg #[.slice A414_0 ((rd_T40 l1 x5_1).f0).length c414_0, .slice A414_1 ((rd_T40 l1 x5_1).f1).length c414_1, .slice A414_2 ((rd_T40 l1 x5_1).f2).length c414_2]] ?_
        with_reducible refine (laws_eqRow.calls k1 _ _ ((rd_T40 l0 x5_1).f0) _ _ ((rd_T40 l0 x5_1).f1) _ _ ((rd_T40 l0 x5_1).f2) _ _ ((rd_T40 l1 x5_1).f0) _ _ ((rd_T40 l1 x5_1).f1) _ _ ((rd_T40 l1 x5_1).f2) true _ ?side1 ?side2 ?side3 ?side4 ?side5 ?side6 ?side7 ?side8 ?side9 ?side10 ?side11 ?side12 A7.out).mono ?_
        (case side1 => exact cP (Kd.C_below HR413_0.out HB.out))
        (case side2 => exact HC413_0.out)
        (case side3 => exact cP (Kd.C_below HR413_1.out HB.out))
        (case side4 => exact HC413_1.out)
        (case side5 => exact cP (Kd.C_below HR413_2.out HB.out))
        (case side6 => exact HC413_2.out)
        (case side7 => exact cP (Kd.C_below HR414_0.out HB.out))
        (case side8 => exact HC414_0.out)
        (case side9 => exact cP (Kd.C_below HR414_1.out HB.out))
        (case side10 => exact HC414_1.out)
        (case side11 => exact cP (Kd.C_below HR414_2.out HB.out))
        (case side12 => exact HC414_2.out)
        rintro e w10 ⟨rfl, hb⟩
        refine ⟨_, rfl, ?_⟩
        replace HB := bS HB hb
        (try clear hb)
        refine hK.out _ _ ⟨((hC HB hw413_0 :)), ((hC HB hw413_1 :)), ((hC HB hw413_2 :)), ((hC HB hw414_0 :)), ((hC HB hw414_1 :)), ((hC HB hw414_2 :))⟩ (fun hHeld => ?_)
        clear hK K
        refine nO (some 25) ?_
        refine pI 9 (some 26) HT_.out ?_
        refine done_ (done_of HT_.out (by kernel_rfl)) ?_
        try go_wp2
        go_roundg k1
        case measure => have := HK1.out; omega
        case rel => exact ⟨(wrap64 (x5_1 + 1)), rS, H', ⟨by have := HK1.out; omega⟩, ⟨bZ HB⟩⟩
       ·replace c8 := Bool.eq_false_iff.mpr c8
        subst c8
        rw [if_neg (show ¬ (false = true) by decide)] at H
        obtain rfl := Option.some.inj H
        try go_wp2
        replace HB := Aside0.mk (below_drew1 HB.out)
        have p413 : 0 ≤ (x5_1 : Int) := of_decide_eq_true (by first | (with_reducible assumption) | assumption)
        have q413 : x5_1 < (l0.length : Int) := of_decide_eq_true (by first | (with_reducible assumption) | assumption)
        obtain ⟨ad413, A413_0, c413_0, A413_1, c413_1, A413_2, c413_2, e413, hx413_0, hx413_1, hx413_2, hl413_0, hi413_0, hl413_1, hi413_1, hl413_2, hi413_2⟩ := at_T40 HR0.out x5_1 p413 q413
        have hw413_2 := hx413_2
        have hw413_1 := hx413_1
        have hw413_0 := hx413_0
        cases e413
        replace hx413_0 := (hC HB hx413_0 :)
        replace hx413_1 := (hC HB hx413_1 :)
        replace hx413_2 := (hC HB hx413_2 :)
        have HR413_0 := Aside0.mk hi413_0
        have HC413_0 := Aside0.mk hl413_0
        clear hi413_0 hl413_0
        have HR413_1 := Aside0.mk hi413_1
        have HC413_1 := Aside0.mk hl413_1
        clear hi413_1 hl413_1
        have HR413_2 := Aside0.mk hi413_2
        have HC413_2 := Aside0.mk hl413_2
        clear hi413_2 hl413_2
        replace p413 := eq_true p413
        replace q413 := eq_true q413
        have p414 : 0 ≤ (x5_1 : Int) := of_decide_eq_true (by first | (with_reducible assumption) | assumption)
        have q414 : x5_1 < (l1.length : Int) := of_decide_eq_true (by first | (with_reducible assumption) | assumption)
        obtain ⟨ad414, A414_0, c414_0, A414_1, c414_1, A414_2, c414_2, e414, hx414_0, hx414_1, hx414_2, hl414_0, hi414_0, hl414_1, hi414_1, hl414_2, hi414_2⟩ := at_T40 HR1.out x5_1 p414 q414
        have hw414_2 := hx414_2
        have hw414_1 := hx414_1
        have hw414_0 := hx414_0
        cases e414
        replace hx414_0 := (hC HB hx414_0 :)
        replace hx414_1 := (hC HB hx414_1 :)
        replace hx414_2 := (hC HB hx414_2 :)
        have HR414_0 := Aside0.mk hi414_0
        have HC414_0 := Aside0.mk hl414_0
        clear hi414_0 hl414_0
        have HR414_1 := Aside0.mk hi414_1
        have HC414_1 := Aside0.mk hl414_1
        clear hi414_1 hl414_1
        have HR414_2 := Aside0.mk hi414_2
        have HC414_2 := Aside0.mk hl414_2
        clear hi414_2 hl414_2
        replace p414 := eq_true p414
        replace q414 := eq_true q414
        refine start_ (n := 10) (S := fun w' => w'.cell? (ad413.add ((x5_1).toNat * 3)) = some (.slice A413_0 ((rd_T40 l0 x5_1).f0).length c413_0) ∧ w'.cell? ⟨(ad413.add ((x5_1).toNat * 3)).block, (ad413.add ((x5_1).toNat * 3)).off + 1, none⟩ = some (.slice A413_1 ((rd_T40 l0 x5_1).f1).length c413_1) ∧ w'.cell? ⟨(ad413.add ((x5_1).toNat * 3)).block, (ad413.add ((x5_1).toNat * 3)).off + 2, none⟩ = some (.slice A413_2 ((rd_T40 l0 x5_1).f2).length c413_2) ∧ w'.cell? (ad414.add ((x5_1).toNat * 3)) = some (.slice A414_0 ((rd_T40 l1 x5_1).f0).length c414_0) ∧ w'.cell? ⟨(ad414.add ((x5_1).toNat * 3)).block, (ad414.add ((x5_1).toNat * 3)).off + 1, none⟩ = some (.slice A414_1 ((rd_T40 l1 x5_1).f1).length c414_1) ∧ w'.cell? ⟨(ad414.add ((x5_1).toNat * 3)).block, (ad414.add ((x5_1).toNat * 3)).off + 2, none⟩ = some (.slice A414_2 ((rd_T40 l1 x5_1).f2).length c414_2)) (ds := []) #[false, false, false, false, false, false, false, false, false, false] (by kernel_rfl) rfl rfl ⟨((hC HB hw413_0 :)), ((hC HB hw413_1 :)), ((hC HB hw413_2 :)), ((hC HB hw414_0 :)), ((hC HB hw414_1 :)), ((hC HB hw414_2 :))⟩ (fun hHeld => ?_); refine with_tabW laws_eqRowS.tab6 laws_eqRowS.bits6 (fun HT_ HW_ => ?_)
        generalize wr.drew = w11 at HB HR413_0 HR413_1 HR413_2 HR414_0 HR414_1 HR414_2 hx413_0 hx413_1 hx413_2 hx414_0 hx414_1 hx414_2 hHeld ⊢
        refine pI 0 (some 17) HT_.out ?_
        refine pI 1 (some 18) HT_.out ?_
        refine pI 2 (some 19) HT_.out ?_
        refine pI 4 (some 21) HT_.out ?_
        refine pI 5 (some 22) HT_.out ?_
        refine pI 6 (some 23) HT_.out ?_
        refine tI6 3 (some 20) HT_.out HW_.out hHeld ?_
        refine tI6 7 (some 24) HT_.out HW_.out hHeld ?_
        refine oI 8 (some 25) HT_.out (fun K hK => ?_)
        refine gO Try.func97 #[.agg #[.slice A413_0 ((rd_T40 l0 x5_1).f0).length c413_0, .slice A413_1 ((rd_T40 l0 x5_1).f1).length c413_1, .slice A413_2 ((rd_T40 l0 x5_1).f2).length c413_2], .agg #[.slice A414_0 ((rd_T40 l1 x5_1).f0).length c414_0, .slice A414_1 ((rd_T40 l1 x5_1).f1).length c414_1, .slice A414_2 ((rd_T40 l1 x5_1).f2).length c414_2]] ?_
        with_reducible refine (laws_eqRow.calls k1 _ _ ((rd_T40 l0 x5_1).f0) _ _ ((rd_T40 l0 x5_1).f1) _ _ ((rd_T40 l0 x5_1).f2) _ _ ((rd_T40 l1 x5_1).f0) _ _ ((rd_T40 l1 x5_1).f1) _ _ ((rd_T40 l1 x5_1).f2) false _ ?side1 ?side2 ?side3 ?side4 ?side5 ?side6 ?side7 ?side8 ?side9 ?side10 ?side11 ?side12 A7.out).mono ?_
        (case side1 => exact cP (Kd.C_below HR413_0.out HB.out))
        (case side2 => exact HC413_0.out)
        (case side3 => exact cP (Kd.C_below HR413_1.out HB.out))
        (case side4 => exact HC413_1.out)
        (case side5 => exact cP (Kd.C_below HR413_2.out HB.out))
        (case side6 => exact HC413_2.out)
        (case side7 => exact cP (Kd.C_below HR414_0.out HB.out))
        (case side8 => exact HC414_0.out)
        (case side9 => exact cP (Kd.C_below HR414_1.out HB.out))
        (case side10 => exact HC414_1.out)
        (case side11 => exact cP (Kd.C_below HR414_2.out HB.out))
        (case side12 => exact HC414_2.out)
        rintro e w12 ⟨rfl, hb⟩
        refine ⟨_, rfl, ?_⟩
        replace HB := bS HB hb
        (try clear hb)
        refine hK.out _ _ ⟨((hC HB hw413_0 :)), ((hC HB hw413_1 :)), ((hC HB hw413_2 :)), ((hC HB hw414_0 :)), ((hC HB hw414_1 :)), ((hC HB hw414_2 :))⟩ (fun hHeld => ?_)
        clear hK K
        refine nO (some 25) ?_
        refine pI 9 (some 26) HT_.out ?_
        refine done_ (done_of HT_.out (by kernel_rfl)) ?_
        try go_wp2
        go_ret
        exact ⟨rR, bZ HB⟩
      ·rw [if_neg c6] at H
       exact absurd H (by simp)
     ·rw [if_neg c5] at H
      exact absurd H (by simp)
    ·rw [if_neg c4] at H
     have c4b0 := decide_eq_false c4
     clear c4
     obtain rfl := Option.some.inj H
     go_wp2
     go_ret
     exact ⟨rR, bZ HB⟩
 ·rw [if_neg c3] at H
  have c3b0 : ((l0.length : Int) == (l1.length : Int)) = false := beq_eq_false_iff_ne.mpr c3
  have c3b1 : ((l0.length : Int) != (l1.length : Int)) = true := bne_iff_ne.mpr c3
  have c3b2 : (l0.length == l1.length) = false := by first | simpa using c3 | (simp at c3 ⊢; omega)
  obtain rfl := Option.some.inj H
  go_enter Try.func84, Try.ntmps84
  go_wp2
  go_ret
  exact ⟨rR, bZ HB⟩
/-! ### laws_eqSystem: function 59 -/
def laws_eqSystem.f (k : Nat) (a0_0 : Int) (a0_1 : Int) (l0_2 : List (S40)) (a1_0 : Int) (a1_1 : Int) (l1_2 : List (S40)) : Option (Bool) := if a0_0 = a1_0 then (if a0_1 = a1_1 then ((laws_eqRowS.f k l0_2 l1_2).bind fun t418 => (if t418 = true then (some true) else (some false))) else (some false)) else (some false)
theorem laws_eqSystem.mono : ∀ a0 a1 a2 a3 a4 a5 k, LeO (laws_eqSystem.f k a0 a1 a2 a3 a4 a5) (laws_eqSystem.f (k + 1) a0 a1 a2 a3 a4 a5) := by
 intro a0 a1 a2 a3 a4 a5 k
 unfold laws_eqSystem.f
 with_reducible repeat' first | exact laws_eqRowS.mono _ _ _ | exact LeO.refl _ | exact LeO.none _ | refine LeO.ite ?_ ?_ | refine LeO.bind ?_ (fun _ => ?_)
set_option maxHeartbeats 8000000 in
set_option maxRecDepth 100000 in
theorem laws_eqSystem.calls (k : Nat) (a0_0 : Int) (a0_1 : Int) (A0_2 : Option Addr) (c0_2 : Nat) (l0_2 : List (S40)) (a1_0 : Int) (a1_1 : Int) (A1_2 : Option Addr) (c1_2 : Nat) (l1_2 : List (S40)) (r : Bool) (w : World) (hr0_2 : Kd.C k40 w A0_2 l0_2.length l0_2) (hc0_2 : l0_2.length ≤ c0_2) (hr1_2 : Kd.C k40 w A1_2 l1_2.length l1_2) (hc1_2 : l1_2.length ≤ c1_2) (h : laws_eqSystem.f k a0_0 a0_1 l0_2 a1_0 a1_1 l1_2 = some r) :
  Calls Try.prog 59 #[.agg #[.int .i64 a0_0, .int .i64 a0_1, .slice A0_2 l0_2.length c0_2], .agg #[.int .i64 a1_0, .int .i64 a1_1, .slice A1_2 l1_2.length c1_2]] w fun e w' => e = .returned (.bool r) ∧ Below w.heap.size w w' := by
 have hu32 := Try.underlying32
 have HR0_2 := Aside0.mk hr0_2
 have HC0_2 := Aside0.mk hc0_2
 clear hr0_2 hc0_2
 have HR1_2 := Aside0.mk hr1_2
 have HC1_2 := Aside0.mk hc1_2
 clear hr1_2 hc1_2
 have HB := Aside0.mk (Below.refl w.heap.size w)
 have H : (if a0_0 = a1_0 then (if a0_1 = a1_1 then ((laws_eqRowS.f k l0_2 l1_2).bind fun t418 => (if t418 = true then (some true) else (some false))) else (some false)) else (some false)) = some r := h
 clear h
 by_cases c3 : a0_0 = a1_0
 ·rw [if_pos c3] at H
  have c3b0 : (a0_0 == a1_0) = true := beq_iff_eq.mpr c3
  have c3b1 : (a0_0 != a1_0) = false := bne_eq_false_iff_eq.mpr c3
  clear c3
  by_cases c4 : a0_1 = a1_1
  ·rw [if_pos c4] at H
   have c4b0 : (a0_1 == a1_1) = true := beq_iff_eq.mpr c4
   have c4b1 : (a0_1 != a1_1) = false := bne_eq_false_iff_eq.mpr c4
   clear c4
   replace H := Option.bind_eq_some_iff.mp H
   obtain ⟨t418, A50, H⟩ := H
   have A5 := Aside0.mk A50
   clear A50
   by_cases c6 : t418 = true
   ·subst c6
    rw [if_pos rfl] at H
    obtain rfl := Option.some.inj H
    go_enter Try.func59, Try.ntmps59
    go_wp2_with (first | (refine gB 2 #[.int .i64 a0_0, .int .i64 a0_1, .slice A0_2 l0_2.length c0_2] 32 ?_; intro gb416 hg w7 BK416 hb; have GW416 := bG HB hg; replace HB := bS HB hb; clear hb hg) | (refine gB 3 #[.int .i64 a1_0, .int .i64 a1_1, .slice A1_2 l1_2.length c1_2] 32 ?_; intro gb417 hg w8 BK417 hb; have GW417 := bG HB hg; replace HB := bS HB hb; obtain ⟨NB416_417, NB417_416⟩ := bN BK416 hg; replace BK416 := bB BK416 hb; clear hb hg; obtain ⟨hnb9, hnc9⟩ := nB NB416_417; obtain ⟨hcz10_0, hcz10_1, hcz10_2, hfz10_0, hfz10_1, hfz10_2⟩ := bK3 (w := w8) BK416; obtain ⟨hcz11_0, hcz11_1, hcz11_2, hfz11_0, hfz11_1, hfz11_2⟩ := bK3 (w := w8) BK417) | (refine gC (some 19) Try.func84 #[.slice A0_2 l0_2.length c0_2, .slice A1_2 l1_2.length c1_2] ?_; (with_reducible refine (laws_eqRowS.calls k _ _ l0_2 _ _ l1_2 true _ ?side1 ?side2 ?side3 ?side4 A5.out).mono ?_); (case side1 => exact cP (Kd.C_below HR0_2.out HB.out)); (case side2 => exact HC0_2.out); (case side3 => exact cP (Kd.C_below HR1_2.out HB.out)); (case side4 => exact HC1_2.out); rintro e w12 ⟨rfl, hb⟩; refine ⟨_, rfl, ?_⟩; replace BK416 := bB BK416 hb; replace BK417 := bB BK417 hb; replace HB := bS HB hb; (try clear hb)))
    go_ret
    exact ⟨rR, bZ HB⟩
   ·replace c6 := Bool.eq_false_iff.mpr c6
    subst c6
    rw [if_neg (show ¬ (false = true) by decide)] at H
    obtain rfl := Option.some.inj H
    go_enter Try.func59, Try.ntmps59
    go_wp2_with (first | (refine gB 2 #[.int .i64 a0_0, .int .i64 a0_1, .slice A0_2 l0_2.length c0_2] 32 ?_; intro gb416 hg w13 BK416 hb; have GW416 := bG HB hg; replace HB := bS HB hb; clear hb hg) | (refine gB 3 #[.int .i64 a1_0, .int .i64 a1_1, .slice A1_2 l1_2.length c1_2] 32 ?_; intro gb417 hg w14 BK417 hb; have GW417 := bG HB hg; replace HB := bS HB hb; obtain ⟨NB416_417, NB417_416⟩ := bN BK416 hg; replace BK416 := bB BK416 hb; clear hb hg; obtain ⟨hnb15, hnc15⟩ := nB NB416_417; obtain ⟨hcz16_0, hcz16_1, hcz16_2, hfz16_0, hfz16_1, hfz16_2⟩ := bK3 (w := w14) BK416; obtain ⟨hcz17_0, hcz17_1, hcz17_2, hfz17_0, hfz17_1, hfz17_2⟩ := bK3 (w := w14) BK417) | (refine gC (some 19) Try.func84 #[.slice A0_2 l0_2.length c0_2, .slice A1_2 l1_2.length c1_2] ?_; (with_reducible refine (laws_eqRowS.calls k _ _ l0_2 _ _ l1_2 false _ ?side1 ?side2 ?side3 ?side4 A5.out).mono ?_); (case side1 => exact cP (Kd.C_below HR0_2.out HB.out)); (case side2 => exact HC0_2.out); (case side3 => exact cP (Kd.C_below HR1_2.out HB.out)); (case side4 => exact HC1_2.out); rintro e w18 ⟨rfl, hb⟩; refine ⟨_, rfl, ?_⟩; replace BK416 := bB BK416 hb; replace BK417 := bB BK417 hb; replace HB := bS HB hb; (try clear hb)))
    go_ret
    exact ⟨rR, bZ HB⟩
  ·rw [if_neg c4] at H
   have c4b0 : (a0_1 == a1_1) = false := beq_eq_false_iff_ne.mpr c4
   have c4b1 : (a0_1 != a1_1) = true := bne_iff_ne.mpr c4
   obtain rfl := Option.some.inj H
   go_enter Try.func59, Try.ntmps59
   go_wp2_with (first | (refine gB 2 #[.int .i64 a0_0, .int .i64 a0_1, .slice A0_2 l0_2.length c0_2] 32 ?_; intro gb416 hg w19 BK416 hb; have GW416 := bG HB hg; replace HB := bS HB hb; clear hb hg) | (refine gB 3 #[.int .i64 a1_0, .int .i64 a1_1, .slice A1_2 l1_2.length c1_2] 32 ?_; intro gb417 hg w20 BK417 hb; have GW417 := bG HB hg; replace HB := bS HB hb; obtain ⟨NB416_417, NB417_416⟩ := bN BK416 hg; replace BK416 := bB BK416 hb; clear hb hg; obtain ⟨hnb21, hnc21⟩ := nB NB416_417; obtain ⟨hcz22_0, hcz22_1, hcz22_2, hfz22_0, hfz22_1, hfz22_2⟩ := bK3 (w := w20) BK416; obtain ⟨hcz23_0, hcz23_1, hcz23_2, hfz23_0, hfz23_1, hfz23_2⟩ := bK3 (w := w20) BK417))
   go_ret
   exact ⟨rR, bZ HB⟩
 ·rw [if_neg c3] at H
  have c3b0 : (a0_0 == a1_0) = false := beq_eq_false_iff_ne.mpr c3
  have c3b1 : (a0_0 != a1_0) = true := bne_iff_ne.mpr c3
  obtain rfl := Option.some.inj H
  go_enter Try.func59, Try.ntmps59
  go_wp2_with (first | (refine gB 2 #[.int .i64 a0_0, .int .i64 a0_1, .slice A0_2 l0_2.length c0_2] 32 ?_; intro gb416 hg w24 BK416 hb; have GW416 := bG HB hg; replace HB := bS HB hb; clear hb hg) | (refine gB 3 #[.int .i64 a1_0, .int .i64 a1_1, .slice A1_2 l1_2.length c1_2] 32 ?_; intro gb417 hg w25 BK417 hb; have GW417 := bG HB hg; replace HB := bS HB hb; obtain ⟨NB416_417, NB417_416⟩ := bN BK416 hg; replace BK416 := bB BK416 hb; clear hb hg; obtain ⟨hnb26, hnc26⟩ := nB NB416_417; obtain ⟨hcz27_0, hcz27_1, hcz27_2, hfz27_0, hfz27_1, hfz27_2⟩ := bK3 (w := w25) BK416; obtain ⟨hcz28_0, hcz28_1, hcz28_2, hfz28_0, hfz28_1, hfz28_2⟩ := bK3 (w := w25) BK417))
  go_ret
  exact ⟨rR, bZ HB⟩
/-! ### laws_markIntS: function 21 -/
def laws_markIntS.l0 : Nat → List Int → Int → Int → Option (Int × List Int)
 | 0, _, _, _ => none
 | k + 1, x0, x1, x5 => if x5 < (x0.length : Int) then (if 0 ≤ x5 then (laws_markIntS.l0 k (x0.set (x5 : Int).toNat x1) (wrap64 (x1 + 1)) (wrap64 (x5 + 1))) else (none)) else (some (x1, x0))
def laws_markIntS.f (k : Nat) (l0 : List Int) (a1 : Int) : Option (Int × List Int) := laws_markIntS.l0 k l0 a1 0
theorem laws_markIntS.mono_l : ∀ k, (∀ y0 y1 y2, LeO (laws_markIntS.l0 k y0 y1 y2) (laws_markIntS.l0 (k + 1) y0 y1 y2))
 | 0 => fun _ _ _ r h => by simp [laws_markIntS.l0] at h
 | k + 1 => by
  have ih0 := laws_markIntS.mono_l k
  ·intro y0 y1 y2
   unfold laws_markIntS.l0
   with_reducible repeat' first | exact ih0 _ _ _ | exact LeO.refl _ | exact LeO.none _ | refine LeO.ite ?_ ?_ | refine LeO.bind ?_ (fun _ => ?_)
theorem laws_markIntS.mono : ∀ a0 a1 k, LeO (laws_markIntS.f k a0 a1) (laws_markIntS.f (k + 1) a0 a1) := by
 intro a0 a1 k
 have ih0 := laws_markIntS.mono_l k
 unfold laws_markIntS.f
 with_reducible repeat' first | exact ih0 _ _ _ | exact LeO.refl _ | exact LeO.none _ | refine LeO.ite ?_ ?_ | refine LeO.bind ?_ (fun _ => ?_)
set_option maxHeartbeats 8000000 in
set_option maxRecDepth 100000 in
theorem laws_markIntS.calls (k : Nat) (P0_ : Nat → Prop) (u9000_ : Value) (l0 : List Int) (a1 : Int) (r1 : Int) (r2 : List Int) (w0 w : World) (hB : Below w0.heap.size w0 w) (ho0 : Kd.R (Kd.int .i64) 3 w w0.heap.size P0_ u9000_ l0) (h : laws_markIntS.f k l0 a1 = some (r1, r2)) :
  Calls Try.prog 21 #[u9000_, .int .i64 a1] w fun e w' => e = .returned (.int .i64 r1) ∧ Kd.R (Kd.int .i64) 3 w' w0.heap.size (fun k_ => (P0_ k_ ∨ w.heap.size ≤ k_)) u9000_ r2 ∧ Below w0.heap.size w0 w' ∧ Kept w w' (fun k_ => P0_ k_) := by
 have HO0 := Aside0.mk (show Kd.R (Kd.int .i64) 3 w w0.heap.size (fun k_ => (P0_ k_ ∨ w.heap.size ≤ k_)) u9000_ l0 from Kd.R_mono ho0 (fun k_ hk => (.inl hk)))
 have HK := Aside0.mk (Kept.refl w (fun k_ => P0_ k_))
 have HW0 := Aside0.mk hB.size
 have HB := Aside0.mk hB
 clear hB
 have H : (laws_markIntS.l0 k l0 a1 0) = some (r1, r2) := h
 clear h
 have H' := Aside0.mk H
 clear H
 go_enter Try.func21, Try.ntmps21
 go_wp2
 go_loopg [1, 5] k (fun kq v1 v5 w' => ∃ (x0_1 : List Int) (x1_1 : Int) (x5_1 : Int), v1 = .int .i64 x1_1 ∧ v5 = .int .i64 x5_1 ∧ Aside0 (laws_markIntS.l0 kq x0_1 x1_1 x5_1 = some (r1, r2)) ∧ Aside0 (kq ≤ k) ∧ Aside0 (Kd.R (Kd.int .i64) 3 w' w0.heap.size (fun k_ => (P0_ k_ ∨ w.heap.size ≤ k_)) u9000_ x0_1) ∧ Aside0 (Kept w w' (fun k_ => P0_ k_)) ∧ Aside0 (Below w0.heap.size w0 w'))
 case atStart => exact ⟨(l0), (a1), (0), rS, rS, H', ⟨Nat.le_refl _⟩, ⟨rP HO0⟩, ⟨by repeat (first | (with_reducible first | exact HK.out | apply Kept.alloc | apply Kept.drewN | apply Kept.drew) | exact HK.out)⟩, ⟨bZ HB⟩⟩
 case round =>
  clear H'
  try clear c2
  try clear p2
  obtain ⟨x0_1, x1_1, x5_1, rfl, rfl, HA, HK1, HO_0, HK, HB⟩ := hrel
  cases gk with
  | zero => exact absurd HA.out (by simp [laws_markIntS.l0])
  | succ k1 =>
   have H := HA.out
   clear HA
   simp only [laws_markIntS.l0] at H
   by_cases c3 : x5_1 < (x0_1.length : Int)
   ·rw [if_pos c3] at H
    have c3b0 := decide_eq_true c3
    clear c3
    by_cases c4 : 0 ≤ x5_1
    ·rw [if_pos c4] at H
     have c4b0 := decide_eq_true c4
     clear c4
     obtain ⟨y419, hy419⟩ : ∃ y_ : List Int, y_ = (x0_1.set (x5_1 : Int).toNat x1_1) := ⟨_, rfl⟩
     replace H : (laws_markIntS.l0 k1 y419 (wrap64 (x1_1 + 1)) (wrap64 (x5_1 + 1))) = some (r1, r2) := by first | (rw [hy419]; with_reducible exact H) | (have H2_ := (Option.bind_some _ _).symm.trans H; rw [hy419]; with_reducible exact H2_) | (have H2_ := (Option.bind_some _ _).symm.trans H; with_reducible exact H2_) | with_reducible exact H | (rw [hy419]; exact H) | exact H
     have Ny419 := Aside0.mk hy419
     clear hy419
     have H' := Aside0.mk H
     clear H
     obtain ⟨Ao6, co6, eo6⟩ := Kd.R_slice HO_0.out
     subst eo6
     have p5 : 0 ≤ (x5_1 : Int) := of_decide_eq_true (by first | (with_reducible assumption) | assumption)
     have q5 : (x5_1 : Int) < ((x0_1.length : Int) : Int) := of_decide_eq_true (by first | (with_reducible assumption) | assumption)
     obtain ⟨go5, co5, eo5, gb5, gl5, cl5, HG5⟩ := Kd.R_form HO_0.out (by omega)
     (first | cases eo5 | (injection eo5 with ea_ en_ ec_; (first | subst ea_ | (injection ea_ with ea_; subst ea_)); subst ec_; clear en_))
     have GB5 := Aside0.mk gb5
     have GG5 := Aside0.mk HG5
     clear gb5 gl5 HG5
     have HMgo5 := Aside0.mk (show (P0_ go5 ∨ w.heap.size ≤ go5) from (HO_0.out.1 _ rfl))
     obtain ⟨hx5_0, hf5_0⟩ := Kd.R_celln 0 HO_0.out (x5_1 : Int) p5 q5
     replace p5 := eq_true p5
     replace q5 := eq_true q5
     have HP7 := Kd.R_putg HO_0.out (x5_1 : Int) x1_1
     go_wp2_with (first | ((with_reducible refine gate_store (t := 3) (p := 15) rfl ?_); refine store_event (t := 3) (p := 15) (v := ?vo_w8) (w1 := (wr.setCell ⟨go5, (x5_1 : Int).toNat, none⟩ (.int .i64 x1_1))) ?hg ?ho ?hn ?hr ?_; (case ho => rfl); (case hg => rfl); (case hn => rfl); (case hr => first | (go_simp; done) | (go_simp; rfl)); intro w8 hw; have hg : wr.grownBy w8 (some go5) := (by rw [hw]; exact HP7.2); have hp_ : Kd.R (Kd.int .i64) 3 w8 w0.heap.size (fun k_ => (P0_ k_ ∨ w.heap.size ≤ k_)) (.slice (some ⟨go5, 0, none⟩) x0_1.length co6) y419 := (by rw [hw, Ny419.out]; exact HP7.1); clear HP7; replace HB := Aside0.mk ((by rw [hw]; exact below_set (HB.out) GB5.out : Below w0.heap.size w0 w8)); replace HK := Aside0.mk (Kept.of_grown (S := (fun k_ => P0_ k_)) hg (by repeat (first | (with_reducible first | exact HK.out | apply Kept.alloc | apply Kept.drewN | apply Kept.drew) | exact HK.out)) (fun k_ e_ => (HO_0.out.1 k_ e_))); replace HO_0 := Aside0.mk (hp_); clear hg hw hp_))
     go_roundg k1
     case measure => have := HK1.out; omega
     case rel => exact ⟨(y419), (wrap64 (x1_1 + 1)), (wrap64 (x5_1 + 1)), rS, rS, H', ⟨by have := HK1.out; omega⟩, ⟨rP HO_0⟩, ⟨by repeat (first | (with_reducible first | exact HK.out | apply Kept.alloc | apply Kept.drewN | apply Kept.drew) | exact HK.out)⟩, ⟨bZ HB⟩⟩
    ·rw [if_neg c4] at H
     exact absurd H (by simp)
   ·rw [if_neg c3] at H
    have c3b0 := decide_eq_false c3
    clear c3
    simp only [Option.some.injEq, Prod.mk.injEq] at H
    obtain ⟨rfl, rfl⟩ := H
    obtain ⟨Ao9, co9, eo9⟩ := Kd.R_slice HO_0.out
    subst eo9
    go_wp2
    go_ret
    exact ⟨by first | rfl | (simp [errW_none, errW_some] <;> rfl) | (simp [*, errW_none, errW_some] <;> rfl), by (with_reducible repeat (first | apply Kd.R_alloc | apply Kd.R_drewN | apply Kd.R_drew)); exact HO_0.out, bZ HB, by repeat (first | (with_reducible first | exact HK.out | apply Kept.alloc | apply Kept.drewN | apply Kept.drew) | exact HK.out)⟩
/-! ### laws_markRowS: function 85 -/
def laws_markRowS.rd (xs : List S40) (i : Int) : S40 := xs.getD i.toNat z40
def laws_markRowS.l0 : Nat → List S40 → Int → Int → Option (Int × List S40)
 | 0, _, _, _ => none
 | k + 1, x0, x1, x5 => if x5 < (x0.length : Int) then (if 0 ≤ x5 then ((laws_markIntS.f k (laws_markRowS.rd x0 x5).f0 x1).bind fun b1 => ((laws_markIntS.f k (laws_markRowS.rd x0 x5).f1 b1.1).bind fun b2 => ((laws_markIntS.f k (laws_markRowS.rd x0 x5).f2 b2.1).bind fun b3 => (laws_markRowS.l0 k (x0.set x5.toNat (⟨b1.2, b2.2, b3.2⟩ : S40)) b3.1 (wrap64 (x5 + 1)))))) else (none)) else (some (x1, x0))
def laws_markRowS.g (k : Nat) (l0 : List S40) (a1 : Int) : Option (Int × List S40) := laws_markRowS.l0 k l0 a1 0
theorem laws_markRowS.mono_l : ∀ k, (∀ y0 y1 y2, LeO (laws_markRowS.l0 k y0 y1 y2) (laws_markRowS.l0 (k + 1) y0 y1 y2))
 | 0 => fun _ _ _ r h => by simp [laws_markRowS.l0] at h
 | k + 1 => by
  have ih0 := laws_markRowS.mono_l k
  ·intro y0 y1 y2
   unfold laws_markRowS.l0
   with_reducible repeat' first | exact ih0 _ _ _ | exact laws_markIntS.mono _ _ _ | exact LeO.refl _ | exact LeO.none _ | refine LeO.ite ?_ ?_ | refine LeO.bind ?_ (fun _ => ?_)
theorem laws_markRowS.monog : ∀ a0 a1 k, LeO (laws_markRowS.g k a0 a1) (laws_markRowS.g (k + 1) a0 a1) := fun a0 a1 k => laws_markRowS.mono_l k a0 a1 0
set_option maxHeartbeats 8000000 in
set_option maxRecDepth 100000 in
theorem laws_markRowS.callsg (k : Nat) (P_ : Nat → Prop) (u_ : Value) (l0 : List S40) (a1 : Int) (r1 : Int) (r2 : List S40) (w0 w : World) (hB : Below w0.heap.size w0 w) (ho0 : Kd.S k40 40 w w0.heap.size P_ u_ l0) (h : laws_markRowS.g k l0 a1 = some (r1, r2)) :
  Calls Try.prog 85 #[u_, .int .i64 a1] w fun e w' => e = .returned (.int .i64 r1) ∧ Kd.S k40 40 w' w0.heap.size P_ u_ r2 ∧ Below w0.heap.size w0 w' ∧ Kept w w' P_ := by
 obtain ⟨A0, c0, rfl⟩ := Kd.S_slice ho0
 have HO0 := Aside0.mk ho0
 have HK := Aside0.mk (Kept.refl w P_)
 have HB := Aside0.mk hB
 clear hB ho0
 have H : (laws_markRowS.l0 k l0 a1 0) = some (r1, r2) := h
 clear h
 have H' := Aside0.mk H
 clear H
 go_enter Try.func85, Try.ntmps85
 go_wp2
 go_loopg [1, 5] k (fun kq v1 v5 w' => ∃ (x0_1 : List S40) (x1_1 : Int) (x5_1 : Int), v1 = .int .i64 x1_1 ∧ v5 = .int .i64 x5_1 ∧ Aside0 (x0_1.length = l0.length) ∧ Aside0 (laws_markRowS.l0 kq x0_1 x1_1 x5_1 = some (r1, r2)) ∧ Aside0 (kq ≤ k) ∧ Aside0 (Kd.S k40 40 w' w0.heap.size P_ (.slice A0 l0.length c0) x0_1) ∧ Aside0 (Kept w w' P_) ∧ Aside0 (Below w0.heap.size w0 w'))
 case atStart => exact ⟨l0, a1, 0, by first | rfl | (simp; done), by first | rfl | (simp; done), ⟨rfl⟩, H', ⟨Nat.le_refl _⟩, ⟨by (with_reducible repeat (first | apply Kd.S_alloc | apply Kd.S_drewN | apply Kd.S_drew)); exact HO0.out⟩, ⟨by repeat (first | (with_reducible first | exact HK.out | apply Kept.alloc | apply Kept.drewN | apply Kept.drew) | exact HK.out)⟩, ⟨bZ HB⟩⟩
 case round =>
  clear H' HO0 HK HB
  obtain ⟨x0_1, x1_1, x5_1, rfl, rfl, HE, HA, HK1, HO, HK, HB⟩ := hrel
  cases gk with
  | zero => exact absurd HA.out (by simp [laws_markRowS.l0])
  | succ k1 =>
   have H := HA.out
   clear HA
   simp only [laws_markRowS.l0] at H
   by_cases c3 : x5_1 < (x0_1.length : Int)
   ·rw [if_pos c3] at H
    have c3b0 : decide (x5_1 < (l0.length : Int)) = true := decide_eq_true (by rw [← HE.out]; exact c3)
    by_cases c4 : 0 ≤ x5_1
    ·rw [if_pos c4] at H
     have c4b0 := decide_eq_true c4
     replace H := Option.bind_eq_some_iff.mp H
     obtain ⟨⟨t1_, y1_⟩, A50, H⟩ := H
     have A5 := Aside0.mk A50
     clear A50
     replace H := Option.bind_eq_some_iff.mp H
     obtain ⟨⟨t2_, y2_⟩, A60, H⟩ := H
     have A6 := Aside0.mk A60
     clear A60
     replace H := Option.bind_eq_some_iff.mp H
     obtain ⟨⟨t3_, y3_⟩, A70, H⟩ := H
     have A7 := Aside0.mk A70
     clear A70
     have H' := Aside0.mk H
     clear H
     obtain ⟨g0_, cap_, hv_, _, _, _⟩ := Kd.S_form HO.out (by omega)
     injection hv_ with ha_ hn_ hc_
     clear hn_
     subst ha_ hc_
     have q0_ : x5_1 < ((l0.length : Nat) : Int) := by rw [← HE.out]; exact c3
     obtain ⟨oki, c_, hcl_, hM_, hcc_, hoki_, hH_⟩ := Kd.S_lend HO.out z40 x5_1 c4 q0_
     have HH := Aside0.mk hH_
     have HOK := Aside0.mk hoki_
     clear hH_ hoki_ HO
     have p1_ : (0 ≤ x5_1) = True := eq_true c4
     have q1_ : (x5_1 < ((l0.length : Nat) : Int)) = True := eq_true q0_
     obtain ⟨v0_, v1_, v2_, rfl, o0, o1, o2, i0, i1, i2, a01, a02, a12, hR0_, hR1_, hR2_⟩ := k40_openA hM_
     obtain ⟨B0, d0, rfl⟩ := Kd.R_slice hR0_
     obtain ⟨B1, d1, rfl⟩ := Kd.R_slice hR1_
     obtain ⟨B2, d2, rfl⟩ := Kd.R_slice hR2_
     have HR0 := Aside0.mk hR0_
     have HR1 := Aside0.mk hR1_
     have HR2 := Aside0.mk hR2_
     have AP := Aside0.mk (And.intro a01 (And.intro a02 a12))
     have IN := Aside0.mk (And.intro i0 (And.intro i1 i2))
     have hx0_ : wr.cell? ⟨g0_, x5_1.toNat * 3, none⟩ = some (.slice B0 (laws_markRowS.rd x0_1 x5_1).f0.length d0) := hcc_ 0 _ rfl
     clear hcc_ hcl_ hR0_ hR1_ hR2_ a01 a02 a12 i0 i1 i2 c3 c4
     go_wp2_with (first
      | ((with_reducible refine gate_callee (f := 21) rfl ?_); refine goesL_ (some 18) rfl rfl Try.func21 (by kernel_rfl) rfl #[.slice B0 (laws_markRowS.rd x0_1 x5_1).f0.length d0, .int .i64 x1_1] rfl (by (try simp only [List.map_toArray, List.map_cons, List.map_nil]); first | done | rfl) ?_; (refine (laws_markIntS.calls k1 (fun k_ => some k_ = (Value.slice B0 (laws_markRowS.rd x0_1 x5_1).f0.length d0).ownBlock) (.slice B0 (laws_markRowS.rd x0_1 x5_1).f0.length d0) (laws_markRowS.rd x0_1 x5_1).f0 x1_1 t1_ y1_ w0 _ ?side1 ?side2 A5.out).mono ?_); (case side1 => repeat (first | (with_reducible first | exact HB.out | apply below_alloc | apply pw_below_drewN | apply below_drew1) | exact HB.out)); (case side2 => (with_reducible repeat (first | apply Kd.R_alloc | apply Kd.R_drewN | apply Kd.R_drew)); exact Kd.R_tight rfl HR0.out); rintro e w2 ⟨rfl, hy0, hb, hkp⟩; refine ⟨_, rfl, ?_⟩; have n0_ := Aside0.mk (Kd.H_step (show Kd.H _ _ _ _ _ _ _ _ _ _ by (with_reducible repeat (first | apply Kd.H_alloc | apply Kd.H_drewN | apply Kd.H_drew)); exact HH.out) (fun k_ _ hn_ hl_ => hkp.2 k_ hl_ (fun hs_ => hn_ (IN.out.1 k_ (HR0.out.1 k_ hs_.symm))))); have n1_ := Aside0.mk (Kept.then_ (show Kept w _ P_ by repeat (first | (with_reducible first | exact HK.out | apply Kept.alloc | apply Kept.drewN | apply Kept.drew) | exact HK.out)) hkp (fun k_ hs_ => .inl (HOK.out k_ (IN.out.1 k_ (HR0.out.1 k_ hs_.symm))).1)); have n2_ := Aside0.mk (Kd.R_kept (show Kd.R _ _ _ _ _ _ _ by (with_reducible repeat (first | apply Kd.R_alloc | apply Kd.R_drewN | apply Kd.R_drew)); exact HR1.out) hkp (fun k_ hk_ hs_ => AP.out.1 k_ (HR0.out.1 k_ hs_.symm) hk_)); have n3_ := Aside0.mk (Kd.R_kept (show Kd.R _ _ _ _ _ _ _ by (with_reducible repeat (first | apply Kd.R_alloc | apply Kd.R_drewN | apply Kd.R_drew)); exact HR2.out) hkp (fun k_ hk_ hs_ => AP.out.2.1 k_ (HR0.out.1 k_ hs_.symm) hk_)); have n4_ := Aside0.mk (Kd.R_reok rfl hy0 (fun k_ e_ => HR0.out.1 k_ e_)); clear HB HK HH HR0 HR1 HR2; have HH := n0_; have HK := n1_; have HR1 := n2_; have HR2 := n3_; have HR0 := n4_; have HB := Aside0.mk hb; clear n0_ n1_ n2_ n3_ n4_ hb hkp hy0; obtain ⟨_, _, _, _, _, hce_, _⟩ := Kd.H_raw HH.out (of_eq_true p1_) (of_eq_true q1_); have hx1_ : w2.cell? ⟨g0_, x5_1.toNat * 3 + 1, none⟩ = some (.slice B1 (laws_markRowS.rd x0_1 x5_1).f1.length d1) := hce_ 1 _ rfl; clear hce_)
      | ((with_reducible refine gate_callee (f := 21) rfl ?_); refine goesL_ (some 25) rfl rfl Try.func21 (by kernel_rfl) rfl #[.slice B1 (laws_markRowS.rd x0_1 x5_1).f1.length d1, .int .i64 t1_] rfl (by (try simp only [List.map_toArray, List.map_cons, List.map_nil]); first | done | rfl) ?_; (refine (laws_markIntS.calls k1 (fun k_ => some k_ = (Value.slice B1 (laws_markRowS.rd x0_1 x5_1).f1.length d1).ownBlock) (.slice B1 (laws_markRowS.rd x0_1 x5_1).f1.length d1) (laws_markRowS.rd x0_1 x5_1).f1 t1_ t2_ y2_ w0 _ ?side1 ?side2 A6.out).mono ?_); (case side1 => repeat (first | (with_reducible first | exact HB.out | apply below_alloc | apply pw_below_drewN | apply below_drew1) | exact HB.out)); (case side2 => (with_reducible repeat (first | apply Kd.R_alloc | apply Kd.R_drewN | apply Kd.R_drew)); exact Kd.R_tight rfl HR1.out); rintro e w3 ⟨rfl, hy0, hb, hkp⟩; refine ⟨_, rfl, ?_⟩; have n0_ := Aside0.mk (Kd.H_step (show Kd.H _ _ _ _ _ _ _ _ _ _ by (with_reducible repeat (first | apply Kd.H_alloc | apply Kd.H_drewN | apply Kd.H_drew)); exact HH.out) (fun k_ _ hn_ hl_ => hkp.2 k_ hl_ (fun hs_ => hn_ (IN.out.2.1 k_ (HR1.out.1 k_ hs_.symm))))); have n1_ := Aside0.mk (Kept.then_ (show Kept w _ P_ by repeat (first | (with_reducible first | exact HK.out | apply Kept.alloc | apply Kept.drewN | apply Kept.drew) | exact HK.out)) hkp (fun k_ hs_ => .inl (HOK.out k_ (IN.out.2.1 k_ (HR1.out.1 k_ hs_.symm))).1)); have n2_ := Aside0.mk (Kd.R_kept (show Kd.R _ _ _ _ _ _ _ by (with_reducible repeat (first | apply Kd.R_alloc | apply Kd.R_drewN | apply Kd.R_drew)); exact HR0.out) hkp (fun k_ hk_ hs_ => AP.out.1 k_ hk_ (HR1.out.1 k_ hs_.symm))); have n3_ := Aside0.mk (Kd.R_kept (show Kd.R _ _ _ _ _ _ _ by (with_reducible repeat (first | apply Kd.R_alloc | apply Kd.R_drewN | apply Kd.R_drew)); exact HR2.out) hkp (fun k_ hk_ hs_ => AP.out.2.2 k_ (HR1.out.1 k_ hs_.symm) hk_)); have n4_ := Aside0.mk (Kd.R_reok rfl hy0 (fun k_ e_ => HR1.out.1 k_ e_)); clear HB HK HH HR0 HR1 HR2; have HH := n0_; have HK := n1_; have HR0 := n2_; have HR2 := n3_; have HR1 := n4_; have HB := Aside0.mk hb; clear n0_ n1_ n2_ n3_ n4_ hb hkp hy0; obtain ⟨_, _, _, _, _, hce_, _⟩ := Kd.H_raw HH.out (of_eq_true p1_) (of_eq_true q1_); have hx2_ : w3.cell? ⟨g0_, x5_1.toNat * 3 + 2, none⟩ = some (.slice B2 (laws_markRowS.rd x0_1 x5_1).f2.length d2) := hce_ 2 _ rfl; clear hce_)
      | ((with_reducible refine gate_callee (f := 21) rfl ?_); refine goesL_ (some 32) rfl rfl Try.func21 (by kernel_rfl) rfl #[.slice B2 (laws_markRowS.rd x0_1 x5_1).f2.length d2, .int .i64 t2_] rfl (by (try simp only [List.map_toArray, List.map_cons, List.map_nil]); first | done | rfl) ?_; (refine (laws_markIntS.calls k1 (fun k_ => some k_ = (Value.slice B2 (laws_markRowS.rd x0_1 x5_1).f2.length d2).ownBlock) (.slice B2 (laws_markRowS.rd x0_1 x5_1).f2.length d2) (laws_markRowS.rd x0_1 x5_1).f2 t2_ t3_ y3_ w0 _ ?side1 ?side2 A7.out).mono ?_); (case side1 => repeat (first | (with_reducible first | exact HB.out | apply below_alloc | apply pw_below_drewN | apply below_drew1) | exact HB.out)); (case side2 => (with_reducible repeat (first | apply Kd.R_alloc | apply Kd.R_drewN | apply Kd.R_drew)); exact Kd.R_tight rfl HR2.out); rintro e w4 ⟨rfl, hy0, hb, hkp⟩; refine ⟨_, rfl, ?_⟩; have n0_ := Aside0.mk (Kd.H_step (show Kd.H _ _ _ _ _ _ _ _ _ _ by (with_reducible repeat (first | apply Kd.H_alloc | apply Kd.H_drewN | apply Kd.H_drew)); exact HH.out) (fun k_ _ hn_ hl_ => hkp.2 k_ hl_ (fun hs_ => hn_ (IN.out.2.2 k_ (HR2.out.1 k_ hs_.symm))))); have n1_ := Aside0.mk (Kept.then_ (show Kept w _ P_ by repeat (first | (with_reducible first | exact HK.out | apply Kept.alloc | apply Kept.drewN | apply Kept.drew) | exact HK.out)) hkp (fun k_ hs_ => .inl (HOK.out k_ (IN.out.2.2 k_ (HR2.out.1 k_ hs_.symm))).1)); have n2_ := Aside0.mk (Kd.R_kept (show Kd.R _ _ _ _ _ _ _ by (with_reducible repeat (first | apply Kd.R_alloc | apply Kd.R_drewN | apply Kd.R_drew)); exact HR0.out) hkp (fun k_ hk_ hs_ => AP.out.2.1 k_ hk_ (HR2.out.1 k_ hs_.symm))); have n3_ := Aside0.mk (Kd.R_kept (show Kd.R _ _ _ _ _ _ _ by (with_reducible repeat (first | apply Kd.R_alloc | apply Kd.R_drewN | apply Kd.R_drew)); exact HR1.out) hkp (fun k_ hk_ hs_ => AP.out.2.2 k_ hk_ (HR2.out.1 k_ hs_.symm))); have n4_ := Aside0.mk (Kd.R_reok rfl hy0 (fun k_ e_ => HR2.out.1 k_ e_)); have n5_ := Aside0.mk (Kd.H_back n0_.out (k40_mkA _ _ oki _ _ _ (⟨y1_, y2_, y3_⟩ : S40) IN.out.1 IN.out.2.1 IN.out.2.2 AP.out.1 AP.out.2.1 AP.out.2.2 n2_.out n3_.out n4_.out) (fun _ hk_ => hk_)); clear HB HK HH HR0 HR1 HR2 HOK AP IN; have HO := n5_; have HK := n1_; have HB := Aside0.mk hb; clear n0_ n1_ n2_ n3_ n4_ n5_ hb hkp hy0))

     go_roundg k1
     case measure => have := HK1.out; omega
     case rel => exact ⟨(x0_1.set x5_1.toNat (⟨y1_, y2_, y3_⟩ : S40)), t3_, (wrap64 (x5_1 + 1)), by first | rfl | (simp; done), by first | rfl | (simp; done), ⟨by rw [List.length_set]; exact HE.out⟩, H', ⟨by have := HK1.out; omega⟩, ⟨by (with_reducible repeat (first | apply Kd.S_alloc | apply Kd.S_drewN | apply Kd.S_drew)); exact HO.out⟩, ⟨by repeat (first | (with_reducible first | exact HK.out | apply Kept.alloc | apply Kept.drewN | apply Kept.drew) | exact HK.out)⟩, ⟨bZ HB⟩⟩
    ·rw [if_neg c4] at H
     exact absurd H (by simp)
   ·rw [if_neg c3] at H
    have c3b0 : decide (x5_1 < (l0.length : Int)) = false := decide_eq_false (by rw [← HE.out]; exact c3)
    clear c3
    simp only [Option.some.injEq, Prod.mk.injEq] at H
    obtain ⟨rfl, rfl⟩ := H
    go_wp2
    go_ret
    exact ⟨by first | rfl | (simp; done), by (with_reducible repeat (first | apply Kd.S_alloc | apply Kd.S_drewN | apply Kd.S_drew)); exact HO.out, bZ HB, by repeat (first | (with_reducible first | exact HK.out | apply Kept.alloc | apply Kept.drewN | apply Kept.drew) | exact HK.out)⟩
def laws_markRowS.f (k : Nat) (l0 : List S40) (a1 : Int) : Option (Int) := (laws_markRowS.g k l0 a1).map Prod.fst
theorem laws_markRowS.mono : ∀ a0 a1 k, LeO (laws_markRowS.f k a0 a1) (laws_markRowS.f (k + 1) a0 a1) := fun a0 a1 k r h => by
 unfold laws_markRowS.f at h ⊢
 obtain ⟨p, hp, rfl⟩ := Option.map_eq_some_iff.1 h
 rw [laws_markRowS.monog a0 a1 k p hp]; rfl
theorem laws_markRowS.calls (k : Nat) (P_ : Nat → Prop) (u_ : Value) (l0 : List S40) (a1 : Int) (r : Int) (w0 w : World) (hB : Below w0.heap.size w0 w) (ho0 : Kd.S k40 40 w w0.heap.size P_ u_ l0) (h : laws_markRowS.f k l0 a1 = some r) :
  Calls Try.prog 85 #[u_, .int .i64 a1] w fun e w' => e = .returned (.int .i64 r) ∧ Below w0.heap.size w0 w' ∧ Kept w w' P_ := by
 unfold laws_markRowS.f at h
 obtain ⟨⟨r1, r2⟩, hp, rfl⟩ := Option.map_eq_some_iff.1 h
 exact (laws_markRowS.callsg k P_ u_ l0 a1 r1 r2 w0 w hB ho0 hp).mono fun e w' h => ⟨h.1, h.2.2⟩
/-! ### laws_markSystem: function 60 -/
def laws_markSystem.g (k : Nat) (a0_0 : Int) (a0_1 : Int) (l0_2 : List S40) (a1 : Int) : Option (Int × List S40) := laws_markRowS.g k l0_2 a1
def laws_markSystem.f (k : Nat) (a0_0 : Int) (a0_1 : Int) (l0_2 : List S40) (a1 : Int) : Option (Int) := (laws_markSystem.g k a0_0 a0_1 l0_2 a1).map Prod.fst
theorem laws_markSystem.monog : ∀ a0 a1 a2 a3 k, LeO (laws_markSystem.g k a0 a1 a2 a3) (laws_markSystem.g (k + 1) a0 a1 a2 a3) := fun _ _ a2 a3 k => laws_markRowS.monog a2 a3 k
theorem laws_markSystem.mono : ∀ a0 a1 a2 a3 k, LeO (laws_markSystem.f k a0 a1 a2 a3) (laws_markSystem.f (k + 1) a0 a1 a2 a3) := fun a0 a1 a2 a3 k r h => by
 unfold laws_markSystem.f at h ⊢
 obtain ⟨p, hp, rfl⟩ := Option.map_eq_some_iff.1 h
 rw [laws_markSystem.monog a0 a1 a2 a3 k p hp]; rfl
set_option maxHeartbeats 8000000 in
set_option maxRecDepth 100000 in
theorem laws_markSystem.callsg (k : Nat) (P_ : Nat → Prop) (a0_0 : Int) (a0_1 : Int) (u_ : Value) (l0 : List S40) (a1 : Int) (r1 : Int) (r2 : List S40) (w0 w : World) (hB : Below w0.heap.size w0 w) (ho0 : Kd.S k40 40 w w0.heap.size P_ u_ l0) (h : laws_markSystem.g k a0_0 a0_1 l0 a1 = some (r1, r2)) :
  Calls Try.prog 60 #[.agg #[.int .i64 a0_0, .int .i64 a0_1, u_], .int .i64 a1] w fun e w' => e = .returned (.int .i64 r1) ∧ Kd.S k40 40 w' w0.heap.size P_ u_ r2 ∧ Below w0.heap.size w0 w' ∧ Kept w w' P_ := by
 obtain ⟨A0, c0, rfl⟩ := Kd.S_slice ho0
 have hu32 := Try.underlying32
 have HO := Aside0.mk ho0
 have HK := Aside0.mk (Kept.refl w P_)
 have HB := Aside0.mk hB
 have A3 := Aside0.mk (show laws_markRowS.g k l0 a1 = some (r1, r2) from h)
 clear hB ho0 h
 go_enter Try.func60, Try.ntmps60
 go_wp2_with (first
  | (refine gB 2 #[.int .i64 a0_0, .int .i64 a0_1, .slice A0 l0.length c0] 32 ?_; intro gb9 hg w4 BK9 hb; have n0_ := Aside0.mk (Kd.S_below (show Kd.S _ _ _ _ _ _ _ by (with_reducible repeat (first | apply Kd.S_alloc | apply Kd.S_drewN | apply Kd.S_drew)); exact HO.out) hb); have n1_ := Aside0.mk (Kept.then_ (show Kept w _ P_ by repeat (first | (with_reducible first | exact HK.out | apply Kept.alloc | apply Kept.drewN | apply Kept.drew) | exact HK.out)) (Kept.of_below hb P_) (fun _ h_ => .inl h_)); have n2_ := bS HB hb; clear HO HK HB; have HO := n0_; have HK := n1_; have HB := n2_; clear n0_ n1_ n2_ hb hbox hg; have hcz5_0 : w4.cell? ⟨gb9, 0, none⟩ = some (.int .i64 a0_0) := bc BK9 0; have hcz5_1 : w4.cell? ⟨gb9, 1, none⟩ = some (.int .i64 a0_1) := bc BK9 1; have hcz5_2 : w4.cell? ⟨gb9, 2, none⟩ = some (.slice A0 l0.length c0) := bc BK9 2)
  | ((with_reducible refine gate_callee (f := 85) rfl ?_); refine goesL_ (some 8) rfl rfl Try.func85 (by kernel_rfl) rfl #[.slice A0 l0.length c0, .int .i64 a1] rfl (by (try simp only [List.map_toArray, List.map_cons, List.map_nil]); first | done | rfl) ?_; (refine (laws_markRowS.callsg k P_ (.slice A0 l0.length c0) l0 a1 r1 r2 w0 _ ?side1 ?side2 A3.out).mono ?_); (case side1 => repeat (first | (with_reducible first | exact HB.out | apply below_alloc | apply pw_below_drewN | apply below_drew1) | exact HB.out)); (case side2 => (with_reducible repeat (first | apply Kd.S_alloc | apply Kd.S_drewN | apply Kd.S_drew)); exact HO.out); rintro e w6 ⟨rfl, ho, hb, hkp⟩; refine ⟨_, rfl, ?_⟩; have n1_ := Aside0.mk (Kept.then_ (show Kept w _ P_ by repeat (first | (with_reducible first | exact HK.out | apply Kept.alloc | apply Kept.drewN | apply Kept.drew) | exact HK.out)) hkp (fun _ h_ => .inl h_)); clear HO HK HB; have HO := Aside0.mk ho; have HK := n1_; have HB := Aside0.mk hb; clear n1_ ho hb hkp))
 go_ret
 exact ⟨by first | rfl | (simp; done), by (with_reducible repeat (first | apply Kd.S_alloc | apply Kd.S_drewN | apply Kd.S_drew)); exact HO.out, bZ HB, by repeat (first | (with_reducible first | exact HK.out | apply Kept.alloc | apply Kept.drewN | apply Kept.drew) | exact HK.out)⟩
theorem laws_markSystem.calls (k : Nat) (P_ : Nat → Prop) (a0_0 : Int) (a0_1 : Int) (u_ : Value) (l0 : List S40) (a1 : Int) (r : Int) (w0 w : World) (hB : Below w0.heap.size w0 w) (ho0 : Kd.S k40 40 w w0.heap.size P_ u_ l0) (h : laws_markSystem.f k a0_0 a0_1 l0 a1 = some r) :
  Calls Try.prog 60 #[.agg #[.int .i64 a0_0, .int .i64 a0_1, u_], .int .i64 a1] w fun e w' => e = .returned (.int .i64 r) ∧ Below w0.heap.size w0 w' ∧ Kept w w' P_ := by
 unfold laws_markSystem.f at h
 obtain ⟨⟨r1, r2⟩, hp, rfl⟩ := Option.map_eq_some_iff.1 h
 exact (laws_markSystem.callsg k P_ a0_0 a0_1 u_ l0 a1 r1 r2 w0 w hB ho0 hp).mono fun e w' h => ⟨h.1, h.2.2⟩
/-! ### laws_markIntSS: function 44 -/
def laws_markIntSS.rd (xs : List (List Int)) (i : Int) : List Int := xs.getD i.toNat ([] : List Int)
def laws_markIntSS.l0 : Nat → List (List Int) → Int → Int → Option (Int × List (List Int))
 | 0, _, _, _ => none
 | k + 1, x0, x1, x5 => if x5 < (x0.length : Int) then (if 0 ≤ x5 then ((laws_markIntS.f k (laws_markIntSS.rd x0 x5) x1).bind fun bt => (laws_markIntSS.l0 k (x0.set x5.toNat bt.2) bt.1 (wrap64 (x5 + 1)))) else (none)) else (some (x1, x0))
def laws_markIntSS.g (k : Nat) (l0 : List (List Int)) (a1 : Int) : Option (Int × List (List Int)) := laws_markIntSS.l0 k l0 a1 0
theorem laws_markIntSS.mono_l : ∀ k, (∀ y0 y1 y2, LeO (laws_markIntSS.l0 k y0 y1 y2) (laws_markIntSS.l0 (k + 1) y0 y1 y2))
 | 0 => fun _ _ _ r h => by simp [laws_markIntSS.l0] at h
 | k + 1 => by
  have ih0 := laws_markIntSS.mono_l k
  ·intro y0 y1 y2
   unfold laws_markIntSS.l0
   with_reducible repeat' first | exact ih0 _ _ _ | exact laws_markIntS.mono _ _ _ | exact LeO.refl _ | exact LeO.none _ | refine LeO.ite ?_ ?_ | refine LeO.bind ?_ (fun _ => ?_)
theorem laws_markIntSS.monog : ∀ a0 a1 k, LeO (laws_markIntSS.g k a0 a1) (laws_markIntSS.g (k + 1) a0 a1) := fun a0 a1 k => laws_markIntSS.mono_l k a0 a1 0
set_option maxHeartbeats 8000000 in
set_option maxRecDepth 100000 in
theorem laws_markIntSS.callsg (k : Nat) (P_ : Nat → Prop) (u_ : Value) (l0 : List (List Int)) (a1 : Int) (r1 : Int) (r2 : List (List Int)) (w0 w : World) (hB : Below w0.heap.size w0 w) (ho0 : Kd.S (Kd.slice 3 (Kd.int .i64)) 22 w w0.heap.size P_ u_ l0) (h : laws_markIntSS.g k l0 a1 = some (r1, r2)) :
  Calls Try.prog 44 #[u_, .int .i64 a1] w fun e w' => e = .returned (.int .i64 r1) ∧ Kd.S (Kd.slice 3 (Kd.int .i64)) 22 w' w0.heap.size P_ u_ r2 ∧ Below w0.heap.size w0 w' ∧ Kept w w' P_ := by
 obtain ⟨A0, c0, rfl⟩ := Kd.S_slice ho0
 have HO0 := Aside0.mk ho0
 have HK := Aside0.mk (Kept.refl w P_)
 have HB := Aside0.mk hB
 clear hB ho0
 have H : (laws_markIntSS.l0 k l0 a1 0) = some (r1, r2) := h
 clear h
 have H' := Aside0.mk H
 clear H
 go_enter Try.func44, Try.ntmps44
 go_wp2
 go_loopg [1, 5] k (fun kq v1 v5 w' => ∃ (x0_1 : List (List Int)) (x1_1 : Int) (x5_1 : Int), v1 = .int .i64 x1_1 ∧ v5 = .int .i64 x5_1 ∧ Aside0 (x0_1.length = l0.length) ∧ Aside0 (laws_markIntSS.l0 kq x0_1 x1_1 x5_1 = some (r1, r2)) ∧ Aside0 (kq ≤ k) ∧ Aside0 (Kd.S (Kd.slice 3 (Kd.int .i64)) 22 w' w0.heap.size P_ (.slice A0 l0.length c0) x0_1) ∧ Aside0 (Kept w w' P_) ∧ Aside0 (Below w0.heap.size w0 w'))
 case atStart => exact ⟨l0, a1, 0, by first | rfl | (simp; done), by first | rfl | (simp; done), ⟨rfl⟩, H', ⟨Nat.le_refl _⟩, ⟨by (with_reducible repeat (first | apply Kd.S_alloc | apply Kd.S_drewN | apply Kd.S_drew)); exact HO0.out⟩, ⟨by repeat (first | (with_reducible first | exact HK.out | apply Kept.alloc | apply Kept.drewN | apply Kept.drew) | exact HK.out)⟩, ⟨bZ HB⟩⟩
 case round =>
  clear H' HO0 HK HB
  obtain ⟨x0_1, x1_1, x5_1, rfl, rfl, HE, HA, HK1, HO, HK, HB⟩ := hrel
  cases gk with
  | zero => exact absurd HA.out (by simp [laws_markIntSS.l0])
  | succ k1 =>
   have H := HA.out
   clear HA
   simp only [laws_markIntSS.l0] at H
   by_cases c3 : x5_1 < (x0_1.length : Int)
   ·rw [if_pos c3] at H
    have c3b0 : decide (x5_1 < (l0.length : Int)) = true := decide_eq_true (by rw [← HE.out]; exact c3)
    by_cases c4 : 0 ≤ x5_1
    ·rw [if_pos c4] at H
     have c4b0 := decide_eq_true c4
     replace H := Option.bind_eq_some_iff.mp H
     obtain ⟨⟨t1_, t2_⟩, A50, H⟩ := H
     have A5 := Aside0.mk A50
     clear A50
     have H' := Aside0.mk H
     clear H
     obtain ⟨g0_, cap_, hv_, _, _, _⟩ := Kd.S_form HO.out (by omega)
     injection hv_ with ha_ hn_ hc_
     clear hn_
     subst ha_ hc_
     have q0_ : x5_1 < ((l0.length : Nat) : Int) := by rw [← HE.out]; exact c3
     obtain ⟨oki, c_, hcl_, hM_, hcc_, hoki_, hH_⟩ := Kd.S_lend HO.out ([] : List Int) x5_1 c4 q0_
     have HH := Aside0.mk hH_
     have HOK := Aside0.mk hoki_
     clear hH_ hoki_ HO
     have p1_ : (0 ≤ x5_1) = True := eq_true c4
     have q1_ : (x5_1 < ((l0.length : Nat) : Int)) = True := eq_true q0_
     obtain ⟨vi_, rfl, hR_⟩ := hM_
     obtain ⟨Ai, ci, rfl⟩ := Kd.R_slice hR_
     have HRi := Aside0.mk hR_
     have hx0_ : wr.cell? ⟨g0_, x5_1.toNat, none⟩ = some (.slice Ai (laws_markIntSS.rd x0_1 x5_1).length ci) := by
      have h_ := hcc_ 0 _ rfl
      rw [show x5_1.toNat * (Kd.slice 3 (Kd.int .i64)).sz + 0 = x5_1.toNat from by show x5_1.toNat * 1 + 0 = _; omega] at h_
      exact h_
     clear hcc_ hcl_ hR_ c3 c4
     go_wp2_with (first | ((with_reducible refine gate_callee (f := 21) rfl ?_); refine goesL_ (some 17) rfl rfl Try.func21 (by kernel_rfl) rfl #[.slice Ai (laws_markIntSS.rd x0_1 x5_1).length ci, .int .i64 x1_1] rfl (by (try simp only [List.map_toArray, List.map_cons, List.map_nil]); first | done | rfl) ?_; (refine (laws_markIntS.calls k1 (fun k_ => some k_ = (Value.slice Ai (laws_markIntSS.rd x0_1 x5_1).length ci).ownBlock) (.slice Ai (laws_markIntSS.rd x0_1 x5_1).length ci) (laws_markIntSS.rd x0_1 x5_1) x1_1 t1_ t2_ w0 _ ?side1 ?side2 A5.out).mono ?_); (case side1 => repeat (first | (with_reducible first | exact HB.out | apply below_alloc | apply pw_below_drewN | apply below_drew1) | exact HB.out)); (case side2 => (with_reducible repeat (first | apply Kd.R_alloc | apply Kd.R_drewN | apply Kd.R_drew)); exact Kd.R_tight rfl HRi.out); rintro e w2 ⟨rfl, hy0, hb, hkp⟩; refine ⟨_, rfl, ?_⟩; have n0_ := Aside0.mk (Kd.H_back (Kd.H_step (show Kd.H _ _ _ _ _ _ _ _ _ _ by (with_reducible repeat (first | apply Kd.H_alloc | apply Kd.H_drewN | apply Kd.H_drew)); exact HH.out) (fun k_ _ hn_ hl_ => hkp.2 k_ hl_ (fun hs_ => hn_ (HRi.out.1 k_ hs_.symm)))) (⟨_, rfl, Kd.R_reok rfl hy0 (fun k_ e_ => HRi.out.1 k_ e_)⟩ : (Kd.slice 3 (Kd.int .i64)).M w2 w0.heap.size oki t2_ _) (fun _ hk_ => hk_)); have n1_ := Aside0.mk (Kept.then_ (show Kept w _ P_ by repeat (first | (with_reducible first | exact HK.out | apply Kept.alloc | apply Kept.drewN | apply Kept.drew) | exact HK.out)) hkp (fun k_ hs_ => .inl (HOK.out k_ (HRi.out.1 k_ hs_.symm)).1)); clear HB HK HH HRi HOK; have HO := n0_; have HK := n1_; have HB := Aside0.mk hb; clear n0_ n1_ hb hkp hy0))

     go_roundg k1
     case measure => have := HK1.out; omega
     case rel => exact ⟨(x0_1.set x5_1.toNat t2_), t1_, (wrap64 (x5_1 + 1)), by first | rfl | (simp; done), by first | rfl | (simp; done), ⟨by rw [List.length_set]; exact HE.out⟩, H', ⟨by have := HK1.out; omega⟩, ⟨by (with_reducible repeat (first | apply Kd.S_alloc | apply Kd.S_drewN | apply Kd.S_drew)); exact HO.out⟩, ⟨by repeat (first | (with_reducible first | exact HK.out | apply Kept.alloc | apply Kept.drewN | apply Kept.drew) | exact HK.out)⟩, ⟨bZ HB⟩⟩
    ·rw [if_neg c4] at H
     exact absurd H (by simp)
   ·rw [if_neg c3] at H
    have c3b0 : decide (x5_1 < (l0.length : Int)) = false := decide_eq_false (by rw [← HE.out]; exact c3)
    clear c3
    simp only [Option.some.injEq, Prod.mk.injEq] at H
    obtain ⟨rfl, rfl⟩ := H
    go_wp2
    go_ret
    exact ⟨by first | rfl | (simp; done), by (with_reducible repeat (first | apply Kd.S_alloc | apply Kd.S_drewN | apply Kd.S_drew)); exact HO.out, bZ HB, by repeat (first | (with_reducible first | exact HK.out | apply Kept.alloc | apply Kept.drewN | apply Kept.drew) | exact HK.out)⟩
def laws_markIntSS.f (k : Nat) (l0 : List (List Int)) (a1 : Int) : Option (Int) := (laws_markIntSS.g k l0 a1).map Prod.fst
theorem laws_markIntSS.mono : ∀ a0 a1 k, LeO (laws_markIntSS.f k a0 a1) (laws_markIntSS.f (k + 1) a0 a1) := fun a0 a1 k r h => by
 unfold laws_markIntSS.f at h ⊢
 obtain ⟨p, hp, rfl⟩ := Option.map_eq_some_iff.1 h
 rw [laws_markIntSS.monog a0 a1 k p hp]; rfl
theorem laws_markIntSS.calls (k : Nat) (P_ : Nat → Prop) (u_ : Value) (l0 : List (List Int)) (a1 : Int) (r : Int) (w0 w : World) (hB : Below w0.heap.size w0 w) (ho0 : Kd.S (Kd.slice 3 (Kd.int .i64)) 22 w w0.heap.size P_ u_ l0) (h : laws_markIntSS.f k l0 a1 = some r) :
  Calls Try.prog 44 #[u_, .int .i64 a1] w fun e w' => e = .returned (.int .i64 r) ∧ Below w0.heap.size w0 w' ∧ Kept w w' P_ := by
 unfold laws_markIntSS.f at h
 obtain ⟨⟨r1, r2⟩, hp, rfl⟩ := Option.map_eq_some_iff.1 h
 exact (laws_markIntSS.callsg k P_ u_ l0 a1 r1 r2 w0 w hB ho0 hp).mono fun e w' h => ⟨h.1, h.2.2⟩
/-! ### laws_markQap: function 61 -/
def laws_markQap.g (k : Nat) (l0_0 : List (List Int)) (l0_1 : List (List Int)) (l0_2 : List (List Int)) (a1 : Int) : Option (Int × List (List Int) × List (List Int) × List (List Int)) := (laws_markIntSS.g k l0_0 a1).bind fun b1 => ((laws_markIntSS.g k l0_1 b1.1).bind fun b2 => ((laws_markIntSS.g k l0_2 b2.1).bind fun b3 => (some (b3.1, b1.2, b2.2, b3.2))))
theorem laws_markQap.monog : ∀ a0 a1 a2 a3 k, LeO (laws_markQap.g k a0 a1 a2 a3) (laws_markQap.g (k + 1) a0 a1 a2 a3) := by
  intro a0 a1 a2 a3 k
  unfold laws_markQap.g
  with_reducible repeat' first | exact laws_markIntSS.monog _ _ _ | exact LeO.refl _ | exact LeO.none _ | refine LeO.ite ?_ ?_ | refine LeO.bind ?_ (fun _ => ?_)
abbrev all3 (F : Nat → Nat) : Nat → Prop := fun k => F k = 0 ∨ F k = 1 ∨ F k = 2
abbrev own3 (u0 u1 u2 : Value) : Nat → Prop := fun k => some k = u0.ownBlock ∨ some k = u1.ownBlock ∨ some k = u2.ownBlock
set_option maxHeartbeats 8000000 in
set_option maxRecDepth 100000 in
theorem laws_markQap.callsg (k : Nat) (F : Nat → Nat) (ok0 ok1 ok2 : Nat → Prop) (u0 u1 u2 : Value) (l0 l1 l2 : List (List Int)) (a1 r : Int) (y0 y1 y2 : List (List Int)) (w0 w : World) (hB : Below w0.heap.size w0 w) (h0 : Kd.S (own F 0 (Kd.slice 3 (Kd.int .i64))) 22 w w0.heap.size ok0 u0 l0) (h1 : Kd.S (own F 1 (Kd.slice 3 (Kd.int .i64))) 22 w w0.heap.size ok1 u1 l1) (h2 : Kd.S (own F 2 (Kd.slice 3 (Kd.int .i64))) 22 w w0.heap.size ok2 u2 l2) (a01 : ∀ k, u0.ownBlock = some k → u1.ownBlock ≠ some k) (a02 : ∀ k, u0.ownBlock = some k → u2.ownBlock ≠ some k) (a12 : ∀ k, u1.ownBlock = some k → u2.ownBlock ≠ some k) (h : laws_markQap.g k l0 l1 l2 a1 = some (r, y0, y1, y2)) :
    Calls Try.prog 61 #[.agg #[u0, u1, u2], .int .i64 a1] w fun e w' => e = .returned (.int .i64 r) ∧ Kd.S (own F 0 (Kd.slice 3 (Kd.int .i64))) 22 w' w0.heap.size ok0 u0 y0 ∧ Kd.S (own F 1 (Kd.slice 3 (Kd.int .i64))) 22 w' w0.heap.size ok1 u1 y1 ∧ Kd.S (own F 2 (Kd.slice 3 (Kd.int .i64))) 22 w' w0.heap.size ok2 u2 y2 ∧ Below w0.heap.size w0 w' ∧ Kept w w' (fun k => True ∧ blkP (all3 F) (own3 u0 u1 u2) (Kd.slice 3 (Kd.int .i64)).E w k) := by
  obtain ⟨A0, c0, rfl⟩ := Kd.S_slice h0
  obtain ⟨A1, c1, rfl⟩ := Kd.S_slice h1
  obtain ⟨A2, c2, rfl⟩ := Kd.S_slice h2
  have hu61 := Try.underlying61
  have HO0 := Aside0.mk h0
  have HO1 := Aside0.mk h1
  have HO2 := Aside0.mk h2
  have HB := Aside0.mk hB
  have KK := Aside0.mk (Kept.refl w (fun k => True ∧ blkP (all3 F) (own3 (.slice A0 l0.length c0) (.slice A1 l1.length c1) (.slice A2 l2.length c2)) (Kd.slice 3 (Kd.int .i64)).E w k))
  have AP := Aside0.mk (And.intro a01 (And.intro a02 a12))
  unfold laws_markQap.g at h
  replace h := Option.bind_eq_some_iff.mp h
  obtain ⟨⟨t1, z1⟩, A3, h⟩ := h
  replace h := Option.bind_eq_some_iff.mp h
  obtain ⟨⟨t2, z2⟩, A4, h⟩ := h
  replace h := Option.bind_eq_some_iff.mp h
  obtain ⟨⟨t3, z3⟩, A5, h⟩ := h
  replace A3 := Aside0.mk A3
  replace A4 := Aside0.mk A4
  replace A5 := Aside0.mk A5
  simp only [Option.some.injEq, Prod.mk.injEq] at h
  obtain ⟨rfl, rfl, rfl, rfl⟩ := h
  clear h0 h1 h2 hB a01 a02 a12
  go_enter Try.func61, Try.ntmps61
  go_wp2_with (first
    | (refine gB 2 #[.slice A0 l0.length c0, .slice A1 l1.length c1, .slice A2 l2.length c2] 61 ?_; intro gb420 hg w6 BK420 hb; replace HO0 := Aside0.mk (Kd.S_below (by (with_reducible repeat (first | apply Kd.S_alloc | apply Kd.S_drewN | apply Kd.S_drew)); exact HO0.out) hb); replace HO1 := Aside0.mk (Kd.S_below (by (with_reducible repeat (first | apply Kd.S_alloc | apply Kd.S_drewN | apply Kd.S_drew)); exact HO1.out) hb); replace HO2 := Aside0.mk (Kd.S_below (by (with_reducible repeat (first | apply Kd.S_alloc | apply Kd.S_drewN | apply Kd.S_drew)); exact HO2.out) hb); replace KK := Aside0.mk (Kept.below (by repeat (first | (with_reducible first | exact KK.out | apply Kept.alloc | apply Kept.drewN | apply Kept.drew) | exact KK.out)) hb); replace HB := bS HB hb; clear hb hg; obtain ⟨hcz7_0, hcz7_1, hcz7_2, hfz7_0, hfz7_1, hfz7_2⟩ := bK3 (w := w6) BK420)
    | (refine gC (some 8) Try.func44 #[.slice A0 l0.length c0, .int .i64 a1] ?_; (refine (laws_markIntSS.callsg k ?P0 _ l0 a1 t1 z1 w0 _ ?side1 ?side2 A3.out).mono ?_); (case side2 => first | exact ownB HO0.out | exact ownB (Kd.S_drew HO0.out) | exact ownB (Kd.S_drewN HO0.out _)); (case side1 => exact (bZ HB)); rintro e w8 ⟨rfl, ho, hb, hkp⟩; refine ⟨_, rfl, ?_⟩; replace BK420 := Aside0.mk (blkKeep (bP BK420) hkp (by decide) (typNe1 (by (with_reducible repeat (first | apply Kd.S_alloc | apply Kd.S_drewN | apply Kd.S_drew)); exact HO0.out) (by decide))); replace HO1 := Aside0.mk (ownK (by (with_reducible repeat (first | apply Kd.S_alloc | apply Kd.S_drewN | apply Kd.S_drew)); exact HO1.out) hkp (fun k_ e1_ e2_ => absurd (e1_.symm.trans e2_) (by decide)) (by decide) (fun k_ e_ e2_ => AP.out.1 k_ e2_.symm e_) (typNe (by (with_reducible repeat (first | apply Kd.S_alloc | apply Kd.S_drewN | apply Kd.S_drew)); exact HO0.out) (by decide))); replace HO2 := Aside0.mk (ownK (by (with_reducible repeat (first | apply Kd.S_alloc | apply Kd.S_drewN | apply Kd.S_drew)); exact HO2.out) hkp (fun k_ e1_ e2_ => absurd (e1_.symm.trans e2_) (by decide)) (by decide) (fun k_ e_ e2_ => AP.out.2.1 k_ e2_.symm e_) (typNe (by (with_reducible repeat (first | apply Kd.S_alloc | apply Kd.S_drewN | apply Kd.S_drew)); exact HO0.out) (by decide))); replace KK := Aside0.mk (keptP (by repeat (first | (with_reducible first | exact KK.out | apply Kept.alloc | apply Kept.drewN | apply Kept.drew) | exact KK.out)) hkp (by exact fun _ h_ => .inl h_) (by exact fun _ h_ => .inl h_)); replace HO0 := Aside0.mk (ownBack ho); replace HB := Aside0.mk hb; clear ho hb hkp; obtain ⟨hcz9_0, hcz9_1, hcz9_2, hfz9_0, hfz9_1, hfz9_2⟩ := bK3 (w := w8) BK420)
    | (refine gC (some 12) Try.func44 #[.slice A1 l1.length c1, .int .i64 t1] ?_; (refine (laws_markIntSS.callsg k ?P1 _ l1 t1 t2 z2 w0 _ ?side1 ?side2 A4.out).mono ?_); (case side2 => first | exact ownB HO1.out | exact ownB (Kd.S_drew HO1.out) | exact ownB (Kd.S_drewN HO1.out _)); (case side1 => exact (bZ HB)); rintro e w10 ⟨rfl, ho, hb, hkp⟩; refine ⟨_, rfl, ?_⟩; replace BK420 := Aside0.mk (blkKeep (bP BK420) hkp (by decide) (typNe1 (by (with_reducible repeat (first | apply Kd.S_alloc | apply Kd.S_drewN | apply Kd.S_drew)); exact HO1.out) (by decide))); replace HO0 := Aside0.mk (ownK (by (with_reducible repeat (first | apply Kd.S_alloc | apply Kd.S_drewN | apply Kd.S_drew)); exact HO0.out) hkp (fun k_ e1_ e2_ => absurd (e1_.symm.trans e2_) (by decide)) (by decide) (fun k_ e_ e2_ => AP.out.1 k_ e_ e2_.symm) (typNe (by (with_reducible repeat (first | apply Kd.S_alloc | apply Kd.S_drewN | apply Kd.S_drew)); exact HO1.out) (by decide))); replace HO2 := Aside0.mk (ownK (by (with_reducible repeat (first | apply Kd.S_alloc | apply Kd.S_drewN | apply Kd.S_drew)); exact HO2.out) hkp (fun k_ e1_ e2_ => absurd (e1_.symm.trans e2_) (by decide)) (by decide) (fun k_ e_ e2_ => AP.out.2.2 k_ e2_.symm e_) (typNe (by (with_reducible repeat (first | apply Kd.S_alloc | apply Kd.S_drewN | apply Kd.S_drew)); exact HO1.out) (by decide))); replace KK := Aside0.mk (keptP (by repeat (first | (with_reducible first | exact KK.out | apply Kept.alloc | apply Kept.drewN | apply Kept.drew) | exact KK.out)) hkp (by exact fun _ h_ => .inr (.inl h_)) (by exact fun _ h_ => .inr (.inl h_))); replace HO1 := Aside0.mk (ownBack ho); replace HB := Aside0.mk hb; clear ho hb hkp; obtain ⟨hcz11_0, hcz11_1, hcz11_2, hfz11_0, hfz11_1, hfz11_2⟩ := bK3 (w := w10) BK420)
    | (refine gC (some 16) Try.func44 #[.slice A2 l2.length c2, .int .i64 t2] ?_; (refine (laws_markIntSS.callsg k ?P2 _ l2 t2 t3 z3 w0 _ ?side1 ?side2 A5.out).mono ?_); (case side2 => first | exact ownB HO2.out | exact ownB (Kd.S_drew HO2.out) | exact ownB (Kd.S_drewN HO2.out _)); (case side1 => exact (bZ HB)); rintro e w12 ⟨rfl, ho, hb, hkp⟩; refine ⟨_, rfl, ?_⟩; replace BK420 := Aside0.mk (blkKeep (bP BK420) hkp (by decide) (typNe1 (by (with_reducible repeat (first | apply Kd.S_alloc | apply Kd.S_drewN | apply Kd.S_drew)); exact HO2.out) (by decide))); replace HO0 := Aside0.mk (ownK (by (with_reducible repeat (first | apply Kd.S_alloc | apply Kd.S_drewN | apply Kd.S_drew)); exact HO0.out) hkp (fun k_ e1_ e2_ => absurd (e1_.symm.trans e2_) (by decide)) (by decide) (fun k_ e_ e2_ => AP.out.2.1 k_ e_ e2_.symm) (typNe (by (with_reducible repeat (first | apply Kd.S_alloc | apply Kd.S_drewN | apply Kd.S_drew)); exact HO2.out) (by decide))); replace HO1 := Aside0.mk (ownK (by (with_reducible repeat (first | apply Kd.S_alloc | apply Kd.S_drewN | apply Kd.S_drew)); exact HO1.out) hkp (fun k_ e1_ e2_ => absurd (e1_.symm.trans e2_) (by decide)) (by decide) (fun k_ e_ e2_ => AP.out.2.2 k_ e_ e2_.symm) (typNe (by (with_reducible repeat (first | apply Kd.S_alloc | apply Kd.S_drewN | apply Kd.S_drew)); exact HO2.out) (by decide))); replace KK := Aside0.mk (keptP (by repeat (first | (with_reducible first | exact KK.out | apply Kept.alloc | apply Kept.drewN | apply Kept.drew) | exact KK.out)) hkp (by exact fun _ h_ => .inr (.inr h_)) (by exact fun _ h_ => .inr (.inr h_))); replace HO2 := Aside0.mk (ownBack ho); replace HB := Aside0.mk hb; clear ho hb hkp))
  go_ret
  exact ⟨rR, (by (with_reducible repeat (first | apply Kd.S_alloc | apply Kd.S_drewN | apply Kd.S_drew)); exact HO0.out), (by (with_reducible repeat (first | apply Kd.S_alloc | apply Kd.S_drewN | apply Kd.S_drew)); exact HO1.out), (by (with_reducible repeat (first | apply Kd.S_alloc | apply Kd.S_drewN | apply Kd.S_drew)); exact HO2.out), bZ HB, by exact KK.out.mono (fun _ h_ => h_.2)⟩
/-! ### laws_heldIntS: function 22 -/
def laws_heldIntS.l0 : Nat → List Int → Int → Int → Option (Int)
 | 0, _, _, _ => none
 | k + 1, x0, x1, x5 => if x5 < (x0.length : Int) then (if 0 ≤ x5 then (if (rd x0 x5) = x1 then (laws_heldIntS.l0 k x0 (wrap64 (x1 + 1)) (wrap64 (x5 + 1))) else (some (-1))) else (none)) else (some x1)
def laws_heldIntS.f (k : Nat) (l0 : List Int) (a1 : Int) : Option (Int) := laws_heldIntS.l0 k l0 a1 0
theorem laws_heldIntS.mono_l : ∀ k, (∀ y0 y1 y2, LeO (laws_heldIntS.l0 k y0 y1 y2) (laws_heldIntS.l0 (k + 1) y0 y1 y2))
 | 0 => fun _ _ _ r h => by simp [laws_heldIntS.l0] at h
 | k + 1 => by
  have ih0 := laws_heldIntS.mono_l k
  ·intro y0 y1 y2
   unfold laws_heldIntS.l0
   with_reducible repeat' first | exact ih0 _ _ _ | exact LeO.refl _ | exact LeO.none _ | refine LeO.ite ?_ ?_ | refine LeO.bind ?_ (fun _ => ?_)
theorem laws_heldIntS.mono : ∀ a0 a1 k, LeO (laws_heldIntS.f k a0 a1) (laws_heldIntS.f (k + 1) a0 a1) := by
 intro a0 a1 k
 have ih0 := laws_heldIntS.mono_l k
 unfold laws_heldIntS.f
 with_reducible repeat' first | exact ih0 _ _ _ | exact LeO.refl _ | exact LeO.none _ | refine LeO.ite ?_ ?_ | refine LeO.bind ?_ (fun _ => ?_)
set_option maxHeartbeats 8000000 in
set_option maxRecDepth 100000 in
theorem laws_heldIntS.calls (k : Nat) (A0 : Option Addr) (c0 : Nat) (l0 : List Int) (a1 : Int) (r : Int) (w : World) (hr0 : Kd.C (Kd.int .i64) w A0 l0.length l0) (hc0 : l0.length ≤ c0) (h : laws_heldIntS.f k l0 a1 = some r) :
  Calls Try.prog 22 #[.slice A0 l0.length c0, .int .i64 a1] w fun e w' => e = .returned (.int .i64 r) ∧ Drawn0 w w' := by
 have HR0 := Aside0.mk hr0
 have HC0 := Aside0.mk hc0
 clear hr0 hc0
 have H : (laws_heldIntS.l0 k l0 a1 0) = some r := h
 clear h
 have H' := Aside0.mk H
 clear H
 go_enter Try.func22, Try.ntmps22
 go_wp2
 go_loopg [1, 5] k (fun kq v1 v5 w' => ∃ (x1_1 : Int) (x5_1 : Int), v1 = .int .i64 x1_1 ∧ v5 = .int .i64 x5_1 ∧ Aside0 (laws_heldIntS.l0 kq l0 x1_1 x5_1 = some r) ∧ Aside0 (kq ≤ k) ∧ Drawn0 w w')
 case atStart => exact ⟨(a1), (0), rS, rS, H', ⟨Nat.le_refl _⟩, by repeat (first | exact Drawn0.refl _ | apply Drawn0.step)⟩
 case round =>
  clear H'
  try clear c2
  try clear p2
  obtain ⟨x1_1, x5_1, rfl, rfl, HA, HK1, ⟨m1, rfl⟩⟩ := hrel
  cases gk with
  | zero => exact absurd HA.out (by simp [laws_heldIntS.l0])
  | succ k1 =>
   have H := HA.out
   clear HA
   simp only [laws_heldIntS.l0] at H
   by_cases c3 : x5_1 < (l0.length : Int)
   ·rw [if_pos c3] at H
    have c3b0 := decide_eq_true c3
    clear c3
    by_cases c4 : 0 ≤ x5_1
    ·rw [if_pos c4] at H
     have c4b0 := decide_eq_true c4
     clear c4
     by_cases c5 : (rd l0 x5_1) = x1_1
     ·rw [if_pos c5] at H
      have c5b0 : ((rd l0 x5_1) == x1_1) = true := beq_iff_eq.mpr c5
      have c5b1 : ((rd l0 x5_1) != x1_1) = false := bne_eq_false_iff_eq.mpr c5
      clear c5
      have H' := Aside0.mk H
      clear H
      have p424 : 0 ≤ (x5_1 : Int) := of_decide_eq_true (by first | (with_reducible assumption) | assumption)
      have q424 : x5_1 < (l0.length : Int) := of_decide_eq_true (by first | (with_reducible assumption) | assumption)
      obtain ⟨ad424, e424, hx424_0⟩ := Kd.at_int HR0.out x5_1 p424 q424
      cases e424
      replace p424 := eq_true p424
      replace q424 := eq_true q424
      go_wp2
      go_roundg k1
      case measure => have := HK1.out; omega
      case rel => exact ⟨(wrap64 (x1_1 + 1)), (wrap64 (x5_1 + 1)), rS, rS, H', ⟨by have := HK1.out; omega⟩, by repeat (first | exact Drawn0.refl _ | apply Drawn0.step)⟩
     ·rw [if_neg c5] at H
      have c5b0 : ((rd l0 x5_1) == x1_1) = false := beq_eq_false_iff_ne.mpr c5
      have c5b1 : ((rd l0 x5_1) != x1_1) = true := bne_iff_ne.mpr c5
      obtain rfl := Option.some.inj H
      have p424 : 0 ≤ (x5_1 : Int) := of_decide_eq_true (by first | (with_reducible assumption) | assumption)
      have q424 : x5_1 < (l0.length : Int) := of_decide_eq_true (by first | (with_reducible assumption) | assumption)
      obtain ⟨ad424, e424, hx424_0⟩ := Kd.at_int HR0.out x5_1 p424 q424
      cases e424
      replace p424 := eq_true p424
      replace q424 := eq_true q424
      go_wp2
      go_ret
      exact ⟨rS, rD⟩
    ·rw [if_neg c4] at H
     exact absurd H (by simp)
   ·rw [if_neg c3] at H
    have c3b0 := decide_eq_false c3
    clear c3
    obtain rfl := Option.some.inj H
    go_wp2
    go_ret
    exact ⟨rS, rD⟩
/-! ### laws_heldIntSS: function 86 -/
def laws_heldIntSS.l0 : Nat → List (List Int) → Int → Int → Option (Int)
 | 0, _, _, _ => none
 | k + 1, x0, x1, x5 => if x5 < (x0.length : Int) then (if 0 ≤ x5 then ((laws_heldIntS.f k (rd_L1 x0 x5) x1).bind fun t426 => (if t426 < 0 then (some (-1)) else (laws_heldIntSS.l0 k x0 t426 (wrap64 (x5 + 1))))) else (none)) else (some x1)
def laws_heldIntSS.f (k : Nat) (l0 : List (List Int)) (a1 : Int) : Option (Int) := laws_heldIntSS.l0 k l0 a1 0
theorem laws_heldIntSS.mono_l : ∀ k, (∀ y0 y1 y2, LeO (laws_heldIntSS.l0 k y0 y1 y2) (laws_heldIntSS.l0 (k + 1) y0 y1 y2))
 | 0 => fun _ _ _ r h => by simp [laws_heldIntSS.l0] at h
 | k + 1 => by
  have ih0 := laws_heldIntSS.mono_l k
  ·intro y0 y1 y2
   unfold laws_heldIntSS.l0
   with_reducible repeat' first | exact ih0 _ _ _ | exact laws_heldIntS.mono _ _ _ | exact LeO.refl _ | exact LeO.none _ | refine LeO.ite ?_ ?_ | refine LeO.bind ?_ (fun _ => ?_)
theorem laws_heldIntSS.mono : ∀ a0 a1 k, LeO (laws_heldIntSS.f k a0 a1) (laws_heldIntSS.f (k + 1) a0 a1) := by
 intro a0 a1 k
 have ih0 := laws_heldIntSS.mono_l k
 unfold laws_heldIntSS.f
 with_reducible repeat' first | exact ih0 _ _ _ | exact laws_heldIntS.mono _ _ _ | exact LeO.refl _ | exact LeO.none _ | refine LeO.ite ?_ ?_ | refine LeO.bind ?_ (fun _ => ?_)
set_option maxHeartbeats 8000000 in
set_option maxRecDepth 100000 in
theorem laws_heldIntSS.calls (k : Nat) (A0 : Option Addr) (c0 : Nat) (l0 : List (List Int)) (a1 : Int) (r : Int) (w : World) (hr0 : Kd.C (Kd.slice 3 (Kd.int .i64)) w A0 l0.length l0) (hc0 : l0.length ≤ c0) (h : laws_heldIntSS.f k l0 a1 = some r) :
  Calls Try.prog 86 #[.slice A0 l0.length c0, .int .i64 a1] w fun e w' => e = .returned (.int .i64 r) ∧ Drawn0 w w' := by
 have HR0 := Aside0.mk hr0
 have HC0 := Aside0.mk hc0
 clear hr0 hc0
 have H : (laws_heldIntSS.l0 k l0 a1 0) = some r := h
 clear h
 have H' := Aside0.mk H
 clear H
 go_enter Try.func86, Try.ntmps86
 go_wp2
 go_loopg [1, 5] k (fun kq v1 v5 w' => ∃ (x1_1 : Int) (x5_1 : Int), v1 = .int .i64 x1_1 ∧ v5 = .int .i64 x5_1 ∧ Aside0 (laws_heldIntSS.l0 kq l0 x1_1 x5_1 = some r) ∧ Aside0 (kq ≤ k) ∧ Drawn0 w w')
 case atStart => exact ⟨(a1), (0), rS, rS, H', ⟨Nat.le_refl _⟩, by repeat (first | exact Drawn0.refl _ | apply Drawn0.step)⟩
 case round =>
  clear H'
  try clear p2
  obtain ⟨x1_1, x5_1, rfl, rfl, HA, HK1, ⟨m1, rfl⟩⟩ := hrel
  cases gk with
  | zero => exact absurd HA.out (by simp [laws_heldIntSS.l0])
  | succ k1 =>
   have H := HA.out
   clear HA
   simp only [laws_heldIntSS.l0] at H
   by_cases c3 : x5_1 < (l0.length : Int)
   ·rw [if_pos c3] at H
    have c3b0 := decide_eq_true c3
    clear c3
    by_cases c4 : 0 ≤ x5_1
    ·rw [if_pos c4] at H
     have c4b0 := decide_eq_true c4
     clear c4
     replace H := Option.bind_eq_some_iff.mp H
     obtain ⟨t426, A50, H⟩ := H
     have A5 := Aside0.mk A50
     clear A50
     by_cases c6 : t426 < 0
     ·rw [if_pos c6] at H
      have c6b0 := decide_eq_true c6
      clear c6
      obtain rfl := Option.some.inj H
      have p425 : 0 ≤ (x5_1 : Int) := of_decide_eq_true (by first | (with_reducible assumption) | assumption)
      have q425 : x5_1 < (l0.length : Int) := of_decide_eq_true (by first | (with_reducible assumption) | assumption)
      obtain ⟨ad425, A425_0, c425_0, e425, hx425_0, hl425_0, hi425_0⟩ := at_L1 HR0.out x5_1 p425 q425
      cases e425
      have HR425_0 := Aside0.mk hi425_0
      have HC425_0 := Aside0.mk hl425_0
      clear hi425_0 hl425_0
      replace p425 := eq_true p425
      replace q425 := eq_true q425
      go_wp2_with (first | (refine gC (some 17) Try.func22 #[.slice A425_0 (rd_L1 l0 x5_1).length c425_0, .int .i64 x1_1] ?_; (with_reducible refine (laws_heldIntS.calls k1 _ _ (rd_L1 l0 x5_1) x1_1 t426 _ ?side1 ?side2 A5.out).mono ?_); (case side1 => exact cP HR425_0.out); (case side2 => exact HC425_0.out); rintro e w' ⟨rfl, ⟨nd, rfl⟩⟩; refine ⟨_, rfl, ?_⟩))
      go_ret
      exact ⟨rS, rD⟩
     ·rw [if_neg c6] at H
      have c6b0 := decide_eq_false c6
      clear c6
      have H' := Aside0.mk H
      clear H
      have p425 : 0 ≤ (x5_1 : Int) := of_decide_eq_true (by first | (with_reducible assumption) | assumption)
      have q425 : x5_1 < (l0.length : Int) := of_decide_eq_true (by first | (with_reducible assumption) | assumption)
      obtain ⟨ad425, A425_0, c425_0, e425, hx425_0, hl425_0, hi425_0⟩ := at_L1 HR0.out x5_1 p425 q425
      cases e425
      have HR425_0 := Aside0.mk hi425_0
      have HC425_0 := Aside0.mk hl425_0
      clear hi425_0 hl425_0
      replace p425 := eq_true p425
      replace q425 := eq_true q425
      go_wp2_with (first | (refine gC (some 17) Try.func22 #[.slice A425_0 (rd_L1 l0 x5_1).length c425_0, .int .i64 x1_1] ?_; (with_reducible refine (laws_heldIntS.calls k1 _ _ (rd_L1 l0 x5_1) x1_1 t426 _ ?side1 ?side2 A5.out).mono ?_); (case side1 => exact cP HR425_0.out); (case side2 => exact HC425_0.out); rintro e w' ⟨rfl, ⟨nd, rfl⟩⟩; refine ⟨_, rfl, ?_⟩))
      go_roundg k1
      case measure => have := HK1.out; omega
      case rel => exact ⟨(t426), (wrap64 (x5_1 + 1)), rS, rS, H', ⟨by have := HK1.out; omega⟩, by repeat (first | exact Drawn0.refl _ | apply Drawn0.step)⟩
    ·rw [if_neg c4] at H
     exact absurd H (by simp)
   ·rw [if_neg c3] at H
    have c3b0 := decide_eq_false c3
    clear c3
    obtain rfl := Option.some.inj H
    go_wp2
    go_ret
    exact ⟨rS, rD⟩
/-! ### laws_heldQap: function 62 -/
def laws_heldQap.f (k : Nat) (l0_0 : List (List Int)) (l0_1 : List (List Int)) (l0_2 : List (List Int)) (a1 : Int) : Option (Int) := (laws_heldIntSS.f k l0_0 a1).bind fun t428 => (if t428 < 0 then (some (-1)) else ((laws_heldIntSS.f k l0_1 t428).bind fun t429 => (if t429 < 0 then (some (-1)) else ((laws_heldIntSS.f k l0_2 t429).bind fun t430 => (if t430 < 0 then (some (-1)) else (some t430))))))
theorem laws_heldQap.mono : ∀ a0 a1 a2 a3 k, LeO (laws_heldQap.f k a0 a1 a2 a3) (laws_heldQap.f (k + 1) a0 a1 a2 a3) := by
 intro a0 a1 a2 a3 k
 unfold laws_heldQap.f
 with_reducible repeat' first | exact laws_heldIntSS.mono _ _ _ | exact LeO.refl _ | exact LeO.none _ | refine LeO.ite ?_ ?_ | refine LeO.bind ?_ (fun _ => ?_)
set_option maxHeartbeats 8000000 in
set_option maxRecDepth 100000 in
theorem laws_heldQap.calls (k : Nat) (A0_0 : Option Addr) (c0_0 : Nat) (l0_0 : List (List Int)) (A0_1 : Option Addr) (c0_1 : Nat) (l0_1 : List (List Int)) (A0_2 : Option Addr) (c0_2 : Nat) (l0_2 : List (List Int)) (a1 : Int) (r : Int) (w : World) (hr0_0 : Kd.C (Kd.slice 3 (Kd.int .i64)) w A0_0 l0_0.length l0_0) (hc0_0 : l0_0.length ≤ c0_0) (hr0_1 : Kd.C (Kd.slice 3 (Kd.int .i64)) w A0_1 l0_1.length l0_1) (hc0_1 : l0_1.length ≤ c0_1) (hr0_2 : Kd.C (Kd.slice 3 (Kd.int .i64)) w A0_2 l0_2.length l0_2) (hc0_2 : l0_2.length ≤ c0_2) (h : laws_heldQap.f k l0_0 l0_1 l0_2 a1 = some r) :
  Calls Try.prog 62 #[.agg #[.slice A0_0 l0_0.length c0_0, .slice A0_1 l0_1.length c0_1, .slice A0_2 l0_2.length c0_2], .int .i64 a1] w fun e w' => e = .returned (.int .i64 r) ∧ Below w.heap.size w w' := by
 have hu61 := Try.underlying61
 have HR0_0 := Aside0.mk hr0_0
 have HC0_0 := Aside0.mk hc0_0
 clear hr0_0 hc0_0
 have HR0_1 := Aside0.mk hr0_1
 have HC0_1 := Aside0.mk hc0_1
 clear hr0_1 hc0_1
 have HR0_2 := Aside0.mk hr0_2
 have HC0_2 := Aside0.mk hc0_2
 clear hr0_2 hc0_2
 have HB := Aside0.mk (Below.refl w.heap.size w)
 have H : ((laws_heldIntSS.f k l0_0 a1).bind fun t428 => (if t428 < 0 then (some (-1)) else ((laws_heldIntSS.f k l0_1 t428).bind fun t429 => (if t429 < 0 then (some (-1)) else ((laws_heldIntSS.f k l0_2 t429).bind fun t430 => (if t430 < 0 then (some (-1)) else (some t430))))))) = some r := h
 clear h
 replace H := Option.bind_eq_some_iff.mp H
 obtain ⟨t428, A30, H⟩ := H
 have A3 := Aside0.mk A30
 clear A30
 by_cases c4 : t428 < 0
 ·rw [if_pos c4] at H
  have c4b0 := decide_eq_true c4
  clear c4
  obtain rfl := Option.some.inj H
  go_enter Try.func62, Try.ntmps62
  go_wp2_with (first | (refine gB 2 #[.slice A0_0 l0_0.length c0_0, .slice A0_1 l0_1.length c0_1, .slice A0_2 l0_2.length c0_2] 61 ?_; intro gb427 hg w5 BK427 hb; have GW427 := bG HB hg; replace HB := bS HB hb; clear hb hg; obtain ⟨hcz6_0, hcz6_1, hcz6_2, hfz6_0, hfz6_1, hfz6_2⟩ := bK3 (w := w5) BK427) | (refine gC (some 8) Try.func86 #[.slice A0_0 l0_0.length c0_0, .int .i64 a1] ?_; (with_reducible refine (laws_heldIntSS.calls k _ _ l0_0 a1 t428 _ ?side1 ?side2 A3.out).mono ?_); (case side1 => exact cP (Kd.C_below HR0_0.out HB.out)); (case side2 => exact HC0_0.out); rintro e w' ⟨rfl, ⟨nd, rfl⟩⟩; refine ⟨_, rfl, ?_⟩))
  go_ret
  exact ⟨rR, bZ HB⟩
 ·rw [if_neg c4] at H
  have c4b0 := decide_eq_false c4
  clear c4
  replace H := Option.bind_eq_some_iff.mp H
  obtain ⟨t429, A70, H⟩ := H
  have A7 := Aside0.mk A70
  clear A70
  by_cases c8 : t429 < 0
  ·rw [if_pos c8] at H
   have c8b0 := decide_eq_true c8
   clear c8
   obtain rfl := Option.some.inj H
   go_enter Try.func62, Try.ntmps62
   go_wp2_with (first | (refine gB 2 #[.slice A0_0 l0_0.length c0_0, .slice A0_1 l0_1.length c0_1, .slice A0_2 l0_2.length c0_2] 61 ?_; intro gb427 hg w9 BK427 hb; have GW427 := bG HB hg; replace HB := bS HB hb; clear hb hg; obtain ⟨hcz10_0, hcz10_1, hcz10_2, hfz10_0, hfz10_1, hfz10_2⟩ := bK3 (w := w9) BK427) | (refine gC (some 8) Try.func86 #[.slice A0_0 l0_0.length c0_0, .int .i64 a1] ?_; (with_reducible refine (laws_heldIntSS.calls k _ _ l0_0 a1 t428 _ ?side1 ?side2 A3.out).mono ?_); (case side1 => exact cP (Kd.C_below HR0_0.out HB.out)); (case side2 => exact HC0_0.out); rintro e w' ⟨rfl, ⟨nd, rfl⟩⟩; refine ⟨_, rfl, ?_⟩) | (refine gC (some 14) Try.func86 #[.slice A0_1 l0_1.length c0_1, .int .i64 t428] ?_; (with_reducible refine (laws_heldIntSS.calls k _ _ l0_1 t428 t429 _ ?side1 ?side2 A7.out).mono ?_); (case side1 => exact cP (Kd.C_below HR0_1.out (bZ HB))); (case side2 => exact HC0_1.out); rintro e w' ⟨rfl, ⟨nd, rfl⟩⟩; refine ⟨_, rfl, ?_⟩))
   go_ret
   exact ⟨rR, bZ HB⟩
  ·rw [if_neg c8] at H
   have c8b0 := decide_eq_false c8
   clear c8
   replace H := Option.bind_eq_some_iff.mp H
   obtain ⟨t430, A110, H⟩ := H
   have A11 := Aside0.mk A110
   clear A110
   by_cases c12 : t430 < 0
   ·rw [if_pos c12] at H
    have c12b0 := decide_eq_true c12
    clear c12
    obtain rfl := Option.some.inj H
    go_enter Try.func62, Try.ntmps62
    go_wp2_with (first | (refine gB 2 #[.slice A0_0 l0_0.length c0_0, .slice A0_1 l0_1.length c0_1, .slice A0_2 l0_2.length c0_2] 61 ?_; intro gb427 hg w13 BK427 hb; have GW427 := bG HB hg; replace HB := bS HB hb; clear hb hg; obtain ⟨hcz14_0, hcz14_1, hcz14_2, hfz14_0, hfz14_1, hfz14_2⟩ := bK3 (w := w13) BK427) | (refine gC (some 8) Try.func86 #[.slice A0_0 l0_0.length c0_0, .int .i64 a1] ?_; (with_reducible refine (laws_heldIntSS.calls k _ _ l0_0 a1 t428 _ ?side1 ?side2 A3.out).mono ?_); (case side1 => exact cP (Kd.C_below HR0_0.out HB.out)); (case side2 => exact HC0_0.out); rintro e w' ⟨rfl, ⟨nd, rfl⟩⟩; refine ⟨_, rfl, ?_⟩) | (refine gC (some 14) Try.func86 #[.slice A0_1 l0_1.length c0_1, .int .i64 t428] ?_; (with_reducible refine (laws_heldIntSS.calls k _ _ l0_1 t428 t429 _ ?side1 ?side2 A7.out).mono ?_); (case side1 => exact cP (Kd.C_below HR0_1.out (bZ HB))); (case side2 => exact HC0_1.out); rintro e w' ⟨rfl, ⟨nd, rfl⟩⟩; refine ⟨_, rfl, ?_⟩) | (refine gC (some 20) Try.func86 #[.slice A0_2 l0_2.length c0_2, .int .i64 t429] ?_; (with_reducible refine (laws_heldIntSS.calls k _ _ l0_2 t429 t430 _ ?side1 ?side2 A11.out).mono ?_); (case side1 => exact cP (Kd.C_below HR0_2.out (bZ HB))); (case side2 => exact HC0_2.out); rintro e w' ⟨rfl, ⟨nd, rfl⟩⟩; refine ⟨_, rfl, ?_⟩))
    go_ret
    exact ⟨rR, bZ HB⟩
   ·rw [if_neg c12] at H
    have c12b0 := decide_eq_false c12
    clear c12
    obtain rfl := Option.some.inj H
    go_enter Try.func62, Try.ntmps62
    go_wp2_with (first | (refine gB 2 #[.slice A0_0 l0_0.length c0_0, .slice A0_1 l0_1.length c0_1, .slice A0_2 l0_2.length c0_2] 61 ?_; intro gb427 hg w15 BK427 hb; have GW427 := bG HB hg; replace HB := bS HB hb; clear hb hg; obtain ⟨hcz16_0, hcz16_1, hcz16_2, hfz16_0, hfz16_1, hfz16_2⟩ := bK3 (w := w15) BK427) | (refine gC (some 8) Try.func86 #[.slice A0_0 l0_0.length c0_0, .int .i64 a1] ?_; (with_reducible refine (laws_heldIntSS.calls k _ _ l0_0 a1 t428 _ ?side1 ?side2 A3.out).mono ?_); (case side1 => exact cP (Kd.C_below HR0_0.out HB.out)); (case side2 => exact HC0_0.out); rintro e w' ⟨rfl, ⟨nd, rfl⟩⟩; refine ⟨_, rfl, ?_⟩) | (refine gC (some 14) Try.func86 #[.slice A0_1 l0_1.length c0_1, .int .i64 t428] ?_; (with_reducible refine (laws_heldIntSS.calls k _ _ l0_1 t428 t429 _ ?side1 ?side2 A7.out).mono ?_); (case side1 => exact cP (Kd.C_below HR0_1.out (bZ HB))); (case side2 => exact HC0_1.out); rintro e w' ⟨rfl, ⟨nd, rfl⟩⟩; refine ⟨_, rfl, ?_⟩) | (refine gC (some 20) Try.func86 #[.slice A0_2 l0_2.length c0_2, .int .i64 t429] ?_; (with_reducible refine (laws_heldIntSS.calls k _ _ l0_2 t429 t430 _ ?side1 ?side2 A11.out).mono ?_); (case side1 => exact cP (Kd.C_below HR0_2.out (bZ HB))); (case side2 => exact HC0_2.out); rintro e w' ⟨rfl, ⟨nd, rfl⟩⟩; refine ⟨_, rfl, ?_⟩))
    go_ret
    exact ⟨rR, bZ HB⟩
end Go.Proofs.Ytcnejiflpioaiaa.Pf
end
