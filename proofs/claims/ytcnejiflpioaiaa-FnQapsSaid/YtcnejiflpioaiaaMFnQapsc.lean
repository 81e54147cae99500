/- What is proved here: part 3 of 4 of the proof of the given statement FnQaps: the contracts of the Go functions that it reaches, the plain facts on lists and numbers, and (in the last part) the statement itself. No conditions beyond the given ones. -/
import Derived.Test.YtcnejiflpioaiaaMFnQapswSlim
import Derived.Test.YtcnejiflpioaiaaMFnQapsa
import Derived.Test.YtcnejiflpioaiaaMFnQapsb

section
namespace Go.Proofs.Ytcnejiflpioaiaa.Pf
open Go.RowKit Go.Proofs.YtcnejiflpioaiaaW.PrintWords Go.Proofs.YtcnejiflpioaiaaW.PrintLast Go.Proofs.YtcnejiflpioaiaaW.PrintMore
attribute [local go_sem] max2_int min2_int max_two min_two max_three min_three max_four min_four   -- for this text's walks alone
set_option linter.unusedVariables false
set_option linter.unusedSimpArgs false
def impl_areScalars.l0 : Nat → List Int → Int → Int → Option (Bool)
 | 0, _, _, _ => none
 | k + 1, x5, x6, x7 => if x7 < x6 then (if 0 ≤ x7 then (if x7 < (x5.length : Int) then ((impl_isScalar.f (rd x5 x7)).bind fun t426 => (if t426 = true then (impl_areScalars.l0 k x5 x6 (wrap64 (x7 + 1))) else (some false))) else (none)) else (none)) else (some true)
def impl_areScalars.f (k : Nat) (l0 : List Int) : Option (Bool) := impl_areScalars.l0 k l0 (l0.length : Int) 0
set_option maxHeartbeats 8000000 in
set_option maxRecDepth 100000 in
theorem impl_areScalars.calls (k : Nat) (A0 : Option Addr) (c0 : Nat) (l0 : List Int) (r : Bool) (w : World) (hr0 : Kd.C (Kd.int .i64) w A0 l0.length l0) (hc0 : l0.length ≤ c0) (h : impl_areScalars.f k l0 = some r) :
  Calls Try.prog 92 #[.slice A0 l0.length c0] w fun e w' => e = .returned (.bool r) ∧ Drawn0 w w' := by
 have HR0 := Aside0.mk hr0
 have HC0 := Aside0.mk hc0
 clear hr0 hc0
 have H : (impl_areScalars.l0 k l0 (l0.length : Int) 0) = some r := h
 clear h
 have H' := Aside0.mk H
 clear H
 go_enter Try.func92, Try.ntmps92
 go_wp2
 go_loopg [7] k (fun kq v7 w' => ∃ (x7_1 : Int), v7 = .int .i64 x7_1 ∧ Aside0 (impl_areScalars.l0 kq l0 (l0.length : Int) x7_1 = some r) ∧ Aside0 (kq ≤ k) ∧ Drawn0 w w')
 case atStart => exact ⟨(0), rS, H', ⟨Nat.le_refl _⟩, by repeat (first | exact Drawn0.refl _ | apply Drawn0.step)⟩
 case round =>
  clear H'
  obtain ⟨x7_1, rfl, HA, HK1, ⟨m1, rfl⟩⟩ := hrel
  cases gk with
  | zero => exact absurd HA.out (by simp [impl_areScalars.l0])
  | succ k1 =>
   have H := HA.out
   clear HA
   simp only [impl_areScalars.l0] at H
   by_cases c2 : x7_1 < (l0.length : Int)
   ·rw [if_pos c2] at H
    have c2b0 := decide_eq_true c2
    clear c2
    by_cases c3 : 0 ≤ x7_1
    ·rw [if_pos c3] at H
     have c3b0 := decide_eq_true c3
     clear c3
     by_cases c4 : x7_1 < (l0.length : Int)
     ·rw [if_pos c4] at H
      have c4b0 := decide_eq_true c4
      clear c4
      replace H := Option.bind_eq_some_iff.mp H
      obtain ⟨t426, A50, H⟩ := H
      have A5 := Aside0.mk A50
      clear A50
      by_cases c6 : t426 = true
      ·subst c6
       rw [if_pos rfl] at H
       have H' := Aside0.mk H
       clear H
       have p425 : 0 ≤ (x7_1 : Int) := of_decide_eq_true (by first | (with_reducible assumption) | assumption)
       have q425 : x7_1 < (l0.length : Int) := of_decide_eq_true (by first | (with_reducible assumption) | assumption)
       obtain ⟨ad425, e425, hx425_0⟩ := Kd.at_int HR0.out x7_1 p425 q425
       cases e425
       replace p425 := eq_true p425
       replace q425 := eq_true q425
       go_wp2_with (first | (refine gC (some 12) Try.func100 #[.int .i64 (rd l0 x7_1)] ?_; (with_reducible refine (impl_isScalar.calls (rd l0 x7_1) true _ A5.out).mono ?_); rintro e w' ⟨rfl, ⟨nd, rfl⟩⟩; refine ⟨_, rfl, ?_⟩))
       go_roundg k1
       case measure => have := HK1.out; omega
       case rel => exact ⟨(wrap64 (x7_1 + 1)), rS, H', ⟨by have := HK1.out; omega⟩, by repeat (first | exact Drawn0.refl _ | apply Drawn0.step)⟩
      ·replace c6 := Bool.eq_false_iff.mpr c6
       subst c6
       rw [if_neg (show ¬ (false = true) by decide)] at H
       obtain rfl := Option.some.inj H
       have p425 : 0 ≤ (x7_1 : Int) := of_decide_eq_true (by first | (with_reducible assumption) | assumption)
       have q425 : x7_1 < (l0.length : Int) := of_decide_eq_true (by first | (with_reducible assumption) | assumption)
       obtain ⟨ad425, e425, hx425_0⟩ := Kd.at_int HR0.out x7_1 p425 q425
       cases e425
       replace p425 := eq_true p425
       replace q425 := eq_true q425
       go_wp2_with (first | (refine gC (some 12) Try.func100 #[.int .i64 (rd l0 x7_1)] ?_; (with_reducible refine (impl_isScalar.calls (rd l0 x7_1) false _ A5.out).mono ?_); rintro e w' ⟨rfl, ⟨nd, rfl⟩⟩; refine ⟨_, rfl, ?_⟩))
       go_ret
       exact ⟨rS, rD⟩
     ·rw [if_neg c4] at H
      exact absurd H (by simp)
    ·rw [if_neg c3] at H
     exact absurd H (by simp)
   ·rw [if_neg c2] at H
    have c2b0 := decide_eq_false c2
    clear c2
    obtain rfl := Option.some.inj H
    go_wp2
    go_ret
    exact ⟨rS, rD⟩
end Go.Proofs.Ytcnejiflpioaiaa.Pf
end
section
namespace Go.Proofs.Ytcnejiflpioaiaa.Pf
open Go.RowKit Go.Proofs.YtcnejiflpioaiaaW.PrintWords Go.Proofs.YtcnejiflpioaiaaW.PrintLast Go.Proofs.YtcnejiflpioaiaaW.PrintMore
attribute [local go_sem] max2_int min2_int max_two min_two max_three min_three max_four min_four   -- for this text's walks alone
set_option linter.unusedVariables false
set_option linter.unusedSimpArgs false
theorem lit_event {P : Program} {ops : Array Oper} {rest : List Oper} {o : Oper} {a : Act} {Q : Exit → Act → World → Prop} {W : World} (hgd : o.guard = none) {N : Tmp} (_hd : o.dst = some N) {cs : Array Value} {t : TypeId} {n : Nat}
  (hrun : (execOp a.eval o).run P W = .ok (.value (.slice (some ⟨W.heap.size, 0, none⟩) n n)) (W.alloc (.cells cs t (0, 0))))
  (h : ∀ g, g = W.heap.size → ∀ w1, w1.heap[g]? = some (.cells cs t (0, 0)) → Below W.heap.size W w1 → wpList P ops Q rest (a.put o.dst (.slice (some ⟨g, 0, none⟩) n n)) w1) : wpList P ops Q (o :: rest) a W :=
 Kd.event_run hgd hrun (h _ rfl _ (blk_new W _) (below_alloc (Below.refl _ _) _))
mutual
def impl_SystemOk.j0 : Nat → Bool → Int → Int → List (S40) → Option (Bool)
 | 0, _, _, _, _ => none
 | k + 1, x27, x428000, x428001, x428002 => if x27 = true then (some false) else (if (x428002.length : Int) < 1 then (impl_SystemOk.j1 k true x428000 x428001 x428002) else (impl_SystemOk.j1 k (decide ((x428002.length : Int) > 16)) x428000 x428001 x428002))
def impl_SystemOk.j1 : Nat → Bool → Int → Int → List (S40) → Option (Bool)
 | 0, _, _, _, _ => none
 | k + 1, x37, x428000, x428001, x428002 => if x37 = true then (some false) else (impl_SystemOk.l0 k x428002 (x428002.length : Int) 0 x428000 x428001 x428002)
def impl_SystemOk.l0 : Nat → List (S40) → Int → Int → Int → Int → List (S40) → Option (Bool)
 | 0, _, _, _, _, _, _ => none
 | k + 1, x39, x40, x41, x428000, x428001, x428002 => if x41 < x40 then (if 0 ≤ x41 then (if x41 < (x39.length : Int) then (if (((rd_T40 x39 x41).f0).length : Int) = x428000 then ((impl_areScalars.f k ((rd_T40 x39 x41).f0)).bind fun t430 => (impl_SystemOk.j3 k x39 x40 x41 (!t430) x428000 x428001 x428002 ((rd_T40 x39 x41).f0) ((rd_T40 x39 x41).f1) ((rd_T40 x39 x41).f2))) else (impl_SystemOk.j3 k x39 x40 x41 true x428000 x428001 x428002 ((rd_T40 x39 x41).f0) ((rd_T40 x39 x41).f1) ((rd_T40 x39 x41).f2))) else (none)) else (none)) else (some true)
def impl_SystemOk.j3 : Nat → List (S40) → Int → Int → Bool → Int → Int → List (S40) → List Int → List Int → List Int → Option (Bool)
 | 0, _, _, _, _, _, _, _, _, _, _ => none
 | k + 1, x39, x40, x41, x66, x428000, x428001, x428002, x430000, x430001, x430002 => if x66 = true then (some false) else (if (x430001.length : Int) = x428000 then ((impl_areScalars.f k x430001).bind fun t431 => (impl_SystemOk.j4 k x39 x40 x41 (!t431) x428000 x428001 x428002 x430000 x430001 x430002)) else (impl_SystemOk.j4 k x39 x40 x41 true x428000 x428001 x428002 x430000 x430001 x430002))
def impl_SystemOk.j4 : Nat → List (S40) → Int → Int → Bool → Int → Int → List (S40) → List Int → List Int → List Int → Option (Bool)
 | 0, _, _, _, _, _, _, _, _, _, _ => none
 | k + 1, x39, x40, x41, x66, x428000, x428001, x428002, x430000, x430001, x430002 => if x66 = true then (some false) else (if (x430002.length : Int) = x428000 then ((impl_areScalars.f k x430002).bind fun t432 => (if t432 = true then (impl_SystemOk.l0 k x39 x40 (wrap64 (x41 + 1)) x428000 x428001 x428002) else (some false))) else (some false))
end
def impl_SystemOk.f (k : Nat) (a0_0 : Int) (a0_1 : Int) (l0_2 : List (S40)) : Option (Bool) := if a0_0 < 1 then (impl_SystemOk.j0 k true a0_0 a0_1 l0_2) else (if a0_0 > 20 then (impl_SystemOk.j0 k true a0_0 a0_1 l0_2) else (if a0_1 < 0 then (impl_SystemOk.j0 k true a0_0 a0_1 l0_2) else (impl_SystemOk.j0 k (decide (a0_1 > (wrap64 (a0_0 - 1)))) a0_0 a0_1 l0_2)))
set_option maxHeartbeats 8000000 in
set_option maxRecDepth 100000 in
theorem impl_SystemOk.calls (k : Nat) (a0_0 : Int) (a0_1 : Int) (A0_2 : Option Addr) (c0_2 : Nat) (l0_2 : List (S40)) (r : Bool) (w : World) (hr0_2 : Kd.C k40 w A0_2 l0_2.length l0_2) (hc0_2 : l0_2.length ≤ c0_2) (h : impl_SystemOk.f k a0_0 a0_1 l0_2 = some r) :
  Calls Try.prog 83 #[.agg #[.int .i64 a0_0, .int .i64 a0_1, .slice A0_2 l0_2.length c0_2]] w fun e w' => e = .returned (.bool r) ∧ Below w.heap.size w w' := by
 have hu32 := Try.underlying32
 have hu40 := Try.underlying40
 have HR0_2 := Aside0.mk hr0_2
 have HC0_2 := Aside0.mk hc0_2
 clear hr0_2 hc0_2
 have HB := Aside0.mk (Below.refl w.heap.size w)
 have H : (if a0_0 < 1 then (impl_SystemOk.j0 k true a0_0 a0_1 l0_2) else (if a0_0 > 20 then (impl_SystemOk.j0 k true a0_0 a0_1 l0_2) else (if a0_1 < 0 then (impl_SystemOk.j0 k true a0_0 a0_1 l0_2) else (impl_SystemOk.j0 k (decide (a0_1 > (wrap64 (a0_0 - 1)))) a0_0 a0_1 l0_2)))) = some r := h
 clear h
 have HC2 := Aside0.mk H
 clear H
 go_enter Try.func83, Try.ntmps83
 go_upto_region 1 with (first | ((with_reducible refine gate_dst (N := 1) rfl ?_); (try (refine gate_guard (by rfl) ?_; dsimp only)); refine box_event ?hg (N := 1) ?hd (cs := #[.int .i64 a0_0, .int .i64 a0_1, .slice A0_2 l0_2.length c0_2]) (t := 32) ?hr ?_; (case hd => rfl); (case hg => rfl); (case hr => first | (go_simp; done) | (go_simp; rfl)); intro gb427 hg w3 hbox hb; have BK427 := Aside0.mk (hbox); have GW427 := bG HB hg; replace HB := bS HB hb; clear hb hbox hg))
 (try simp only [Act.put, List.setIfInBounds_toArray, List.set_cons_zero, List.set_cons_succ])
 go_cut [27] (fun v27 wc => ∃ (kq : Nat) (x27_1 : Bool), v27 = .bool x27_1 ∧ Aside0 (impl_SystemOk.j0 kq x27_1 a0_0 a0_1 l0_2 = some r) ∧ Aside0 (kq ≤ k) ∧ Aside0 (wc.heap[gb427]? = some (.cells #[.int .i64 a0_0, .int .i64 a0_1, (.slice A0_2 l0_2.length c0_2)] 32 (0, 0))) ∧ Aside0 (Below w.heap.size w wc))
 case first =>
  have H := HC2.out
  clear HC2
  by_cases c4 : a0_0 < 1
  ·rw [if_pos c4] at H
   have c4b0 := decide_eq_true c4
   clear c4
   (first | rw [c4b0] | (simp only [i64_w, i32_w]; rw [c4b0]) | rw [c4b1] | skip)
   have H' := Aside0.mk H
   clear H
   obtain ⟨hcz5_0, hcz5_1, hcz5_2, hfz5_0, hfz5_1, hfz5_2⟩ := bK3 (w := w3) BK427
   go_wp2
   go_meet
   case rel => exact ⟨_, (true), rS, H', ⟨by first | omega | exact Nat.le_refl _⟩, ⟨bP BK427⟩, ⟨bZ HB⟩⟩
  ·rw [if_neg c4] at H
   have c4b0 := decide_eq_false c4
   clear c4
   (first | rw [c4b0] | (simp only [i64_w, i32_w]; rw [c4b0]) | rw [c4b1] | skip)
   by_cases c6 : a0_0 > 20
   ·rw [if_pos c6] at H
    have c6b0 := decide_eq_true c6
    clear c6
    have H' := Aside0.mk H
    clear H
    obtain ⟨hcz7_0, hcz7_1, hcz7_2, hfz7_0, hfz7_1, hfz7_2⟩ := bK3 (w := w3) BK427
    go_wp2
    go_meet
    case rel => exact ⟨_, (true), rS, H', ⟨by first | omega | exact Nat.le_refl _⟩, ⟨bP BK427⟩, ⟨bZ HB⟩⟩
   ·rw [if_neg c6] at H
    have c6b0 := decide_eq_false c6
    clear c6
    by_cases c8 : a0_1 < 0
    ·rw [if_pos c8] at H
     have c8b0 := decide_eq_true c8
     clear c8
     have H' := Aside0.mk H
     clear H
     obtain ⟨hcz9_0, hcz9_1, hcz9_2, hfz9_0, hfz9_1, hfz9_2⟩ := bK3 (w := w3) BK427
     go_wp2
     go_meet
     case rel => exact ⟨_, (true), rS, H', ⟨by first | omega | exact Nat.le_refl _⟩, ⟨bP BK427⟩, ⟨bZ HB⟩⟩
    ·rw [if_neg c8] at H
     have c8b0 := decide_eq_false c8
     clear c8
     have H' := Aside0.mk H
     clear H
     obtain ⟨hcz10_0, hcz10_1, hcz10_2, hfz10_0, hfz10_1, hfz10_2⟩ := bK3 (w := w3) BK427
     go_wp2
     go_meet
     case rel => exact ⟨_, (decide (a0_1 > (wrap64 (a0_0 - 1)))), rS, H', ⟨by first | omega | exact Nat.le_refl _⟩, ⟨bP BK427⟩, ⟨bZ HB⟩⟩
 case rest =>
  clear HC2
  try clear p2
  try clear c4
  try clear c4b0
  try clear c6
  try clear c6b0
  try clear p6
  try clear c8
  try clear c8b0
  try clear hcz10_0
  try clear hcz10_1
  try clear hcz10_2
  try clear hcz5_0
  try clear hcz5_1
  try clear hcz5_2
  try clear hcz7_0
  try clear hcz7_1
  try clear hcz7_2
  try clear hcz9_0
  try clear hcz9_1
  try clear hcz9_2
  try clear hfz10_0
  try clear hfz10_1
  try clear hfz10_2
  try clear hfz5_0
  try clear hfz5_1
  try clear hfz5_2
  try clear hfz7_0
  try clear hfz7_1
  try clear hfz7_2
  try clear hfz9_0
  try clear hfz9_1
  try clear hfz9_2
  obtain ⟨kq, x27_1, rfl, HA, HJ1, BK427, HB⟩ := hcut
  cases kq with
  | zero => exact absurd HA.out (by simp [impl_SystemOk.j0])
  | succ kj1 =>
   have H := HA.out
   clear HA
   simp only [impl_SystemOk.j0] at H
   by_cases c11 : x27_1 = true
   ·subst c11
    rw [if_pos rfl] at H
    obtain rfl := Option.some.inj H
    go_wp2
    go_ret
    exact ⟨rR, bZ HB⟩
   ·replace c11 := Bool.eq_false_iff.mpr c11
    subst c11
    rw [if_neg (show ¬ (false = true) by decide)] at H
    have HC12 := Aside0.mk H
    clear H
    go_upto_region 3 with (fail)
    go_cut [37] (fun v37 wc => ∃ (kq : Nat) (x37_11 : Bool), v37 = .bool x37_11 ∧ Aside0 (impl_SystemOk.j1 kq x37_11 a0_0 a0_1 l0_2 = some r) ∧ Aside0 (kq ≤ kj1) ∧ Aside0 (wc.heap[gb427]? = some (.cells #[.int .i64 a0_0, .int .i64 a0_1, (.slice A0_2 l0_2.length c0_2)] 32 (0, 0))) ∧ Aside0 (Below w.heap.size w wc))
    case first =>
     have H := HC12.out
     clear HC12
     by_cases c13 : (l0_2.length : Int) < 1
     ·rw [if_pos c13] at H
      have c13b0 := decide_eq_true c13
      have c13b1 : decide (l0_2.length < 1) = true := decide_eq_true (by omega)
      clear c13
      (first | rw [c13b0] | (simp only [i64_w, i32_w]; rw [c13b0]) | rw [c13b1] | skip)
      have H' := Aside0.mk H
      clear H
      obtain ⟨hcz14_0, hcz14_1, hcz14_2, hfz14_0, hfz14_1, hfz14_2⟩ := bK3 (w := wc) BK427
      go_wp2
      go_meet
      case rel => exact ⟨_, (true), rS, H', ⟨by have := HJ1.out; first | omega | exact Nat.le_refl _⟩, ⟨bP BK427⟩, ⟨bZ HB⟩⟩
     ·rw [if_neg c13] at H
      have c13b0 := decide_eq_false c13
      have c13b1 : decide (l0_2.length < 1) = false := decide_eq_false (by omega)
      clear c13
      (first | rw [c13b0] | (simp only [i64_w, i32_w]; rw [c13b0]) | rw [c13b1] | skip)
      have H' := Aside0.mk H
      clear H
      obtain ⟨hcz15_0, hcz15_1, hcz15_2, hfz15_0, hfz15_1, hfz15_2⟩ := bK3 (w := wc) BK427
      go_wp2
      go_meet
      case rel => exact ⟨_, (decide ((l0_2.length : Int) > 16)), rS, H', ⟨by have := HJ1.out; first | omega | exact Nat.le_refl _⟩, ⟨bP BK427⟩, ⟨bZ HB⟩⟩
    case rest =>
     clear HC12
     try clear c1
     try clear p2
     try clear c4
     try clear c4b0
     try clear c6
     try clear c6b0
     try clear p6
     try clear c8
     try clear c8b0
     try clear c11
     try clear c13
     try clear c13b0
     try clear c13b1
     try clear hcz10_0
     try clear hcz10_1
     try clear hcz10_2
     try clear hcz14_0
     try clear hcz14_1
     try clear hcz14_2
     try clear hcz15_0
     try clear hcz15_1
     try clear hcz15_2
     try clear hcz5_0
     try clear hcz5_1
     try clear hcz5_2
     try clear hcz7_0
     try clear hcz7_1
     try clear hcz7_2
     try clear hcz9_0
     try clear hcz9_1
     try clear hcz9_2
     try clear hfz10_0
     try clear hfz10_1
     try clear hfz10_2
     try clear hfz14_0
     try clear hfz14_1
     try clear hfz14_2
     try clear hfz15_0
     try clear hfz15_1
     try clear hfz15_2
     try clear hfz5_0
     try clear hfz5_1
     try clear hfz5_2
     try clear hfz7_0
     try clear hfz7_1
     try clear hfz7_2
     try clear hfz9_0
     try clear hfz9_1
     try clear hfz9_2
     try clear p2
     try clear p6
     obtain ⟨kq, x37_11, rfl, HA, HJ11, BK427, HB⟩ := hcut
     cases kq with
     | zero => exact absurd HA.out (by simp [impl_SystemOk.j1])
     | succ kj11 =>
      have H := HA.out
      clear HA
      simp only [impl_SystemOk.j1] at H
      by_cases c16 : x37_11 = true
      ·subst c16
       rw [if_pos rfl] at H
       obtain rfl := Option.some.inj H
       go_wp2
       go_ret
       exact ⟨rR, bZ HB⟩
      ·replace c16 := Bool.eq_false_iff.mpr c16
       subst c16
       rw [if_neg (show ¬ (false = true) by decide)] at H
       have H' := Aside0.mk H
       clear H
       obtain ⟨hcz17_0, hcz17_1, hcz17_2, hfz17_0, hfz17_1, hfz17_2⟩ := bK3 (w := wc) BK427
       go_wp2
       go_loopg [41] kj11 (fun kq v41 w' => ∃ (x41_3 : Int), v41 = .int .i64 x41_3 ∧ Aside0 (impl_SystemOk.l0 kq l0_2 (l0_2.length : Int) x41_3 a0_0 a0_1 l0_2 = some r) ∧ Aside0 (kq ≤ kj11) ∧ Aside0 (w'.heap[gb427]? = some (.cells #[.int .i64 a0_0, .int .i64 a0_1, (.slice A0_2 l0_2.length c0_2)] 32 (0, 0))) ∧ Aside0 (Below w.heap.size w w'))
       case atStart => exact ⟨(0), rS, H', ⟨Nat.le_refl _⟩, ⟨bP BK427⟩, ⟨bZ HB⟩⟩
       case round =>
        clear H'
        try clear c1
        try clear p2
        try clear c4
        try clear c4b0
        try clear c6
        try clear c6b0
        try clear p6
        try clear c8
        try clear c8b0
        try clear c11
        try clear c13
        try clear c13b0
        try clear c13b1
        try clear c16
        try clear hcz10_0
        try clear hcz10_1
        try clear hcz10_2
        try clear hcz14_0
        try clear hcz14_1
        try clear hcz14_2
        try clear hcz15_0
        try clear hcz15_1
        try clear hcz15_2
        try clear hcz17_0
        try clear hcz17_1
        try clear hcz17_2
        try clear hcz5_0
        try clear hcz5_1
        try clear hcz5_2
        try clear hcz7_0
        try clear hcz7_1
        try clear hcz7_2
        try clear hcz9_0
        try clear hcz9_1
        try clear hcz9_2
        try clear hfz10_0
        try clear hfz10_1
        try clear hfz10_2
        try clear hfz14_0
        try clear hfz14_1
        try clear hfz14_2
        try clear hfz15_0
        try clear hfz15_1
        try clear hfz15_2
        try clear hfz17_0
        try clear hfz17_1
        try clear hfz17_2
        try clear hfz5_0
        try clear hfz5_1
        try clear hfz5_2
        try clear hfz7_0
        try clear hfz7_1
        try clear hfz7_2
        try clear hfz9_0
        try clear hfz9_1
        try clear hfz9_2
        try clear p2
        try clear p6
        obtain ⟨x41_3, rfl, HA, HK3, BK427, HB⟩ := hrel
        cases gk with
        | zero => exact absurd HA.out (by simp [impl_SystemOk.l0])
        | succ k3 =>
         have H := HA.out
         clear HA
         simp only [impl_SystemOk.l0] at H
         by_cases c18 : x41_3 < (l0_2.length : Int)
         ·rw [if_pos c18] at H
          have c18b0 := decide_eq_true c18
          clear c18
          by_cases c19 : 0 ≤ x41_3
          ·rw [if_pos c19] at H
           have c19b0 := decide_eq_true c19
           clear c19
           by_cases c20 : x41_3 < (l0_2.length : Int)
           ·rw [if_pos c20] at H
            have c20b0 := decide_eq_true c20
            clear c20
            have HC21 := Aside0.mk H
            clear H
            have p428 : 0 ≤ (x41_3 : Int) := of_decide_eq_true (by first | (with_reducible assumption) | assumption)
            have q428 : x41_3 < (l0_2.length : Int) := of_decide_eq_true (by first | (with_reducible assumption) | assumption)
            obtain ⟨ad428, A428_0, c428_0, A428_1, c428_1, A428_2, c428_2, e428, hx428_0, hx428_1, hx428_2, hl428_0, hi428_0, hl428_1, hi428_1, hl428_2, hi428_2⟩ := at_T40 HR0_2.out x41_3 p428 q428
            cases e428
            replace hx428_0 := (hC HB hx428_0 :)
            replace hx428_1 := (hC HB hx428_1 :)
            replace hx428_2 := (hC HB hx428_2 :)
            have HR428_0 := Aside0.mk hi428_0
            have HC428_0 := Aside0.mk hl428_0
            clear hi428_0 hl428_0
            have HR428_1 := Aside0.mk hi428_1
            have HC428_1 := Aside0.mk hl428_1
            clear hi428_1 hl428_1
            have HR428_2 := Aside0.mk hi428_2
            have HC428_2 := Aside0.mk hl428_2
            clear hi428_2 hl428_2
            replace p428 := eq_true p428
            replace q428 := eq_true q428
            go_wp2_with (first | ((with_reducible refine gate_dst (N := 4) rfl ?_); (try (refine gate_guard (by rfl) ?_; dsimp only)); refine box_event ?hg (N := 4) ?hd (cs := #[.slice none 0 0, .slice none 0 0, .slice none 0 0]) (t := 40) ?hr ?_; (case hd => rfl); (case hg => rfl); (case hr => first | (go_simp; done) | (go_simp; rfl)); intro gb429 hg w22 hbox hb; have BK429 := Aside0.mk (hbox); have GW429 := bG HB hg; replace HB := bS HB hb; obtain ⟨NB427_429, NB429_427⟩ := bN BK427 hg; replace BK427 := bB BK427 hb; clear hb hbox hg; obtain ⟨hnb23, hnc23⟩ := nB NB429_427; obtain ⟨hcz24_0, hcz24_1, hcz24_2, hfz24_0, hfz24_1, hfz24_2⟩ := bK3 (w := w22) BK429) | ((with_reducible refine gate_dst (N := 51) rfl ?_); refine lit_event ?hg (N := 51) ?hd (cs := #[(.slice A428_0 ((rd_T40 l0_2 x41_3).f0).length c428_0), (.slice A428_1 ((rd_T40 l0_2 x41_3).f1).length c428_1), (.slice A428_2 ((rd_T40 l0_2 x41_3).f2).length c428_2)]) (t := 22) (n := 3) ?hr ?_; (case hd => rfl); (case hg => rfl); (case hr => first | (go_simp; done) | (go_simp; rfl)); intro gb9901 hg w99 hbox hb; replace BK427 := bB BK427 hb; replace BK429 := bV 40 #[(.slice A428_0 ((rd_T40 l0_2 x41_3).f0).length c428_0), (.slice A428_1 ((rd_T40 l0_2 x41_3).f1).length c428_1), (.slice A428_2 ((rd_T40 l0_2 x41_3).f2).length c428_2)] BK429 hb; replace HB := bS HB hb; have BK9901 := Aside0.mk hbox; clear hb hbox hg; have hczLw99_0 : w99.cell? ⟨gb9901, 0, none⟩ = some (.slice A428_0 ((rd_T40 l0_2 x41_3).f0).length c428_0) := bc BK9901 0; have hczLw99_1 : w99.cell? ⟨gb9901, 1, none⟩ = some (.slice A428_1 ((rd_T40 l0_2 x41_3).f1).length c428_1) := bc BK9901 1; have hczLw99_2 : w99.cell? ⟨gb9901, 2, none⟩ = some (.slice A428_2 ((rd_T40 l0_2 x41_3).f2).length c428_2) := bc BK9901 2; have hfzL0 := blk_frozen BK9901.out 0; have hfzL1 := blk_frozen BK9901.out 1; have hfzL2 := blk_frozen BK9901.out 2))
            refine wp_loop_rounds 4 ?_
            rw [rounds_succ]
            go_upto_region 11 with (fail)
            (try simp only [Act.put, List.setIfInBounds_toArray, List.set_cons_zero, List.set_cons_succ])
            go_cut [66] (fun v66 wc => ∃ (kq : Nat) (x66_20 : Bool), v66 = .bool x66_20 ∧ Aside0 (impl_SystemOk.j3 kq l0_2 (l0_2.length : Int) x41_3 x66_20 a0_0 a0_1 l0_2 ((rd_T40 l0_2 x41_3).f0) ((rd_T40 l0_2 x41_3).f1) ((rd_T40 l0_2 x41_3).f2) = some r) ∧ Aside0 (kq ≤ k3) ∧ Aside0 (wc.heap[gb427]? = some (.cells #[.int .i64 a0_0, .int .i64 a0_1, (.slice (some ad428) l0_2.length c0_2)] 32 (0, 0))) ∧ Aside0 (wc.heap[gb429]? = some (.cells #[(.slice A428_0 ((rd_T40 l0_2 x41_3).f0).length c428_0), (.slice A428_1 ((rd_T40 l0_2 x41_3).f1).length c428_1), (.slice A428_2 ((rd_T40 l0_2 x41_3).f2).length c428_2)] 40 (0, 0))) ∧ Aside0 (wc.heap[gb9901]? = some (.cells #[(.slice A428_0 ((rd_T40 l0_2 x41_3).f0).length c428_0), (.slice A428_1 ((rd_T40 l0_2 x41_3).f1).length c428_1), (.slice A428_2 ((rd_T40 l0_2 x41_3).f2).length c428_2)] 22 (0, 0))) ∧ Aside0 (Below w.heap.size w wc))
            case first =>
             have H := HC21.out
             clear HC21
             by_cases c25 : (((rd_T40 l0_2 x41_3).f0).length : Int) = a0_0
             ·rw [if_pos c25] at H
              have c25b0 : ((((rd_T40 l0_2 x41_3).f0).length : Int) == a0_0) = true := beq_iff_eq.mpr c25
              have c25b1 : ((((rd_T40 l0_2 x41_3).f0).length : Int) != a0_0) = false := bne_eq_false_iff_eq.mpr c25
              clear c25
              (first | rw [c25b0] | (simp only [i64_w, i32_w]; rw [c25b0]) | rw [c25b1] | skip)
              replace H := Option.bind_eq_some_iff.mp H
              obtain ⟨t430, A260, H⟩ := H
              have A26 := Aside0.mk A260
              clear A260
              have H' := Aside0.mk H
              clear H
              obtain ⟨hnb27, hnc27⟩ := nB NB427_429
              obtain ⟨hcz28_0, hcz28_1, hcz28_2, hfz28_0, hfz28_1, hfz28_2⟩ := bK3 (w := w99) BK427
              go_wp2_with (first | (go_at_call 92; (with_reducible refine (impl_areScalars.calls k3 _ _ ((rd_T40 l0_2 x41_3).f0) t430 _ ?side1 ?side2 A26.out).mono ?_); (case side1 => exact Kd.C_below HR428_0.out (bZ HB)); (case side2 => exact HC428_0.out); rintro e w' ⟨rfl, ⟨nd, rfl⟩⟩))
              go_meet
              case rel => exact ⟨_, (!t430), rS, H', ⟨by have := HJ1.out; have := HJ11.out; have := HK3.out; first | omega | exact Nat.le_refl _⟩, ⟨bP BK427⟩, ⟨bP BK429⟩, ⟨bP BK9901⟩, ⟨bZ HB⟩⟩
             ·rw [if_neg c25] at H
              have c25b0 : ((((rd_T40 l0_2 x41_3).f0).length : Int) == a0_0) = false := beq_eq_false_iff_ne.mpr c25
              have c25b1 : ((((rd_T40 l0_2 x41_3).f0).length : Int) != a0_0) = true := bne_iff_ne.mpr c25
              (first | rw [c25b0] | (simp only [i64_w, i32_w]; rw [c25b0]) | rw [c25b1] | skip)
              have H' := Aside0.mk H
              clear H
              obtain ⟨hnb29, hnc29⟩ := nB NB427_429
              obtain ⟨hcz30_0, hcz30_1, hcz30_2, hfz30_0, hfz30_1, hfz30_2⟩ := bK3 (w := w99) BK427
              go_wp2
              go_meet
              case rel => exact ⟨_, (true), rS, H', ⟨by have := HJ1.out; have := HJ11.out; have := HK3.out; first | omega | exact Nat.le_refl _⟩, ⟨bP BK427⟩, ⟨bP BK429⟩, ⟨bP BK9901⟩, ⟨bZ HB⟩⟩
            case rest =>
             clear HC21
             try clear c1
             try clear c2
             try clear p2
             try clear c4
             try clear c4b0
             try clear p4
             try clear q4
             try clear hx4
             try clear c6
             try clear c6b0
             try clear p6
             try clear c8
             try clear c8b0
             try clear c11
             try clear c13
             try clear c13b0
             try clear c13b1
             try clear c16
             try clear c18
             try clear c18b0
             try clear c19
             try clear c19b0
             try clear c20
             try clear c20b0
             try clear c23
             try clear c25
             try clear c25b0
             try clear c25b1
             try clear c27
             try clear c29
             try clear hcz10_0
             try clear hcz10_1
             try clear hcz10_2
             try clear hcz14_0
             try clear hcz14_1
             try clear hcz14_2
             try clear hcz15_0
             try clear hcz15_1
             try clear hcz15_2
             try clear hcz17_0
             try clear hcz17_1
             try clear hcz17_2
             try clear hcz24_0
             try clear hcz24_1
             try clear hcz24_2
             try clear hcz28_0
             try clear hcz28_1
             try clear hcz28_2
             try clear hcz30_0
             try clear hcz30_1
             try clear hcz30_2
             try clear hcz5_0
             try clear hcz5_1
             try clear hcz5_2
             try clear hcz7_0
             try clear hcz7_1
             try clear hcz7_2
             try clear hcz9_0
             try clear hcz9_1
             try clear hcz9_2
             try clear hfz10_0
             try clear hfz10_1
             try clear hfz10_2
             try clear hfz14_0
             try clear hfz14_1
             try clear hfz14_2
             try clear hfz15_0
             try clear hfz15_1
             try clear hfz15_2
             try clear hfz17_0
             try clear hfz17_1
             try clear hfz17_2
             try clear hfz24_0
             try clear hfz24_1
             try clear hfz24_2
             try clear hfz28_0
             try clear hfz28_1
             try clear hfz28_2
             try clear hfz30_0
             try clear hfz30_1
             try clear hfz30_2
             try clear hfz5_0
             try clear hfz5_1
             try clear hfz5_2
             try clear hfz7_0
             try clear hfz7_1
             try clear hfz7_2
             try clear hfz9_0
             try clear hfz9_1
             try clear hfz9_2
             try clear hx428_0
             try clear hx428_1
             try clear hx428_2
             try clear p2
             try clear p428
             try clear p6
             try clear q428
             obtain ⟨kq, x66_20, rfl, HA, HJ20, BK427, BK429, BK9901, HB⟩ := hcut
             cases kq with
             | zero => exact absurd HA.out (by simp [impl_SystemOk.j3])
             | succ kj20 =>
              have H := HA.out
              clear HA
              simp only [impl_SystemOk.j3] at H
              by_cases c31 : x66_20 = true
              ·subst c31
               rw [if_pos rfl] at H
               obtain rfl := Option.some.inj H
               go_wp2
               go_ret
               exact ⟨rR, bZ HB⟩
              ·replace c31 := Bool.eq_false_iff.mpr c31
               subst c31
               rw [if_neg (show ¬ (false = true) by decide)] at H
               have HC32 := Aside0.mk H
               clear H
               obtain ⟨hnb33, hnc33⟩ := nB NB429_427
               obtain ⟨hcz34_0, hcz34_1, hcz34_2, hfz34_0, hfz34_1, hfz34_2⟩ := bK3 (w := wc) BK429
               have hczLwc_0 : wc.cell? ⟨gb9901, 0, none⟩ = some (.slice A428_0 ((rd_T40 l0_2 x41_3).f0).length c428_0) := bc BK9901 0
               have hczLwc_1 : wc.cell? ⟨gb9901, 1, none⟩ = some (.slice A428_1 ((rd_T40 l0_2 x41_3).f1).length c428_1) := bc BK9901 1
               have hczLwc_2 : wc.cell? ⟨gb9901, 2, none⟩ = some (.slice A428_2 ((rd_T40 l0_2 x41_3).f2).length c428_2) := bc BK9901 2
               have hfzc0 := blk_frozen BK9901.out 0
               have hfzc1 := blk_frozen BK9901.out 1
               have hfzc2 := blk_frozen BK9901.out 2
               go_wp2
               rw [rounds_succ]
               go_upto_region 11 with (fail)
               go_cut [66] (fun v66 wc => ∃ (kq : Nat) (x66_31 : Bool), v66 = .bool x66_31 ∧ Aside0 (impl_SystemOk.j4 kq l0_2 (l0_2.length : Int) x41_3 x66_31 a0_0 a0_1 l0_2 ((rd_T40 l0_2 x41_3).f0) ((rd_T40 l0_2 x41_3).f1) ((rd_T40 l0_2 x41_3).f2) = some r) ∧ Aside0 (kq ≤ kj20) ∧ Aside0 (wc.heap[gb427]? = some (.cells #[.int .i64 a0_0, .int .i64 a0_1, (.slice (some ad428) l0_2.length c0_2)] 32 (0, 0))) ∧ Aside0 (wc.heap[gb429]? = some (.cells #[(.slice A428_0 ((rd_T40 l0_2 x41_3).f0).length c428_0), (.slice A428_1 ((rd_T40 l0_2 x41_3).f1).length c428_1), (.slice A428_2 ((rd_T40 l0_2 x41_3).f2).length c428_2)] 40 (0, 0))) ∧ Aside0 (wc.heap[gb9901]? = some (.cells #[(.slice A428_0 ((rd_T40 l0_2 x41_3).f0).length c428_0), (.slice A428_1 ((rd_T40 l0_2 x41_3).f1).length c428_1), (.slice A428_2 ((rd_T40 l0_2 x41_3).f2).length c428_2)] 22 (0, 0))) ∧ Aside0 (Below w.heap.size w wc))
               case first =>
                have H := HC32.out
                clear HC32
                by_cases c35 : (((rd_T40 l0_2 x41_3).f1).length : Int) = a0_0
                ·rw [if_pos c35] at H
                 have c35b0 : ((((rd_T40 l0_2 x41_3).f1).length : Int) == a0_0) = true := beq_iff_eq.mpr c35
                 have c35b1 : ((((rd_T40 l0_2 x41_3).f1).length : Int) != a0_0) = false := bne_eq_false_iff_eq.mpr c35
                 clear c35
                 (first | rw [c35b0] | (simp only [i64_w, i32_w]; rw [c35b0]) | rw [c35b1] | skip)
                 replace H := Option.bind_eq_some_iff.mp H
                 obtain ⟨t431, A360, H⟩ := H
                 have A36 := Aside0.mk A360
                 clear A360
                 have H' := Aside0.mk H
                 clear H
                 obtain ⟨hnb37, hnc37⟩ := nB NB427_429
                 obtain ⟨hcz38_0, hcz38_1, hcz38_2, hfz38_0, hfz38_1, hfz38_2⟩ := bK3 (w := wc) BK427
                 go_wp2_with (first | (go_at_call 92; (with_reducible refine (impl_areScalars.calls kj20 _ _ ((rd_T40 l0_2 x41_3).f1) t431 _ ?side1 ?side2 A36.out).mono ?_); (case side1 => exact cP (Kd.C_below HR428_1.out HB.out)); (case side2 => exact HC428_1.out); rintro e w' ⟨rfl, ⟨nd, rfl⟩⟩))
                 go_meet
                 case rel => exact ⟨_, (!t431), rS, H', ⟨by have := HJ1.out; have := HJ11.out; have := HK3.out; have := HJ20.out; first | omega | exact Nat.le_refl _⟩, ⟨bP BK427⟩, ⟨bP BK429⟩, ⟨bP BK9901⟩, ⟨bZ HB⟩⟩
                ·rw [if_neg c35] at H
                 have c35b0 : ((((rd_T40 l0_2 x41_3).f1).length : Int) == a0_0) = false := beq_eq_false_iff_ne.mpr c35
                 have c35b1 : ((((rd_T40 l0_2 x41_3).f1).length : Int) != a0_0) = true := bne_iff_ne.mpr c35
                 (first | rw [c35b0] | (simp only [i64_w, i32_w]; rw [c35b0]) | rw [c35b1] | skip)
                 have H' := Aside0.mk H
                 clear H
                 obtain ⟨hnb39, hnc39⟩ := nB NB427_429
                 obtain ⟨hcz40_0, hcz40_1, hcz40_2, hfz40_0, hfz40_1, hfz40_2⟩ := bK3 (w := wc) BK427
                 go_wp2
                 go_meet
                 case rel => exact ⟨_, (true), rS, H', ⟨by have := HJ1.out; have := HJ11.out; have := HK3.out; have := HJ20.out; first | omega | exact Nat.le_refl _⟩, ⟨bP BK427⟩, ⟨bP BK429⟩, ⟨bP BK9901⟩, ⟨bZ HB⟩⟩
               case rest =>
                clear HC32
                try clear c1
                try clear c2
                try clear p2
                try clear c3
                try clear c4
                try clear c4b0
                try clear p4
                try clear q4
                try clear hx4
                try clear c6
                try clear c6b0
                try clear p6
                try clear c8
                try clear c8b0
                try clear c11
                try clear c13
                try clear c13b0
                try clear c13b1
                try clear c16
                try clear c18
                try clear c18b0
                try clear c19
                try clear c19b0
                try clear c20
                try clear c20b0
                try clear c23
                try clear c25
                try clear c25b0
                try clear c25b1
                try clear c27
                try clear c29
                try clear c31
                try clear c33
                try clear c35
                try clear c35b0
                try clear c35b1
                try clear c37
                try clear c39
                try clear hcz10_0
                try clear hcz10_1
                try clear hcz10_2
                try clear hcz14_0
                try clear hcz14_1
                try clear hcz14_2
                try clear hcz15_0
                try clear hcz15_1
                try clear hcz15_2
                try clear hcz17_0
                try clear hcz17_1
                try clear hcz17_2
                try clear hcz24_0
                try clear hcz24_1
                try clear hcz24_2
                try clear hcz28_0
                try clear hcz28_1
                try clear hcz28_2
                try clear hcz30_0
                try clear hcz30_1
                try clear hcz30_2
                try clear hcz34_0
                try clear hcz34_1
                try clear hcz34_2
                try clear hcz38_0
                try clear hcz38_1
                try clear hcz38_2
                try clear hcz40_0
                try clear hcz40_1
                try clear hcz40_2
                try clear hcz5_0
                try clear hcz5_1
                try clear hcz5_2
                try clear hcz7_0
                try clear hcz7_1
                try clear hcz7_2
                try clear hcz9_0
                try clear hcz9_1
                try clear hcz9_2
                try clear hfz10_0
                try clear hfz10_1
                try clear hfz10_2
                try clear hfz14_0
                try clear hfz14_1
                try clear hfz14_2
                try clear hfz15_0
                try clear hfz15_1
                try clear hfz15_2
                try clear hfz17_0
                try clear hfz17_1
                try clear hfz17_2
                try clear hfz24_0
                try clear hfz24_1
                try clear hfz24_2
                try clear hfz28_0
                try clear hfz28_1
                try clear hfz28_2
                try clear hfz30_0
                try clear hfz30_1
                try clear hfz30_2
                try clear hfz34_0
                try clear hfz34_1
                try clear hfz34_2
                try clear hfz38_0
                try clear hfz38_1
                try clear hfz38_2
                try clear hfz40_0
                try clear hfz40_1
                try clear hfz40_2
                try clear hfz5_0
                try clear hfz5_1
                try clear hfz5_2
                try clear hfz7_0
                try clear hfz7_1
                try clear hfz7_2
                try clear hfz9_0
                try clear hfz9_1
                try clear hfz9_2
                try clear hx428_0
                try clear hx428_1
                try clear hx428_2
                try clear p2
                try clear p4
                try clear p428
                try clear p6
                try clear q4
                try clear q428
                obtain ⟨kq, x66_31, rfl, HA, HJ31, BK427, BK429, BK9901, HB⟩ := hcut
                cases kq with
                | zero => exact absurd HA.out (by simp [impl_SystemOk.j4])
                | succ kj31 =>
                 have H := HA.out
                 clear HA
                 simp only [impl_SystemOk.j4] at H
                 by_cases c41 : x66_31 = true
                 ·subst c41
                  rw [if_pos rfl] at H
                  obtain rfl := Option.some.inj H
                  go_wp2
                  go_ret
                  exact ⟨rR, bZ HB⟩
                 ·replace c41 := Bool.eq_false_iff.mpr c41
                  subst c41
                  rw [if_neg (show ¬ (false = true) by decide)] at H
                  by_cases c42 : (((rd_T40 l0_2 x41_3).f2).length : Int) = a0_0
                  ·rw [if_pos c42] at H
                   have c42b0 : ((((rd_T40 l0_2 x41_3).f2).length : Int) == a0_0) = true := beq_iff_eq.mpr c42
                   have c42b1 : ((((rd_T40 l0_2 x41_3).f2).length : Int) != a0_0) = false := bne_eq_false_iff_eq.mpr c42
                   clear c42
                   replace H := Option.bind_eq_some_iff.mp H
                   obtain ⟨t432, A430, H⟩ := H
                   have A43 := Aside0.mk A430
                   clear A430
                   by_cases c44 : t432 = true
                   ·subst c44
                    rw [if_pos rfl] at H
                    have H' := Aside0.mk H
                    clear H
                    obtain ⟨hnb45, hnc45⟩ := nB NB429_427
                    obtain ⟨hcz46_0, hcz46_1, hcz46_2, hfz46_0, hfz46_1, hfz46_2⟩ := bK3 (w := wc) BK429
                    obtain ⟨hcz47_0, hcz47_1, hcz47_2, hfz47_0, hfz47_1, hfz47_2⟩ := bK3 (w := wc) BK427
                    have hczLwc_0 : wc.cell? ⟨gb9901, 0, none⟩ = some (.slice A428_0 ((rd_T40 l0_2 x41_3).f0).length c428_0) := bc BK9901 0
                    have hczLwc_1 : wc.cell? ⟨gb9901, 1, none⟩ = some (.slice A428_1 ((rd_T40 l0_2 x41_3).f1).length c428_1) := bc BK9901 1
                    have hczLwc_2 : wc.cell? ⟨gb9901, 2, none⟩ = some (.slice A428_2 ((rd_T40 l0_2 x41_3).f2).length c428_2) := bc BK9901 2
                    have hfzc0 := blk_frozen BK9901.out 0
                    have hfzc1 := blk_frozen BK9901.out 1
                    have hfzc2 := blk_frozen BK9901.out 2
                    go_wp2
                    rw [rounds_succ]
                    go_wp2_with (first | (go_at_call 92; (with_reducible refine (impl_areScalars.calls kj31 _ _ ((rd_T40 l0_2 x41_3).f2) true _ ?side1 ?side2 A43.out).mono ?_); (case side1 => exact cP (Kd.C_below HR428_2.out HB.out)); (case side2 => exact HC428_2.out); rintro e w' ⟨rfl, ⟨nd, rfl⟩⟩))
                    rw [rounds_succ]
                    go_wp2
                    go_roundg kj31
                    case measure => have := HJ1.out; have := HJ11.out; have := HK3.out; have := HJ20.out; have := HJ31.out; omega
                    case rel => exact ⟨(wrap64 (x41_3 + 1)), rS, H', ⟨by have := HJ1.out; have := HJ11.out; have := HK3.out; have := HJ20.out; have := HJ31.out; omega⟩, ⟨bP BK427⟩, ⟨bZ HB⟩⟩
                   ·replace c44 := Bool.eq_false_iff.mpr c44
                    subst c44
                    rw [if_neg (show ¬ (false = true) by decide)] at H
                    obtain rfl := Option.some.inj H
                    obtain ⟨hnb48, hnc48⟩ := nB NB429_427
                    obtain ⟨hcz49_0, hcz49_1, hcz49_2, hfz49_0, hfz49_1, hfz49_2⟩ := bK3 (w := wc) BK429
                    obtain ⟨hcz50_0, hcz50_1, hcz50_2, hfz50_0, hfz50_1, hfz50_2⟩ := bK3 (w := wc) BK427
                    have hczLwc_0 : wc.cell? ⟨gb9901, 0, none⟩ = some (.slice A428_0 ((rd_T40 l0_2 x41_3).f0).length c428_0) := bc BK9901 0
                    have hczLwc_1 : wc.cell? ⟨gb9901, 1, none⟩ = some (.slice A428_1 ((rd_T40 l0_2 x41_3).f1).length c428_1) := bc BK9901 1
                    have hczLwc_2 : wc.cell? ⟨gb9901, 2, none⟩ = some (.slice A428_2 ((rd_T40 l0_2 x41_3).f2).length c428_2) := bc BK9901 2
                    have hfzc0 := blk_frozen BK9901.out 0
                    have hfzc1 := blk_frozen BK9901.out 1
                    have hfzc2 := blk_frozen BK9901.out 2
                    go_wp2
                    rw [rounds_succ]
                    go_wp2_with (first | (go_at_call 92; (with_reducible refine (impl_areScalars.calls kj31 _ _ ((rd_T40 l0_2 x41_3).f2) false _ ?side1 ?side2 A43.out).mono ?_); (case side1 => exact cP (Kd.C_below HR428_2.out HB.out)); (case side2 => exact HC428_2.out); rintro e w' ⟨rfl, ⟨nd, rfl⟩⟩))
                    go_ret
                    exact ⟨rR, bZ HB⟩
                  ·rw [if_neg c42] at H
                   have c42b0 : ((((rd_T40 l0_2 x41_3).f2).length : Int) == a0_0) = false := beq_eq_false_iff_ne.mpr c42
                   have c42b1 : ((((rd_T40 l0_2 x41_3).f2).length : Int) != a0_0) = true := bne_iff_ne.mpr c42
                   obtain rfl := Option.some.inj H
                   obtain ⟨hnb51, hnc51⟩ := nB NB429_427
                   obtain ⟨hcz52_0, hcz52_1, hcz52_2, hfz52_0, hfz52_1, hfz52_2⟩ := bK3 (w := wc) BK429
                   obtain ⟨hcz53_0, hcz53_1, hcz53_2, hfz53_0, hfz53_1, hfz53_2⟩ := bK3 (w := wc) BK427
                   have hczLwc_0 : wc.cell? ⟨gb9901, 0, none⟩ = some (.slice A428_0 ((rd_T40 l0_2 x41_3).f0).length c428_0) := bc BK9901 0
                   have hczLwc_1 : wc.cell? ⟨gb9901, 1, none⟩ = some (.slice A428_1 ((rd_T40 l0_2 x41_3).f1).length c428_1) := bc BK9901 1
                   have hczLwc_2 : wc.cell? ⟨gb9901, 2, none⟩ = some (.slice A428_2 ((rd_T40 l0_2 x41_3).f2).length c428_2) := bc BK9901 2
                   have hfzc0 := blk_frozen BK9901.out 0
                   have hfzc1 := blk_frozen BK9901.out 1
                   have hfzc2 := blk_frozen BK9901.out 2
                   go_wp2
                   rw [rounds_succ]
                   go_wp2
                   go_ret
                   exact ⟨rR, bZ HB⟩
           ·rw [if_neg c20] at H
            exact absurd H (by simp)
          ·rw [if_neg c19] at H
           exact absurd H (by simp)
         ·rw [if_neg c18] at H
          have c18b0 := decide_eq_false c18
          clear c18
          obtain rfl := Option.some.inj H
          go_wp2
          go_ret
          exact ⟨rR, bZ HB⟩
end Go.Proofs.Ytcnejiflpioaiaa.Pf
end
section
namespace Go.Proofs.Ytcnejiflpioaiaa.Pf
open Go.RowKit Go.Proofs.YtcnejiflpioaiaaW.PrintWords Go.Proofs.YtcnejiflpioaiaaW.PrintLast Go.Proofs.YtcnejiflpioaiaaW.PrintMore
attribute [local go_sem] max2_int min2_int max_two min_two max_three min_three max_four min_four   -- for this text's walks alone
set_option linter.unusedVariables false
set_option linter.unusedSimpArgs false
mutual
def impl_QapOf.l0 : Nat → Int → Int → Int → Int → List (S40) → List (List Int) → List (List Int) → List (List Int) → Option ((List (List Int)) × (List (List Int)) × (List (List Int)) × Bool)
 | 0, _, _, _, _, _, _, _, _ => none
 | k + 1, x16, x17, x428000, x428001, x428002, x431000, x431001, x431002 => if x17 < x16 then (impl_QapOf.l1 k x17 ([] : List Int) ([] : List Int) ([] : List Int) x16 x17 x428002 (x428002.length : Int) 0 x428000 x428001 x428002 x431000 x431001 x431002) else (some (x431000, x431001, x431002, true))
def impl_QapOf.l1 : Nat → Int → List Int → List Int → List Int → Int → Int → List (S40) → Int → Int → Int → Int → List (S40) → List (List Int) → List (List Int) → List (List Int) → Option ((List (List Int)) × (List (List Int)) × (List (List Int)) × Bool)
 | 0, _, _, _, _, _, _, _, _, _, _, _, _, _, _, _ => none
 | k + 1, x5, x6, x7, x8, x16, x17, x21, x22, x23, x428000, x428001, x428002, x431000, x431001, x431002 => if x23 < x22 then (if 0 ≤ x23 then (if x23 < (x21.length : Int) then (if 0 ≤ x5 then (if x5 < (((rd_T40 x21 x23).f0).length : Int) then (if x6.length < 17592186044416 then (if x5 < (((rd_T40 x21 x23).f1).length : Int) then (if x7.length < 17592186044416 then (if x5 < (((rd_T40 x21 x23).f2).length : Int) then (if x8.length < 17592186044416 then (impl_QapOf.l1 k x5 (x6 ++ [rd ((rd_T40 x21 x23).f0) x5]) (x7 ++ [rd ((rd_T40 x21 x23).f1) x5]) (x8 ++ [rd ((rd_T40 x21 x23).f2) x5]) x16 x17 x21 x22 (wrap64 (x23 + 1)) x428000 x428001 x428002 x431000 x431001 x431002) else (none)) else (none)) else (none)) else (none)) else (none)) else (none)) else (none)) else (none)) else (none)) else ((impl_PolyThrough.f k x6).bind fun t445 => (if x431000.length < 5864062014805 then ((impl_PolyThrough.f k x7).bind fun t451 => (if x431001.length < 5864062014805 then ((impl_PolyThrough.f k x8).bind fun t457 => (if x431002.length < 5864062014805 then (impl_QapOf.l0 k x16 (wrap64 (x17 + 1)) x428000 x428001 x428002 (x431000 ++ [t445]) (x431001 ++ [t451]) (x431002 ++ [t457])) else (none))) else (none))) else (none)))
end
def impl_QapOf.f (k : Nat) (a0_0 : Int) (a0_1 : Int) (l0_2 : List (S40)) : Option ((List (List Int)) × (List (List Int)) × (List (List Int)) × Bool) := (impl_SystemOk.f k a0_0 a0_1 l0_2).bind fun t429 => (if t429 = true then (impl_QapOf.l0 k a0_0 0 a0_0 a0_1 l0_2 ([] : List (List Int)) ([] : List (List Int)) ([] : List (List Int))) else (some (([] : List (List Int)), ([] : List (List Int)), ([] : List (List Int)), false)))
def impl_QapOf.T15 : Bool × List (List Nat × List Nat) := (true, [([], []), ([0], [0]), ([], []), ([2], [2]), ([3], [3]), ([1, 4, 3], [1, 4]), ([0, 1, 2, 3, 4, 5], []), ([6, 5, 5, 0, 1, 2, 3, 4, 5], [5, 6])])
def impl_QapOf.B15 : List Nat := [0, 1, 0, 4, 12, 31, 63, 127]
theorem impl_QapOf.tab15 : rtab .any (opsOf Try.f57 15) = impl_QapOf.T15 := by kernel_rfl
theorem impl_QapOf.bits15 : waitsOk impl_QapOf.T15.2 impl_QapOf.B15 = true := by kernel_rfl
def impl_QapOf.T16 : Bool × List (List Nat × List Nat) := (true, [([], []), ([0], [0]), ([], []), ([2], [2]), ([3], [3]), ([1, 4, 3], [1, 4]), ([0, 1, 2, 3, 4, 5], []), ([6, 5, 5, 0, 1, 2, 3, 4, 5], [5, 6])])
def impl_QapOf.B16 : List Nat := [0, 1, 0, 4, 12, 31, 63, 127]
theorem impl_QapOf.tab16 : rtab .any (opsOf Try.f57 16) = impl_QapOf.T16 := by kernel_rfl
theorem impl_QapOf.bits16 : waitsOk impl_QapOf.T16.2 impl_QapOf.B16 = true := by kernel_rfl
def impl_QapOf.T17 : Bool × List (List Nat × List Nat) := (true, [([], []), ([0], [0]), ([], []), ([2], [2]), ([3], [3]), ([1, 4, 3], [1, 4]), ([0, 1, 2, 3, 4, 5], []), ([6, 5, 5, 0, 1, 2, 3, 4, 5], [5, 6])])
def impl_QapOf.B17 : List Nat := [0, 1, 0, 4, 12, 31, 63, 127]
theorem impl_QapOf.tab17 : rtab .any (opsOf Try.f57 17) = impl_QapOf.T17 := by kernel_rfl
theorem impl_QapOf.bits17 : waitsOk impl_QapOf.T17.2 impl_QapOf.B17 = true := by kernel_rfl
set_option maxHeartbeats 8000000 in
set_option maxRecDepth 100000 in
theorem impl_QapOf.calls (k : Nat) (a0_0 : Int) (a0_1 : Int) (A0_2 : Option Addr) (c0_2 : Nat) (l0_2 : List (S40)) (r1 : List (List Int)) (r2 : List (List Int)) (r3 : List (List Int)) (r4 : Bool) (w : World) (hr0_2 : Kd.C k40 w A0_2 l0_2.length l0_2) (hc0_2 : l0_2.length ≤ c0_2) (h : impl_QapOf.f k a0_0 a0_1 l0_2 = some (r1, r2, r3, r4)) :
  Calls Try.prog 57 #[.agg #[.int .i64 a0_0, .int .i64 a0_1, .slice A0_2 l0_2.length c0_2]] w fun e w' => ∃ v0_ v1_ v2_ : Value, e = .returned (.tuple #[.agg #[v0_, v1_, v2_], .bool r4]) ∧ Kd.S (Kd.slice 3 (Kd.int .i64)) 22 w' w.heap.size (fun k_ => some k_ ≠ (v1_ : Value).ownBlock ∧ some k_ ≠ (v2_ : Value).ownBlock) v0_ r1 ∧ Kd.S (Kd.slice 3 (Kd.int .i64)) 22 w' w.heap.size (fun k_ => some k_ ≠ (v0_ : Value).ownBlock ∧ some k_ ≠ (v2_ : Value).ownBlock) v1_ r2 ∧ Kd.S (Kd.slice 3 (Kd.int .i64)) 22 w' w.heap.size (fun k_ => some k_ ≠ (v0_ : Value).ownBlock ∧ some k_ ≠ (v1_ : Value).ownBlock) v2_ r3 ∧ Below w.heap.size w w' := by
 have hu32 := Try.underlying32
 have hu61 := Try.underlying61
 have hu40 := Try.underlying40
 have HR0_2 := Aside0.mk hr0_2
 have HC0_2 := Aside0.mk hc0_2
 clear hr0_2 hc0_2
 have HB := Aside0.mk (Below.refl w.heap.size w)
 have H : ((impl_SystemOk.f k a0_0 a0_1 l0_2).bind fun t429 => (if t429 = true then (impl_QapOf.l0 k a0_0 0 a0_0 a0_1 l0_2 ([] : List (List Int)) ([] : List (List Int)) ([] : List (List Int))) else (some (([] : List (List Int)), ([] : List (List Int)), ([] : List (List Int)), false)))) = some (r1, r2, r3, r4) := h
 clear h
 replace H := Option.bind_eq_some_iff.mp H
 obtain ⟨t429, A20, H⟩ := H
 have A2 := Aside0.mk A20
 clear A20
 by_cases c3 : t429 = true
 ·subst c3
  rw [if_pos rfl] at H
  have H' := Aside0.mk H
  clear H
  go_enter Try.func57, Try.ntmps57
  go_wp2_with (first | (refine gB 1 #[.int .i64 a0_0, .int .i64 a0_1, .slice A0_2 l0_2.length c0_2] 32 ?_; intro gb427 hg w4 BK427 hb; have GW427 := bG HB hg; replace HB := bS HB hb; clear hb hg) | (refine gB 2 #[.slice none 0 0, .slice none 0 0, .slice none 0 0] 61 ?_; intro gb428 hg w5 BK428 hb; have GW428 := bG HB hg; replace HB := bS HB hb; obtain ⟨NB427_428, NB428_427⟩ := bN BK427 hg; replace BK427 := bB BK427 hb; clear hb hg; obtain ⟨hnb6, hnc6⟩ := nB NB427_428; obtain ⟨hcz7_0, hcz7_1, hcz7_2, hfz7_0, hfz7_1, hfz7_2⟩ := bK3 (w := w5) BK427) | (refine gC (some 12) Try.func83 #[.agg #[.int .i64 a0_0, .int .i64 a0_1, .slice A0_2 l0_2.length c0_2]] ?_; (with_reducible refine (impl_SystemOk.calls k a0_0 a0_1 _ _ l0_2 true _ ?side1 ?side2 A2.out).mono ?_); (case side1 => exact cP (Kd.C_below HR0_2.out HB.out)); (case side2 => exact HC0_2.out); rintro e w8 ⟨rfl, hb⟩; refine ⟨_, rfl, ?_⟩; replace BK427 := bB BK427 hb; replace BK428 := bB BK428 hb; replace HB := bS HB hb; (try clear hb)) | (refine gB 4 #[.slice none 0 0, .slice none 0 0, .slice none 0 0] 61 ?_; intro gb430 hg w9 BK430 hb; have GW430 := bG HB hg; replace HB := bS HB hb; obtain ⟨NB427_430, NB430_427⟩ := bN BK427 hg; replace BK427 := bB BK427 hb; obtain ⟨NB428_430, NB430_428⟩ := bN BK428 hg; replace BK428 := bB BK428 hb; clear hb hg; obtain ⟨hnb10, hnc10⟩ := nB NB427_430; obtain ⟨hcz11_0, hcz11_1, hcz11_2, hfz11_0, hfz11_1, hfz11_2⟩ := bK3 (w := w9) BK427))
  go_loopg [17] k (fun kq v17 w' => ∃ (x17_1 : Int) (x431000_1 : List (List Int)) (x431001_1 : List (List Int)) (x431002_1 : List (List Int)) (u431000 : Value) (u431001 : Value) (u431002 : Value), v17 = .int .i64 x17_1 ∧ Aside0 (impl_QapOf.l0 kq a0_0 x17_1 a0_0 a0_1 l0_2 x431000_1 x431001_1 x431002_1 = some (r1, r2, r3, r4)) ∧ Aside0 (kq ≤ k) ∧ Aside0 (Kd.S (Kd.slice 3 (Kd.int .i64)) 22 w' w.heap.size (fun k_ => some k_ ≠ (u431001 : Value).ownBlock ∧ some k_ ≠ (u431002 : Value).ownBlock) u431000 x431000_1) ∧ Aside0 (Kd.S (Kd.slice 3 (Kd.int .i64)) 22 w' w.heap.size (fun k_ => some k_ ≠ (u431000 : Value).ownBlock ∧ some k_ ≠ (u431002 : Value).ownBlock) u431001 x431001_1) ∧ Aside0 (Kd.S (Kd.slice 3 (Kd.int .i64)) 22 w' w.heap.size (fun k_ => some k_ ≠ (u431000 : Value).ownBlock ∧ some k_ ≠ (u431001 : Value).ownBlock) u431002 x431002_1) ∧ Aside0 (w'.heap[gb427]? = some (.cells #[.int .i64 a0_0, .int .i64 a0_1, (.slice A0_2 l0_2.length c0_2)] 32 (0, 0))) ∧ Aside0 (w'.heap[gb428]? = some (.cells #[(.slice none 0 0), (.slice none 0 0), (.slice none 0 0)] 61 (0, 0))) ∧ Aside0 (w'.heap[gb430]? = some (.cells #[u431000, u431001, u431002] 61 (0, 0))) ∧ Aside0 (Below w.heap.size w w'))
  case atStart => exact ⟨(0), (([] : List (List Int))), (([] : List (List Int))), (([] : List (List Int))), (.slice none 0 0), (.slice none 0 0), (.slice none 0 0), rS, H', ⟨Nat.le_refl _⟩, ⟨by first | exact Kd.S_nil _ _ _ _ _ | exact Kd.N_nil _ _ _ _ _ | exact Kd.V_nil _ _ _ _ _ | exact Kd.Q_nil _ _ _ _ _ | exact Kd.R_nil _ _ _ _ _⟩, ⟨by first | exact Kd.S_nil _ _ _ _ _ | exact Kd.N_nil _ _ _ _ _ | exact Kd.V_nil _ _ _ _ _ | exact Kd.Q_nil _ _ _ _ _ | exact Kd.R_nil _ _ _ _ _⟩, ⟨by first | exact Kd.S_nil _ _ _ _ _ | exact Kd.N_nil _ _ _ _ _ | exact Kd.V_nil _ _ _ _ _ | exact Kd.Q_nil _ _ _ _ _ | exact Kd.R_nil _ _ _ _ _⟩, ⟨bP BK427⟩, ⟨bP BK428⟩, ⟨bP BK430⟩, ⟨bZ HB⟩⟩
  case round =>
   clear H'
   try clear c1
   try clear p2
   try clear c3
   try clear c5
   try clear c6
   try clear c8
   try clear c10
   try clear hcz11_0
   try clear hcz11_1
   try clear hcz11_2
   try clear hcz7_0
   try clear hcz7_1
   try clear hcz7_2
   try clear hfz11_0
   try clear hfz11_1
   try clear hfz11_2
   try clear hfz7_0
   try clear hfz7_1
   try clear hfz7_2
   obtain ⟨x17_1, x431000_1, x431001_1, x431002_1, u431000, u431001, u431002, rfl, HA, HK1, HO_431000, HO_431001, HO_431002, BK427, BK428, BK430, HB⟩ := hrel
   cases gk with
   | zero => exact absurd HA.out (by simp [impl_QapOf.l0])
   | succ k1 =>
    have H := HA.out
    clear HA
    simp only [impl_QapOf.l0] at H
    by_cases c12 : x17_1 < a0_0
    ·rw [if_pos c12] at H
     have c12b0 := decide_eq_true c12
     clear c12
     have H' := Aside0.mk H
     clear H
     obtain ⟨hnb13, hnc13⟩ := nB NB427_428
     obtain ⟨hnb14, hnc14⟩ := nB NB427_430
     obtain ⟨hcz15_0, hcz15_1, hcz15_2, hfz15_0, hfz15_1, hfz15_2⟩ := bK3 (w := wr) BK427
     go_wp2
     go_loopg [6, 7, 8, 23] k1 (fun kq v6 v7 v8 v23 w' => ∃ (x6_2 : List Int) (x7_2 : List Int) (x8_2 : List Int) (x23_2 : Int), v23 = .int .i64 x23_2 ∧ Aside0 (impl_QapOf.l1 kq x17_1 x6_2 x7_2 x8_2 a0_0 x17_1 l0_2 (l0_2.length : Int) x23_2 a0_0 a0_1 l0_2 x431000_1 x431001_1 x431002_1 = some (r1, r2, r3, r4)) ∧ Aside0 (kq ≤ k1) ∧ Aside0 (Kd.R (Kd.int .i64) 3 w' w.heap.size (fun k_ => some k_ ≠ (v7 : Value).ownBlock ∧ some k_ ≠ (v8 : Value).ownBlock) v6 x6_2) ∧ Aside0 (Kd.R (Kd.int .i64) 3 w' w.heap.size (fun k_ => some k_ ≠ (v6 : Value).ownBlock ∧ some k_ ≠ (v8 : Value).ownBlock) v7 x7_2) ∧ Aside0 (Kd.R (Kd.int .i64) 3 w' w.heap.size (fun k_ => some k_ ≠ (v6 : Value).ownBlock ∧ some k_ ≠ (v7 : Value).ownBlock) v8 x8_2) ∧ Aside0 (Kd.S (Kd.slice 3 (Kd.int .i64)) 22 w' w.heap.size (fun k_ => some k_ ≠ (v6 : Value).ownBlock ∧ some k_ ≠ (v7 : Value).ownBlock ∧ some k_ ≠ (v8 : Value).ownBlock ∧ some k_ ≠ (u431001 : Value).ownBlock ∧ some k_ ≠ (u431002 : Value).ownBlock) u431000 x431000_1) ∧ Aside0 (Kd.S (Kd.slice 3 (Kd.int .i64)) 22 w' w.heap.size (fun k_ => some k_ ≠ (v6 : Value).ownBlock ∧ some k_ ≠ (v7 : Value).ownBlock ∧ some k_ ≠ (v8 : Value).ownBlock ∧ some k_ ≠ (u431000 : Value).ownBlock ∧ some k_ ≠ (u431002 : Value).ownBlock) u431001 x431001_1) ∧ Aside0 (Kd.S (Kd.slice 3 (Kd.int .i64)) 22 w' w.heap.size (fun k_ => some k_ ≠ (v6 : Value).ownBlock ∧ some k_ ≠ (v7 : Value).ownBlock ∧ some k_ ≠ (v8 : Value).ownBlock ∧ some k_ ≠ (u431000 : Value).ownBlock ∧ some k_ ≠ (u431001 : Value).ownBlock) u431002 x431002_1) ∧ Aside0 (w'.heap[gb427]? = some (.cells #[.int .i64 a0_0, .int .i64 a0_1, (.slice A0_2 l0_2.length c0_2)] 32 (0, 0))) ∧ Aside0 (w'.heap[gb428]? = some (.cells #[(.slice none 0 0), (.slice none 0 0), (.slice none 0 0)] 61 (0, 0))) ∧ Aside0 (w'.heap[gb430]? = some (.cells #[u431000, u431001, u431002] 61 (0, 0))) ∧ Aside0 (Below w.heap.size w w'))
     case atStart => exact ⟨(([] : List Int)), (([] : List Int)), (([] : List Int)), (0), rS, H', ⟨Nat.le_refl _⟩, ⟨by first | exact Kd.R_nil _ _ _ _ _ | exact Kd.N_nil _ _ _ _ _ | exact Kd.V_nil _ _ _ _ _ | exact Kd.Q_nil _ _ _ _ _ | exact Kd.S_nil _ _ _ _ _⟩, ⟨by first | exact Kd.R_nil _ _ _ _ _ | exact Kd.N_nil _ _ _ _ _ | exact Kd.V_nil _ _ _ _ _ | exact Kd.Q_nil _ _ _ _ _ | exact Kd.S_nil _ _ _ _ _⟩, ⟨by first | exact Kd.R_nil _ _ _ _ _ | exact Kd.N_nil _ _ _ _ _ | exact Kd.V_nil _ _ _ _ _ | exact Kd.Q_nil _ _ _ _ _ | exact Kd.S_nil _ _ _ _ _⟩, ⟨by (with_reducible repeat (first | apply Kd.S_alloc | apply Kd.S_drewN | apply Kd.S_drew)); exact Kd.S_mono HO_431000.out (fun _ hk => ⟨(by simp [Value.ownBlock]), ⟨(by simp [Value.ownBlock]), ⟨(by simp [Value.ownBlock]), ⟨hk.1, hk.2⟩⟩⟩⟩)⟩, ⟨by (with_reducible repeat (first | apply Kd.S_alloc | apply Kd.S_drewN | apply Kd.S_drew)); exact Kd.S_mono HO_431001.out (fun _ hk => ⟨(by simp [Value.ownBlock]), ⟨(by simp [Value.ownBlock]), ⟨(by simp [Value.ownBlock]), ⟨hk.1, hk.2⟩⟩⟩⟩)⟩, ⟨by (with_reducible repeat (first | apply Kd.S_alloc | apply Kd.S_drewN | apply Kd.S_drew)); exact Kd.S_mono HO_431002.out (fun _ hk => ⟨(by simp [Value.ownBlock]), ⟨(by simp [Value.ownBlock]), ⟨(by simp [Value.ownBlock]), ⟨hk.1, hk.2⟩⟩⟩⟩)⟩, ⟨bP BK427⟩, ⟨bP BK428⟩, ⟨bP BK430⟩, ⟨bZ HB⟩⟩
     case round =>
      clear H'
      try clear c1
      try clear p2
      try clear c3
      try clear c5
      try clear c6
      try clear c8
      try clear c10
      try clear c12
      try clear c12b0
      try clear c13
      try clear c14
      try clear hcz11_0
      try clear hcz11_1
      try clear hcz11_2
      try clear hcz15_0
      try clear hcz15_1
      try clear hcz15_2
      try clear hcz7_0
      try clear hcz7_1
      try clear hcz7_2
      try clear hfz11_0
      try clear hfz11_1
      try clear hfz11_2
      try clear hfz15_0
      try clear hfz15_1
      try clear hfz15_2
      try clear hfz7_0
      try clear hfz7_1
      try clear hfz7_2
      try clear p2
      obtain ⟨x6_2, x7_2, x8_2, x23_2, rfl, HA, HK2, HO_6, HO_7, HO_8, HO_431000, HO_431001, HO_431002, BK427, BK428, BK430, HB⟩ := hrel
      cases gk with
      | zero => exact absurd HA.out (by simp [impl_QapOf.l1])
      | succ k2 =>
       have H := HA.out
       clear HA
       simp only [impl_QapOf.l1] at H
       by_cases c16 : x23_2 < (l0_2.length : Int)
       ·rw [if_pos c16] at H
        have c16b0 := decide_eq_true c16
        clear c16
        by_cases c17 : 0 ≤ x23_2
        ·rw [if_pos c17] at H
         have c17b0 := decide_eq_true c17
         clear c17
         by_cases c18 : x23_2 < (l0_2.length : Int)
         ·rw [if_pos c18] at H
          have c18b0 := decide_eq_true c18
          clear c18
          by_cases c19 : 0 ≤ x17_1
          ·rw [if_pos c19] at H
           have c19b0 := decide_eq_true c19
           clear c19
           by_cases c20 : x17_1 < (((rd_T40 l0_2 x23_2).f0).length : Int)
           ·rw [if_pos c20] at H
            have c20b0 := decide_eq_true c20
            clear c20
            by_cases c21 : x6_2.length < 17592186044416
            ·rw [if_pos c21] at H
             have LMc21 := Aside0.mk c21
             clear c21
             obtain ⟨y434, hy434⟩ : ∃ y_ : List Int, y_ = (x6_2 ++ [rd ((rd_T40 l0_2 x23_2).f0) x17_1]) := ⟨_, rfl⟩
             replace H : (if x17_1 < (((rd_T40 l0_2 x23_2).f1).length : Int) then (if x7_2.length < 17592186044416 then (if x17_1 < (((rd_T40 l0_2 x23_2).f2).length : Int) then (if x8_2.length < 17592186044416 then (impl_QapOf.l1 k2 x17_1 y434 (x7_2 ++ [rd ((rd_T40 l0_2 x23_2).f1) x17_1]) (x8_2 ++ [rd ((rd_T40 l0_2 x23_2).f2) x17_1]) a0_0 x17_1 l0_2 (l0_2.length : Int) (wrap64 (x23_2 + 1)) a0_0 a0_1 l0_2 x431000_1 x431001_1 x431002_1) else (none)) else (none)) else (none)) else (none)) = some (r1, r2, r3, r4) := by first | (rw [hy434]; with_reducible exact H) | (have H2_ := (Option.bind_some _ _).symm.trans H; rw [hy434]; with_reducible exact H2_) | (have H2_ := (Option.bind_some _ _).symm.trans H; with_reducible exact H2_) | with_reducible exact H | (rw [hy434]; exact H) | exact H
             have Ny434 := Aside0.mk hy434
             clear hy434
             by_cases c22 : x17_1 < (((rd_T40 l0_2 x23_2).f1).length : Int)
             ·rw [if_pos c22] at H
              have c22b0 := decide_eq_true c22
              clear c22
              by_cases c23 : x7_2.length < 17592186044416
              ·rw [if_pos c23] at H
               have LMc23 := Aside0.mk c23
               clear c23
               obtain ⟨y438, hy438⟩ : ∃ y_ : List Int, y_ = (x7_2 ++ [rd ((rd_T40 l0_2 x23_2).f1) x17_1]) := ⟨_, rfl⟩
               replace H : (if x17_1 < (((rd_T40 l0_2 x23_2).f2).length : Int) then (if x8_2.length < 17592186044416 then (impl_QapOf.l1 k2 x17_1 y434 y438 (x8_2 ++ [rd ((rd_T40 l0_2 x23_2).f2) x17_1]) a0_0 x17_1 l0_2 (l0_2.length : Int) (wrap64 (x23_2 + 1)) a0_0 a0_1 l0_2 x431000_1 x431001_1 x431002_1) else (none)) else (none)) = some (r1, r2, r3, r4) := by first | (rw [hy438]; with_reducible exact H) | (have H2_ := (Option.bind_some _ _).symm.trans H; rw [hy438]; with_reducible exact H2_) | (have H2_ := (Option.bind_some _ _).symm.trans H; with_reducible exact H2_) | with_reducible exact H | (rw [hy438]; exact H) | exact H
               have Ny438 := Aside0.mk hy438
               clear hy438
               by_cases c24 : x17_1 < (((rd_T40 l0_2 x23_2).f2).length : Int)
               ·rw [if_pos c24] at H
                have c24b0 := decide_eq_true c24
                clear c24
                by_cases c25 : x8_2.length < 17592186044416
                ·rw [if_pos c25] at H
                 have LMc25 := Aside0.mk c25
                 clear c25
                 obtain ⟨y442, hy442⟩ : ∃ y_ : List Int, y_ = (x8_2 ++ [rd ((rd_T40 l0_2 x23_2).f2) x17_1]) := ⟨_, rfl⟩
                 replace H : (impl_QapOf.l1 k2 x17_1 y434 y438 y442 a0_0 x17_1 l0_2 (l0_2.length : Int) (wrap64 (x23_2 + 1)) a0_0 a0_1 l0_2 x431000_1 x431001_1 x431002_1) = some (r1, r2, r3, r4) := by first | (rw [hy442]; with_reducible exact H) | (have H2_ := (Option.bind_some _ _).symm.trans H; rw [hy442]; with_reducible exact H2_) | (have H2_ := (Option.bind_some _ _).symm.trans H; with_reducible exact H2_) | with_reducible exact H | (rw [hy442]; exact H) | exact H
                 have Ny442 := Aside0.mk hy442
                 clear hy442
                 have H' := Aside0.mk H
                 clear H
                 have p431 : 0 ≤ (x23_2 : Int) := of_decide_eq_true (by first | (with_reducible assumption) | assumption)
                 have q431 : x23_2 < (l0_2.length : Int) := of_decide_eq_true (by first | (with_reducible assumption) | assumption)
                 obtain ⟨ad431, A431_0, c431_0, A431_1, c431_1, A431_2, c431_2, e431, hx431_0, hx431_1, hx431_2, hl431_0, hi431_0, hl431_1, hi431_1, hl431_2, hi431_2⟩ := at_T40 HR0_2.out x23_2 p431 q431
                 cases e431
                 replace hx431_0 := (hC HB hx431_0 :)
                 replace hx431_1 := (hC HB hx431_1 :)
                 replace hx431_2 := (hC HB hx431_2 :)
                 have HR431_0 := Aside0.mk hi431_0
                 have HC431_0 := Aside0.mk hl431_0
                 clear hi431_0 hl431_0
                 have HR431_1 := Aside0.mk hi431_1
                 have HC431_1 := Aside0.mk hl431_1
                 clear hi431_1 hl431_1
                 have HR431_2 := Aside0.mk hi431_2
                 have HC431_2 := Aside0.mk hl431_2
                 clear hi431_2 hl431_2
                 replace p431 := eq_true p431
                 replace q431 := eq_true q431
                 go_wp2_with (first | ((with_reducible refine gate_dst (N := 10) rfl ?_); refine bE 10 #[.slice none 0 0, .slice none 0 0, .slice none 0 0] 40 ?_; intro gb432 hg w26 hbox hb; replace HO_6 := Aside0.mk (Kd.R_below (rP HO_6) hb); replace HO_7 := Aside0.mk (Kd.R_below (rP HO_7) hb); replace HO_8 := Aside0.mk (Kd.R_below (rP HO_8) hb); replace HO_431000 := Aside0.mk (Kd.S_below (by (with_reducible repeat (first | apply Kd.S_alloc | apply Kd.S_drewN | apply Kd.S_drew)); exact HO_431000.out) hb); replace HO_431001 := Aside0.mk (Kd.S_below (by (with_reducible repeat (first | apply Kd.S_alloc | apply Kd.S_drewN | apply Kd.S_drew)); exact HO_431001.out) hb); replace HO_431002 := Aside0.mk (Kd.S_below (by (with_reducible repeat (first | apply Kd.S_alloc | apply Kd.S_drewN | apply Kd.S_drew)); exact HO_431002.out) hb); have BK432 := Aside0.mk (hbox); have GW432 := bG HB hg; replace HB := bS HB hb; obtain ⟨NB427_432, NB432_427⟩ := bN BK427 hg; replace BK427 := bB BK427 hb; obtain ⟨NB428_432, NB432_428⟩ := bN BK428 hg; replace BK428 := bB BK428 hb; obtain ⟨NB430_432, NB432_430⟩ := bN BK430 hg; replace BK430 := bB BK430 hb; clear hb hbox hg; obtain ⟨hnb27, hnc27⟩ := nB NB432_427; obtain ⟨hnb28, hnc28⟩ := nB NB432_428; obtain ⟨hnb29, hnc29⟩ := nB NB432_430; obtain ⟨hcz30_0, hcz30_1, hcz30_2, hfz30_0, hfz30_1, hfz30_2⟩ := bK3 (w := w26) BK432; have p433 : 0 ≤ (x17_1 : Int) := of_decide_eq_true (by first | (with_reducible assumption) | assumption); have q433 : x17_1 < (((rd_T40 l0_2 x23_2).f0).length : Int) := of_decide_eq_true (by first | (with_reducible assumption) | assumption); obtain ⟨ad433, e433, hx433_0⟩ := Kd.at_int HR431_0.out x17_1 p433 q433; cases e433; have hn433_0 : ad433.block ≠ gb432 := Nat.ne_of_lt (Nat.lt_of_lt_of_le (by have := World.block_lt_of_cell? _ _ hx433_0; first | rwa [add_block] at this | exact this) GW432.out); have hn433_1 : ad433.block ≠ gb432 := Nat.ne_of_lt (Nat.lt_of_lt_of_le (by have := World.block_lt_of_cell? _ _ hx433_0; first | rwa [add_block] at this | exact this) GW432.out); have hn433_2 : ad433.block ≠ gb432 := Nat.ne_of_lt (Nat.lt_of_lt_of_le (by have := World.block_lt_of_cell? _ _ hx433_0; first | rwa [add_block] at this | exact this) GW432.out); replace hx433_0 := (hC HB hx433_0 :); replace hx433_0 := (cell_far (p := ⟨gb432, 0, none⟩) (by first | (rw [add_block]; exact hn433_0) | (show (Addr.add _ _).block ≠ _; rw [add_block]; exact hn433_0) | exact hn433_0) (.slice (some ad433) ((rd_T40 l0_2 x23_2).f0).length c431_0)).trans hx433_0; replace hx433_0 := (cell_far (p := ⟨gb432, 1, none⟩) (by first | (rw [add_block]; exact hn433_1) | (show (Addr.add _ _).block ≠ _; rw [add_block]; exact hn433_1) | exact hn433_1) (.slice A431_1 ((rd_T40 l0_2 x23_2).f1).length c431_1)).trans hx433_0; replace hx433_0 := (cell_far (p := ⟨gb432, 2, none⟩) (by first | (rw [add_block]; exact hn433_2) | (show (Addr.add _ _).block ≠ _; rw [add_block]; exact hn433_2) | exact hn433_2) (.slice A431_2 ((rd_T40 l0_2 x23_2).f2).length c431_2)).trans hx433_0; clear hn433_0; clear hn433_1; clear hn433_2; replace p433 := eq_true p433; replace q433 := eq_true q433) | ((with_reducible refine gate_builtin (b := .append) (xs := #[.tmp 27, .tmp 33]) rfl ?_); at_builtin; refine Kd.R_append (Kd.int .i64) (w0 := w) w.heap.size rfl (.tmp 27) (.tmp 33) 22 3 (.int .i64 0) 8 rfl Try.underlying22 info3 rfl (by decide) (by omega) u6 x6_2 (rd ((rd_T40 l0_2 x23_2).f0) x17_1) [.int .i64 (rd ((rd_T40 l0_2 x23_2).f0) x17_1)] (fun k_ => some k_ ≠ (u7 : Value).ownBlock ∧ some k_ ≠ (u8 : Value).ownBlock) (fun _ => False) rfl (by first | (go_simp; done) | (go_simp; rfl)) ?aP (fun _ hk => hk.elim) ?aF ?aO ?aB ?aS ?aL ?_; (case aP => exact rfl); (case aB => exact (bZ HB)); (case aF => exact (fun k_ hk => ⟨Kd.fresh' (Kd.R_lt (by (with_reducible repeat (first | apply Kd.R_alloc | apply Kd.R_drewN | apply Kd.R_drew)); exact (Kd.R_mono (Kd.R_far (p := ⟨gb432, 2, none⟩) (Kd.R_far (p := ⟨gb432, 1, none⟩) (Kd.R_far (p := ⟨gb432, 0, none⟩) (Kd.R_types HO_7.out BK432.out (by decide)) (fun _ hk => hk.2) (.slice (some ad433) ((rd_T40 l0_2 x23_2).f0).length c431_0)) (fun _ hk => hk.2) (.slice A431_1 ((rd_T40 l0_2 x23_2).f1).length c431_1)) (fun _ hk => hk.2) (.slice A431_2 ((rd_T40 l0_2 x23_2).f2).length c431_2)) (fun _ h_ => h_.1)))) k_ hk, Kd.fresh' (Kd.R_lt (by (with_reducible repeat (first | apply Kd.R_alloc | apply Kd.R_drewN | apply Kd.R_drew)); exact (Kd.R_mono (Kd.R_far (p := ⟨gb432, 2, none⟩) (Kd.R_far (p := ⟨gb432, 1, none⟩) (Kd.R_far (p := ⟨gb432, 0, none⟩) (Kd.R_types HO_8.out BK432.out (by decide)) (fun _ hk => hk.2) (.slice (some ad433) ((rd_T40 l0_2 x23_2).f0).length c431_0)) (fun _ hk => hk.2) (.slice A431_1 ((rd_T40 l0_2 x23_2).f1).length c431_1)) (fun _ hk => hk.2) (.slice A431_2 ((rd_T40 l0_2 x23_2).f2).length c431_2)) (fun _ h_ => h_.1)))) k_ hk⟩)); (case aO => exact (by (with_reducible repeat (first | apply Kd.R_alloc | apply Kd.R_drewN | apply Kd.R_drew)); exact Kd.R_mono (Kd.R_far (p := ⟨gb432, 2, none⟩) (Kd.R_far (p := ⟨gb432, 1, none⟩) (Kd.R_far (p := ⟨gb432, 0, none⟩) (Kd.R_types HO_6.out BK432.out (by decide)) (fun _ hk => hk.2) (.slice (some ad433) ((rd_T40 l0_2 x23_2).f0).length c431_0)) (fun _ hk => hk.2) (.slice A431_1 ((rd_T40 l0_2 x23_2).f1).length c431_1)) (fun _ hk => hk.2) (.slice A431_2 ((rd_T40 l0_2 x23_2).f2).length c431_2)) (fun _ hk => ⟨hk.1.1, hk.1.2⟩))); (case aS => exact (below_size (bZ HB))); (case aL => have := LMc21.out; omega); intro v435 w31 ho hb hg hat; rw [← Ny434.out] at ho; replace HO_7 := Aside0.mk (Kd.R_after (ok := (fun k_ => some k_ ≠ (u8 : Value).ownBlock)) (by (with_reducible repeat (first | apply Kd.R_alloc | apply Kd.R_drewN | apply Kd.R_drew)); exact Kd.R_mono (Kd.R_far (p := ⟨gb432, 2, none⟩) (Kd.R_far (p := ⟨gb432, 1, none⟩) (Kd.R_far (p := ⟨gb432, 0, none⟩) (Kd.R_types HO_7.out BK432.out (by decide)) (fun _ hk => hk.2) (.slice (some ad433) ((rd_T40 l0_2 x23_2).f0).length c431_0)) (fun _ hk => hk.2) (.slice A431_1 ((rd_T40 l0_2 x23_2).f1).length c431_1)) (fun _ hk => hk.2) (.slice A431_2 ((rd_T40 l0_2 x23_2).f2).length c431_2)) (fun _ hk => ⟨hk.1.2, hk.1.1⟩)) hg hat); replace HO_8 := Aside0.mk (Kd.R_after (ok := (fun k_ => some k_ ≠ (u7 : Value).ownBlock)) (by (with_reducible repeat (first | apply Kd.R_alloc | apply Kd.R_drewN | apply Kd.R_drew)); exact Kd.R_mono (Kd.R_far (p := ⟨gb432, 2, none⟩) (Kd.R_far (p := ⟨gb432, 1, none⟩) (Kd.R_far (p := ⟨gb432, 0, none⟩) (Kd.R_types HO_8.out BK432.out (by decide)) (fun _ hk => hk.2) (.slice (some ad433) ((rd_T40 l0_2 x23_2).f0).length c431_0)) (fun _ hk => hk.2) (.slice A431_1 ((rd_T40 l0_2 x23_2).f1).length c431_1)) (fun _ hk => hk.2) (.slice A431_2 ((rd_T40 l0_2 x23_2).f2).length c431_2)) (fun _ hk => ⟨hk.1.2, hk.1.1⟩)) hg hat); replace HO_431000 := Aside0.mk (Kd.S_after (ok := (fun k_ => some k_ ≠ (u7 : Value).ownBlock ∧ some k_ ≠ (u8 : Value).ownBlock ∧ some k_ ≠ (u431001 : Value).ownBlock ∧ some k_ ≠ (u431002 : Value).ownBlock)) (by (with_reducible repeat (first | apply Kd.S_alloc | apply Kd.S_drewN | apply Kd.S_drew)); exact Kd.S_mono (Kd.S_far (p := ⟨gb432, 2, none⟩) (Kd.S_far (p := ⟨gb432, 1, none⟩) (Kd.S_far (p := ⟨gb432, 0, none⟩) (Kd.S_types HO_431000.out BK432.out (by decide)) (fun _ hk => hk.2) (.slice (some ad433) ((rd_T40 l0_2 x23_2).f0).length c431_0)) (fun _ hk => hk.2) (.slice A431_1 ((rd_T40 l0_2 x23_2).f1).length c431_1)) (fun _ hk => hk.2) (.slice A431_2 ((rd_T40 l0_2 x23_2).f2).length c431_2)) (fun _ hk => ⟨⟨hk.1.2.1, ⟨hk.1.2.2.1, ⟨hk.1.2.2.2.1, hk.1.2.2.2.2⟩⟩⟩, hk.1.1⟩)) hg hat); replace HO_431001 := Aside0.mk (Kd.S_after (ok := (fun k_ => some k_ ≠ (u7 : Value).ownBlock ∧ some k_ ≠ (u8 : Value).ownBlock ∧ some k_ ≠ (u431000 : Value).ownBlock ∧ some k_ ≠ (u431002 : Value).ownBlock)) (by (with_reducible repeat (first | apply Kd.S_alloc | apply Kd.S_drewN | apply Kd.S_drew)); exact Kd.S_mono (Kd.S_far (p := ⟨gb432, 2, none⟩) (Kd.S_far (p := ⟨gb432, 1, none⟩) (Kd.S_far (p := ⟨gb432, 0, none⟩) (Kd.S_types HO_431001.out BK432.out (by decide)) (fun _ hk => hk.2) (.slice (some ad433) ((rd_T40 l0_2 x23_2).f0).length c431_0)) (fun _ hk => hk.2) (.slice A431_1 ((rd_T40 l0_2 x23_2).f1).length c431_1)) (fun _ hk => hk.2) (.slice A431_2 ((rd_T40 l0_2 x23_2).f2).length c431_2)) (fun _ hk => ⟨⟨hk.1.2.1, ⟨hk.1.2.2.1, ⟨hk.1.2.2.2.1, hk.1.2.2.2.2⟩⟩⟩, hk.1.1⟩)) hg hat); replace HO_431002 := Aside0.mk (Kd.S_after (ok := (fun k_ => some k_ ≠ (u7 : Value).ownBlock ∧ some k_ ≠ (u8 : Value).ownBlock ∧ some k_ ≠ (u431000 : Value).ownBlock ∧ some k_ ≠ (u431001 : Value).ownBlock)) (by (with_reducible repeat (first | apply Kd.S_alloc | apply Kd.S_drewN | apply Kd.S_drew)); exact Kd.S_mono (Kd.S_far (p := ⟨gb432, 2, none⟩) (Kd.S_far (p := ⟨gb432, 1, none⟩) (Kd.S_far (p := ⟨gb432, 0, none⟩) (Kd.S_types HO_431002.out BK432.out (by decide)) (fun _ hk => hk.2) (.slice (some ad433) ((rd_T40 l0_2 x23_2).f0).length c431_0)) (fun _ hk => hk.2) (.slice A431_1 ((rd_T40 l0_2 x23_2).f1).length c431_1)) (fun _ hk => hk.2) (.slice A431_2 ((rd_T40 l0_2 x23_2).f2).length c431_2)) (fun _ hk => ⟨⟨hk.1.2.1, ⟨hk.1.2.2.1, ⟨hk.1.2.2.2.1, hk.1.2.2.2.2⟩⟩⟩, hk.1.1⟩)) hg hat); replace BK427 := Aside0.mk (blk_grown (bP BK427) hg (Kd.R_ne HO_6.out BK427.out (by decide))); replace BK428 := Aside0.mk (blk_grown (bP BK428) hg (Kd.R_ne HO_6.out BK428.out (by decide))); replace BK430 := Aside0.mk (blk_grown (bP BK430) hg (Kd.R_ne HO_6.out BK430.out (by decide))); replace BK432 := Aside0.mk (blk_grown (g := gb432) (o := .cells #[.slice (some ad433) ((rd_T40 l0_2 x23_2).f0).length c431_0, .slice A431_1 ((rd_T40 l0_2 x23_2).f1).length c431_1, .slice A431_2 ((rd_T40 l0_2 x23_2).f2).length c431_2] 40 (0, 0)) (bU BK432) hg (Kd.R_ne HO_6.out BK432.out (by decide))); replace HB := Aside0.mk (hb); have HO436 := Aside0.mk (ho); clear HO_6; clear ho hb hg hat; obtain ⟨hcz32_0, hcz32_1, hcz32_2, hfz32_0, hfz32_1, hfz32_2⟩ := bK3 (w := w31) BK432; have p437 : 0 ≤ (x17_1 : Int) := of_decide_eq_true (by first | (with_reducible assumption) | assumption); have q437 : x17_1 < (((rd_T40 l0_2 x23_2).f1).length : Int) := of_decide_eq_true (by first | (with_reducible assumption) | assumption); obtain ⟨ad437, e437, hx437_0⟩ := Kd.at_int HR431_1.out x17_1 p437 q437; cases e437; replace hx437_0 := (hC HB hx437_0 :); replace p437 := eq_true p437; replace q437 := eq_true q437) | ((with_reducible refine gate_builtin (b := .append) (xs := #[.tmp 35, .tmp 41]) rfl ?_); at_builtin; refine Kd.R_append (Kd.int .i64) (w0 := w) w.heap.size rfl (.tmp 35) (.tmp 41) 22 3 (.int .i64 0) 8 rfl Try.underlying22 info3 rfl (by decide) (by omega) u7 x7_2 (rd ((rd_T40 l0_2 x23_2).f1) x17_1) [.int .i64 (rd ((rd_T40 l0_2 x23_2).f1) x17_1)] (fun k_ => some k_ ≠ (u8 : Value).ownBlock ∧ some k_ ≠ (v435 : Value).ownBlock) (fun _ => False) rfl rfl ?aP (fun _ hk => hk.elim) ?aF ?aO ?aB ?aS ?aL ?_; (case aP => exact rfl); (case aB => exact (bZ HB)); (case aF => exact (fun k_ hk => ⟨Kd.fresh' (Kd.R_lt (rP HO_8)) k_ hk, Kd.fresh' (Kd.R_lt (rP HO436)) k_ hk⟩)); (case aO => exact (rP HO_7)); (case aS => exact (below_size (bZ HB))); (case aL => have := LMc23.out; omega); intro v439 w33 ho hb hg hat; rw [← Ny438.out] at ho; replace HO_8 := Aside0.mk (Kd.R_after (ok := (fun k_ => some k_ ≠ (v435 : Value).ownBlock)) (by (with_reducible repeat (first | apply Kd.R_alloc | apply Kd.R_drewN | apply Kd.R_drew)); exact Kd.R_mono HO_8.out (fun _ hk => ⟨hk.2, hk.1⟩)) hg hat); replace HO_431000 := Aside0.mk (Kd.S_after (ok := (fun k_ => some k_ ≠ (u8 : Value).ownBlock ∧ some k_ ≠ (u431001 : Value).ownBlock ∧ some k_ ≠ (u431002 : Value).ownBlock ∧ some k_ ≠ (v435 : Value).ownBlock)) (by (with_reducible repeat (first | apply Kd.S_alloc | apply Kd.S_drewN | apply Kd.S_drew)); exact Kd.S_mono HO_431000.out (fun _ hk => ⟨⟨hk.1.2.1, ⟨hk.1.2.2.1, ⟨hk.1.2.2.2, hk.2⟩⟩⟩, hk.1.1⟩)) hg hat); replace HO_431001 := Aside0.mk (Kd.S_after (ok := (fun k_ => some k_ ≠ (u8 : Value).ownBlock ∧ some k_ ≠ (u431000 : Value).ownBlock ∧ some k_ ≠ (u431002 : Value).ownBlock ∧ some k_ ≠ (v435 : Value).ownBlock)) (by (with_reducible repeat (first | apply Kd.S_alloc | apply Kd.S_drewN | apply Kd.S_drew)); exact Kd.S_mono HO_431001.out (fun _ hk => ⟨⟨hk.1.2.1, ⟨hk.1.2.2.1, ⟨hk.1.2.2.2, hk.2⟩⟩⟩, hk.1.1⟩)) hg hat); replace HO_431002 := Aside0.mk (Kd.S_after (ok := (fun k_ => some k_ ≠ (u8 : Value).ownBlock ∧ some k_ ≠ (u431000 : Value).ownBlock ∧ some k_ ≠ (u431001 : Value).ownBlock ∧ some k_ ≠ (v435 : Value).ownBlock)) (by (with_reducible repeat (first | apply Kd.S_alloc | apply Kd.S_drewN | apply Kd.S_drew)); exact Kd.S_mono HO_431002.out (fun _ hk => ⟨⟨hk.1.2.1, ⟨hk.1.2.2.1, ⟨hk.1.2.2.2, hk.2⟩⟩⟩, hk.1.1⟩)) hg hat); replace BK427 := Aside0.mk (blk_grown (bP BK427) hg (Kd.R_ne HO_7.out BK427.out (by decide))); replace BK428 := Aside0.mk (blk_grown (bP BK428) hg (Kd.R_ne HO_7.out BK428.out (by decide))); replace BK430 := Aside0.mk (blk_grown (bP BK430) hg (Kd.R_ne HO_7.out BK430.out (by decide))); replace BK432 := Aside0.mk (blk_grown (bP BK432) hg (Kd.R_ne HO_7.out BK432.out (by decide))); replace HO436 := Aside0.mk (Kd.R_after (ok := (fun k_ => some k_ ≠ (u8 : Value).ownBlock)) (by (with_reducible repeat (first | apply Kd.R_alloc | apply Kd.R_drewN | apply Kd.R_drew)); exact Kd.R_mono HO436.out (fun _ hk => ⟨hk.2, hk.1⟩)) hg hat); replace HB := Aside0.mk (hb); have HO440 := Aside0.mk (ho); clear HO_7; clear ho hb hg hat; obtain ⟨hcz34_0, hcz34_1, hcz34_2, hfz34_0, hfz34_1, hfz34_2⟩ := bK3 (w := w33) BK432; have p441 : 0 ≤ (x17_1 : Int) := of_decide_eq_true (by first | (with_reducible assumption) | assumption); have q441 : x17_1 < (((rd_T40 l0_2 x23_2).f2).length : Int) := of_decide_eq_true (by first | (with_reducible assumption) | assumption); obtain ⟨ad441, e441, hx441_0⟩ := Kd.at_int HR431_2.out x17_1 p441 q441; cases e441; replace hx441_0 := (hC HB hx441_0 :); replace p441 := eq_true p441; replace q441 := eq_true q441) | ((with_reducible refine gate_builtin (b := .append) (xs := #[.tmp 43, .tmp 49]) rfl ?_); at_builtin; refine Kd.R_append (Kd.int .i64) (w0 := w) w.heap.size rfl (.tmp 43) (.tmp 49) 22 3 (.int .i64 0) 8 rfl Try.underlying22 info3 rfl (by decide) (by omega) u8 x8_2 (rd ((rd_T40 l0_2 x23_2).f2) x17_1) [.int .i64 (rd ((rd_T40 l0_2 x23_2).f2) x17_1)] (fun k_ => some k_ ≠ (v435 : Value).ownBlock ∧ some k_ ≠ (v439 : Value).ownBlock) (fun _ => False) rfl rfl ?aP (fun _ hk => hk.elim) ?aF ?aO ?aB ?aS ?aL ?_; (case aP => exact rfl); (case aB => exact (bZ HB)); (case aF => exact (fun k_ hk => ⟨Kd.fresh' (Kd.R_lt (rP HO436)) k_ hk, Kd.fresh' (Kd.R_lt (rP HO440)) k_ hk⟩)); (case aO => exact (rP HO_8)); (case aS => exact (below_size (bZ HB))); (case aL => have := LMc25.out; omega); intro v443 w35 ho hb hg hat; rw [← Ny442.out] at ho; replace HO_431000 := Aside0.mk (Kd.S_after (ok := (fun k_ => some k_ ≠ (u431001 : Value).ownBlock ∧ some k_ ≠ (u431002 : Value).ownBlock ∧ some k_ ≠ (v435 : Value).ownBlock ∧ some k_ ≠ (v439 : Value).ownBlock)) (by (with_reducible repeat (first | apply Kd.S_alloc | apply Kd.S_drewN | apply Kd.S_drew)); exact Kd.S_mono HO_431000.out (fun _ hk => ⟨⟨hk.1.2.1, ⟨hk.1.2.2.1, ⟨hk.1.2.2.2, hk.2⟩⟩⟩, hk.1.1⟩)) hg hat); replace HO_431001 := Aside0.mk (Kd.S_after (ok := (fun k_ => some k_ ≠ (u431000 : Value).ownBlock ∧ some k_ ≠ (u431002 : Value).ownBlock ∧ some k_ ≠ (v435 : Value).ownBlock ∧ some k_ ≠ (v439 : Value).ownBlock)) (by (with_reducible repeat (first | apply Kd.S_alloc | apply Kd.S_drewN | apply Kd.S_drew)); exact Kd.S_mono HO_431001.out (fun _ hk => ⟨⟨hk.1.2.1, ⟨hk.1.2.2.1, ⟨hk.1.2.2.2, hk.2⟩⟩⟩, hk.1.1⟩)) hg hat); replace HO_431002 := Aside0.mk (Kd.S_after (ok := (fun k_ => some k_ ≠ (u431000 : Value).ownBlock ∧ some k_ ≠ (u431001 : Value).ownBlock ∧ some k_ ≠ (v435 : Value).ownBlock ∧ some k_ ≠ (v439 : Value).ownBlock)) (by (with_reducible repeat (first | apply Kd.S_alloc | apply Kd.S_drewN | apply Kd.S_drew)); exact Kd.S_mono HO_431002.out (fun _ hk => ⟨⟨hk.1.2.1, ⟨hk.1.2.2.1, ⟨hk.1.2.2.2, hk.2⟩⟩⟩, hk.1.1⟩)) hg hat); replace BK427 := Aside0.mk (blk_grown (bP BK427) hg (Kd.R_ne HO_8.out BK427.out (by decide))); replace BK428 := Aside0.mk (blk_grown (bP BK428) hg (Kd.R_ne HO_8.out BK428.out (by decide))); replace BK430 := Aside0.mk (blk_grown (bP BK430) hg (Kd.R_ne HO_8.out BK430.out (by decide))); replace BK432 := Aside0.mk (blk_grown (bP BK432) hg (Kd.R_ne HO_8.out BK432.out (by decide))); replace HO436 := Aside0.mk (Kd.R_after (ok := (fun k_ => some k_ ≠ (v439 : Value).ownBlock)) (by (with_reducible repeat (first | apply Kd.R_alloc | apply Kd.R_drewN | apply Kd.R_drew)); exact Kd.R_mono HO436.out (fun _ hk => ⟨hk.2, hk.1⟩)) hg hat); replace HO440 := Aside0.mk (Kd.R_after (ok := (fun k_ => some k_ ≠ (v435 : Value).ownBlock)) (by (with_reducible repeat (first | apply Kd.R_alloc | apply Kd.R_drewN | apply Kd.R_drew)); exact Kd.R_mono HO440.out (fun _ hk => ⟨hk.2, hk.1⟩)) hg hat); replace HB := Aside0.mk (hb); have HO444 := Aside0.mk (ho); clear HO_8; clear ho hb hg hat))
                 go_roundg k2
                 case measure => have := HK1.out; have := HK2.out; omega
                 case rel => exact ⟨(y434), (y438), (y442), (wrap64 (x23_2 + 1)), rS, H', ⟨by have := HK1.out; have := HK2.out; omega⟩, ⟨rP HO436⟩, ⟨rP HO440⟩, ⟨rP HO444⟩, ⟨by (with_reducible repeat (first | apply Kd.S_alloc | apply Kd.S_drewN | apply Kd.S_drew)); exact Kd.S_mono HO_431000.out (fun _ hk => ⟨hk.1.2.2.1, ⟨hk.1.2.2.2, ⟨hk.2, ⟨hk.1.1, hk.1.2.1⟩⟩⟩⟩)⟩, ⟨by (with_reducible repeat (first | apply Kd.S_alloc | apply Kd.S_drewN | apply Kd.S_drew)); exact Kd.S_mono HO_431001.out (fun _ hk => ⟨hk.1.2.2.1, ⟨hk.1.2.2.2, ⟨hk.2, ⟨hk.1.1, hk.1.2.1⟩⟩⟩⟩)⟩, ⟨by (with_reducible repeat (first | apply Kd.S_alloc | apply Kd.S_drewN | apply Kd.S_drew)); exact Kd.S_mono HO_431002.out (fun _ hk => ⟨hk.1.2.2.1, ⟨hk.1.2.2.2, ⟨hk.2, ⟨hk.1.1, hk.1.2.1⟩⟩⟩⟩)⟩, ⟨bP BK427⟩, ⟨bP BK428⟩, ⟨bP BK430⟩, ⟨bZ HB⟩⟩
                ·rw [if_neg c25] at H
                 exact absurd H (by simp)
               ·rw [if_neg c24] at H
                exact absurd H (by simp)
              ·rw [if_neg c23] at H
               exact absurd H (by simp)
             ·rw [if_neg c22] at H
              exact absurd H (by simp)
            ·rw [if_neg c21] at H
             exact absurd H (by simp)
           ·rw [if_neg c20] at H
            exact absurd H (by simp)
          ·rw [if_neg c19] at H
           exact absurd H (by simp)
         ·rw [if_neg c18] at H
          exact absurd H (by simp)
        ·rw [if_neg c17] at H
         exact absurd H (by simp)
       ·rw [if_neg c16] at H
        have c16b0 := decide_eq_false c16
        clear c16
        replace H := Option.bind_eq_some_iff.mp H
        obtain ⟨t445, A360, H⟩ := H
        have A36 := Aside0.mk A360
        clear A360
        by_cases c37 : x431000_1.length < 5864062014805
        ·rw [if_pos c37] at H
         have LMc37 := Aside0.mk c37
         clear c37
         obtain ⟨y448, hy448⟩ : ∃ y_ : List (List Int), y_ = (x431000_1 ++ [t445]) := ⟨_, rfl⟩
         replace H : ((impl_PolyThrough.f k2 x7_2).bind fun t451 => (if x431001_1.length < 5864062014805 then ((impl_PolyThrough.f k2 x8_2).bind fun t457 => (if x431002_1.length < 5864062014805 then (impl_QapOf.l0 k2 a0_0 (wrap64 (x17_1 + 1)) a0_0 a0_1 l0_2 y448 (x431001_1 ++ [t451]) (x431002_1 ++ [t457])) else (none))) else (none))) = some (r1, r2, r3, r4) := by first | (rw [hy448]; with_reducible exact H) | (have H2_ := (Option.bind_some _ _).symm.trans H; rw [hy448]; with_reducible exact H2_) | (have H2_ := (Option.bind_some _ _).symm.trans H; with_reducible exact H2_) | with_reducible exact H | (rw [hy448]; exact H) | exact H
         have Ny448 := Aside0.mk hy448
         clear hy448
         replace H := Option.bind_eq_some_iff.mp H
         obtain ⟨t451, A380, H⟩ := H
         have A38 := Aside0.mk A380
         clear A380
         by_cases c39 : x431001_1.length < 5864062014805
         ·rw [if_pos c39] at H
          have LMc39 := Aside0.mk c39
          clear c39
          obtain ⟨y454, hy454⟩ : ∃ y_ : List (List Int), y_ = (x431001_1 ++ [t451]) := ⟨_, rfl⟩
          replace H : ((impl_PolyThrough.f k2 x8_2).bind fun t457 => (if x431002_1.length < 5864062014805 then (impl_QapOf.l0 k2 a0_0 (wrap64 (x17_1 + 1)) a0_0 a0_1 l0_2 y448 y454 (x431002_1 ++ [t457])) else (none))) = some (r1, r2, r3, r4) := by first | (rw [hy454]; with_reducible exact H) | (have H2_ := (Option.bind_some _ _).symm.trans H; rw [hy454]; with_reducible exact H2_) | (have H2_ := (Option.bind_some _ _).symm.trans H; with_reducible exact H2_) | with_reducible exact H | (rw [hy454]; exact H) | exact H
          have Ny454 := Aside0.mk hy454
          clear hy454
          replace H := Option.bind_eq_some_iff.mp H
          obtain ⟨t457, A400, H⟩ := H
          have A40 := Aside0.mk A400
          clear A400
          by_cases c41 : x431002_1.length < 5864062014805
          ·rw [if_pos c41] at H
           have LMc41 := Aside0.mk c41
           clear c41
           obtain ⟨y460, hy460⟩ : ∃ y_ : List (List Int), y_ = (x431002_1 ++ [t457]) := ⟨_, rfl⟩
           replace H : (impl_QapOf.l0 k2 a0_0 (wrap64 (x17_1 + 1)) a0_0 a0_1 l0_2 y448 y454 y460) = some (r1, r2, r3, r4) := by first | (rw [hy460]; with_reducible exact H) | (have H2_ := (Option.bind_some _ _).symm.trans H; rw [hy460]; with_reducible exact H2_) | (have H2_ := (Option.bind_some _ _).symm.trans H; with_reducible exact H2_) | with_reducible exact H | (rw [hy460]; exact H) | exact H
           have Ny460 := Aside0.mk hy460
           clear hy460
           have H' := Aside0.mk H
           clear H
           try go_wp2
           replace HO_6 := Aside0.mk (Kd.R_drew HO_6.out)
           replace HO_7 := Aside0.mk (Kd.R_drew HO_7.out)
           replace HO_8 := Aside0.mk (Kd.R_drew HO_8.out)
           replace HO_431000 := Aside0.mk (Kd.S_drew HO_431000.out)
           replace HO_431001 := Aside0.mk (Kd.S_drew HO_431001.out)
           replace HO_431002 := Aside0.mk (Kd.S_drew HO_431002.out)
           replace BK427 := Aside0.mk (blk_drew BK427.out)
           replace BK428 := Aside0.mk (blk_drew BK428.out)
           replace BK430 := Aside0.mk (blk_drew BK430.out)
           replace HB := Aside0.mk (below_drew1 HB.out)
           obtain ⟨Ao43, co43, eo43⟩ := Kd.R_slice HO_6.out
           (first | subst eo43 | (injection eo43 with f1_ f2_ f3_; have f4_ := f1_.symm; have f5_ := f3_.symm; clear f1_ f2_ f3_; subst f4_; subst f5_))
           refine start_ (n := 8) (S := fun w' => SQ3 w' gb430 (u431000) (u431001) (u431002)) (ds := [7]) #[false, false, false, false, false, false, false, false] (by kernel_rfl) rfl rfl (bT3 BK430) (fun hHeld => ?_); refine with_tabW impl_QapOf.tab15 impl_QapOf.bits15 (fun HT_ HW_ => ?_)
           generalize wr.drew = w42 at HO_6 HO_7 HO_8 HO_431000 HO_431001 HO_431002 BK427 BK428 BK430 HB hHeld ⊢
           refine pI 0 (some 52) HT_.out ?_
           refine pI 2 (some 54) HT_.out ?_
           refine tI3 1 (some 53) HT_.out HW_.out hHeld ?_
           refine oI 3 (some 55) HT_.out (fun K hK => ?_)
           refine gO Try.func46 #[.slice Ao43 x6_2.length co43] ?_
           with_reducible refine (impl_PolyThrough.calls k2 _ _ x6_2 t445 _ ?side1 ?side2 A36.out).mono ?_
           (case side1 => exact cP ((Kd.R_reads' HO_6.out).2.2))
           (case side2 => exact (Kd.R_reads' HO_6.out).2.1)
           rintro e w44 ⟨v446, rfl, ho0, hb⟩
           refine ⟨_, rfl, ?_⟩
           replace HO_431000 := Aside0.mk (Kd.S_elder' (by (with_reducible repeat (first | apply Kd.S_alloc | apply Kd.S_drewN | apply Kd.S_drew)); exact HO_431000.out) (Kd.R_base ho0) hb)
           replace HO_431001 := Aside0.mk (Kd.S_elder' (by (with_reducible repeat (first | apply Kd.S_alloc | apply Kd.S_drewN | apply Kd.S_drew)); exact HO_431001.out) (Kd.R_base ho0) hb)
           replace HO_431002 := Aside0.mk (Kd.S_elder' (by (with_reducible repeat (first | apply Kd.S_alloc | apply Kd.S_drewN | apply Kd.S_drew)); exact HO_431002.out) (Kd.R_base ho0) hb)
           have HO447 := Aside0.mk (Kd.R_lower (Kd.R_new' (Kd.R_new' (Kd.R_new' ho0 (Kd.R_lt (rP HO_6))) (Kd.R_lt (rP HO_7))) (Kd.R_lt (rP HO_8))) (below_size (bZ HB)))
           replace HO_6 := Aside0.mk (Kd.R_elder' (rP HO_6) (Kd.R_base ho0) hb)
           replace HO_7 := Aside0.mk (Kd.R_elder' (rP HO_7) (Kd.R_base ho0) hb)
           replace HO_8 := Aside0.mk (Kd.R_elder' (rP HO_8) (Kd.R_base ho0) hb)
           replace BK427 := bB BK427 hb
           replace BK428 := bB BK428 hb
           replace BK430 := bB BK430 hb
           replace HB := bS HB hb
           (try clear hb)
           (try clear ho0)
           obtain ⟨Ao46, co46, eo46⟩ := Kd.R_slice HO447.out
           (first | subst eo46 | (injection eo46 with f1_ f2_ f3_; have f4_ := f1_.symm; have f5_ := f3_.symm; clear f1_ f2_ f3_; subst f4_; subst f5_))
           refine hK.out _ _ (bT3 BK430) (fun hHeld => ?_)
           clear hK K
           refine nO (some 55) ?_
           refine oI 4 (some 56) HT_.out (fun K hK => ?_)
           refine value_ (w1 := ?_) (v := ?_) (by rfl) rfl ?_ ?_
           rotate_left 2
           ·go_simp
            constructor
            ·rfl
            ·rfl
           refine hK.out _ _ ⟨(blk_cell (blk_alloc BK430.out _) 0).trans rfl, (blk_cell (blk_alloc BK430.out _) 1).trans rfl, (blk_cell (blk_alloc BK430.out _) 2).trans rfl⟩ (fun hHeld => ?_)
           clear hK K
           refine nO (some 56) ?_
           refine oI 5 (some 57) HT_.out (fun K hK => ?_)
           refine Kd.S_append_step (Kd.slice 3 (Kd.int .i64)) (w0 := w) w.heap.size (by rfl) (.tmp 53) (.tmp 56) 48 22 (.slice none 0 0) 24 rfl Try.underlying48 info22 rfl (by decide) (by omega) u431000 x431000_1 t445 [.slice Ao46 t445.length co46] (fun k_ => some k_ ≠ (.slice Ao43 x6_2.length co43 : Value).ownBlock ∧ some k_ ≠ (u7 : Value).ownBlock ∧ some k_ ≠ (u8 : Value).ownBlock ∧ some k_ ≠ (u431001 : Value).ownBlock ∧ some k_ ≠ (u431002 : Value).ownBlock) (fun k_ => some k_ = (.slice Ao46 t445.length co46 : Value).ownBlock) rfl rfl ?aP (fun k_ hk_ => ((Kd.R_mono (ok' := fun k_ => ((fun k_ => some k_ ≠ (.slice Ao43 x6_2.length co43 : Value).ownBlock ∧ some k_ ≠ (u7 : Value).ownBlock ∧ some k_ ≠ (u8 : Value).ownBlock ∧ some k_ ≠ (u431001 : Value).ownBlock ∧ some k_ ≠ (u431002 : Value).ownBlock)) k_ ∧ some k_ ≠ (u431000 : Value).ownBlock) (Kd.R_apart' (Kd.R_apart' (Kd.R_apart' (HO447.out) (Kd.S_typed HO_431001.out) (by decide)) (Kd.S_typed HO_431002.out) (by decide)) (Kd.S_typed HO_431000.out) (by decide)) (fun k_ hk => ⟨⟨hk.1.1.1.1.1.2, ⟨hk.1.1.1.1.2, ⟨hk.1.1.1.2, ⟨hk.1.1.2, hk.1.2⟩⟩⟩⟩, hk.2⟩))).1 k_ hk_.symm) ?aF ?aO ?aB ?aS ?aL ?_
           (case aP => exact Kd.M_row (Kd.R_mono (Kd.R_tight rfl (Kd.R_mono (ok' := fun k_ => ((fun k_ => some k_ ≠ (.slice Ao43 x6_2.length co43 : Value).ownBlock ∧ some k_ ≠ (u7 : Value).ownBlock ∧ some k_ ≠ (u8 : Value).ownBlock ∧ some k_ ≠ (u431001 : Value).ownBlock ∧ some k_ ≠ (u431002 : Value).ownBlock)) k_ ∧ some k_ ≠ (u431000 : Value).ownBlock) (Kd.R_apart' (Kd.R_apart' (Kd.R_apart' (HO447.out) (Kd.S_typed HO_431001.out) (by decide)) (Kd.S_typed HO_431002.out) (by decide)) (Kd.S_typed HO_431000.out) (by decide)) (fun k_ hk => ⟨⟨hk.1.1.1.1.1.2, ⟨hk.1.1.1.1.2, ⟨hk.1.1.1.2, ⟨hk.1.1.2, hk.1.2⟩⟩⟩⟩, hk.2⟩))) (fun _ h_ => h_)))
           (case aB => exact (bZ HB))
           (case aF => exact (fun k_ hk => ⟨Kd.fresh' (Kd.R_lt (rP HO_6)) k_ hk, Kd.fresh' (Kd.R_lt (rP HO_7)) k_ hk, Kd.fresh' (Kd.R_lt (rP HO_8)) k_ hk, Kd.fresh' (Kd.S_lt (by (with_reducible repeat (first | apply Kd.S_alloc | apply Kd.S_drewN | apply Kd.S_drew)); exact HO_431001.out)) k_ hk, Kd.fresh' (Kd.S_lt (by (with_reducible repeat (first | apply Kd.S_alloc | apply Kd.S_drewN | apply Kd.S_drew)); exact HO_431002.out)) k_ hk⟩))
           (case aO => exact (by (with_reducible repeat (first | apply Kd.S_alloc | apply Kd.S_drewN | apply Kd.S_drew)); exact Kd.S_mono HO_431000.out (fun k_ hk => ⟨⟨hk.1.1, ⟨hk.1.2.1, ⟨hk.1.2.2.1, ⟨hk.1.2.2.2.1, hk.1.2.2.2.2⟩⟩⟩⟩, fun e_ => hk.2 e_⟩)))
           (case aS => exact (below_size (bZ HB)))
           (case aL => have := LMc37.out; omega)
           intro v449 w45 ho hb hg hat
           rw [← Ny448.out] at ho
           replace HO_6 := Aside0.mk (Kd.R_over' (rP HO_6) (Kd.S_typed (by (with_reducible repeat (first | apply Kd.S_alloc | apply Kd.S_drewN | apply Kd.S_drew)); exact HO_431000.out)) (by decide) hg)
           replace HO_7 := Aside0.mk (Kd.R_over' (rP HO_7) (Kd.S_typed (by (with_reducible repeat (first | apply Kd.S_alloc | apply Kd.S_drewN | apply Kd.S_drew)); exact HO_431000.out)) (by decide) hg)
           replace HO_8 := Aside0.mk (Kd.R_over' (rP HO_8) (Kd.S_typed (by (with_reducible repeat (first | apply Kd.S_alloc | apply Kd.S_drewN | apply Kd.S_drew)); exact HO_431000.out)) (by decide) hg)
           replace HO_431001 := Aside0.mk (Kd.S_after (ok := (fun k_ => some k_ ≠ (.slice Ao43 x6_2.length co43 : Value).ownBlock ∧ some k_ ≠ (u7 : Value).ownBlock ∧ some k_ ≠ (u8 : Value).ownBlock ∧ some k_ ≠ (u431002 : Value).ownBlock ∧ some k_ ≠ (.slice Ao46 t445.length co46 : Value).ownBlock)) (by (with_reducible repeat (first | apply Kd.S_alloc | apply Kd.S_drewN | apply Kd.S_drew)); exact Kd.S_mono HO_431001.out (fun _ hk => ⟨⟨hk.1.1, ⟨hk.1.2.1, ⟨hk.1.2.2.1, ⟨hk.1.2.2.2.2, hk.2⟩⟩⟩⟩, hk.1.2.2.2.1⟩)) hg hat)
           replace HO_431002 := Aside0.mk (Kd.S_after (ok := (fun k_ => some k_ ≠ (.slice Ao43 x6_2.length co43 : Value).ownBlock ∧ some k_ ≠ (u7 : Value).ownBlock ∧ some k_ ≠ (u8 : Value).ownBlock ∧ some k_ ≠ (u431001 : Value).ownBlock ∧ some k_ ≠ (.slice Ao46 t445.length co46 : Value).ownBlock)) (by (with_reducible repeat (first | apply Kd.S_alloc | apply Kd.S_drewN | apply Kd.S_drew)); exact Kd.S_mono HO_431002.out (fun _ hk => ⟨⟨hk.1.1, ⟨hk.1.2.1, ⟨hk.1.2.2.1, ⟨hk.1.2.2.2.2, hk.2⟩⟩⟩⟩, hk.1.2.2.2.1⟩)) hg hat)
           replace BK427 := Aside0.mk (blk_grown (bP BK427) hg (Kd.S_ne HO_431000.out BK427.out (by decide)))
           replace BK428 := Aside0.mk (blk_grown (bP BK428) hg (Kd.S_ne HO_431000.out BK428.out (by decide)))
           replace BK430 := Aside0.mk (blk_grown (bP BK430) hg (Kd.S_ne HO_431000.out BK430.out (by decide)))
           replace HB := Aside0.mk (hb)
           have HO450 := Aside0.mk (ho)
           clear HO_431000 HO447
           clear ho hb hg hat
           obtain ⟨Ao47, co47, eo47⟩ := Kd.S_slice HO450.out
           (first | subst eo47 | (injection eo47 with f1_ f2_ f3_; have f4_ := f1_.symm; have f5_ := f3_.symm; clear f1_ f2_ f3_; subst f4_; subst f5_))
           refine hK.out _ _ (bT3 BK430) (fun hHeld => ?_)
           clear hK K
           refine nO (some 57) ?_
           refine pI 6 (some 58) HT_.out ?_
           refine last_ (i := 7) (N := none) #[true, true, true, true, true, true, true, true] rfl rfl (one_of HT_.out (by kernel_rfl)) (by decide) (fun K hK => ?_)
           have hs48 : w45.cell? ⟨gb430, 0, none⟩ = some (u431000) := bc BK430 0
           have hfs48 := blk_frozen BK430.out 0
           have hns48_0 := NB427_430.out
           have hns48_1 := NB428_430.out
           have hms48_0 := NB430_427.out
           have hms48_1 := NB430_428.out
           refine skip_ (w1 := ?_) (by rfl) rfl ?_ ?_
           rotate_left
           ·go_simp
            rfl
           refine hK.out _ _ ?_
           clear hK K
           refine done_ (done_of HT_.out (by kernel_rfl)) ?_
           try go_wp2
           obtain ⟨w49, hW_⟩ : ∃ W_ : World, W_ = (w45.setCell ⟨gb430, 0, none⟩ (.slice Ao47 y448.length co47)) := ⟨_, rfl⟩
           have n0_ : Aside0 (Kd.R (Kd.int .i64) 3 (w45.setCell ⟨gb430, 0, none⟩ (.slice Ao47 y448.length co47)) w.heap.size (fun k_ => some k_ ≠ (u7 : Value).ownBlock ∧ some k_ ≠ (u8 : Value).ownBlock) (.slice Ao43 x6_2.length co43) x6_2) := ⟨by (with_reducible repeat (first | apply Kd.R_alloc | apply Kd.R_drewN | apply Kd.R_drew)); exact Kd.R_mono (Kd.R_far (p := ⟨gb430, 0, none⟩) (Kd.R_types HO_6.out BK430.out (by decide)) (fun _ hk => hk.2) (.slice Ao47 y448.length co47)) (fun _ hk => ⟨hk.1.1.1, hk.1.1.2⟩)⟩
           rw [← hW_] at n0_
           have n1_ : Aside0 (Kd.R (Kd.int .i64) 3 (w45.setCell ⟨gb430, 0, none⟩ (.slice Ao47 y448.length co47)) w.heap.size (fun k_ => some k_ ≠ (.slice Ao43 x6_2.length co43 : Value).ownBlock ∧ some k_ ≠ (u8 : Value).ownBlock) u7 x7_2) := ⟨by (with_reducible repeat (first | apply Kd.R_alloc | apply Kd.R_drewN | apply Kd.R_drew)); exact Kd.R_mono (Kd.R_far (p := ⟨gb430, 0, none⟩) (Kd.R_types HO_7.out BK430.out (by decide)) (fun _ hk => hk.2) (.slice Ao47 y448.length co47)) (fun _ hk => ⟨hk.1.1.1, hk.1.1.2⟩)⟩
           rw [← hW_] at n1_
           have n2_ : Aside0 (Kd.R (Kd.int .i64) 3 (w45.setCell ⟨gb430, 0, none⟩ (.slice Ao47 y448.length co47)) w.heap.size (fun k_ => some k_ ≠ (.slice Ao43 x6_2.length co43 : Value).ownBlock ∧ some k_ ≠ (u7 : Value).ownBlock) u8 x8_2) := ⟨by (with_reducible repeat (first | apply Kd.R_alloc | apply Kd.R_drewN | apply Kd.R_drew)); exact Kd.R_mono (Kd.R_far (p := ⟨gb430, 0, none⟩) (Kd.R_types HO_8.out BK430.out (by decide)) (fun _ hk => hk.2) (.slice Ao47 y448.length co47)) (fun _ hk => ⟨hk.1.1.1, hk.1.1.2⟩)⟩
           rw [← hW_] at n2_
           have n3_ : Aside0 (Kd.S (Kd.slice 3 (Kd.int .i64)) 22 (w45.setCell ⟨gb430, 0, none⟩ (.slice Ao47 y448.length co47)) w.heap.size (fun k_ => some k_ ≠ (.slice Ao43 x6_2.length co43 : Value).ownBlock ∧ some k_ ≠ (u7 : Value).ownBlock ∧ some k_ ≠ (u8 : Value).ownBlock ∧ some k_ ≠ (u431002 : Value).ownBlock ∧ some k_ ≠ (.slice Ao47 y448.length co47 : Value).ownBlock) u431001 x431001_1) := ⟨by (with_reducible repeat (first | apply Kd.S_alloc | apply Kd.S_drewN | apply Kd.S_drew)); exact Kd.S_mono (Kd.S_far (p := ⟨gb430, 0, none⟩) (Kd.S_types HO_431001.out BK430.out (by decide)) (fun _ hk => hk.2) (.slice Ao47 y448.length co47)) (fun _ hk => ⟨hk.1.1.1, ⟨hk.1.1.2.1, ⟨hk.1.1.2.2.1, ⟨hk.1.1.2.2.2.1, hk.1.2⟩⟩⟩⟩)⟩
           rw [← hW_] at n3_
           have n4_ : Aside0 (Kd.S (Kd.slice 3 (Kd.int .i64)) 22 (w45.setCell ⟨gb430, 0, none⟩ (.slice Ao47 y448.length co47)) w.heap.size (fun k_ => some k_ ≠ (.slice Ao43 x6_2.length co43 : Value).ownBlock ∧ some k_ ≠ (u7 : Value).ownBlock ∧ some k_ ≠ (u8 : Value).ownBlock ∧ some k_ ≠ (u431001 : Value).ownBlock ∧ some k_ ≠ (.slice Ao47 y448.length co47 : Value).ownBlock) u431002 x431002_1) := ⟨by (with_reducible repeat (first | apply Kd.S_alloc | apply Kd.S_drewN | apply Kd.S_drew)); exact Kd.S_mono (Kd.S_far (p := ⟨gb430, 0, none⟩) (Kd.S_types HO_431002.out BK430.out (by decide)) (fun _ hk => hk.2) (.slice Ao47 y448.length co47)) (fun _ hk => ⟨hk.1.1.1, ⟨hk.1.1.2.1, ⟨hk.1.1.2.2.1, ⟨hk.1.1.2.2.2.1, hk.1.2⟩⟩⟩⟩)⟩
           rw [← hW_] at n4_
           have n5_ : Aside0 (Kd.S (Kd.slice 3 (Kd.int .i64)) 22 (w45.setCell ⟨gb430, 0, none⟩ (.slice Ao47 y448.length co47)) w.heap.size (fun k_ => some k_ ≠ (.slice Ao43 x6_2.length co43 : Value).ownBlock ∧ some k_ ≠ (u7 : Value).ownBlock ∧ some k_ ≠ (u8 : Value).ownBlock ∧ some k_ ≠ (u431001 : Value).ownBlock ∧ some k_ ≠ (u431002 : Value).ownBlock) (.slice Ao47 y448.length co47) y448) := ⟨by (with_reducible repeat (first | apply Kd.S_alloc | apply Kd.S_drewN | apply Kd.S_drew)); exact Kd.S_mono (Kd.S_far (p := ⟨gb430, 0, none⟩) (Kd.S_types HO450.out BK430.out (by decide)) (fun _ hk => hk.2) (.slice Ao47 y448.length co47)) (fun _ hk => ⟨hk.1.1, ⟨hk.1.2.1, ⟨hk.1.2.2.1, ⟨hk.1.2.2.2.1, hk.1.2.2.2.2⟩⟩⟩⟩)⟩
           rw [← hW_] at n5_
           replace BK427 := bW hW_ BK427
           replace BK428 := bW hW_ BK428
           replace BK430 := bX hW_ 61 #[.slice Ao47 y448.length co47, u431001, u431002] BK430
           (try clear HO_6)
           (try clear HO_7)
           (try clear HO_8)
           (try clear HO_431001)
           (try clear HO_431002)
           (try clear HO450)
           have HO_6 := n0_
           clear n0_
           have HO_7 := n1_
           clear n1_
           have HO_8 := n2_
           clear n2_
           have HO_431001 := n3_
           clear n3_
           have HO_431002 := n4_
           clear n4_
           have HO450 := n5_
           clear n5_
           replace HB := zW hW_ HB
           rw [← hW_]
           clear hW_
           replace HO_6 := Aside0.mk (Kd.R_drew HO_6.out)
           replace HO_7 := Aside0.mk (Kd.R_drew HO_7.out)
           replace HO_8 := Aside0.mk (Kd.R_drew HO_8.out)
           replace HO_431001 := Aside0.mk (Kd.S_drew HO_431001.out)
           replace HO_431002 := Aside0.mk (Kd.S_drew HO_431002.out)
           replace HO450 := Aside0.mk (Kd.S_drew HO450.out)
           replace BK427 := Aside0.mk (blk_drew BK427.out)
           replace BK428 := Aside0.mk (blk_drew BK428.out)
           replace BK430 := Aside0.mk (blk_drew BK430.out)
           replace HB := Aside0.mk (below_drew1 HB.out)
           obtain ⟨Ao51, co51, eo51⟩ := Kd.R_slice HO_7.out
           (first | subst eo51 | (injection eo51 with f1_ f2_ f3_; have f4_ := f1_.symm; have f5_ := f3_.symm; clear f1_ f2_ f3_; subst f4_; subst f5_))
           refine start_ (n := 8) (S := fun w' => SQ3 w' gb430 (.slice Ao47 y448.length co47) (u431001) (u431002)) (ds := [7]) #[false, false, false, false, false, false, false, false] (by kernel_rfl) rfl rfl (bT3 BK430) (fun hHeld => ?_); refine with_tabW impl_QapOf.tab16 impl_QapOf.bits16 (fun HT_ HW_ => ?_)
           generalize w49.drew = w50 at HO_6 HO_7 HO_8 HO_431001 HO_431002 HO450 BK427 BK428 BK430 HB hHeld ⊢
           refine pI 0 (some 59) HT_.out ?_
           refine pI 2 (some 61) HT_.out ?_
           refine tI3 1 (some 60) HT_.out HW_.out hHeld ?_
           refine oI 3 (some 62) HT_.out (fun K hK => ?_)
           refine gO Try.func46 #[.slice Ao51 x7_2.length co51] ?_
           with_reducible refine (impl_PolyThrough.calls k2 _ _ x7_2 t451 _ ?side1 ?side2 A38.out).mono ?_
           (case side1 => exact cP ((Kd.R_reads' HO_7.out).2.2))
           (case side2 => exact (Kd.R_reads' HO_7.out).2.1)
           rintro e w52 ⟨v452, rfl, ho0, hb⟩
           refine ⟨_, rfl, ?_⟩
           replace HO_431001 := Aside0.mk (Kd.S_elder' (by (with_reducible repeat (first | apply Kd.S_alloc | apply Kd.S_drewN | apply Kd.S_drew)); exact HO_431001.out) (Kd.R_base ho0) hb)
           replace HO_431002 := Aside0.mk (Kd.S_elder' (by (with_reducible repeat (first | apply Kd.S_alloc | apply Kd.S_drewN | apply Kd.S_drew)); exact HO_431002.out) (Kd.R_base ho0) hb)
           replace HO450 := Aside0.mk (Kd.S_elder' (by (with_reducible repeat (first | apply Kd.S_alloc | apply Kd.S_drewN | apply Kd.S_drew)); exact HO450.out) (Kd.R_base ho0) hb)
           have HO453 := Aside0.mk (Kd.R_lower (Kd.R_new' (Kd.R_new' (Kd.R_new' ho0 (Kd.R_lt (rP HO_6))) (Kd.R_lt (rP HO_7))) (Kd.R_lt (rP HO_8))) (below_size (bZ HB)))
           replace HO_6 := Aside0.mk (Kd.R_elder' (rP HO_6) (Kd.R_base ho0) hb)
           replace HO_7 := Aside0.mk (Kd.R_elder' (rP HO_7) (Kd.R_base ho0) hb)
           replace HO_8 := Aside0.mk (Kd.R_elder' (rP HO_8) (Kd.R_base ho0) hb)
           replace BK427 := bB BK427 hb
           replace BK428 := bB BK428 hb
           replace BK430 := bB BK430 hb
           replace HB := bS HB hb
           (try clear hb)
           (try clear ho0)
           obtain ⟨Ao54, co54, eo54⟩ := Kd.R_slice HO453.out
           (first | subst eo54 | (injection eo54 with f1_ f2_ f3_; have f4_ := f1_.symm; have f5_ := f3_.symm; clear f1_ f2_ f3_; subst f4_; subst f5_))
           refine hK.out _ _ (bT3 BK430) (fun hHeld => ?_)
           clear hK K
           refine nO (some 62) ?_
           refine oI 4 (some 63) HT_.out (fun K hK => ?_)
           refine value_ (w1 := ?_) (v := ?_) (by rfl) rfl ?_ ?_
           rotate_left 2
           ·go_simp
            constructor
            ·rfl
            ·rfl
           refine hK.out _ _ ⟨(blk_cell (blk_alloc BK430.out _) 0).trans rfl, (blk_cell (blk_alloc BK430.out _) 1).trans rfl, (blk_cell (blk_alloc BK430.out _) 2).trans rfl⟩ (fun hHeld => ?_)
           clear hK K
           refine nO (some 63) ?_
           refine oI 5 (some 64) HT_.out (fun K hK => ?_)
           refine Kd.S_append_step (Kd.slice 3 (Kd.int .i64)) (w0 := w) w.heap.size (by rfl) (.tmp 60) (.tmp 63) 48 22 (.slice none 0 0) 24 rfl Try.underlying48 info22 rfl (by decide) (by omega) u431001 x431001_1 t451 [.slice Ao54 t451.length co54] (fun k_ => some k_ ≠ (.slice Ao43 x6_2.length co43 : Value).ownBlock ∧ some k_ ≠ (.slice Ao51 x7_2.length co51 : Value).ownBlock ∧ some k_ ≠ (u8 : Value).ownBlock ∧ some k_ ≠ (u431002 : Value).ownBlock ∧ some k_ ≠ (.slice Ao47 y448.length co47 : Value).ownBlock) (fun k_ => some k_ = (.slice Ao54 t451.length co54 : Value).ownBlock) rfl rfl ?aP (fun k_ hk_ => ((Kd.R_mono (ok' := fun k_ => ((fun k_ => some k_ ≠ (.slice Ao43 x6_2.length co43 : Value).ownBlock ∧ some k_ ≠ (.slice Ao51 x7_2.length co51 : Value).ownBlock ∧ some k_ ≠ (u8 : Value).ownBlock ∧ some k_ ≠ (u431002 : Value).ownBlock ∧ some k_ ≠ (.slice Ao47 y448.length co47 : Value).ownBlock)) k_ ∧ some k_ ≠ (u431001 : Value).ownBlock) (Kd.R_apart' (Kd.R_apart' (Kd.R_apart' (HO453.out) (Kd.S_typed HO_431002.out) (by decide)) (Kd.S_typed HO450.out) (by decide)) (Kd.S_typed HO_431001.out) (by decide)) (fun k_ hk => ⟨⟨hk.1.1.1.1.1.2, ⟨hk.1.1.1.1.2, ⟨hk.1.1.1.2, ⟨hk.1.1.2, hk.1.2⟩⟩⟩⟩, hk.2⟩))).1 k_ hk_.symm) ?aF ?aO ?aB ?aS ?aL ?_
           (case aP => exact Kd.M_row (Kd.R_mono (Kd.R_tight rfl (Kd.R_mono (ok' := fun k_ => ((fun k_ => some k_ ≠ (.slice Ao43 x6_2.length co43 : Value).ownBlock ∧ some k_ ≠ (.slice Ao51 x7_2.length co51 : Value).ownBlock ∧ some k_ ≠ (u8 : Value).ownBlock ∧ some k_ ≠ (u431002 : Value).ownBlock ∧ some k_ ≠ (.slice Ao47 y448.length co47 : Value).ownBlock)) k_ ∧ some k_ ≠ (u431001 : Value).ownBlock) (Kd.R_apart' (Kd.R_apart' (Kd.R_apart' (HO453.out) (Kd.S_typed HO_431002.out) (by decide)) (Kd.S_typed HO450.out) (by decide)) (Kd.S_typed HO_431001.out) (by decide)) (fun k_ hk => ⟨⟨hk.1.1.1.1.1.2, ⟨hk.1.1.1.1.2, ⟨hk.1.1.1.2, ⟨hk.1.1.2, hk.1.2⟩⟩⟩⟩, hk.2⟩))) (fun _ h_ => h_)))
           (case aB => exact (bZ HB))
           (case aF => exact (fun k_ hk => ⟨Kd.fresh' (Kd.R_lt (rP HO_6)) k_ hk, Kd.fresh' (Kd.R_lt (rP HO_7)) k_ hk, Kd.fresh' (Kd.R_lt (rP HO_8)) k_ hk, Kd.fresh' (Kd.S_lt (by (with_reducible repeat (first | apply Kd.S_alloc | apply Kd.S_drewN | apply Kd.S_drew)); exact HO_431002.out)) k_ hk, Kd.fresh' (Kd.S_lt (by (with_reducible repeat (first | apply Kd.S_alloc | apply Kd.S_drewN | apply Kd.S_drew)); exact HO450.out)) k_ hk⟩))
           (case aO => exact (by (with_reducible repeat (first | apply Kd.S_alloc | apply Kd.S_drewN | apply Kd.S_drew)); exact Kd.S_mono HO_431001.out (fun k_ hk => ⟨⟨hk.1.1, ⟨hk.1.2.1, ⟨hk.1.2.2.1, ⟨hk.1.2.2.2.1, hk.1.2.2.2.2⟩⟩⟩⟩, fun e_ => hk.2 e_⟩)))
           (case aS => exact (below_size (bZ HB)))
           (case aL => have := LMc39.out; omega)
           intro v455 w53 ho hb hg hat
           rw [← Ny454.out] at ho
           replace HO_6 := Aside0.mk (Kd.R_over' (rP HO_6) (Kd.S_typed (by (with_reducible repeat (first | apply Kd.S_alloc | apply Kd.S_drewN | apply Kd.S_drew)); exact HO_431001.out)) (by decide) hg)
           replace HO_7 := Aside0.mk (Kd.R_over' (rP HO_7) (Kd.S_typed (by (with_reducible repeat (first | apply Kd.S_alloc | apply Kd.S_drewN | apply Kd.S_drew)); exact HO_431001.out)) (by decide) hg)
           replace HO_8 := Aside0.mk (Kd.R_over' (rP HO_8) (Kd.S_typed (by (with_reducible repeat (first | apply Kd.S_alloc | apply Kd.S_drewN | apply Kd.S_drew)); exact HO_431001.out)) (by decide) hg)
           replace HO_431002 := Aside0.mk (Kd.S_after (ok := (fun k_ => some k_ ≠ (.slice Ao43 x6_2.length co43 : Value).ownBlock ∧ some k_ ≠ (.slice Ao51 x7_2.length co51 : Value).ownBlock ∧ some k_ ≠ (u8 : Value).ownBlock ∧ some k_ ≠ (.slice Ao47 y448.length co47 : Value).ownBlock ∧ some k_ ≠ (.slice Ao54 t451.length co54 : Value).ownBlock)) (by (with_reducible repeat (first | apply Kd.S_alloc | apply Kd.S_drewN | apply Kd.S_drew)); exact Kd.S_mono HO_431002.out (fun _ hk => ⟨⟨hk.1.1, ⟨hk.1.2.1, ⟨hk.1.2.2.1, ⟨hk.1.2.2.2.2, hk.2⟩⟩⟩⟩, hk.1.2.2.2.1⟩)) hg hat)
           replace BK427 := Aside0.mk (blk_grown (bP BK427) hg (Kd.S_ne HO_431001.out BK427.out (by decide)))
           replace BK428 := Aside0.mk (blk_grown (bP BK428) hg (Kd.S_ne HO_431001.out BK428.out (by decide)))
           replace BK430 := Aside0.mk (blk_grown (bP BK430) hg (Kd.S_ne HO_431001.out BK430.out (by decide)))
           replace HO450 := Aside0.mk (Kd.S_after (ok := (fun k_ => some k_ ≠ (.slice Ao43 x6_2.length co43 : Value).ownBlock ∧ some k_ ≠ (.slice Ao51 x7_2.length co51 : Value).ownBlock ∧ some k_ ≠ (u8 : Value).ownBlock ∧ some k_ ≠ (u431002 : Value).ownBlock ∧ some k_ ≠ (.slice Ao54 t451.length co54 : Value).ownBlock)) (by (with_reducible repeat (first | apply Kd.S_alloc | apply Kd.S_drewN | apply Kd.S_drew)); exact Kd.S_mono HO450.out (fun _ hk => ⟨⟨hk.1.1, ⟨hk.1.2.1, ⟨hk.1.2.2.1, ⟨hk.1.2.2.2.2, hk.2⟩⟩⟩⟩, hk.1.2.2.2.1⟩)) hg hat)
           replace HB := Aside0.mk (hb)
           have HO456 := Aside0.mk (ho)
           clear HO_431001 HO453
           clear ho hb hg hat
           obtain ⟨Ao55, co55, eo55⟩ := Kd.S_slice HO456.out
           (first | subst eo55 | (injection eo55 with f1_ f2_ f3_; have f4_ := f1_.symm; have f5_ := f3_.symm; clear f1_ f2_ f3_; subst f4_; subst f5_))
           refine hK.out _ _ (bT3 BK430) (fun hHeld => ?_)
           clear hK K
           refine nO (some 64) ?_
           refine pI 6 (some 65) HT_.out ?_
           refine last_ (i := 7) (N := none) #[true, true, true, true, true, true, true, true] rfl rfl (one_of HT_.out (by kernel_rfl)) (by decide) (fun K hK => ?_)
           have hs56 : w53.cell? ⟨gb430, 1, none⟩ = some (u431001) := bc BK430 1
           have hfs56 := blk_frozen BK430.out 1
           have hns56_0 := NB427_430.out
           have hns56_1 := NB428_430.out
           have hms56_0 := NB430_427.out
           have hms56_1 := NB430_428.out
           refine skip_ (w1 := ?_) (by rfl) rfl ?_ ?_
           rotate_left
           ·go_simp
            rfl
           refine hK.out _ _ ?_
           clear hK K
           refine done_ (done_of HT_.out (by kernel_rfl)) ?_
           try go_wp2
           obtain ⟨w57, hW_⟩ : ∃ W_ : World, W_ = (w53.setCell ⟨gb430, 1, none⟩ (.slice Ao55 y454.length co55)) := ⟨_, rfl⟩
           have n0_ : Aside0 (Kd.R (Kd.int .i64) 3 (w53.setCell ⟨gb430, 1, none⟩ (.slice Ao55 y454.length co55)) w.heap.size (fun k_ => some k_ ≠ (.slice Ao51 x7_2.length co51 : Value).ownBlock ∧ some k_ ≠ (u8 : Value).ownBlock) (.slice Ao43 x6_2.length co43) x6_2) := ⟨by (with_reducible repeat (first | apply Kd.R_alloc | apply Kd.R_drewN | apply Kd.R_drew)); exact Kd.R_mono (Kd.R_far (p := ⟨gb430, 1, none⟩) (Kd.R_types HO_6.out BK430.out (by decide)) (fun _ hk => hk.2) (.slice Ao55 y454.length co55)) (fun _ hk => ⟨hk.1.1.1, hk.1.1.2⟩)⟩
           rw [← hW_] at n0_
           have n1_ : Aside0 (Kd.R (Kd.int .i64) 3 (w53.setCell ⟨gb430, 1, none⟩ (.slice Ao55 y454.length co55)) w.heap.size (fun k_ => some k_ ≠ (.slice Ao43 x6_2.length co43 : Value).ownBlock ∧ some k_ ≠ (u8 : Value).ownBlock) (.slice Ao51 x7_2.length co51) x7_2) := ⟨by (with_reducible repeat (first | apply Kd.R_alloc | apply Kd.R_drewN | apply Kd.R_drew)); exact Kd.R_mono (Kd.R_far (p := ⟨gb430, 1, none⟩) (Kd.R_types HO_7.out BK430.out (by decide)) (fun _ hk => hk.2) (.slice Ao55 y454.length co55)) (fun _ hk => ⟨hk.1.1.1, hk.1.1.2⟩)⟩
           rw [← hW_] at n1_
           have n2_ : Aside0 (Kd.R (Kd.int .i64) 3 (w53.setCell ⟨gb430, 1, none⟩ (.slice Ao55 y454.length co55)) w.heap.size (fun k_ => some k_ ≠ (.slice Ao43 x6_2.length co43 : Value).ownBlock ∧ some k_ ≠ (.slice Ao51 x7_2.length co51 : Value).ownBlock) u8 x8_2) := ⟨by (with_reducible repeat (first | apply Kd.R_alloc | apply Kd.R_drewN | apply Kd.R_drew)); exact Kd.R_mono (Kd.R_far (p := ⟨gb430, 1, none⟩) (Kd.R_types HO_8.out BK430.out (by decide)) (fun _ hk => hk.2) (.slice Ao55 y454.length co55)) (fun _ hk => ⟨hk.1.1.1, hk.1.1.2⟩)⟩
           rw [← hW_] at n2_
           have n3_ : Aside0 (Kd.S (Kd.slice 3 (Kd.int .i64)) 22 (w53.setCell ⟨gb430, 1, none⟩ (.slice Ao55 y454.length co55)) w.heap.size (fun k_ => some k_ ≠ (.slice Ao43 x6_2.length co43 : Value).ownBlock ∧ some k_ ≠ (.slice Ao51 x7_2.length co51 : Value).ownBlock ∧ some k_ ≠ (u8 : Value).ownBlock ∧ some k_ ≠ (.slice Ao47 y448.length co47 : Value).ownBlock ∧ some k_ ≠ (.slice Ao55 y454.length co55 : Value).ownBlock) u431002 x431002_1) := ⟨by (with_reducible repeat (first | apply Kd.S_alloc | apply Kd.S_drewN | apply Kd.S_drew)); exact Kd.S_mono (Kd.S_far (p := ⟨gb430, 1, none⟩) (Kd.S_types HO_431002.out BK430.out (by decide)) (fun _ hk => hk.2) (.slice Ao55 y454.length co55)) (fun _ hk => ⟨hk.1.1.1, ⟨hk.1.1.2.1, ⟨hk.1.1.2.2.1, ⟨hk.1.1.2.2.2.1, hk.1.2⟩⟩⟩⟩)⟩
           rw [← hW_] at n3_
           have n4_ : Aside0 (Kd.S (Kd.slice 3 (Kd.int .i64)) 22 (w53.setCell ⟨gb430, 1, none⟩ (.slice Ao55 y454.length co55)) w.heap.size (fun k_ => some k_ ≠ (.slice Ao43 x6_2.length co43 : Value).ownBlock ∧ some k_ ≠ (.slice Ao51 x7_2.length co51 : Value).ownBlock ∧ some k_ ≠ (u8 : Value).ownBlock ∧ some k_ ≠ (u431002 : Value).ownBlock ∧ some k_ ≠ (.slice Ao55 y454.length co55 : Value).ownBlock) (.slice Ao47 y448.length co47) y448) := ⟨by (with_reducible repeat (first | apply Kd.S_alloc | apply Kd.S_drewN | apply Kd.S_drew)); exact Kd.S_mono (Kd.S_far (p := ⟨gb430, 1, none⟩) (Kd.S_types HO450.out BK430.out (by decide)) (fun _ hk => hk.2) (.slice Ao55 y454.length co55)) (fun _ hk => ⟨hk.1.1.1, ⟨hk.1.1.2.1, ⟨hk.1.1.2.2.1, ⟨hk.1.1.2.2.2.1, hk.1.2⟩⟩⟩⟩)⟩
           rw [← hW_] at n4_
           have n5_ : Aside0 (Kd.S (Kd.slice 3 (Kd.int .i64)) 22 (w53.setCell ⟨gb430, 1, none⟩ (.slice Ao55 y454.length co55)) w.heap.size (fun k_ => some k_ ≠ (.slice Ao43 x6_2.length co43 : Value).ownBlock ∧ some k_ ≠ (.slice Ao51 x7_2.length co51 : Value).ownBlock ∧ some k_ ≠ (u8 : Value).ownBlock ∧ some k_ ≠ (u431002 : Value).ownBlock ∧ some k_ ≠ (.slice Ao47 y448.length co47 : Value).ownBlock) (.slice Ao55 y454.length co55) y454) := ⟨by (with_reducible repeat (first | apply Kd.S_alloc | apply Kd.S_drewN | apply Kd.S_drew)); exact Kd.S_mono (Kd.S_far (p := ⟨gb430, 1, none⟩) (Kd.S_types HO456.out BK430.out (by decide)) (fun _ hk => hk.2) (.slice Ao55 y454.length co55)) (fun _ hk => ⟨hk.1.1, ⟨hk.1.2.1, ⟨hk.1.2.2.1, ⟨hk.1.2.2.2.1, hk.1.2.2.2.2⟩⟩⟩⟩)⟩
           rw [← hW_] at n5_
           replace BK427 := bW hW_ BK427
           replace BK428 := bW hW_ BK428
           replace BK430 := bX hW_ 61 #[.slice Ao47 y448.length co47, .slice Ao55 y454.length co55, u431002] BK430
           (try clear HO_6)
           (try clear HO_7)
           (try clear HO_8)
           (try clear HO_431002)
           (try clear HO450)
           (try clear HO456)
           have HO_6 := n0_
           clear n0_
           have HO_7 := n1_
           clear n1_
           have HO_8 := n2_
           clear n2_
           have HO_431002 := n3_
           clear n3_
           have HO450 := n4_
           clear n4_
           have HO456 := n5_
           clear n5_
           replace HB := zW hW_ HB
           rw [← hW_]
           clear hW_
           replace HO_6 := Aside0.mk (Kd.R_drew HO_6.out)
           replace HO_7 := Aside0.mk (Kd.R_drew HO_7.out)
           replace HO_8 := Aside0.mk (Kd.R_drew HO_8.out)
           replace HO_431002 := Aside0.mk (Kd.S_drew HO_431002.out)
           replace HO450 := Aside0.mk (Kd.S_drew HO450.out)
           replace HO456 := Aside0.mk (Kd.S_drew HO456.out)
           replace BK427 := Aside0.mk (blk_drew BK427.out)
           replace BK428 := Aside0.mk (blk_drew BK428.out)
           replace BK430 := Aside0.mk (blk_drew BK430.out)
           replace HB := Aside0.mk (below_drew1 HB.out)
           obtain ⟨Ao59, co59, eo59⟩ := Kd.R_slice HO_8.out
           (first | subst eo59 | (injection eo59 with f1_ f2_ f3_; have f4_ := f1_.symm; have f5_ := f3_.symm; clear f1_ f2_ f3_; subst f4_; subst f5_))
           refine start_ (n := 8) (S := fun w' => SQ3 w' gb430 (.slice Ao47 y448.length co47) (.slice Ao55 y454.length co55) (u431002)) (ds := [7]) #[false, false, false, false, false, false, false, false] (by kernel_rfl) rfl rfl (bT3 BK430) (fun hHeld => ?_); refine with_tabW impl_QapOf.tab17 impl_QapOf.bits17 (fun HT_ HW_ => ?_)
           generalize w57.drew = w58 at HO_6 HO_7 HO_8 HO_431002 HO450 HO456 BK427 BK428 BK430 HB hHeld ⊢
           refine pI 0 (some 66) HT_.out ?_
           refine pI 2 (some 68) HT_.out ?_
           refine tI3 1 (some 67) HT_.out HW_.out hHeld ?_
           refine oI 3 (some 69) HT_.out (fun K hK => ?_)
           refine gO Try.func46 #[.slice Ao59 x8_2.length co59] ?_
           with_reducible refine (impl_PolyThrough.calls k2 _ _ x8_2 t457 _ ?side1 ?side2 A40.out).mono ?_
           (case side1 => exact cP ((Kd.R_reads' HO_8.out).2.2))
           (case side2 => exact (Kd.R_reads' HO_8.out).2.1)
           rintro e w60 ⟨v458, rfl, ho0, hb⟩
           refine ⟨_, rfl, ?_⟩
           replace HO_431002 := Aside0.mk (Kd.S_elder' (by (with_reducible repeat (first | apply Kd.S_alloc | apply Kd.S_drewN | apply Kd.S_drew)); exact HO_431002.out) (Kd.R_base ho0) hb)
           replace HO450 := Aside0.mk (Kd.S_elder' (by (with_reducible repeat (first | apply Kd.S_alloc | apply Kd.S_drewN | apply Kd.S_drew)); exact HO450.out) (Kd.R_base ho0) hb)
           replace HO456 := Aside0.mk (Kd.S_elder' (by (with_reducible repeat (first | apply Kd.S_alloc | apply Kd.S_drewN | apply Kd.S_drew)); exact HO456.out) (Kd.R_base ho0) hb)
           have HO459 := Aside0.mk (Kd.R_lower (Kd.R_new' (Kd.R_new' (Kd.R_new' ho0 (Kd.R_lt (rP HO_6))) (Kd.R_lt (rP HO_7))) (Kd.R_lt (rP HO_8))) (below_size (bZ HB)))
           replace HO_6 := Aside0.mk (Kd.R_elder' (rP HO_6) (Kd.R_base ho0) hb)
           replace HO_7 := Aside0.mk (Kd.R_elder' (rP HO_7) (Kd.R_base ho0) hb)
           replace HO_8 := Aside0.mk (Kd.R_elder' (rP HO_8) (Kd.R_base ho0) hb)
           replace BK427 := bB BK427 hb
           replace BK428 := bB BK428 hb
           replace BK430 := bB BK430 hb
           replace HB := bS HB hb
           (try clear hb)
           (try clear ho0)
           obtain ⟨Ao62, co62, eo62⟩ := Kd.R_slice HO459.out
           (first | subst eo62 | (injection eo62 with f1_ f2_ f3_; have f4_ := f1_.symm; have f5_ := f3_.symm; clear f1_ f2_ f3_; subst f4_; subst f5_))
           refine hK.out _ _ (bT3 BK430) (fun hHeld => ?_)
           clear hK K
           refine nO (some 69) ?_
           refine oI 4 (some 70) HT_.out (fun K hK => ?_)
           refine value_ (w1 := ?_) (v := ?_) (by rfl) rfl ?_ ?_
           rotate_left 2
           ·go_simp
            constructor
            ·rfl
            ·rfl
           refine hK.out _ _ ⟨(blk_cell (blk_alloc BK430.out _) 0).trans rfl, (blk_cell (blk_alloc BK430.out _) 1).trans rfl, (blk_cell (blk_alloc BK430.out _) 2).trans rfl⟩ (fun hHeld => ?_)
           clear hK K
           refine nO (some 70) ?_
           refine oI 5 (some 71) HT_.out (fun K hK => ?_)
           refine Kd.S_append_step (Kd.slice 3 (Kd.int .i64)) (w0 := w) w.heap.size (by rfl) (.tmp 67) (.tmp 70) 48 22 (.slice none 0 0) 24 rfl Try.underlying48 info22 rfl (by decide) (by omega) u431002 x431002_1 t457 [.slice Ao62 t457.length co62] (fun k_ => some k_ ≠ (.slice Ao43 x6_2.length co43 : Value).ownBlock ∧ some k_ ≠ (.slice Ao51 x7_2.length co51 : Value).ownBlock ∧ some k_ ≠ (.slice Ao59 x8_2.length co59 : Value).ownBlock ∧ some k_ ≠ (.slice Ao47 y448.length co47 : Value).ownBlock ∧ some k_ ≠ (.slice Ao55 y454.length co55 : Value).ownBlock) (fun k_ => some k_ = (.slice Ao62 t457.length co62 : Value).ownBlock) rfl rfl ?aP (fun k_ hk_ => ((Kd.R_mono (ok' := fun k_ => ((fun k_ => some k_ ≠ (.slice Ao43 x6_2.length co43 : Value).ownBlock ∧ some k_ ≠ (.slice Ao51 x7_2.length co51 : Value).ownBlock ∧ some k_ ≠ (.slice Ao59 x8_2.length co59 : Value).ownBlock ∧ some k_ ≠ (.slice Ao47 y448.length co47 : Value).ownBlock ∧ some k_ ≠ (.slice Ao55 y454.length co55 : Value).ownBlock)) k_ ∧ some k_ ≠ (u431002 : Value).ownBlock) (Kd.R_apart' (Kd.R_apart' (Kd.R_apart' (HO459.out) (Kd.S_typed HO450.out) (by decide)) (Kd.S_typed HO456.out) (by decide)) (Kd.S_typed HO_431002.out) (by decide)) (fun k_ hk => ⟨⟨hk.1.1.1.1.1.2, ⟨hk.1.1.1.1.2, ⟨hk.1.1.1.2, ⟨hk.1.1.2, hk.1.2⟩⟩⟩⟩, hk.2⟩))).1 k_ hk_.symm) ?aF ?aO ?aB ?aS ?aL ?_
           (case aP => exact Kd.M_row (Kd.R_mono (Kd.R_tight rfl (Kd.R_mono (ok' := fun k_ => ((fun k_ => some k_ ≠ (.slice Ao43 x6_2.length co43 : Value).ownBlock ∧ some k_ ≠ (.slice Ao51 x7_2.length co51 : Value).ownBlock ∧ some k_ ≠ (.slice Ao59 x8_2.length co59 : Value).ownBlock ∧ some k_ ≠ (.slice Ao47 y448.length co47 : Value).ownBlock ∧ some k_ ≠ (.slice Ao55 y454.length co55 : Value).ownBlock)) k_ ∧ some k_ ≠ (u431002 : Value).ownBlock) (Kd.R_apart' (Kd.R_apart' (Kd.R_apart' (HO459.out) (Kd.S_typed HO450.out) (by decide)) (Kd.S_typed HO456.out) (by decide)) (Kd.S_typed HO_431002.out) (by decide)) (fun k_ hk => ⟨⟨hk.1.1.1.1.1.2, ⟨hk.1.1.1.1.2, ⟨hk.1.1.1.2, ⟨hk.1.1.2, hk.1.2⟩⟩⟩⟩, hk.2⟩))) (fun _ h_ => h_)))
           (case aB => exact (bZ HB))
           (case aF => exact (fun k_ hk => ⟨Kd.fresh' (Kd.R_lt (rP HO_6)) k_ hk, Kd.fresh' (Kd.R_lt (rP HO_7)) k_ hk, Kd.fresh' (Kd.R_lt (rP HO_8)) k_ hk, Kd.fresh' (Kd.S_lt (by (with_reducible repeat (first | apply Kd.S_alloc | apply Kd.S_drewN | apply Kd.S_drew)); exact HO450.out)) k_ hk, Kd.fresh' (Kd.S_lt (by (with_reducible repeat (first | apply Kd.S_alloc | apply Kd.S_drewN | apply Kd.S_drew)); exact HO456.out)) k_ hk⟩))
           (case aO => exact (by (with_reducible repeat (first | apply Kd.S_alloc | apply Kd.S_drewN | apply Kd.S_drew)); exact Kd.S_mono HO_431002.out (fun k_ hk => ⟨⟨hk.1.1, ⟨hk.1.2.1, ⟨hk.1.2.2.1, ⟨hk.1.2.2.2.1, hk.1.2.2.2.2⟩⟩⟩⟩, fun e_ => hk.2 e_⟩)))
           (case aS => exact (below_size (bZ HB)))
           (case aL => have := LMc41.out; omega)
           intro v461 w61 ho hb hg hat
           rw [← Ny460.out] at ho
           replace HO_6 := Aside0.mk (Kd.R_over' (rP HO_6) (Kd.S_typed (by (with_reducible repeat (first | apply Kd.S_alloc | apply Kd.S_drewN | apply Kd.S_drew)); exact HO_431002.out)) (by decide) hg)
           replace HO_7 := Aside0.mk (Kd.R_over' (rP HO_7) (Kd.S_typed (by (with_reducible repeat (first | apply Kd.S_alloc | apply Kd.S_drewN | apply Kd.S_drew)); exact HO_431002.out)) (by decide) hg)
           replace HO_8 := Aside0.mk (Kd.R_over' (rP HO_8) (Kd.S_typed (by (with_reducible repeat (first | apply Kd.S_alloc | apply Kd.S_drewN | apply Kd.S_drew)); exact HO_431002.out)) (by decide) hg)
           replace BK427 := Aside0.mk (blk_grown (bP BK427) hg (Kd.S_ne HO_431002.out BK427.out (by decide)))
           replace BK428 := Aside0.mk (blk_grown (bP BK428) hg (Kd.S_ne HO_431002.out BK428.out (by decide)))
           replace BK430 := Aside0.mk (blk_grown (bP BK430) hg (Kd.S_ne HO_431002.out BK430.out (by decide)))
           replace HO450 := Aside0.mk (Kd.S_after (ok := (fun k_ => some k_ ≠ (.slice Ao43 x6_2.length co43 : Value).ownBlock ∧ some k_ ≠ (.slice Ao51 x7_2.length co51 : Value).ownBlock ∧ some k_ ≠ (.slice Ao59 x8_2.length co59 : Value).ownBlock ∧ some k_ ≠ (.slice Ao55 y454.length co55 : Value).ownBlock ∧ some k_ ≠ (.slice Ao62 t457.length co62 : Value).ownBlock)) (by (with_reducible repeat (first | apply Kd.S_alloc | apply Kd.S_drewN | apply Kd.S_drew)); exact Kd.S_mono HO450.out (fun _ hk => ⟨⟨hk.1.1, ⟨hk.1.2.1, ⟨hk.1.2.2.1, ⟨hk.1.2.2.2.2, hk.2⟩⟩⟩⟩, hk.1.2.2.2.1⟩)) hg hat)
           replace HO456 := Aside0.mk (Kd.S_after (ok := (fun k_ => some k_ ≠ (.slice Ao43 x6_2.length co43 : Value).ownBlock ∧ some k_ ≠ (.slice Ao51 x7_2.length co51 : Value).ownBlock ∧ some k_ ≠ (.slice Ao59 x8_2.length co59 : Value).ownBlock ∧ some k_ ≠ (.slice Ao47 y448.length co47 : Value).ownBlock ∧ some k_ ≠ (.slice Ao62 t457.length co62 : Value).ownBlock)) (by (with_reducible repeat (first | apply Kd.S_alloc | apply Kd.S_drewN | apply Kd.S_drew)); exact Kd.S_mono HO456.out (fun _ hk => ⟨⟨hk.1.1, ⟨hk.1.2.1, ⟨hk.1.2.2.1, ⟨hk.1.2.2.2.2, hk.2⟩⟩⟩⟩, hk.1.2.2.2.1⟩)) hg hat)
           replace HB := Aside0.mk (hb)
           have HO462 := Aside0.mk (ho)
           clear HO_431002 HO459
           clear ho hb hg hat
           obtain ⟨Ao63, co63, eo63⟩ := Kd.S_slice HO462.out
           (first | subst eo63 | (injection eo63 with f1_ f2_ f3_; have f4_ := f1_.symm; have f5_ := f3_.symm; clear f1_ f2_ f3_; subst f4_; subst f5_))
           refine hK.out _ _ (bT3 BK430) (fun hHeld => ?_)
           clear hK K
           refine nO (some 71) ?_
           refine pI 6 (some 72) HT_.out ?_
           refine last_ (i := 7) (N := none) #[true, true, true, true, true, true, true, true] rfl rfl (one_of HT_.out (by kernel_rfl)) (by decide) (fun K hK => ?_)
           have hs64 : w61.cell? ⟨gb430, 2, none⟩ = some (u431002) := bc BK430 2
           have hfs64 := blk_frozen BK430.out 2
           have hns64_0 := NB427_430.out
           have hns64_1 := NB428_430.out
           have hms64_0 := NB430_427.out
           have hms64_1 := NB430_428.out
           refine skip_ (w1 := ?_) (by rfl) rfl ?_ ?_
           rotate_left
           ·go_simp
            rfl
           refine hK.out _ _ ?_
           clear hK K
           refine done_ (done_of HT_.out (by kernel_rfl)) ?_
           try go_wp2
           go_roundg k2
           case measure => have := HK1.out; have := HK2.out; omega
           case rel => exact ⟨(wrap64 (x17_1 + 1)), (y448), (y454), (y460), (.slice Ao47 y448.length co47), (.slice Ao55 y454.length co55), (.slice Ao63 y460.length co63), rS, H', ⟨by have := HK1.out; have := HK2.out; omega⟩, ⟨by (with_reducible repeat (first | apply Kd.S_alloc | apply Kd.S_drewN | apply Kd.S_drew)); exact Kd.S_mono (Kd.S_far (p := ⟨gb430, 2, none⟩) (Kd.S_types HO450.out BK430.out (by decide)) (fun _ hk => hk.2) (.slice Ao63 y460.length co63)) (fun _ hk => ⟨hk.1.1.2.2.2.1, hk.1.2⟩)⟩, ⟨by (with_reducible repeat (first | apply Kd.S_alloc | apply Kd.S_drewN | apply Kd.S_drew)); exact Kd.S_mono (Kd.S_far (p := ⟨gb430, 2, none⟩) (Kd.S_types HO456.out BK430.out (by decide)) (fun _ hk => hk.2) (.slice Ao63 y460.length co63)) (fun _ hk => ⟨hk.1.1.2.2.2.1, hk.1.2⟩)⟩, ⟨by (with_reducible repeat (first | apply Kd.S_alloc | apply Kd.S_drewN | apply Kd.S_drew)); exact Kd.S_mono (Kd.S_far (p := ⟨gb430, 2, none⟩) (Kd.S_types HO462.out BK430.out (by decide)) (fun _ hk => hk.2) (.slice Ao63 y460.length co63)) (fun _ hk => ⟨hk.1.2.2.2.1, hk.1.2.2.2.2⟩)⟩, ⟨bP BK427⟩, ⟨bP BK428⟩, ⟨bU BK430⟩, ⟨bZ HB⟩⟩
          ·rw [if_neg c41] at H
           exact absurd H (by simp)
         ·rw [if_neg c39] at H
          exact absurd H (by simp)
        ·rw [if_neg c37] at H
         exact absurd H (by simp)
    ·rw [if_neg c12] at H
     have c12b0 := decide_eq_false c12
     clear c12
     simp only [Option.some.injEq, Prod.mk.injEq] at H
     obtain ⟨rfl, rfl, rfl, rfl⟩ := H
     obtain ⟨hnb65, hnc65⟩ := nB NB430_427
     obtain ⟨hnb66, hnc66⟩ := nB NB430_428
     obtain ⟨hcz67_0, hcz67_1, hcz67_2, hfz67_0, hfz67_1, hfz67_2⟩ := bK3 (w := wr) BK430
     obtain ⟨Ao68, co68, eo68⟩ := Kd.S_slice HO_431000.out
     subst eo68
     obtain ⟨hnb69, hnc69⟩ := nB NB428_427
     obtain ⟨hcz70_0, hcz70_1, hcz70_2, hfz70_0, hfz70_1, hfz70_2⟩ := bK3 (w := wr) BK428
     obtain ⟨Ao71, co71, eo71⟩ := Kd.S_slice HO_431001.out
     subst eo71
     obtain ⟨Ao72, co72, eo72⟩ := Kd.S_slice HO_431002.out
     subst eo72
     go_wp2
     refine bodyPost_ret (results_ct rfl _ _ gb428 61 #[.slice Ao68 x431000_1.length co68, .slice Ao71 x431001_1.length co71, .slice Ao72 x431002_1.length co72] (0, 0) _ rfl (bU BK428) Try.underlying61 rfl (by kernel_rfl)) rfl ?_
     exact ⟨_, _, _, by first | rfl | (simp [errW_none, errW_some] <;> rfl) | (simp [*, errW_none, errW_some] <;> rfl), by (with_reducible repeat (first | apply Kd.S_alloc | apply Kd.S_drewN | apply Kd.S_drew)); exact Kd.S_mono (Kd.S_far (p := ⟨gb428, 2, none⟩) (Kd.S_far (p := ⟨gb428, 1, none⟩) (Kd.S_far (p := ⟨gb428, 0, none⟩) (Kd.S_types HO_431000.out BK428.out (by decide)) (fun _ hk => hk.2) (.slice Ao68 x431000_1.length co68)) (fun _ hk => hk.2) (.slice Ao71 x431001_1.length co71)) (fun _ hk => hk.2) (.slice Ao72 x431002_1.length co72)) (fun _ hk => ⟨hk.1.1, hk.1.2⟩), by (with_reducible repeat (first | apply Kd.S_alloc | apply Kd.S_drewN | apply Kd.S_drew)); exact Kd.S_mono (Kd.S_far (p := ⟨gb428, 2, none⟩) (Kd.S_far (p := ⟨gb428, 1, none⟩) (Kd.S_far (p := ⟨gb428, 0, none⟩) (Kd.S_types HO_431001.out BK428.out (by decide)) (fun _ hk => hk.2) (.slice Ao68 x431000_1.length co68)) (fun _ hk => hk.2) (.slice Ao71 x431001_1.length co71)) (fun _ hk => hk.2) (.slice Ao72 x431002_1.length co72)) (fun _ hk => ⟨hk.1.1, hk.1.2⟩), by (with_reducible repeat (first | apply Kd.S_alloc | apply Kd.S_drewN | apply Kd.S_drew)); exact Kd.S_mono (Kd.S_far (p := ⟨gb428, 2, none⟩) (Kd.S_far (p := ⟨gb428, 1, none⟩) (Kd.S_far (p := ⟨gb428, 0, none⟩) (Kd.S_types HO_431002.out BK428.out (by decide)) (fun _ hk => hk.2) (.slice Ao68 x431000_1.length co68)) (fun _ hk => hk.2) (.slice Ao71 x431001_1.length co71)) (fun _ hk => hk.2) (.slice Ao72 x431002_1.length co72)) (fun _ hk => ⟨hk.1.1, hk.1.2⟩), bZ HB⟩
 ·replace c3 := Bool.eq_false_iff.mpr c3
  subst c3
  rw [if_neg (show ¬ (false = true) by decide)] at H
  simp only [Option.some.injEq, Prod.mk.injEq] at H
  obtain ⟨rfl, rfl, rfl, rfl⟩ := H
  go_enter Try.func57, Try.ntmps57
  go_wp2_with (first | (refine gB 1 #[.int .i64 a0_0, .int .i64 a0_1, .slice A0_2 l0_2.length c0_2] 32 ?_; intro gb427 hg w73 BK427 hb; have GW427 := bG HB hg; replace HB := bS HB hb; clear hb hg) | (refine gB 2 #[.slice none 0 0, .slice none 0 0, .slice none 0 0] 61 ?_; intro gb428 hg w74 BK428 hb; have GW428 := bG HB hg; replace HB := bS HB hb; obtain ⟨NB427_428, NB428_427⟩ := bN BK427 hg; replace BK427 := bB BK427 hb; clear hb hg; obtain ⟨hnb75, hnc75⟩ := nB NB427_428; obtain ⟨hcz76_0, hcz76_1, hcz76_2, hfz76_0, hfz76_1, hfz76_2⟩ := bK3 (w := w74) BK427) | (refine gC (some 12) Try.func83 #[.agg #[.int .i64 a0_0, .int .i64 a0_1, .slice A0_2 l0_2.length c0_2]] ?_; (with_reducible refine (impl_SystemOk.calls k a0_0 a0_1 _ _ l0_2 false _ ?side1 ?side2 A2.out).mono ?_); (case side1 => exact cP (Kd.C_below HR0_2.out HB.out)); (case side2 => exact HC0_2.out); rintro e w77 ⟨rfl, hb⟩; refine ⟨_, rfl, ?_⟩; replace BK427 := bB BK427 hb; replace BK428 := bB BK428 hb; replace HB := bS HB hb; (try clear hb); obtain ⟨hcz78_0, hcz78_1, hcz78_2, hfz78_0, hfz78_1, hfz78_2⟩ := bK3 (w := w77) BK428))
  refine bodyPost_ret (results_ct rfl _ _ gb428 61 #[.slice none 0 0, .slice none 0 0, .slice none 0 0] (0, 0) _ rfl (bU BK428) Try.underlying61 rfl (by kernel_rfl)) rfl ?_
  exact ⟨_, _, _, by first | rfl | (simp [errW_none, errW_some] <;> rfl) | (simp [*, errW_none, errW_some] <;> rfl), by first | exact Kd.S_nil _ _ _ _ _ | exact Kd.N_nil _ _ _ _ _ | exact Kd.V_nil _ _ _ _ _ | exact Kd.Q_nil _ _ _ _ _ | exact Kd.R_nil _ _ _ _ _, by first | exact Kd.S_nil _ _ _ _ _ | exact Kd.N_nil _ _ _ _ _ | exact Kd.V_nil _ _ _ _ _ | exact Kd.Q_nil _ _ _ _ _ | exact Kd.R_nil _ _ _ _ _, by first | exact Kd.S_nil _ _ _ _ _ | exact Kd.N_nil _ _ _ _ _ | exact Kd.V_nil _ _ _ _ _ | exact Kd.Q_nil _ _ _ _ _ | exact Kd.R_nil _ _ _ _ _, bZ HB⟩
end Go.Proofs.Ytcnejiflpioaiaa.Pf
end
section
namespace Go.Proofs.Ytcnejiflpioaiaa.Pf
open Go.RowKit Go.Proofs.YtcnejiflpioaiaaW.PrintWords Go.Proofs.YtcnejiflpioaiaaW.PrintLast Go.Proofs.YtcnejiflpioaiaaW.PrintMore
attribute [local go_sem] max2_int min2_int max_two min_two max_three min_three max_four min_four   -- for this text's walks alone
set_option linter.unusedVariables false
set_option linter.unusedSimpArgs false
def impl_isWitness.f (k : Nat) (a0_0 : Int) (a0_1 : Int) (l0_2 : List (S40)) (l1 : List Int) : Option (Bool) := if (l1.length : Int) = a0_0 then ((impl_areScalars.f k l1).bind fun t464 => (some t464)) else (some false)
set_option maxHeartbeats 8000000 in
set_option maxRecDepth 100000 in
theorem impl_isWitness.calls (k : Nat) (a0_0 : Int) (a0_1 : Int) (A0_2 : Option Addr) (c0_2 : Nat) (l0_2 : List (S40)) (A1 : Option Addr) (c1 : Nat) (l1 : List Int) (r : Bool) (w : World) (hr0_2 : Kd.C k40 w A0_2 l0_2.length l0_2) (hc0_2 : l0_2.length ≤ c0_2) (hr1 : Kd.C (Kd.int .i64) w A1 l1.length l1) (hc1 : l1.length ≤ c1) (h : impl_isWitness.f k a0_0 a0_1 l0_2 l1 = some r) :
  Calls Try.prog 68 #[.agg #[.int .i64 a0_0, .int .i64 a0_1, .slice A0_2 l0_2.length c0_2], .slice A1 l1.length c1] w fun e w' => e = .returned (.bool r) ∧ Below w.heap.size w w' := by
 have hu32 := Try.underlying32
 have HR0_2 := Aside0.mk hr0_2
 have HC0_2 := Aside0.mk hc0_2
 clear hr0_2 hc0_2
 have HR1 := Aside0.mk hr1
 have HC1 := Aside0.mk hc1
 clear hr1 hc1
 have HB := Aside0.mk (Below.refl w.heap.size w)
 have H : (if (l1.length : Int) = a0_0 then ((impl_areScalars.f k l1).bind fun t464 => (some t464)) else (some false)) = some r := h
 clear h
 by_cases c3 : (l1.length : Int) = a0_0
 ·rw [if_pos c3] at H
  have c3b0 : ((l1.length : Int) == a0_0) = true := beq_iff_eq.mpr c3
  have c3b1 : ((l1.length : Int) != a0_0) = false := bne_eq_false_iff_eq.mpr c3
  clear c3
  replace H := Option.bind_eq_some_iff.mp H
  obtain ⟨t464, A40, H⟩ := H
  have A4 := Aside0.mk A40
  clear A40
  obtain rfl := Option.some.inj H
  go_enter Try.func68, Try.ntmps68
  go_wp2_with (first | (refine gB 2 #[.int .i64 a0_0, .int .i64 a0_1, .slice A0_2 l0_2.length c0_2] 32 ?_; intro gb463 hg w5 BK463 hb; have GW463 := bG HB hg; replace HB := bS HB hb; clear hb hg; obtain ⟨hcz6_0, hcz6_1, hcz6_2, hfz6_0, hfz6_1, hfz6_2⟩ := bK3 (w := w5) BK463) | (go_at_call 92; (with_reducible refine (impl_areScalars.calls k _ _ l1 t464 _ ?side1 ?side2 A4.out).mono ?_); (case side1 => exact cP (Kd.C_below HR1.out HB.out)); (case side2 => exact HC1.out); rintro e w' ⟨rfl, ⟨nd, rfl⟩⟩))
  go_ret
  exact ⟨rR, bZ HB⟩
 ·rw [if_neg c3] at H
  have c3b0 : ((l1.length : Int) == a0_0) = false := beq_eq_false_iff_ne.mpr c3
  have c3b1 : ((l1.length : Int) != a0_0) = true := bne_iff_ne.mpr c3
  obtain rfl := Option.some.inj H
  go_enter Try.func68, Try.ntmps68
  go_wp2_with (first | (refine gB 2 #[.int .i64 a0_0, .int .i64 a0_1, .slice A0_2 l0_2.length c0_2] 32 ?_; intro gb463 hg w7 BK463 hb; have GW463 := bG HB hg; replace HB := bS HB hb; clear hb hg; obtain ⟨hcz8_0, hcz8_1, hcz8_2, hfz8_0, hfz8_1, hfz8_2⟩ := bK3 (w := w7) BK463))
  go_ret
  exact ⟨rR, bZ HB⟩
def impl_QuotientOf.j0 : Nat → List Int → Bool → Int → Int → List (S40) → List (List Int) → List (List Int) → List (List Int) → Option (List Int × Bool)
 | 0, _, _, _, _, _, _, _, _ => none
 | k + 1, x1, x24, x466000, x466001, x466002, x477000, x477001, x477002 => if x24 = true then (some (([] : List Int), false)) else ((impl_Mixed.f k x477000 x1).bind fun t478 => ((impl_Mixed.f k x477001 x1).bind fun t481 => ((impl_PolyMul.f k t478 t481).bind fun t484 => ((impl_Mixed.f k x477002 x1).bind fun t487 => ((impl_scaled.f k t487 (-1)).bind fun t490 => ((impl_PolyAdd.f k t484 t490).bind fun t493 => ((impl_PolyZero.f k (x466002.length : Int)).bind fun t496 => ((impl_PolyDivide.f k t493 t496).bind fun bt499 => (if (bt499.2.length : Int) > 0 then (some (([] : List Int), false)) else (some (bt499.1, true)))))))))))
def impl_QuotientOf.f (k : Nat) (a0_0 : Int) (a0_1 : Int) (l0_2 : List (S40)) (l1 : List Int) : Option (List Int × Bool) := (impl_QapOf.f k a0_0 a0_1 l0_2).bind fun bt466 => (if bt466.2.2.2 = true then ((impl_isWitness.f k a0_0 a0_1 l0_2 l1).bind fun t477 => (impl_QuotientOf.j0 k l1 (!t477) a0_0 a0_1 l0_2 bt466.1 bt466.2.1 bt466.2.2.1)) else (impl_QuotientOf.j0 k l1 true a0_0 a0_1 l0_2 bt466.1 bt466.2.1 bt466.2.2.1))
def impl_QuotientOf.T4 : Bool × List (List Nat × List Nat) := (true, [([], []), ([0], [0]), ([], []), ([1, 2], [1, 2]), ([], []), ([4], [4]), ([], []), ([5, 6, 3], [5, 6]), ([3, 7, 7], [3, 7]), ([8, 8, 0, 1, 2, 3, 4, 5, 6, 7, 8], [8])])
def impl_QuotientOf.B4 : List Nat := [0, 1, 0, 7, 0, 16, 0, 127, 255, 511]
theorem impl_QuotientOf.tab4 : rtab .any (opsOf Try.f26 4) = impl_QuotientOf.T4 := by kernel_rfl
theorem impl_QuotientOf.bits4 : waitsOk impl_QuotientOf.T4.2 impl_QuotientOf.B4 = true := by kernel_rfl
set_option maxHeartbeats 8000000 in
set_option maxRecDepth 100000 in
theorem impl_QuotientOf.calls (k : Nat) (a0_0 : Int) (a0_1 : Int) (A0_2 : Option Addr) (c0_2 : Nat) (l0_2 : List (S40)) (A1 : Option Addr) (c1 : Nat) (l1 : List Int) (r1 : List Int) (r2 : Bool) (w : World) (hr0_2 : Kd.C k40 w A0_2 l0_2.length l0_2) (hc0_2 : l0_2.length ≤ c0_2) (hr1 : Kd.C (Kd.int .i64) w A1 l1.length l1) (hc1 : l1.length ≤ c1) (h : impl_QuotientOf.f k a0_0 a0_1 l0_2 l1 = some (r1, r2)) :
  Calls Try.prog 26 #[.agg #[.int .i64 a0_0, .int .i64 a0_1, .slice A0_2 l0_2.length c0_2], .slice A1 l1.length c1] w fun e w' => ∃ v0_ : Value, e = .returned (.tuple #[v0_, .bool r2]) ∧ Kd.R (Kd.int .i64) 3 w' w.heap.size (fun _ => True) v0_ r1 ∧ Below w.heap.size w w' := by
 have hu32 := Try.underlying32
 have hu61 := Try.underlying61
 have HR0_2 := Aside0.mk hr0_2
 have HC0_2 := Aside0.mk hc0_2
 clear hr0_2 hc0_2
 have HR1 := Aside0.mk hr1
 have HC1 := Aside0.mk hc1
 clear hr1 hc1
 have HB := Aside0.mk (Below.refl w.heap.size w)
 have H : ((impl_QapOf.f k a0_0 a0_1 l0_2).bind fun bt466 => (if bt466.2.2.2 = true then ((impl_isWitness.f k a0_0 a0_1 l0_2 l1).bind fun t477 => (impl_QuotientOf.j0 k l1 (!t477) a0_0 a0_1 l0_2 bt466.1 bt466.2.1 bt466.2.2.1)) else (impl_QuotientOf.j0 k l1 true a0_0 a0_1 l0_2 bt466.1 bt466.2.1 bt466.2.2.1))) = some (r1, r2) := h
 clear h
 replace H := Option.bind_eq_some_iff.mp H
 obtain ⟨⟨t466, t469, t472, t475⟩, A30, H⟩ := H
 have A3 := Aside0.mk A30
 clear A30
 have HC4 := Aside0.mk H
 clear H
 go_enter Try.func26, Try.ntmps26
 go_upto_region 2 with (first | (refine gB 2 #[.int .i64 a0_0, .int .i64 a0_1, .slice A0_2 l0_2.length c0_2] 32 ?_; intro gb465 hg w5 BK465 hb; have GW465 := bG HB hg; replace HB := bS HB hb; clear hb hg; obtain ⟨hcz6_0, hcz6_1, hcz6_2, hfz6_0, hfz6_1, hfz6_2⟩ := bK3 (w := w5) BK465) | (refine gC (some 14) Try.func57 #[.agg #[.int .i64 a0_0, .int .i64 a0_1, .slice A0_2 l0_2.length c0_2]] ?_; (with_reducible refine (impl_QapOf.calls k a0_0 a0_1 _ _ l0_2 t466 t469 t472 t475 _ ?side1 ?side2 A3.out).mono ?_); (case side1 => exact cP (Kd.C_below HR0_2.out HB.out)); (case side2 => exact HC0_2.out); rintro e w7 ⟨v467, v470, v473, rfl, ho0, ho1, ho2, hb⟩; refine ⟨_, rfl, ?_⟩; have HO468 := Aside0.mk (Kd.S_lower ho0 (below_size (bZ HB))); have HO471 := Aside0.mk (Kd.S_lower ho1 (below_size (bZ HB))); have HO474 := Aside0.mk (Kd.S_lower ho2 (below_size (bZ HB))); replace BK465 := bB BK465 hb; replace HB := bS HB hb; (try clear hb); (try clear ho0); (try clear ho1); (try clear ho2)) | ((with_reducible refine gate_dst (N := 6) rfl ?_); refine bE 6 #[.slice none 0 0, .slice none 0 0, .slice none 0 0] 61 ?_; intro gb476 hg w8 hbox hb; replace HO468 := Aside0.mk (Kd.S_below (by (with_reducible repeat (first | apply Kd.S_alloc | apply Kd.S_drewN | apply Kd.S_drew)); exact HO468.out) hb); replace HO471 := Aside0.mk (Kd.S_below (by (with_reducible repeat (first | apply Kd.S_alloc | apply Kd.S_drewN | apply Kd.S_drew)); exact HO471.out) hb); replace HO474 := Aside0.mk (Kd.S_below (by (with_reducible repeat (first | apply Kd.S_alloc | apply Kd.S_drewN | apply Kd.S_drew)); exact HO474.out) hb); have BK476 := Aside0.mk (hbox); have GW476 := bG HB hg; replace HB := bS HB hb; obtain ⟨NB465_476, NB476_465⟩ := bN BK465 hg; replace BK465 := bB BK465 hb; clear hb hbox hg; obtain ⟨Ao9, co9, eo9⟩ := Kd.S_slice HO468.out; subst eo9; obtain ⟨hnb10, hnc10⟩ := nB NB476_465; obtain ⟨hcz11_0, hcz11_1, hcz11_2, hfz11_0, hfz11_1, hfz11_2⟩ := bK3 (w := w8) BK476; obtain ⟨Ao12, co12, eo12⟩ := Kd.S_slice HO471.out; subst eo12; obtain ⟨Ao13, co13, eo13⟩ := Kd.S_slice HO474.out; subst eo13))
 (try simp only [Act.put, List.setIfInBounds_toArray, List.set_cons_zero, List.set_cons_succ])
 go_cut [24] (fun v24 wc => ∃ (kq : Nat) (x24_3 : Bool), v24 = .bool x24_3 ∧ Aside0 (impl_QuotientOf.j0 kq l1 x24_3 a0_0 a0_1 l0_2 t466 t469 t472 = some (r1, r2)) ∧ Aside0 (kq ≤ k) ∧ Aside0 (Kd.S (Kd.slice 3 (Kd.int .i64)) 22 wc w.heap.size (fun k_ => some k_ ≠ ((.slice Ao12 t469.length co12) : Value).ownBlock ∧ some k_ ≠ ((.slice Ao13 t472.length co13) : Value).ownBlock) (.slice Ao9 t466.length co9) t466) ∧ Aside0 (Kd.S (Kd.slice 3 (Kd.int .i64)) 22 wc w.heap.size (fun k_ => some k_ ≠ ((.slice Ao9 t466.length co9) : Value).ownBlock ∧ some k_ ≠ ((.slice Ao13 t472.length co13) : Value).ownBlock) (.slice Ao12 t469.length co12) t469) ∧ Aside0 (Kd.S (Kd.slice 3 (Kd.int .i64)) 22 wc w.heap.size (fun k_ => some k_ ≠ ((.slice Ao9 t466.length co9) : Value).ownBlock ∧ some k_ ≠ ((.slice Ao12 t469.length co12) : Value).ownBlock) (.slice Ao13 t472.length co13) t472) ∧ Aside0 (wc.heap[gb465]? = some (.cells #[.int .i64 a0_0, .int .i64 a0_1, (.slice A0_2 l0_2.length c0_2)] 32 (0, 0))) ∧ Aside0 (wc.heap[gb476]? = some (.cells #[(.slice Ao9 t466.length co9), (.slice Ao12 t469.length co12), (.slice Ao13 t472.length co13)] 61 (0, 0))) ∧ Aside0 (Below w.heap.size w wc))
 case first =>
  have H := HC4.out
  clear HC4
  by_cases c14 : t475 = true
  ·subst c14
   rw [if_pos rfl] at H
   replace H := Option.bind_eq_some_iff.mp H
   obtain ⟨t477, A150, H⟩ := H
   have A15 := Aside0.mk A150
   clear A150
   have H' := Aside0.mk H
   clear H
   obtain ⟨hnb16, hnc16⟩ := nB NB465_476
   obtain ⟨hcz17_0, hcz17_1, hcz17_2, hfz17_0, hfz17_1, hfz17_2⟩ := bK3 (w := w8) BK465
   go_wp2_with (first | (go_at_call 68; (with_reducible refine (impl_isWitness.calls k a0_0 a0_1 _ _ l0_2 _ _ l1 t477 _ ?side1 ?side2 ?side3 ?side4 A15.out).mono ?_); (case side1 => exact Kd.C_below HR0_2.out (bZ HB)); (case side2 => exact HC0_2.out); (case side3 => exact Kd.C_below HR1.out (bZ HB)); (case side4 => exact HC1.out); rintro e w18 ⟨rfl, hb⟩; replace HO468 := Aside0.mk (Kd.S_below (by (with_reducible repeat (first | apply Kd.S_alloc | apply Kd.S_drewN | apply Kd.S_drew)); exact (Kd.S_mono (Kd.S_far (p := ⟨gb476, 2, none⟩) (Kd.S_far (p := ⟨gb476, 1, none⟩) (Kd.S_far (p := ⟨gb476, 0, none⟩) (Kd.S_types HO468.out BK476.out (by decide)) (fun _ hk => hk.2) (.slice Ao9 t466.length co9)) (fun _ hk => hk.2) (.slice Ao12 t469.length co12)) (fun _ hk => hk.2) (.slice Ao13 t472.length co13)) (fun _ h_ => h_.1))) hb); replace HO471 := Aside0.mk (Kd.S_below (by (with_reducible repeat (first | apply Kd.S_alloc | apply Kd.S_drewN | apply Kd.S_drew)); exact (Kd.S_mono (Kd.S_far (p := ⟨gb476, 2, none⟩) (Kd.S_far (p := ⟨gb476, 1, none⟩) (Kd.S_far (p := ⟨gb476, 0, none⟩) (Kd.S_types HO471.out BK476.out (by decide)) (fun _ hk => hk.2) (.slice Ao9 t466.length co9)) (fun _ hk => hk.2) (.slice Ao12 t469.length co12)) (fun _ hk => hk.2) (.slice Ao13 t472.length co13)) (fun _ h_ => h_.1))) hb); replace HO474 := Aside0.mk (Kd.S_below (by (with_reducible repeat (first | apply Kd.S_alloc | apply Kd.S_drewN | apply Kd.S_drew)); exact (Kd.S_mono (Kd.S_far (p := ⟨gb476, 2, none⟩) (Kd.S_far (p := ⟨gb476, 1, none⟩) (Kd.S_far (p := ⟨gb476, 0, none⟩) (Kd.S_types HO474.out BK476.out (by decide)) (fun _ hk => hk.2) (.slice Ao9 t466.length co9)) (fun _ hk => hk.2) (.slice Ao12 t469.length co12)) (fun _ hk => hk.2) (.slice Ao13 t472.length co13)) (fun _ h_ => h_.1))) hb); replace BK465 := bB BK465 hb; replace BK476 := bV 61 #[.slice Ao9 t466.length co9, .slice Ao12 t469.length co12, .slice Ao13 t472.length co13] BK476 hb; replace HB := bS HB hb; (try clear hb)))
   go_meet
   case rel => exact ⟨_, (!t477), rS, H', ⟨by first | omega | exact Nat.le_refl _⟩, ⟨by (with_reducible repeat (first | apply Kd.S_alloc | apply Kd.S_drewN | apply Kd.S_drew)); exact HO468.out⟩, ⟨by (with_reducible repeat (first | apply Kd.S_alloc | apply Kd.S_drewN | apply Kd.S_drew)); exact HO471.out⟩, ⟨by (with_reducible repeat (first | apply Kd.S_alloc | apply Kd.S_drewN | apply Kd.S_drew)); exact HO474.out⟩, ⟨bP BK465⟩, ⟨bP BK476⟩, ⟨bZ HB⟩⟩
  ·replace c14 := Bool.eq_false_iff.mpr c14
   subst c14
   rw [if_neg (show ¬ (false = true) by decide)] at H
   have H' := Aside0.mk H
   clear H
   go_wp2
   go_meet
   case rel => exact ⟨_, (true), rS, H', ⟨by first | omega | exact Nat.le_refl _⟩, ⟨by (with_reducible repeat (first | apply Kd.S_alloc | apply Kd.S_drewN | apply Kd.S_drew)); exact Kd.S_mono (Kd.S_far (p := ⟨gb476, 2, none⟩) (Kd.S_far (p := ⟨gb476, 1, none⟩) (Kd.S_far (p := ⟨gb476, 0, none⟩) (Kd.S_types HO468.out BK476.out (by decide)) (fun _ hk => hk.2) (.slice Ao9 t466.length co9)) (fun _ hk => hk.2) (.slice Ao12 t469.length co12)) (fun _ hk => hk.2) (.slice Ao13 t472.length co13)) (fun _ hk => ⟨hk.1.1, hk.1.2⟩)⟩, ⟨by (with_reducible repeat (first | apply Kd.S_alloc | apply Kd.S_drewN | apply Kd.S_drew)); exact Kd.S_mono (Kd.S_far (p := ⟨gb476, 2, none⟩) (Kd.S_far (p := ⟨gb476, 1, none⟩) (Kd.S_far (p := ⟨gb476, 0, none⟩) (Kd.S_types HO471.out BK476.out (by decide)) (fun _ hk => hk.2) (.slice Ao9 t466.length co9)) (fun _ hk => hk.2) (.slice Ao12 t469.length co12)) (fun _ hk => hk.2) (.slice Ao13 t472.length co13)) (fun _ hk => ⟨hk.1.1, hk.1.2⟩)⟩, ⟨by (with_reducible repeat (first | apply Kd.S_alloc | apply Kd.S_drewN | apply Kd.S_drew)); exact Kd.S_mono (Kd.S_far (p := ⟨gb476, 2, none⟩) (Kd.S_far (p := ⟨gb476, 1, none⟩) (Kd.S_far (p := ⟨gb476, 0, none⟩) (Kd.S_types HO474.out BK476.out (by decide)) (fun _ hk => hk.2) (.slice Ao9 t466.length co9)) (fun _ hk => hk.2) (.slice Ao12 t469.length co12)) (fun _ hk => hk.2) (.slice Ao13 t472.length co13)) (fun _ hk => ⟨hk.1.1, hk.1.2⟩)⟩, ⟨bP BK465⟩, ⟨bU BK476⟩, ⟨bZ HB⟩⟩
 case rest =>
  clear HC4
  try clear c1
  try clear c2
  try clear p2
  try clear c5
  try clear c10
  try clear c14
  try clear c16
  try clear hcz11_0
  try clear hcz11_1
  try clear hcz11_2
  try clear hcz17_0
  try clear hcz17_1
  try clear hcz17_2
  try clear hcz6_0
  try clear hcz6_1
  try clear hcz6_2
  try clear hfz11_0
  try clear hfz11_1
  try clear hfz11_2
  try clear hfz17_0
  try clear hfz17_1
  try clear hfz17_2
  try clear hfz6_0
  try clear hfz6_1
  try clear hfz6_2
  obtain ⟨kq, x24_3, rfl, HA, HJ3, HO_477000, HO_477001, HO_477002, BK465, BK476, HB⟩ := hcut
  cases kq with
  | zero => exact absurd HA.out (by simp [impl_QuotientOf.j0])
  | succ kj3 =>
   have H := HA.out
   clear HA
   simp only [impl_QuotientOf.j0] at H
   by_cases c19 : x24_3 = true
   ·subst c19
    rw [if_pos rfl] at H
    simp only [Option.some.injEq, Prod.mk.injEq] at H
    obtain ⟨rfl, rfl⟩ := H
    go_wp2
    go_ret2
    exact ⟨_, by first | rfl | (simp [errW_none, errW_some] <;> rfl) | (simp [*, errW_none, errW_some] <;> rfl), by first | exact Kd.R_nil _ _ _ _ _ | exact Kd.N_nil _ _ _ _ _ | exact Kd.V_nil _ _ _ _ _ | exact Kd.Q_nil _ _ _ _ _ | exact Kd.S_nil _ _ _ _ _, bZ HB⟩
   ·replace c19 := Bool.eq_false_iff.mpr c19
    subst c19
    rw [if_neg (show ¬ (false = true) by decide)] at H
    replace H := Option.bind_eq_some_iff.mp H
    obtain ⟨t478, A200, H⟩ := H
    have A20 := Aside0.mk A200
    clear A200
    replace H := Option.bind_eq_some_iff.mp H
    obtain ⟨t481, A210, H⟩ := H
    have A21 := Aside0.mk A210
    clear A210
    replace H := Option.bind_eq_some_iff.mp H
    obtain ⟨t484, A220, H⟩ := H
    have A22 := Aside0.mk A220
    clear A220
    replace H := Option.bind_eq_some_iff.mp H
    obtain ⟨t487, A230, H⟩ := H
    have A23 := Aside0.mk A230
    clear A230
    replace H := Option.bind_eq_some_iff.mp H
    obtain ⟨t490, A240, H⟩ := H
    have A24 := Aside0.mk A240
    clear A240
    replace H := Option.bind_eq_some_iff.mp H
    obtain ⟨t493, A250, H⟩ := H
    have A25 := Aside0.mk A250
    clear A250
    replace H := Option.bind_eq_some_iff.mp H
    obtain ⟨t496, A260, H⟩ := H
    have A26 := Aside0.mk A260
    clear A260
    replace H := Option.bind_eq_some_iff.mp H
    obtain ⟨⟨t499, t500⟩, A270, H⟩ := H
    have A27 := Aside0.mk A270
    clear A270
    by_cases c28 : (t500.length : Int) > 0
    ·rw [if_pos c28] at H
     have c28b0 := decide_eq_true c28
     have c28b1 : decide (0 < t500.length) = true := decide_eq_true (by omega)
     clear c28
     simp only [Option.some.injEq, Prod.mk.injEq] at H
     obtain ⟨rfl, rfl⟩ := H
     try go_wp2
     replace HO_477000 := Aside0.mk (Kd.S_drew HO_477000.out)
     replace HO_477001 := Aside0.mk (Kd.S_drew HO_477001.out)
     replace HO_477002 := Aside0.mk (Kd.S_drew HO_477002.out)
     replace BK465 := Aside0.mk (blk_drew BK465.out)
     replace BK476 := Aside0.mk (blk_drew BK476.out)
     replace HB := Aside0.mk (below_drew1 HB.out)
     refine start_ (n := 10) (S := fun w' => SQ3 w' gb476 (.slice Ao9 t466.length co9) (.slice Ao12 t469.length co12) (.slice Ao13 t472.length co13)) (ds := []) #[false, false, false, false, false, false, false, false, false, false] (by kernel_rfl) rfl rfl (bT3 BK476) (fun hHeld => ?_); refine with_tabW impl_QuotientOf.tab4 impl_QuotientOf.bits4 (fun HT_ HW_ => ?_)
     generalize wc.drew = w29 at HO_477000 HO_477001 HO_477002 BK465 BK476 HB hHeld ⊢
     refine pI 0 (some 25) HT_.out ?_
     refine pI 2 (some 27) HT_.out ?_
     refine pI 4 (some 29) HT_.out ?_
     refine pI 6 (some 31) HT_.out ?_
     refine tI3 1 (some 26) HT_.out HW_.out hHeld ?_
     refine tI3 5 (some 30) HT_.out HW_.out hHeld ?_
     refine oI 3 (some 28) HT_.out (fun K hK => ?_)
     refine gO Try.func42 #[.slice Ao9 t466.length co9, .slice A1 l1.length c1] ?_
     with_reducible refine (impl_Mixed.calls kj3 _ _ t466 _ _ l1 t478 _ ?side1 ?side2 ?side3 ?side4 A20.out).mono ?_
     (case side1 => exact cP ((Kd.S_reads' HO_477000.out).2.2))
     (case side2 => exact (Kd.S_reads' HO_477000.out).2.1)
     (case side3 => exact cP (Kd.C_below HR1.out HB.out))
     (case side4 => exact HC1.out)
     rintro e w30 ⟨v479, rfl, ho0, hb⟩
     refine ⟨_, rfl, ?_⟩
     replace HO_477000 := Aside0.mk (Kd.S_elder' (by (with_reducible repeat (first | apply Kd.S_alloc | apply Kd.S_drewN | apply Kd.S_drew)); exact HO_477000.out) (Kd.R_base ho0) hb)
     replace HO_477001 := Aside0.mk (Kd.S_elder' (by (with_reducible repeat (first | apply Kd.S_alloc | apply Kd.S_drewN | apply Kd.S_drew)); exact HO_477001.out) (Kd.R_base ho0) hb)
     replace HO_477002 := Aside0.mk (Kd.S_elder' (by (with_reducible repeat (first | apply Kd.S_alloc | apply Kd.S_drewN | apply Kd.S_drew)); exact HO_477002.out) (Kd.R_base ho0) hb)
     have HO480 := Aside0.mk (Kd.R_lower ho0 (below_size (bZ HB)))
     replace BK465 := bB BK465 hb
     replace BK476 := bB BK476 hb
     replace HB := bS HB hb
     (try clear hb)
     (try clear ho0)
     refine hK.out _ _ (bT3 BK476) (fun hHeld => ?_)
     clear hK K
     refine nO (some 28) ?_
     refine oI 7 (some 32) HT_.out (fun K hK => ?_)
     refine gO Try.func42 #[.slice Ao12 t469.length co12, .slice A1 l1.length c1] ?_
     with_reducible refine (impl_Mixed.calls kj3 _ _ t469 _ _ l1 t481 _ ?side1 ?side2 ?side3 ?side4 A21.out).mono ?_
     (case side1 => exact cP ((Kd.S_reads' HO_477001.out).2.2))
     (case side2 => exact (Kd.S_reads' HO_477001.out).2.1)
     (case side3 => exact cP (Kd.C_below HR1.out HB.out))
     (case side4 => exact HC1.out)
     rintro e w31 ⟨v482, rfl, ho0, hb⟩
     refine ⟨_, rfl, ?_⟩
     replace HO_477000 := Aside0.mk (Kd.S_elder' (by (with_reducible repeat (first | apply Kd.S_alloc | apply Kd.S_drewN | apply Kd.S_drew)); exact HO_477000.out) (Kd.R_base ho0) hb)
     replace HO_477001 := Aside0.mk (Kd.S_elder' (by (with_reducible repeat (first | apply Kd.S_alloc | apply Kd.S_drewN | apply Kd.S_drew)); exact HO_477001.out) (Kd.R_base ho0) hb)
     replace HO_477002 := Aside0.mk (Kd.S_elder' (by (with_reducible repeat (first | apply Kd.S_alloc | apply Kd.S_drewN | apply Kd.S_drew)); exact HO_477002.out) (Kd.R_base ho0) hb)
     have HO483 := Aside0.mk (Kd.R_lower (Kd.R_new' ho0 (Kd.R_lt (rP HO480))) (below_size (bZ HB)))
     replace HO480 := Aside0.mk (Kd.R_elder' (rP HO480) (Kd.R_base ho0) hb)
     replace BK465 := bB BK465 hb
     replace BK476 := bB BK476 hb
     replace HB := bS HB hb
     (try clear hb)
     (try clear ho0)
     obtain ⟨Ao32, co32, eo32⟩ := Kd.R_slice HO480.out
     (first | subst eo32 | (injection eo32 with f1_ f2_ f3_; have f4_ := f1_.symm; have f5_ := f3_.symm; clear f1_ f2_ f3_; subst f4_; subst f5_))
     obtain ⟨Ao33, co33, eo33⟩ := Kd.R_slice HO483.out
     (first | subst eo33 | (injection eo33 with f1_ f2_ f3_; have f4_ := f1_.symm; have f5_ := f3_.symm; clear f1_ f2_ f3_; subst f4_; subst f5_))
     refine hK.out _ _ (bT3 BK476) (fun hHeld => ?_)
     clear hK K
     refine nO (some 32) ?_
     refine oI 8 (some 33) HT_.out (fun K hK => ?_)
     refine gO Try.func34 #[.slice Ao32 t478.length co32, .slice Ao33 t481.length co33] ?_
     with_reducible refine (impl_PolyMul.calls kj3 _ _ t478 _ _ t481 t484 _ ?side1 ?side2 ?side3 ?side4 A22.out).mono ?_
     (case side1 => exact cP ((Kd.R_reads' HO480.out).2.2))
     (case side2 => exact (Kd.R_reads' HO480.out).2.1)
     (case side3 => exact cP ((Kd.R_reads' HO483.out).2.2))
     (case side4 => exact (Kd.R_reads' HO483.out).2.1)
     rintro e w34 ⟨v485, rfl, ho0, hb⟩
     refine ⟨_, rfl, ?_⟩
     replace HO_477000 := Aside0.mk (Kd.S_elder' (by (with_reducible repeat (first | apply Kd.S_alloc | apply Kd.S_drewN | apply Kd.S_drew)); exact HO_477000.out) (Kd.R_base ho0) hb)
     replace HO_477001 := Aside0.mk (Kd.S_elder' (by (with_reducible repeat (first | apply Kd.S_alloc | apply Kd.S_drewN | apply Kd.S_drew)); exact HO_477001.out) (Kd.R_base ho0) hb)
     replace HO_477002 := Aside0.mk (Kd.S_elder' (by (with_reducible repeat (first | apply Kd.S_alloc | apply Kd.S_drewN | apply Kd.S_drew)); exact HO_477002.out) (Kd.R_base ho0) hb)
     have HO486 := Aside0.mk (Kd.R_lower (Kd.R_new' (Kd.R_new' ho0 (Kd.R_lt (rP HO480))) (Kd.R_lt (rP HO483))) (below_size (bZ HB)))
     replace HO480 := Aside0.mk (Kd.R_elder' (rP HO480) (Kd.R_base ho0) hb)
     replace HO483 := Aside0.mk (Kd.R_elder' (rP HO483) (Kd.R_base ho0) hb)
     replace BK465 := bB BK465 hb
     replace BK476 := bB BK476 hb
     replace HB := bS HB hb
     (try clear hb)
     (try clear ho0)
     refine hK.out _ _ (bT3 BK476) (fun hHeld => ?_)
     clear hK K
     refine nO (some 33) ?_
     refine pI 9 (some 8) HT_.out ?_
     refine done_ (done_of HT_.out (by kernel_rfl)) ?_
     obtain ⟨hnb35, hnc35⟩ := nB NB476_465
     obtain ⟨hcz36_0, hcz36_1, hcz36_2, hfz36_0, hfz36_1, hfz36_2⟩ := bK3 (w := w34) BK476
     try go_wp2_with (first | (refine gC (some 38) Try.func42 #[.slice Ao13 t472.length co13, .slice A1 l1.length c1] ?_; (with_reducible refine (impl_Mixed.calls kj3 _ _ t472 _ _ l1 t487 _ ?side1 ?side2 ?side3 ?side4 A23.out).mono ?_); (case side1 => exact cP ((Kd.S_reads' HO_477002.out).2.2)); (case side2 => exact (Kd.S_reads' HO_477002.out).2.1); (case side3 => exact cP (Kd.C_below HR1.out HB.out)); (case side4 => exact HC1.out); rintro e w37 ⟨v488, rfl, ho0, hb⟩; refine ⟨_, rfl, ?_⟩; replace HO_477000 := Aside0.mk (Kd.S_elder' (by (with_reducible repeat (first | apply Kd.S_alloc | apply Kd.S_drewN | apply Kd.S_drew)); exact HO_477000.out) (Kd.R_base ho0) hb); replace HO_477001 := Aside0.mk (Kd.S_elder' (by (with_reducible repeat (first | apply Kd.S_alloc | apply Kd.S_drewN | apply Kd.S_drew)); exact HO_477001.out) (Kd.R_base ho0) hb); replace HO_477002 := Aside0.mk (Kd.S_elder' (by (with_reducible repeat (first | apply Kd.S_alloc | apply Kd.S_drewN | apply Kd.S_drew)); exact HO_477002.out) (Kd.R_base ho0) hb); have HO489 := Aside0.mk (Kd.R_lower (Kd.R_new' (Kd.R_new' (Kd.R_new' ho0 (Kd.R_lt (rP HO480))) (Kd.R_lt (rP HO483))) (Kd.R_lt (rP HO486))) (below_size (bZ HB))); replace HO480 := Aside0.mk (Kd.R_elder' (rP HO480) (Kd.R_base ho0) hb); replace HO483 := Aside0.mk (Kd.R_elder' (rP HO483) (Kd.R_base ho0) hb); replace HO486 := Aside0.mk (Kd.R_elder' (rP HO486) (Kd.R_base ho0) hb); replace BK465 := bB BK465 hb; replace BK476 := bB BK476 hb; replace HB := bS HB hb; (try clear hb); (try clear ho0); obtain ⟨Ao38, co38, eo38⟩ := Kd.R_slice HO489.out; subst eo38) | (refine gC (some 39) Try.func69 #[.slice Ao38 t487.length co38, .int .i64 (-1)] ?_; (with_reducible refine (impl_scaled.calls kj3 _ _ t487 (-1) t490 _ ?side1 ?side2 A24.out).mono ?_); (case side1 => exact cP ((Kd.R_reads' HO489.out).2.2)); (case side2 => exact (Kd.R_reads' HO489.out).2.1); rintro e w39 ⟨v491, rfl, ho0, hb⟩; refine ⟨_, rfl, ?_⟩; replace HO_477000 := Aside0.mk (Kd.S_elder' (by (with_reducible repeat (first | apply Kd.S_alloc | apply Kd.S_drewN | apply Kd.S_drew)); exact HO_477000.out) (Kd.R_base ho0) hb); replace HO_477001 := Aside0.mk (Kd.S_elder' (by (with_reducible repeat (first | apply Kd.S_alloc | apply Kd.S_drewN | apply Kd.S_drew)); exact HO_477001.out) (Kd.R_base ho0) hb); replace HO_477002 := Aside0.mk (Kd.S_elder' (by (with_reducible repeat (first | apply Kd.S_alloc | apply Kd.S_drewN | apply Kd.S_drew)); exact HO_477002.out) (Kd.R_base ho0) hb); have HO492 := Aside0.mk (Kd.R_lower (Kd.R_new' (Kd.R_new' (Kd.R_new' (Kd.R_new' ho0 (Kd.R_lt (rP HO480))) (Kd.R_lt (rP HO483))) (Kd.R_lt (rP HO486))) (Kd.R_lt (rP HO489))) (below_size (bZ HB))); replace HO480 := Aside0.mk (Kd.R_elder' (rP HO480) (Kd.R_base ho0) hb); replace HO483 := Aside0.mk (Kd.R_elder' (rP HO483) (Kd.R_base ho0) hb); replace HO486 := Aside0.mk (Kd.R_elder' (rP HO486) (Kd.R_base ho0) hb); replace HO489 := Aside0.mk (Kd.R_elder' (rP HO489) (Kd.R_base ho0) hb); replace BK465 := bB BK465 hb; replace BK476 := bB BK476 hb; replace HB := bS HB hb; (try clear hb); (try clear ho0); obtain ⟨Ao40, co40, eo40⟩ := Kd.R_slice HO486.out; subst eo40; obtain ⟨Ao41, co41, eo41⟩ := Kd.R_slice HO492.out; subst eo41) | (refine gC (some 40) Try.func32 #[.slice Ao40 t484.length co40, .slice Ao41 t490.length co41] ?_; (with_reducible refine (impl_PolyAdd.calls kj3 _ _ t484 _ _ t490 t493 _ ?side1 ?side2 ?side3 ?side4 A25.out).mono ?_); (case side1 => exact cP ((Kd.R_reads' HO486.out).2.2)); (case side2 => exact (Kd.R_reads' HO486.out).2.1); (case side3 => exact cP ((Kd.R_reads' HO492.out).2.2)); (case side4 => exact (Kd.R_reads' HO492.out).2.1); rintro e w42 ⟨v494, rfl, ho0, hb⟩; refine ⟨_, rfl, ?_⟩; replace HO_477000 := Aside0.mk (Kd.S_elder' (by (with_reducible repeat (first | apply Kd.S_alloc | apply Kd.S_drewN | apply Kd.S_drew)); exact HO_477000.out) (Kd.R_base ho0) hb); replace HO_477001 := Aside0.mk (Kd.S_elder' (by (with_reducible repeat (first | apply Kd.S_alloc | apply Kd.S_drewN | apply Kd.S_drew)); exact HO_477001.out) (Kd.R_base ho0) hb); replace HO_477002 := Aside0.mk (Kd.S_elder' (by (with_reducible repeat (first | apply Kd.S_alloc | apply Kd.S_drewN | apply Kd.S_drew)); exact HO_477002.out) (Kd.R_base ho0) hb); have HO495 := Aside0.mk (Kd.R_lower (Kd.R_new' (Kd.R_new' (Kd.R_new' (Kd.R_new' (Kd.R_new' ho0 (Kd.R_lt (rP HO480))) (Kd.R_lt (rP HO483))) (Kd.R_lt (rP HO486))) (Kd.R_lt (rP HO489))) (Kd.R_lt (rP HO492))) (below_size (bZ HB))); replace HO480 := Aside0.mk (Kd.R_elder' (rP HO480) (Kd.R_base ho0) hb); replace HO483 := Aside0.mk (Kd.R_elder' (rP HO483) (Kd.R_base ho0) hb); replace HO486 := Aside0.mk (Kd.R_elder' (rP HO486) (Kd.R_base ho0) hb); replace HO489 := Aside0.mk (Kd.R_elder' (rP HO489) (Kd.R_base ho0) hb); replace HO492 := Aside0.mk (Kd.R_elder' (rP HO492) (Kd.R_base ho0) hb); replace BK465 := bB BK465 hb; replace BK476 := bB BK476 hb; replace HB := bS HB hb; (try clear hb); (try clear ho0); obtain ⟨hcz43_0, hcz43_1, hcz43_2, hfz43_0, hfz43_1, hfz43_2⟩ := bK3 (w := w42) BK465) | (refine gC (some 46) Try.func36 #[.int .i64 (l0_2.length : Int)] ?_; (with_reducible refine (impl_PolyZero.calls kj3 (l0_2.length : Int) t496 _ A26.out).mono ?_); rintro e w44 ⟨v497, rfl, ho0, hb⟩; refine ⟨_, rfl, ?_⟩; replace HO_477000 := Aside0.mk (Kd.S_elder' (by (with_reducible repeat (first | apply Kd.S_alloc | apply Kd.S_drewN | apply Kd.S_drew)); exact HO_477000.out) (Kd.R_base ho0) hb); replace HO_477001 := Aside0.mk (Kd.S_elder' (by (with_reducible repeat (first | apply Kd.S_alloc | apply Kd.S_drewN | apply Kd.S_drew)); exact HO_477001.out) (Kd.R_base ho0) hb); replace HO_477002 := Aside0.mk (Kd.S_elder' (by (with_reducible repeat (first | apply Kd.S_alloc | apply Kd.S_drewN | apply Kd.S_drew)); exact HO_477002.out) (Kd.R_base ho0) hb); have HO498 := Aside0.mk (Kd.R_lower (Kd.R_new' (Kd.R_new' (Kd.R_new' (Kd.R_new' (Kd.R_new' (Kd.R_new' ho0 (Kd.R_lt (rP HO480))) (Kd.R_lt (rP HO483))) (Kd.R_lt (rP HO486))) (Kd.R_lt (rP HO489))) (Kd.R_lt (rP HO492))) (Kd.R_lt (rP HO495))) (below_size (bZ HB))); replace HO480 := Aside0.mk (Kd.R_elder' (rP HO480) (Kd.R_base ho0) hb); replace HO483 := Aside0.mk (Kd.R_elder' (rP HO483) (Kd.R_base ho0) hb); replace HO486 := Aside0.mk (Kd.R_elder' (rP HO486) (Kd.R_base ho0) hb); replace HO489 := Aside0.mk (Kd.R_elder' (rP HO489) (Kd.R_base ho0) hb); replace HO492 := Aside0.mk (Kd.R_elder' (rP HO492) (Kd.R_base ho0) hb); replace HO495 := Aside0.mk (Kd.R_elder' (rP HO495) (Kd.R_base ho0) hb); replace BK465 := bB BK465 hb; replace BK476 := bB BK476 hb; replace HB := bS HB hb; (try clear hb); (try clear ho0); obtain ⟨Ao45, co45, eo45⟩ := Kd.R_slice HO495.out; subst eo45; obtain ⟨Ao46, co46, eo46⟩ := Kd.R_slice HO498.out; subst eo46) | (refine gC (some 47) Try.func38 #[.slice Ao45 t493.length co45, .slice Ao46 t496.length co46] ?_; (with_reducible refine (impl_PolyDivide.calls kj3 _ _ t493 _ _ t496 t499 t500 _ ?side1 ?side2 ?side3 ?side4 A27.out).mono ?_); (case side1 => exact cP ((Kd.R_reads' HO495.out).2.2)); (case side2 => exact (Kd.R_reads' HO495.out).2.1); (case side3 => exact cP ((Kd.R_reads' HO498.out).2.2)); (case side4 => exact (Kd.R_reads' HO498.out).2.1); rintro e w47 ⟨v501, v503, rfl, ho0, ho1, hb⟩; refine ⟨_, rfl, ?_⟩; replace HO_477000 := Aside0.mk (Kd.S_mono (Kd.S_told (Kd.S_told (Kd.S_old (by (with_reducible repeat (first | apply Kd.S_alloc | apply Kd.S_drewN | apply Kd.S_drew)); exact HO_477000.out) hb) (Kd.R_base ho0)) (Kd.R_base ho1)) (fun _ h_ => h_.1)); replace HO_477001 := Aside0.mk (Kd.S_mono (Kd.S_told (Kd.S_told (Kd.S_old (by (with_reducible repeat (first | apply Kd.S_alloc | apply Kd.S_drewN | apply Kd.S_drew)); exact HO_477001.out) hb) (Kd.R_base ho0)) (Kd.R_base ho1)) (fun _ h_ => h_.1)); replace HO_477002 := Aside0.mk (Kd.S_mono (Kd.S_told (Kd.S_told (Kd.S_old (by (with_reducible repeat (first | apply Kd.S_alloc | apply Kd.S_drewN | apply Kd.S_drew)); exact HO_477002.out) hb) (Kd.R_base ho0)) (Kd.R_base ho1)) (fun _ h_ => h_.1)); have HO502 := Aside0.mk (Kd.R_lower (Kd.R_new' (Kd.R_new' (Kd.R_new' (Kd.R_new' (Kd.R_new' (Kd.R_new' (Kd.R_new' ho0 (Kd.R_lt (rP HO480))) (Kd.R_lt (rP HO483))) (Kd.R_lt (rP HO486))) (Kd.R_lt (rP HO489))) (Kd.R_lt (rP HO492))) (Kd.R_lt (rP HO495))) (Kd.R_lt (rP HO498))) (below_size (bZ HB))); have HO504 := Aside0.mk (Kd.R_lower (Kd.R_new' (Kd.R_new' (Kd.R_new' (Kd.R_new' (Kd.R_new' (Kd.R_new' (Kd.R_new' ho1 (Kd.R_lt (rP HO480))) (Kd.R_lt (rP HO483))) (Kd.R_lt (rP HO486))) (Kd.R_lt (rP HO489))) (Kd.R_lt (rP HO492))) (Kd.R_lt (rP HO495))) (Kd.R_lt (rP HO498))) (below_size (bZ HB))); replace HO480 := Aside0.mk (Kd.R_mono (Kd.R_told (Kd.R_told (Kd.R_old (rP HO480) hb) (Kd.R_base ho0)) (Kd.R_base ho1)) (fun _ h_ => h_.1)); replace HO483 := Aside0.mk (Kd.R_mono (Kd.R_told (Kd.R_told (Kd.R_old (rP HO483) hb) (Kd.R_base ho0)) (Kd.R_base ho1)) (fun _ h_ => h_.1)); replace HO486 := Aside0.mk (Kd.R_mono (Kd.R_told (Kd.R_told (Kd.R_old (rP HO486) hb) (Kd.R_base ho0)) (Kd.R_base ho1)) (fun _ h_ => h_.1)); replace HO489 := Aside0.mk (Kd.R_mono (Kd.R_told (Kd.R_told (Kd.R_old (rP HO489) hb) (Kd.R_base ho0)) (Kd.R_base ho1)) (fun _ h_ => h_.1)); replace HO492 := Aside0.mk (Kd.R_mono (Kd.R_told (Kd.R_told (Kd.R_old (rP HO492) hb) (Kd.R_base ho0)) (Kd.R_base ho1)) (fun _ h_ => h_.1)); replace HO495 := Aside0.mk (Kd.R_mono (Kd.R_told (Kd.R_told (Kd.R_old (rP HO495) hb) (Kd.R_base ho0)) (Kd.R_base ho1)) (fun _ h_ => h_.1)); replace HO498 := Aside0.mk (Kd.R_mono (Kd.R_told (Kd.R_told (Kd.R_old (rP HO498) hb) (Kd.R_base ho0)) (Kd.R_base ho1)) (fun _ h_ => h_.1)); replace BK465 := bB BK465 hb; replace BK476 := bB BK476 hb; replace HB := bS HB hb; (try clear hb); (try clear ho0); (try clear ho1); obtain ⟨Ao48, co48, eo48⟩ := Kd.R_slice HO504.out; subst eo48))
     go_ret2
     exact ⟨_, by first | rfl | (simp [errW_none, errW_some] <;> rfl) | (simp [*, errW_none, errW_some] <;> rfl), by first | exact Kd.R_nil _ _ _ _ _ | exact Kd.N_nil _ _ _ _ _ | exact Kd.V_nil _ _ _ _ _ | exact Kd.Q_nil _ _ _ _ _ | exact Kd.S_nil _ _ _ _ _, bZ HB⟩
    ·rw [if_neg c28] at H
     have c28b0 := decide_eq_false c28
     have c28b1 : decide (0 < t500.length) = false := decide_eq_false (by omega)
     clear c28
     simp only [Option.some.injEq, Prod.mk.injEq] at H
     obtain ⟨rfl, rfl⟩ := H
     try go_wp2
     replace HO_477000 := Aside0.mk (Kd.S_drew HO_477000.out)
     replace HO_477001 := Aside0.mk (Kd.S_drew HO_477001.out)
     replace HO_477002 := Aside0.mk (Kd.S_drew HO_477002.out)
     replace BK465 := Aside0.mk (blk_drew BK465.out)
     replace BK476 := Aside0.mk (blk_drew BK476.out)
     replace HB := Aside0.mk (below_drew1 HB.out)
     refine start_ (n := 10) (S := fun w' => SQ3 w' gb476 (.slice Ao9 t466.length co9) (.slice Ao12 t469.length co12) (.slice Ao13 t472.length co13)) (ds := []) #[false, false, false, false, false, false, false, false, false, false] (by kernel_rfl) rfl rfl (bT3 BK476) (fun hHeld => ?_); refine with_tabW impl_QuotientOf.tab4 impl_QuotientOf.bits4 (fun HT_ HW_ => ?_)
     generalize wc.drew = w49 at HO_477000 HO_477001 HO_477002 BK465 BK476 HB hHeld ⊢
     refine pI 0 (some 25) HT_.out ?_
     refine pI 2 (some 27) HT_.out ?_
     refine pI 4 (some 29) HT_.out ?_
     refine pI 6 (some 31) HT_.out ?_
     refine tI3 1 (some 26) HT_.out HW_.out hHeld ?_
     refine tI3 5 (some 30) HT_.out HW_.out hHeld ?_
     refine oI 3 (some 28) HT_.out (fun K hK => ?_)
     refine gO Try.func42 #[.slice Ao9 t466.length co9, .slice A1 l1.length c1] ?_
     with_reducible refine (impl_Mixed.calls kj3 _ _ t466 _ _ l1 t478 _ ?side1 ?side2 ?side3 ?side4 A20.out).mono ?_
     (case side1 => exact cP ((Kd.S_reads' HO_477000.out).2.2))
     (case side2 => exact (Kd.S_reads' HO_477000.out).2.1)
     (case side3 => exact cP (Kd.C_below HR1.out HB.out))
     (case side4 => exact HC1.out)
     rintro e w50 ⟨v479, rfl, ho0, hb⟩
     refine ⟨_, rfl, ?_⟩
     replace HO_477000 := Aside0.mk (Kd.S_elder' (by (with_reducible repeat (first | apply Kd.S_alloc | apply Kd.S_drewN | apply Kd.S_drew)); exact HO_477000.out) (Kd.R_base ho0) hb)
     replace HO_477001 := Aside0.mk (Kd.S_elder' (by (with_reducible repeat (first | apply Kd.S_alloc | apply Kd.S_drewN | apply Kd.S_drew)); exact HO_477001.out) (Kd.R_base ho0) hb)
     replace HO_477002 := Aside0.mk (Kd.S_elder' (by (with_reducible repeat (first | apply Kd.S_alloc | apply Kd.S_drewN | apply Kd.S_drew)); exact HO_477002.out) (Kd.R_base ho0) hb)
     have HO480 := Aside0.mk (Kd.R_lower ho0 (below_size (bZ HB)))
     replace BK465 := bB BK465 hb
     replace BK476 := bB BK476 hb
     replace HB := bS HB hb
     (try clear hb)
     (try clear ho0)
     refine hK.out _ _ (bT3 BK476) (fun hHeld => ?_)
     clear hK K
     refine nO (some 28) ?_
     refine oI 7 (some 32) HT_.out (fun K hK => ?_)
     refine gO Try.func42 #[.slice Ao12 t469.length co12, .slice A1 l1.length c1] ?_
     with_reducible refine (impl_Mixed.calls kj3 _ _ t469 _ _ l1 t481 _ ?side1 ?side2 ?side3 ?side4 A21.out).mono ?_
     (case side1 => exact cP ((Kd.S_reads' HO_477001.out).2.2))
     (case side2 => exact (Kd.S_reads' HO_477001.out).2.1)
     (case side3 => exact cP (Kd.C_below HR1.out HB.out))
     (case side4 => exact HC1.out)
     rintro e w51 ⟨v482, rfl, ho0, hb⟩
     refine ⟨_, rfl, ?_⟩
     replace HO_477000 := Aside0.mk (Kd.S_elder' (by (with_reducible repeat (first | apply Kd.S_alloc | apply Kd.S_drewN | apply Kd.S_drew)); exact HO_477000.out) (Kd.R_base ho0) hb)
     replace HO_477001 := Aside0.mk (Kd.S_elder' (by (with_reducible repeat (first | apply Kd.S_alloc | apply Kd.S_drewN | apply Kd.S_drew)); exact HO_477001.out) (Kd.R_base ho0) hb)
     replace HO_477002 := Aside0.mk (Kd.S_elder' (by (with_reducible repeat (first | apply Kd.S_alloc | apply Kd.S_drewN | apply Kd.S_drew)); exact HO_477002.out) (Kd.R_base ho0) hb)
     have HO483 := Aside0.mk (Kd.R_lower (Kd.R_new' ho0 (Kd.R_lt (rP HO480))) (below_size (bZ HB)))
     replace HO480 := Aside0.mk (Kd.R_elder' (rP HO480) (Kd.R_base ho0) hb)
     replace BK465 := bB BK465 hb
     replace BK476 := bB BK476 hb
     replace HB := bS HB hb
     (try clear hb)
     (try clear ho0)
     obtain ⟨Ao52, co52, eo52⟩ := Kd.R_slice HO480.out
     (first | subst eo52 | (injection eo52 with f1_ f2_ f3_; have f4_ := f1_.symm; have f5_ := f3_.symm; clear f1_ f2_ f3_; subst f4_; subst f5_))
     obtain ⟨Ao53, co53, eo53⟩ := Kd.R_slice HO483.out
     (first | subst eo53 | (injection eo53 with f1_ f2_ f3_; have f4_ := f1_.symm; have f5_ := f3_.symm; clear f1_ f2_ f3_; subst f4_; subst f5_))
     refine hK.out _ _ (bT3 BK476) (fun hHeld => ?_)
     clear hK K
     refine nO (some 32) ?_
     refine oI 8 (some 33) HT_.out (fun K hK => ?_)
     refine gO Try.func34 #[.slice Ao52 t478.length co52, .slice Ao53 t481.length co53] ?_
     with_reducible refine (impl_PolyMul.calls kj3 _ _ t478 _ _ t481 t484 _ ?side1 ?side2 ?side3 ?side4 A22.out).mono ?_
     (case side1 => exact cP ((Kd.R_reads' HO480.out).2.2))
     (case side2 => exact (Kd.R_reads' HO480.out).2.1)
     (case side3 => exact cP ((Kd.R_reads' HO483.out).2.2))
     (case side4 => exact (Kd.R_reads' HO483.out).2.1)
     rintro e w54 ⟨v485, rfl, ho0, hb⟩
     refine ⟨_, rfl, ?_⟩
     replace HO_477000 := Aside0.mk (Kd.S_elder' (by (with_reducible repeat (first | apply Kd.S_alloc | apply Kd.S_drewN | apply Kd.S_drew)); exact HO_477000.out) (Kd.R_base ho0) hb)
     replace HO_477001 := Aside0.mk (Kd.S_elder' (by (with_reducible repeat (first | apply Kd.S_alloc | apply Kd.S_drewN | apply Kd.S_drew)); exact HO_477001.out) (Kd.R_base ho0) hb)
     replace HO_477002 := Aside0.mk (Kd.S_elder' (by (with_reducible repeat (first | apply Kd.S_alloc | apply Kd.S_drewN | apply Kd.S_drew)); exact HO_477002.out) (Kd.R_base ho0) hb)
     have HO486 := Aside0.mk (Kd.R_lower (Kd.R_new' (Kd.R_new' ho0 (Kd.R_lt (rP HO480))) (Kd.R_lt (rP HO483))) (below_size (bZ HB)))
     replace HO480 := Aside0.mk (Kd.R_elder' (rP HO480) (Kd.R_base ho0) hb)
     replace HO483 := Aside0.mk (Kd.R_elder' (rP HO483) (Kd.R_base ho0) hb)
     replace BK465 := bB BK465 hb
     replace BK476 := bB BK476 hb
     replace HB := bS HB hb
     (try clear hb)
     (try clear ho0)
     refine hK.out _ _ (bT3 BK476) (fun hHeld => ?_)
     clear hK K
     refine nO (some 33) ?_
     refine pI 9 (some 8) HT_.out ?_
     refine done_ (done_of HT_.out (by kernel_rfl)) ?_
     obtain ⟨hnb55, hnc55⟩ := nB NB476_465
     obtain ⟨hcz56_0, hcz56_1, hcz56_2, hfz56_0, hfz56_1, hfz56_2⟩ := bK3 (w := w54) BK476
     try go_wp2_with (first | (refine gC (some 38) Try.func42 #[.slice Ao13 t472.length co13, .slice A1 l1.length c1] ?_; (with_reducible refine (impl_Mixed.calls kj3 _ _ t472 _ _ l1 t487 _ ?side1 ?side2 ?side3 ?side4 A23.out).mono ?_); (case side1 => exact cP ((Kd.S_reads' HO_477002.out).2.2)); (case side2 => exact (Kd.S_reads' HO_477002.out).2.1); (case side3 => exact cP (Kd.C_below HR1.out HB.out)); (case side4 => exact HC1.out); rintro e w57 ⟨v488, rfl, ho0, hb⟩; refine ⟨_, rfl, ?_⟩; replace HO_477000 := Aside0.mk (Kd.S_elder' (by (with_reducible repeat (first | apply Kd.S_alloc | apply Kd.S_drewN | apply Kd.S_drew)); exact HO_477000.out) (Kd.R_base ho0) hb); replace HO_477001 := Aside0.mk (Kd.S_elder' (by (with_reducible repeat (first | apply Kd.S_alloc | apply Kd.S_drewN | apply Kd.S_drew)); exact HO_477001.out) (Kd.R_base ho0) hb); replace HO_477002 := Aside0.mk (Kd.S_elder' (by (with_reducible repeat (first | apply Kd.S_alloc | apply Kd.S_drewN | apply Kd.S_drew)); exact HO_477002.out) (Kd.R_base ho0) hb); have HO489 := Aside0.mk (Kd.R_lower (Kd.R_new' (Kd.R_new' (Kd.R_new' ho0 (Kd.R_lt (rP HO480))) (Kd.R_lt (rP HO483))) (Kd.R_lt (rP HO486))) (below_size (bZ HB))); replace HO480 := Aside0.mk (Kd.R_elder' (rP HO480) (Kd.R_base ho0) hb); replace HO483 := Aside0.mk (Kd.R_elder' (rP HO483) (Kd.R_base ho0) hb); replace HO486 := Aside0.mk (Kd.R_elder' (rP HO486) (Kd.R_base ho0) hb); replace BK465 := bB BK465 hb; replace BK476 := bB BK476 hb; replace HB := bS HB hb; (try clear hb); (try clear ho0); obtain ⟨Ao58, co58, eo58⟩ := Kd.R_slice HO489.out; subst eo58) | (refine gC (some 39) Try.func69 #[.slice Ao58 t487.length co58, .int .i64 (-1)] ?_; (with_reducible refine (impl_scaled.calls kj3 _ _ t487 (-1) t490 _ ?side1 ?side2 A24.out).mono ?_); (case side1 => exact cP ((Kd.R_reads' HO489.out).2.2)); (case side2 => exact (Kd.R_reads' HO489.out).2.1); rintro e w59 ⟨v491, rfl, ho0, hb⟩; refine ⟨_, rfl, ?_⟩; replace HO_477000 := Aside0.mk (Kd.S_elder' (by (with_reducible repeat (first | apply Kd.S_alloc | apply Kd.S_drewN | apply Kd.S_drew)); exact HO_477000.out) (Kd.R_base ho0) hb); replace HO_477001 := Aside0.mk (Kd.S_elder' (by (with_reducible repeat (first | apply Kd.S_alloc | apply Kd.S_drewN | apply Kd.S_drew)); exact HO_477001.out) (Kd.R_base ho0) hb); replace HO_477002 := Aside0.mk (Kd.S_elder' (by (with_reducible repeat (first | apply Kd.S_alloc | apply Kd.S_drewN | apply Kd.S_drew)); exact HO_477002.out) (Kd.R_base ho0) hb); have HO492 := Aside0.mk (Kd.R_lower (Kd.R_new' (Kd.R_new' (Kd.R_new' (Kd.R_new' ho0 (Kd.R_lt (rP HO480))) (Kd.R_lt (rP HO483))) (Kd.R_lt (rP HO486))) (Kd.R_lt (rP HO489))) (below_size (bZ HB))); replace HO480 := Aside0.mk (Kd.R_elder' (rP HO480) (Kd.R_base ho0) hb); replace HO483 := Aside0.mk (Kd.R_elder' (rP HO483) (Kd.R_base ho0) hb); replace HO486 := Aside0.mk (Kd.R_elder' (rP HO486) (Kd.R_base ho0) hb); replace HO489 := Aside0.mk (Kd.R_elder' (rP HO489) (Kd.R_base ho0) hb); replace BK465 := bB BK465 hb; replace BK476 := bB BK476 hb; replace HB := bS HB hb; (try clear hb); (try clear ho0); obtain ⟨Ao60, co60, eo60⟩ := Kd.R_slice HO486.out; subst eo60; obtain ⟨Ao61, co61, eo61⟩ := Kd.R_slice HO492.out; subst eo61) | (refine gC (some 40) Try.func32 #[.slice Ao60 t484.length co60, .slice Ao61 t490.length co61] ?_; (with_reducible refine (impl_PolyAdd.calls kj3 _ _ t484 _ _ t490 t493 _ ?side1 ?side2 ?side3 ?side4 A25.out).mono ?_); (case side1 => exact cP ((Kd.R_reads' HO486.out).2.2)); (case side2 => exact (Kd.R_reads' HO486.out).2.1); (case side3 => exact cP ((Kd.R_reads' HO492.out).2.2)); (case side4 => exact (Kd.R_reads' HO492.out).2.1); rintro e w62 ⟨v494, rfl, ho0, hb⟩; refine ⟨_, rfl, ?_⟩; replace HO_477000 := Aside0.mk (Kd.S_elder' (by (with_reducible repeat (first | apply Kd.S_alloc | apply Kd.S_drewN | apply Kd.S_drew)); exact HO_477000.out) (Kd.R_base ho0) hb); replace HO_477001 := Aside0.mk (Kd.S_elder' (by (with_reducible repeat (first | apply Kd.S_alloc | apply Kd.S_drewN | apply Kd.S_drew)); exact HO_477001.out) (Kd.R_base ho0) hb); replace HO_477002 := Aside0.mk (Kd.S_elder' (by (with_reducible repeat (first | apply Kd.S_alloc | apply Kd.S_drewN | apply Kd.S_drew)); exact HO_477002.out) (Kd.R_base ho0) hb); have HO495 := Aside0.mk (Kd.R_lower (Kd.R_new' (Kd.R_new' (Kd.R_new' (Kd.R_new' (Kd.R_new' ho0 (Kd.R_lt (rP HO480))) (Kd.R_lt (rP HO483))) (Kd.R_lt (rP HO486))) (Kd.R_lt (rP HO489))) (Kd.R_lt (rP HO492))) (below_size (bZ HB))); replace HO480 := Aside0.mk (Kd.R_elder' (rP HO480) (Kd.R_base ho0) hb); replace HO483 := Aside0.mk (Kd.R_elder' (rP HO483) (Kd.R_base ho0) hb); replace HO486 := Aside0.mk (Kd.R_elder' (rP HO486) (Kd.R_base ho0) hb); replace HO489 := Aside0.mk (Kd.R_elder' (rP HO489) (Kd.R_base ho0) hb); replace HO492 := Aside0.mk (Kd.R_elder' (rP HO492) (Kd.R_base ho0) hb); replace BK465 := bB BK465 hb; replace BK476 := bB BK476 hb; replace HB := bS HB hb; (try clear hb); (try clear ho0); obtain ⟨hcz63_0, hcz63_1, hcz63_2, hfz63_0, hfz63_1, hfz63_2⟩ := bK3 (w := w62) BK465) | (refine gC (some 46) Try.func36 #[.int .i64 (l0_2.length : Int)] ?_; (with_reducible refine (impl_PolyZero.calls kj3 (l0_2.length : Int) t496 _ A26.out).mono ?_); rintro e w64 ⟨v497, rfl, ho0, hb⟩; refine ⟨_, rfl, ?_⟩; replace HO_477000 := Aside0.mk (Kd.S_elder' (by (with_reducible repeat (first | apply Kd.S_alloc | apply Kd.S_drewN | apply Kd.S_drew)); exact HO_477000.out) (Kd.R_base ho0) hb); replace HO_477001 := Aside0.mk (Kd.S_elder' (by (with_reducible repeat (first | apply Kd.S_alloc | apply Kd.S_drewN | apply Kd.S_drew)); exact HO_477001.out) (Kd.R_base ho0) hb); replace HO_477002 := Aside0.mk (Kd.S_elder' (by (with_reducible repeat (first | apply Kd.S_alloc | apply Kd.S_drewN | apply Kd.S_drew)); exact HO_477002.out) (Kd.R_base ho0) hb); have HO498 := Aside0.mk (Kd.R_lower (Kd.R_new' (Kd.R_new' (Kd.R_new' (Kd.R_new' (Kd.R_new' (Kd.R_new' ho0 (Kd.R_lt (rP HO480))) (Kd.R_lt (rP HO483))) (Kd.R_lt (rP HO486))) (Kd.R_lt (rP HO489))) (Kd.R_lt (rP HO492))) (Kd.R_lt (rP HO495))) (below_size (bZ HB))); replace HO480 := Aside0.mk (Kd.R_elder' (rP HO480) (Kd.R_base ho0) hb); replace HO483 := Aside0.mk (Kd.R_elder' (rP HO483) (Kd.R_base ho0) hb); replace HO486 := Aside0.mk (Kd.R_elder' (rP HO486) (Kd.R_base ho0) hb); replace HO489 := Aside0.mk (Kd.R_elder' (rP HO489) (Kd.R_base ho0) hb); replace HO492 := Aside0.mk (Kd.R_elder' (rP HO492) (Kd.R_base ho0) hb); replace HO495 := Aside0.mk (Kd.R_elder' (rP HO495) (Kd.R_base ho0) hb); replace BK465 := bB BK465 hb; replace BK476 := bB BK476 hb; replace HB := bS HB hb; (try clear hb); (try clear ho0); obtain ⟨Ao65, co65, eo65⟩ := Kd.R_slice HO495.out; subst eo65; obtain ⟨Ao66, co66, eo66⟩ := Kd.R_slice HO498.out; subst eo66) | (refine gC (some 47) Try.func38 #[.slice Ao65 t493.length co65, .slice Ao66 t496.length co66] ?_; (with_reducible refine (impl_PolyDivide.calls kj3 _ _ t493 _ _ t496 t499 t500 _ ?side1 ?side2 ?side3 ?side4 A27.out).mono ?_); (case side1 => exact cP ((Kd.R_reads' HO495.out).2.2)); (case side2 => exact (Kd.R_reads' HO495.out).2.1); (case side3 => exact cP ((Kd.R_reads' HO498.out).2.2)); (case side4 => exact (Kd.R_reads' HO498.out).2.1); rintro e w67 ⟨v501, v503, rfl, ho0, ho1, hb⟩; refine ⟨_, rfl, ?_⟩; replace HO_477000 := Aside0.mk (Kd.S_mono (Kd.S_told (Kd.S_told (Kd.S_old (by (with_reducible repeat (first | apply Kd.S_alloc | apply Kd.S_drewN | apply Kd.S_drew)); exact HO_477000.out) hb) (Kd.R_base ho0)) (Kd.R_base ho1)) (fun _ h_ => h_.1)); replace HO_477001 := Aside0.mk (Kd.S_mono (Kd.S_told (Kd.S_told (Kd.S_old (by (with_reducible repeat (first | apply Kd.S_alloc | apply Kd.S_drewN | apply Kd.S_drew)); exact HO_477001.out) hb) (Kd.R_base ho0)) (Kd.R_base ho1)) (fun _ h_ => h_.1)); replace HO_477002 := Aside0.mk (Kd.S_mono (Kd.S_told (Kd.S_told (Kd.S_old (by (with_reducible repeat (first | apply Kd.S_alloc | apply Kd.S_drewN | apply Kd.S_drew)); exact HO_477002.out) hb) (Kd.R_base ho0)) (Kd.R_base ho1)) (fun _ h_ => h_.1)); have HO502 := Aside0.mk (Kd.R_lower (Kd.R_new' (Kd.R_new' (Kd.R_new' (Kd.R_new' (Kd.R_new' (Kd.R_new' (Kd.R_new' ho0 (Kd.R_lt (rP HO480))) (Kd.R_lt (rP HO483))) (Kd.R_lt (rP HO486))) (Kd.R_lt (rP HO489))) (Kd.R_lt (rP HO492))) (Kd.R_lt (rP HO495))) (Kd.R_lt (rP HO498))) (below_size (bZ HB))); have HO504 := Aside0.mk (Kd.R_lower (Kd.R_new' (Kd.R_new' (Kd.R_new' (Kd.R_new' (Kd.R_new' (Kd.R_new' (Kd.R_new' ho1 (Kd.R_lt (rP HO480))) (Kd.R_lt (rP HO483))) (Kd.R_lt (rP HO486))) (Kd.R_lt (rP HO489))) (Kd.R_lt (rP HO492))) (Kd.R_lt (rP HO495))) (Kd.R_lt (rP HO498))) (below_size (bZ HB))); replace HO480 := Aside0.mk (Kd.R_mono (Kd.R_told (Kd.R_told (Kd.R_old (rP HO480) hb) (Kd.R_base ho0)) (Kd.R_base ho1)) (fun _ h_ => h_.1)); replace HO483 := Aside0.mk (Kd.R_mono (Kd.R_told (Kd.R_told (Kd.R_old (rP HO483) hb) (Kd.R_base ho0)) (Kd.R_base ho1)) (fun _ h_ => h_.1)); replace HO486 := Aside0.mk (Kd.R_mono (Kd.R_told (Kd.R_told (Kd.R_old (rP HO486) hb) (Kd.R_base ho0)) (Kd.R_base ho1)) (fun _ h_ => h_.1)); replace HO489 := Aside0.mk (Kd.R_mono (Kd.R_told (Kd.R_told (Kd.R_old (rP HO489) hb) (Kd.R_base ho0)) (Kd.R_base ho1)) (fun _ h_ => h_.1)); replace HO492 := Aside0.mk (Kd.R_mono (Kd.R_told (Kd.R_told (Kd.R_old (rP HO492) hb) (Kd.R_base ho0)) (Kd.R_base ho1)) (fun _ h_ => h_.1)); replace HO495 := Aside0.mk (Kd.R_mono (Kd.R_told (Kd.R_told (Kd.R_old (rP HO495) hb) (Kd.R_base ho0)) (Kd.R_base ho1)) (fun _ h_ => h_.1)); replace HO498 := Aside0.mk (Kd.R_mono (Kd.R_told (Kd.R_told (Kd.R_old (rP HO498) hb) (Kd.R_base ho0)) (Kd.R_base ho1)) (fun _ h_ => h_.1)); replace BK465 := bB BK465 hb; replace BK476 := bB BK476 hb; replace HB := bS HB hb; (try clear hb); (try clear ho0); (try clear ho1); obtain ⟨Ao68, co68, eo68⟩ := Kd.R_slice HO504.out; subst eo68))
     go_ret2
     exact ⟨_, by first | rfl | (simp [errW_none, errW_some] <;> rfl) | (simp [*, errW_none, errW_some] <;> rfl), by (with_reducible repeat (first | apply Kd.R_alloc | apply Kd.R_drewN | apply Kd.R_drew)); exact Kd.R_mono HO502.out (fun _ hk => trivial), bZ HB⟩
def impl_PolyAt.l0 : Nat → List Int → Int → Int → Int → Option (Int)
 | 0, _, _, _, _ => none
 | k + 1, x0, x1, x5, x6 => if x6 ≥ 0 then ((impl_ScMul.f x5 x1).bind fun t505 => (if 0 ≤ x6 then (if x6 < (x0.length : Int) then ((impl_ScAdd.f t505 (rd x0 x6)).bind fun t507 => (impl_PolyAt.l0 k x0 x1 t507 (wrap64 (x6 - 1)))) else (none)) else (none))) else (some x5)
def impl_PolyAt.f (k : Nat) (l0 : List Int) (a1 : Int) : Option (Int) := impl_PolyAt.l0 k l0 a1 0 (wrap64 ((l0.length : Int) - 1))
set_option maxHeartbeats 8000000 in
set_option maxRecDepth 100000 in
theorem impl_PolyAt.calls (k : Nat) (A0 : Option Addr) (c0 : Nat) (l0 : List Int) (a1 : Int) (r : Int) (w : World) (hr0 : Kd.C (Kd.int .i64) w A0 l0.length l0) (hc0 : l0.length ≤ c0) (h : impl_PolyAt.f k l0 a1 = some r) :
  Calls Try.prog 17 #[.slice A0 l0.length c0, .int .i64 a1] w fun e w' => e = .returned (.int .i64 r) ∧ Drawn0 w w' := by
 have HR0 := Aside0.mk hr0
 have HC0 := Aside0.mk hc0
 clear hr0 hc0
 have H : (impl_PolyAt.l0 k l0 a1 0 (wrap64 ((l0.length : Int) - 1))) = some r := h
 clear h
 have H' := Aside0.mk H
 clear H
 go_enter Try.func17, Try.ntmps17
 go_wp2
 repeat (go_quiet (fail); try go_wp2)
 go_loopg [5, 6] k (fun kq v5 v6 w' => ∃ (x5_1 : Int) (x6_1 : Int), v5 = .int .i64 x5_1 ∧ v6 = .int .i64 x6_1 ∧ Aside0 (impl_PolyAt.l0 kq l0 a1 x5_1 x6_1 = some r) ∧ Aside0 (kq ≤ k) ∧ Drawn0 w w')
 case atStart => exact ⟨(0), (wrap64 ((l0.length : Int) - 1)), rS, rS, H', ⟨Nat.le_refl _⟩, by repeat (first | exact Drawn0.refl _ | apply Drawn0.step)⟩
 case round =>
  clear H'
  try clear c1
  try clear p2
  obtain ⟨x5_1, x6_1, rfl, rfl, HA, HK1, ⟨m1, rfl⟩⟩ := hrel
  cases gk with
  | zero => exact absurd HA.out (by simp [impl_PolyAt.l0])
  | succ k1 =>
   have H := HA.out
   clear HA
   simp only [impl_PolyAt.l0] at H
   by_cases c3 : x6_1 ≥ 0
   ·rw [if_pos c3] at H
    have c3b0 := decide_eq_true c3
    clear c3
    replace H := Option.bind_eq_some_iff.mp H
    obtain ⟨t505, A40, H⟩ := H
    have A4 := Aside0.mk A40
    clear A40
    by_cases c5 : 0 ≤ x6_1
    ·rw [if_pos c5] at H
     have c5b0 := decide_eq_true c5
     clear c5
     by_cases c6 : x6_1 < (l0.length : Int)
     ·rw [if_pos c6] at H
      have c6b0 := decide_eq_true c6
      clear c6
      replace H := Option.bind_eq_some_iff.mp H
      obtain ⟨t507, A70, H⟩ := H
      have A7 := Aside0.mk A70
      clear A70
      have H' := Aside0.mk H
      clear H
      go_wp2_with (first | (go_at_call 49; (with_reducible refine (impl_ScMul.calls x5_1 a1 t505 _ A4.out).mono ?_); rintro e w' ⟨rfl, ⟨nd, rfl⟩⟩; (try exact tD); have p506 : 0 ≤ (x6_1 : Int) := of_decide_eq_true (by first | (with_reducible assumption) | assumption); have q506 : x6_1 < (l0.length : Int) := of_decide_eq_true (by first | (with_reducible assumption) | assumption); obtain ⟨ad506, e506, hx506_0⟩ := Kd.at_int HR0.out x6_1 p506 q506; cases e506; replace p506 := eq_true p506; replace q506 := eq_true q506) | (go_at_call 50; (with_reducible refine (impl_ScAdd.calls t505 (rd l0 x6_1) t507 _ A7.out).mono ?_); rintro e w' ⟨rfl, ⟨nd, rfl⟩⟩; (try exact tD)))
      repeat (go_quiet (first | (go_at_call 49; (with_reducible refine (impl_ScMul.calls x5_1 a1 t505 _ A4.out).mono ?_); rintro e w' ⟨rfl, ⟨nd, rfl⟩⟩; (try exact tD); have p506 : 0 ≤ (x6_1 : Int) := of_decide_eq_true (by first | (with_reducible assumption) | assumption); have q506 : x6_1 < (l0.length : Int) := of_decide_eq_true (by first | (with_reducible assumption) | assumption); obtain ⟨ad506, e506, hx506_0⟩ := Kd.at_int HR0.out x6_1 p506 q506; cases e506; replace p506 := eq_true p506; replace q506 := eq_true q506) | (go_at_call 50; (with_reducible refine (impl_ScAdd.calls t505 (rd l0 x6_1) t507 _ A7.out).mono ?_); rintro e w' ⟨rfl, ⟨nd, rfl⟩⟩; (try exact tD))); try go_wp2_with (first | (go_at_call 49; (with_reducible refine (impl_ScMul.calls x5_1 a1 t505 _ A4.out).mono ?_); rintro e w' ⟨rfl, ⟨nd, rfl⟩⟩; (try exact tD); have p506 : 0 ≤ (x6_1 : Int) := of_decide_eq_true (by first | (with_reducible assumption) | assumption); have q506 : x6_1 < (l0.length : Int) := of_decide_eq_true (by first | (with_reducible assumption) | assumption); obtain ⟨ad506, e506, hx506_0⟩ := Kd.at_int HR0.out x6_1 p506 q506; cases e506; replace p506 := eq_true p506; replace q506 := eq_true q506) | (go_at_call 50; (with_reducible refine (impl_ScAdd.calls t505 (rd l0 x6_1) t507 _ A7.out).mono ?_); rintro e w' ⟨rfl, ⟨nd, rfl⟩⟩; (try exact tD))))
      go_roundg k1
      case measure => have := HK1.out; omega
      case rel => exact ⟨(t507), (wrap64 (x6_1 - 1)), rS, rS, H', ⟨by have := HK1.out; omega⟩, by repeat (first | exact Drawn0.refl _ | apply Drawn0.step)⟩
     ·rw [if_neg c6] at H
      exact absurd H (by simp)
    ·rw [if_neg c5] at H
     exact absurd H (by simp)
   ·rw [if_neg c3] at H
    have c3b0 := decide_eq_false c3
    clear c3
    obtain rfl := Option.some.inj H
    go_wp2
    repeat (go_quiet (fail); try go_wp2)
    go_ret
    exact ⟨rS, rD⟩
def impl_QapHolds.f (k : Nat) (a0_0 : Int) (a0_1 : Int) (l0_2 : List (S40)) (l1 : List Int) (a2 : Int) : Option (Bool) := (impl_QuotientOf.f k a0_0 a0_1 l0_2 l1).bind fun bt509 => (if bt509.2 = true then ((impl_QapOf.f k a0_0 a0_1 l0_2).bind fun bt513 => ((impl_Mixed.f k bt513.1 l1).bind fun t524 => ((impl_PolyAt.f k t524 a2).bind fun t527 => ((impl_Mixed.f k bt513.2.1 l1).bind fun t528 => ((impl_PolyAt.f k t528 a2).bind fun t531 => ((impl_ScMul.f t527 t531).bind fun t532 => ((impl_PolyAt.f k bt509.1 a2).bind fun t533 => ((impl_PolyZero.f k (l0_2.length : Int)).bind fun t534 => ((impl_PolyAt.f k t534 a2).bind fun t537 => ((impl_ScMul.f t533 t537).bind fun t538 => ((impl_Mixed.f k bt513.2.2.1 l1).bind fun t539 => ((impl_PolyAt.f k t539 a2).bind fun t542 => ((impl_ScAdd.f t542 t538).bind fun t543 => (some (t532 == t543))))))))))))))) else (some false))
def impl_QapHolds.T5 : Bool × List (List Nat × List Nat) := (true, [([], []), ([0], [0]), ([], []), ([1, 2], [1, 2]), ([], []), ([3, 4, 3], [3, 4]), ([], []), ([6], [6]), ([], []), ([7, 8, 5], [7, 8]), ([], []), ([9, 10, 9], [9, 10]), ([5, 11, 11], [5, 11]), ([12, 12, 0, 1, 2, 3, 4, 5, 6, 7, 8, 9, 10, 11, 12], [12])])
def impl_QapHolds.B5 : List Nat := [0, 1, 0, 7, 0, 31, 0, 64, 0, 511, 0, 2047, 4095, 8191]
theorem impl_QapHolds.tab5 : rtab .any (opsOf Try.f30 5) = impl_QapHolds.T5 := by kernel_rfl
theorem impl_QapHolds.bits5 : waitsOk impl_QapHolds.T5.2 impl_QapHolds.B5 = true := by kernel_rfl
def impl_QapHolds.T6 : Bool × List (List Nat × List Nat) := (true, [([], []), ([], []), ([0, 1], [0, 1]), ([], []), ([3], [3]), ([4], [4]), ([5, 2], [5]), ([], []), ([6, 7, 6], [6, 7]), ([2, 8, 8], [2, 8]), ([9, 9, 0, 1, 2, 3, 4, 5, 6, 7, 8, 9], [9])])
def impl_QapHolds.B6 : List Nat := [0, 0, 3, 0, 8, 24, 63, 0, 255, 511, 1023]
theorem impl_QapHolds.tab6 : rtab .any (opsOf Try.f30 6) = impl_QapHolds.T6 := by kernel_rfl
theorem impl_QapHolds.bits6 : waitsOk impl_QapHolds.T6.2 impl_QapHolds.B6 = true := by kernel_rfl
set_option maxHeartbeats 8000000 in
set_option maxRecDepth 100000 in
theorem impl_QapHolds.calls (k : Nat) (a0_0 : Int) (a0_1 : Int) (A0_2 : Option Addr) (c0_2 : Nat) (l0_2 : List (S40)) (A1 : Option Addr) (c1 : Nat) (l1 : List Int) (a2 : Int) (r : Bool) (w : World) (hr0_2 : Kd.C k40 w A0_2 l0_2.length l0_2) (hc0_2 : l0_2.length ≤ c0_2) (hr1 : Kd.C (Kd.int .i64) w A1 l1.length l1) (hc1 : l1.length ≤ c1) (h : impl_QapHolds.f k a0_0 a0_1 l0_2 l1 a2 = some r) :
  Calls Try.prog 30 #[.agg #[.int .i64 a0_0, .int .i64 a0_1, .slice A0_2 l0_2.length c0_2], .slice A1 l1.length c1, .int .i64 a2] w fun e w' => e = .returned (.bool r) ∧ Below w.heap.size w w' := by
 have hu32 := Try.underlying32
 have hu61 := Try.underlying61
 have HR0_2 := Aside0.mk hr0_2
 have HC0_2 := Aside0.mk hc0_2
 clear hr0_2 hc0_2
 have HR1 := Aside0.mk hr1
 have HC1 := Aside0.mk hc1
 clear hr1 hc1
 have HB := Aside0.mk (Below.refl w.heap.size w)
 have H : ((impl_QuotientOf.f k a0_0 a0_1 l0_2 l1).bind fun bt509 => (if bt509.2 = true then ((impl_QapOf.f k a0_0 a0_1 l0_2).bind fun bt513 => ((impl_Mixed.f k bt513.1 l1).bind fun t524 => ((impl_PolyAt.f k t524 a2).bind fun t527 => ((impl_Mixed.f k bt513.2.1 l1).bind fun t528 => ((impl_PolyAt.f k t528 a2).bind fun t531 => ((impl_ScMul.f t527 t531).bind fun t532 => ((impl_PolyAt.f k bt509.1 a2).bind fun t533 => ((impl_PolyZero.f k (l0_2.length : Int)).bind fun t534 => ((impl_PolyAt.f k t534 a2).bind fun t537 => ((impl_ScMul.f t533 t537).bind fun t538 => ((impl_Mixed.f k bt513.2.2.1 l1).bind fun t539 => ((impl_PolyAt.f k t539 a2).bind fun t542 => ((impl_ScAdd.f t542 t538).bind fun t543 => (some (t532 == t543))))))))))))))) else (some false))) = some r := h
 clear h
 replace H := Option.bind_eq_some_iff.mp H
 obtain ⟨⟨t509, t512⟩, A40, H⟩ := H
 have A4 := Aside0.mk A40
 clear A40
 by_cases c5 : t512 = true
 ·subst c5
  rw [if_pos rfl] at H
  replace H := Option.bind_eq_some_iff.mp H
  obtain ⟨⟨t513, t516, t519, t522⟩, A60, H⟩ := H
  have A6 := Aside0.mk A60
  clear A60
  replace H := Option.bind_eq_some_iff.mp H
  obtain ⟨t524, A70, H⟩ := H
  have A7 := Aside0.mk A70
  clear A70
  replace H := Option.bind_eq_some_iff.mp H
  obtain ⟨t527, A80, H⟩ := H
  have A8 := Aside0.mk A80
  clear A80
  replace H := Option.bind_eq_some_iff.mp H
  obtain ⟨t528, A90, H⟩ := H
  have A9 := Aside0.mk A90
  clear A90
  replace H := Option.bind_eq_some_iff.mp H
  obtain ⟨t531, A100, H⟩ := H
  have A10 := Aside0.mk A100
  clear A100
  replace H := Option.bind_eq_some_iff.mp H
  obtain ⟨t532, A110, H⟩ := H
  have A11 := Aside0.mk A110
  clear A110
  replace H := Option.bind_eq_some_iff.mp H
  obtain ⟨t533, A120, H⟩ := H
  have A12 := Aside0.mk A120
  clear A120
  replace H := Option.bind_eq_some_iff.mp H
  obtain ⟨t534, A130, H⟩ := H
  have A13 := Aside0.mk A130
  clear A130
  replace H := Option.bind_eq_some_iff.mp H
  obtain ⟨t537, A140, H⟩ := H
  have A14 := Aside0.mk A140
  clear A140
  replace H := Option.bind_eq_some_iff.mp H
  obtain ⟨t538, A150, H⟩ := H
  have A15 := Aside0.mk A150
  clear A150
  replace H := Option.bind_eq_some_iff.mp H
  obtain ⟨t539, A160, H⟩ := H
  have A16 := Aside0.mk A160
  clear A160
  replace H := Option.bind_eq_some_iff.mp H
  obtain ⟨t542, A170, H⟩ := H
  have A17 := Aside0.mk A170
  clear A170
  replace H := Option.bind_eq_some_iff.mp H
  obtain ⟨t543, A180, H⟩ := H
  have A18 := Aside0.mk A180
  clear A180
  obtain rfl := Option.some.inj H
  go_enter Try.func30, Try.ntmps30
  try go_wp2_with (first | (refine gB 3 #[.int .i64 a0_0, .int .i64 a0_1, .slice A0_2 l0_2.length c0_2] 32 ?_; intro gb508 hg w19 BK508 hb; have GW508 := bG HB hg; replace HB := bS HB hb; clear hb hg; obtain ⟨hcz20_0, hcz20_1, hcz20_2, hfz20_0, hfz20_1, hfz20_2⟩ := bK3 (w := w19) BK508) | (refine gC (some 16) Try.func26 #[.agg #[.int .i64 a0_0, .int .i64 a0_1, .slice A0_2 l0_2.length c0_2], .slice A1 l1.length c1] ?_; (with_reducible refine (impl_QuotientOf.calls k a0_0 a0_1 _ _ l0_2 _ _ l1 t509 true _ ?side1 ?side2 ?side3 ?side4 A4.out).mono ?_); (case side1 => exact cP (Kd.C_below HR0_2.out HB.out)); (case side2 => exact HC0_2.out); (case side3 => exact cP (Kd.C_below HR1.out HB.out)); (case side4 => exact HC1.out); rintro e w21 ⟨v510, rfl, ho0, hb⟩; refine ⟨_, rfl, ?_⟩; have HO511 := Aside0.mk (Kd.R_lower ho0 (below_size (bZ HB))); replace BK508 := bB BK508 hb; replace HB := bS HB hb; (try clear hb); (try clear ho0); obtain ⟨hcz22_0, hcz22_1, hcz22_2, hfz22_0, hfz22_1, hfz22_2⟩ := bK3 (w := w21) BK508) | (refine gC (some 23) Try.func57 #[.agg #[.int .i64 a0_0, .int .i64 a0_1, .slice A0_2 l0_2.length c0_2]] ?_; (with_reducible refine (impl_QapOf.calls k a0_0 a0_1 _ _ l0_2 t513 t516 t519 t522 _ ?side1 ?side2 A6.out).mono ?_); (case side1 => exact cP (Kd.C_below HR0_2.out HB.out)); (case side2 => exact HC0_2.out); rintro e w23 ⟨v514, v517, v520, rfl, ho0, ho1, ho2, hb⟩; refine ⟨_, rfl, ?_⟩; have HO515 := Aside0.mk (Kd.S_lower (Kd.S_new' ho0 (Kd.R_lt (rP HO511))) (below_size (bZ HB))); have HO518 := Aside0.mk (Kd.S_lower (Kd.S_new' ho1 (Kd.R_lt (rP HO511))) (below_size (bZ HB))); have HO521 := Aside0.mk (Kd.S_lower (Kd.S_new' ho2 (Kd.R_lt (rP HO511))) (below_size (bZ HB))); replace HO511 := Aside0.mk (Kd.R_below (rP HO511) hb); replace BK508 := bB BK508 hb; replace HB := bS HB hb; (try clear hb); (try clear ho0); (try clear ho1); (try clear ho2)) | ((with_reducible refine gate_dst (N := 9) rfl ?_); refine bE 9 #[.slice none 0 0, .slice none 0 0, .slice none 0 0] 61 ?_; intro gb523 hg w24 hbox hb; replace HO511 := Aside0.mk (Kd.R_below (rP HO511) hb); replace HO515 := Aside0.mk (Kd.S_below (by (with_reducible repeat (first | apply Kd.S_alloc | apply Kd.S_drewN | apply Kd.S_drew)); exact HO515.out) hb); replace HO518 := Aside0.mk (Kd.S_below (by (with_reducible repeat (first | apply Kd.S_alloc | apply Kd.S_drewN | apply Kd.S_drew)); exact HO518.out) hb); replace HO521 := Aside0.mk (Kd.S_below (by (with_reducible repeat (first | apply Kd.S_alloc | apply Kd.S_drewN | apply Kd.S_drew)); exact HO521.out) hb); have BK523 := Aside0.mk (hbox); have GW523 := bG HB hg; replace HB := bS HB hb; obtain ⟨NB508_523, NB523_508⟩ := bN BK508 hg; replace BK508 := bB BK508 hb; clear hb hbox hg; obtain ⟨Ao25, co25, eo25⟩ := Kd.S_slice HO515.out; subst eo25; obtain ⟨hnb26, hnc26⟩ := nB NB523_508; obtain ⟨hcz27_0, hcz27_1, hcz27_2, hfz27_0, hfz27_1, hfz27_2⟩ := bK3 (w := w24) BK523; obtain ⟨Ao28, co28, eo28⟩ := Kd.S_slice HO518.out; subst eo28; obtain ⟨Ao29, co29, eo29⟩ := Kd.S_slice HO521.out; subst eo29))
  obtain ⟨w30, hW_⟩ : ∃ W_ : World, W_ = (((w24.setCell ⟨gb523, 0, none⟩ (.slice Ao25 t513.length co25)).setCell ⟨gb523, 1, none⟩ (.slice Ao28 t516.length co28)).setCell ⟨gb523, 2, none⟩ (.slice Ao29 t519.length co29)) := ⟨_, rfl⟩
  have n0_ : Aside0 (Kd.R (Kd.int .i64) 3 (((w24.setCell ⟨gb523, 0, none⟩ (.slice Ao25 t513.length co25)).setCell ⟨gb523, 1, none⟩ (.slice Ao28 t516.length co28)).setCell ⟨gb523, 2, none⟩ (.slice Ao29 t519.length co29)) w.heap.size (fun _ => True) v510 t509) := ⟨by (with_reducible repeat (first | apply Kd.R_alloc | apply Kd.R_drewN | apply Kd.R_drew)); exact Kd.R_mono (Kd.R_far (p := ⟨gb523, 2, none⟩) (Kd.R_far (p := ⟨gb523, 1, none⟩) (Kd.R_far (p := ⟨gb523, 0, none⟩) (Kd.R_types HO511.out BK523.out (by decide)) (fun _ hk => hk.2) (.slice Ao25 t513.length co25)) (fun _ hk => hk.2) (.slice Ao28 t516.length co28)) (fun _ hk => hk.2) (.slice Ao29 t519.length co29)) (fun _ hk => trivial)⟩
  rw [← hW_] at n0_
  have n1_ : Aside0 (Kd.S (Kd.slice 3 (Kd.int .i64)) 22 (((w24.setCell ⟨gb523, 0, none⟩ (.slice Ao25 t513.length co25)).setCell ⟨gb523, 1, none⟩ (.slice Ao28 t516.length co28)).setCell ⟨gb523, 2, none⟩ (.slice Ao29 t519.length co29)) w.heap.size (fun k_ => some k_ ≠ (v510 : Value).ownBlock ∧ some k_ ≠ (.slice Ao28 t516.length co28 : Value).ownBlock ∧ some k_ ≠ (.slice Ao29 t519.length co29 : Value).ownBlock) (.slice Ao25 t513.length co25) t513) := ⟨by (with_reducible repeat (first | apply Kd.S_alloc | apply Kd.S_drewN | apply Kd.S_drew)); exact Kd.S_mono (Kd.S_far (p := ⟨gb523, 2, none⟩) (Kd.S_far (p := ⟨gb523, 1, none⟩) (Kd.S_far (p := ⟨gb523, 0, none⟩) (Kd.S_types HO515.out BK523.out (by decide)) (fun _ hk => hk.2) (.slice Ao25 t513.length co25)) (fun _ hk => hk.2) (.slice Ao28 t516.length co28)) (fun _ hk => hk.2) (.slice Ao29 t519.length co29)) (fun _ hk => ⟨hk.1.2, ⟨hk.1.1.1, hk.1.1.2⟩⟩)⟩
  rw [← hW_] at n1_
  have n2_ : Aside0 (Kd.S (Kd.slice 3 (Kd.int .i64)) 22 (((w24.setCell ⟨gb523, 0, none⟩ (.slice Ao25 t513.length co25)).setCell ⟨gb523, 1, none⟩ (.slice Ao28 t516.length co28)).setCell ⟨gb523, 2, none⟩ (.slice Ao29 t519.length co29)) w.heap.size (fun k_ => some k_ ≠ (v510 : Value).ownBlock ∧ some k_ ≠ (.slice Ao25 t513.length co25 : Value).ownBlock ∧ some k_ ≠ (.slice Ao29 t519.length co29 : Value).ownBlock) (.slice Ao28 t516.length co28) t516) := ⟨by (with_reducible repeat (first | apply Kd.S_alloc | apply Kd.S_drewN | apply Kd.S_drew)); exact Kd.S_mono (Kd.S_far (p := ⟨gb523, 2, none⟩) (Kd.S_far (p := ⟨gb523, 1, none⟩) (Kd.S_far (p := ⟨gb523, 0, none⟩) (Kd.S_types HO518.out BK523.out (by decide)) (fun _ hk => hk.2) (.slice Ao25 t513.length co25)) (fun _ hk => hk.2) (.slice Ao28 t516.length co28)) (fun _ hk => hk.2) (.slice Ao29 t519.length co29)) (fun _ hk => ⟨hk.1.2, ⟨hk.1.1.1, hk.1.1.2⟩⟩)⟩
  rw [← hW_] at n2_
  have n3_ : Aside0 (Kd.S (Kd.slice 3 (Kd.int .i64)) 22 (((w24.setCell ⟨gb523, 0, none⟩ (.slice Ao25 t513.length co25)).setCell ⟨gb523, 1, none⟩ (.slice Ao28 t516.length co28)).setCell ⟨gb523, 2, none⟩ (.slice Ao29 t519.length co29)) w.heap.size (fun k_ => some k_ ≠ (v510 : Value).ownBlock ∧ some k_ ≠ (.slice Ao25 t513.length co25 : Value).ownBlock ∧ some k_ ≠ (.slice Ao28 t516.length co28 : Value).ownBlock) (.slice Ao29 t519.length co29) t519) := ⟨by (with_reducible repeat (first | apply Kd.S_alloc | apply Kd.S_drewN | apply Kd.S_drew)); exact Kd.S_mono (Kd.S_far (p := ⟨gb523, 2, none⟩) (Kd.S_far (p := ⟨gb523, 1, none⟩) (Kd.S_far (p := ⟨gb523, 0, none⟩) (Kd.S_types HO521.out BK523.out (by decide)) (fun _ hk => hk.2) (.slice Ao25 t513.length co25)) (fun _ hk => hk.2) (.slice Ao28 t516.length co28)) (fun _ hk => hk.2) (.slice Ao29 t519.length co29)) (fun _ hk => ⟨hk.1.2, ⟨hk.1.1.1, hk.1.1.2⟩⟩)⟩
  rw [← hW_] at n3_
  replace BK508 := bW hW_ BK508
  replace BK523 := bX hW_ 61 #[.slice Ao25 t513.length co25, .slice Ao28 t516.length co28, .slice Ao29 t519.length co29] BK523
  (try clear HO511)
  (try clear HO515)
  (try clear HO518)
  (try clear HO521)
  have HO511 := n0_
  clear n0_
  have HO515 := n1_
  clear n1_
  have HO518 := n2_
  clear n2_
  have HO521 := n3_
  clear n3_
  replace HB := zW hW_ HB
  rw [← hW_]
  clear hW_
  replace HO511 := Aside0.mk (Kd.R_drew HO511.out)
  replace HO515 := Aside0.mk (Kd.S_drew HO515.out)
  replace HO518 := Aside0.mk (Kd.S_drew HO518.out)
  replace HO521 := Aside0.mk (Kd.S_drew HO521.out)
  replace BK508 := Aside0.mk (blk_drew BK508.out)
  replace BK523 := Aside0.mk (blk_drew BK523.out)
  replace HB := Aside0.mk (below_drew1 HB.out)
  refine start_ (n := 14) (S := fun w' => SQ3 w' gb523 (.slice Ao25 t513.length co25) (.slice Ao28 t516.length co28) (.slice Ao29 t519.length co29)) (ds := []) #[false, false, false, false, false, false, false, false, false, false, false, false, false, false] (by kernel_rfl) rfl rfl (bT3 BK523) (fun hHeld => ?_); refine with_tabW impl_QapHolds.tab5 impl_QapHolds.bits5 (fun HT_ HW_ => ?_)
  generalize w30.drew = w31 at HO511 HO515 HO518 HO521 BK508 BK523 HB hHeld ⊢
  refine pI 0 (some 26) HT_.out ?_
  refine pI 2 (some 28) HT_.out ?_
  refine pI 4 (some 30) HT_.out ?_
  refine pI 6 (some 32) HT_.out ?_
  refine pI 8 (some 34) HT_.out ?_
  refine pI 10 (some 36) HT_.out ?_
  refine tI3 1 (some 27) HT_.out HW_.out hHeld ?_
  refine tI3 7 (some 33) HT_.out HW_.out hHeld ?_
  refine oI 3 (some 29) HT_.out (fun K hK => ?_)
  refine gO Try.func42 #[.slice Ao25 t513.length co25, .slice A1 l1.length c1] ?_
  with_reducible refine (impl_Mixed.calls k _ _ t513 _ _ l1 t524 _ ?side1 ?side2 ?side3 ?side4 A7.out).mono ?_
  (case side1 => exact cP ((Kd.S_reads' HO515.out).2.2))
  (case side2 => exact (Kd.S_reads' HO515.out).2.1)
  (case side3 => exact cP (Kd.C_below HR1.out HB.out))
  (case side4 => exact HC1.out)
  rintro e w32 ⟨v525, rfl, ho0, hb⟩
  refine ⟨_, rfl, ?_⟩
  replace HO515 := Aside0.mk (Kd.S_elder' (by (with_reducible repeat (first | apply Kd.S_alloc | apply Kd.S_drewN | apply Kd.S_drew)); exact HO515.out) (Kd.R_base ho0) hb)
  replace HO518 := Aside0.mk (Kd.S_elder' (by (with_reducible repeat (first | apply Kd.S_alloc | apply Kd.S_drewN | apply Kd.S_drew)); exact HO518.out) (Kd.R_base ho0) hb)
  replace HO521 := Aside0.mk (Kd.S_elder' (by (with_reducible repeat (first | apply Kd.S_alloc | apply Kd.S_drewN | apply Kd.S_drew)); exact HO521.out) (Kd.R_base ho0) hb)
  have HO526 := Aside0.mk (Kd.R_lower (Kd.R_new' ho0 (Kd.R_lt (rP HO511))) (below_size (bZ HB)))
  replace HO511 := Aside0.mk (Kd.R_elder' (rP HO511) (Kd.R_base ho0) hb)
  replace BK508 := bB BK508 hb
  replace BK523 := bB BK523 hb
  replace HB := bS HB hb
  (try clear hb)
  (try clear ho0)
  obtain ⟨Ao33, co33, eo33⟩ := Kd.R_slice HO526.out
  (first | subst eo33 | (injection eo33 with f1_ f2_ f3_; have f4_ := f1_.symm; have f5_ := f3_.symm; clear f1_ f2_ f3_; subst f4_; subst f5_))
  refine hK.out _ _ (bT3 BK523) (fun hHeld => ?_)
  clear hK K
  refine nO (some 29) ?_
  refine oI 5 (some 31) HT_.out (fun K hK => ?_)
  refine gO Try.func17 #[.slice Ao33 t524.length co33, .int .i64 a2] ?_
  with_reducible refine (impl_PolyAt.calls k _ _ t524 a2 t527 _ ?side1 ?side2 A8.out).mono ?_
  (case side1 => exact cP ((Kd.R_reads' HO526.out).2.2))
  (case side2 => exact (Kd.R_reads' HO526.out).2.1)
  rintro e w' ⟨rfl, ⟨nd, rfl⟩⟩
  refine ⟨_, rfl, ?_⟩
  refine hK.out _ _ (bT3 BK523) (fun hHeld => ?_)
  clear hK K
  refine nO (some 31) ?_
  refine oI 9 (some 35) HT_.out (fun K hK => ?_)
  refine gO Try.func42 #[.slice Ao28 t516.length co28, .slice A1 l1.length c1] ?_
  with_reducible refine (impl_Mixed.calls k _ _ t516 _ _ l1 t528 _ ?side1 ?side2 ?side3 ?side4 A9.out).mono ?_
  (case side1 => exact cP ((Kd.S_reads' HO518.out).2.2))
  (case side2 => exact (Kd.S_reads' HO518.out).2.1)
  (case side3 => exact cP (Kd.C_below HR1.out (bZ HB)))
  (case side4 => exact HC1.out)
  rintro e w34 ⟨v529, rfl, ho0, hb⟩
  refine ⟨_, rfl, ?_⟩
  replace HO515 := Aside0.mk (Kd.S_elder' (by (with_reducible repeat (first | apply Kd.S_alloc | apply Kd.S_drewN | apply Kd.S_drew)); exact HO515.out) (Kd.R_base ho0) hb)
  replace HO518 := Aside0.mk (Kd.S_elder' (by (with_reducible repeat (first | apply Kd.S_alloc | apply Kd.S_drewN | apply Kd.S_drew)); exact HO518.out) (Kd.R_base ho0) hb)
  replace HO521 := Aside0.mk (Kd.S_elder' (by (with_reducible repeat (first | apply Kd.S_alloc | apply Kd.S_drewN | apply Kd.S_drew)); exact HO521.out) (Kd.R_base ho0) hb)
  have HO530 := Aside0.mk (Kd.R_lower (Kd.R_new' (Kd.R_new' ho0 (Kd.R_lt (rP HO511))) (Kd.R_lt (rP HO526))) (below_size (bZ HB)))
  replace HO511 := Aside0.mk (Kd.R_elder' (rP HO511) (Kd.R_base ho0) hb)
  replace HO526 := Aside0.mk (Kd.R_elder' (rP HO526) (Kd.R_base ho0) hb)
  replace BK508 := bB BK508 hb
  replace BK523 := bB BK523 hb
  replace HB := bS HB hb
  (try clear hb)
  (try clear ho0)
  obtain ⟨Ao35, co35, eo35⟩ := Kd.R_slice HO530.out
  (first | subst eo35 | (injection eo35 with f1_ f2_ f3_; have f4_ := f1_.symm; have f5_ := f3_.symm; clear f1_ f2_ f3_; subst f4_; subst f5_))
  refine hK.out _ _ (bT3 BK523) (fun hHeld => ?_)
  clear hK K
  refine nO (some 35) ?_
  refine oI 11 (some 37) HT_.out (fun K hK => ?_)
  refine gO Try.func17 #[.slice Ao35 t528.length co35, .int .i64 a2] ?_
  with_reducible refine (impl_PolyAt.calls k _ _ t528 a2 t531 _ ?side1 ?side2 A10.out).mono ?_
  (case side1 => exact cP ((Kd.R_reads' HO530.out).2.2))
  (case side2 => exact (Kd.R_reads' HO530.out).2.1)
  rintro e w' ⟨rfl, ⟨nd, rfl⟩⟩
  refine ⟨_, rfl, ?_⟩
  refine hK.out _ _ (bT3 BK523) (fun hHeld => ?_)
  clear hK K
  refine nO (some 37) ?_
  refine oI 12 (some 38) HT_.out (fun K hK => ?_)
  refine gO Try.func49 #[.int .i64 t527, .int .i64 t531] ?_
  with_reducible refine (impl_ScMul.calls t527 t531 t532 _ A11.out).mono ?_
  rintro e w' ⟨rfl, ⟨nd, rfl⟩⟩
  refine ⟨_, rfl, ?_⟩
  refine hK.out _ _ (bT3 BK523) (fun hHeld => ?_)
  clear hK K
  refine nO (some 38) ?_
  refine pI 13 (some 11) HT_.out ?_
  refine done_ (done_of HT_.out (by kernel_rfl)) ?_
  try go_wp2
  (try simp only [World.drewN_drewN]); (try (rw [drewN_self w34]; generalize hq_ : World.drewN w34 _ = w34; replace HO511 : Aside0 (Kd.R (Kd.int .i64) 3 w34 w.heap.size (fun k_ => some k_ ≠ (.slice Ao33 t524.length co33 : Value).ownBlock ∧ some k_ ≠ (.slice Ao35 t528.length co35 : Value).ownBlock) v510 t509) := ⟨by rw [← hq_]; exact (by (with_reducible repeat (first | apply Kd.R_alloc | apply Kd.R_drewN | apply Kd.R_drew)); exact Kd.R_mono HO511.out (fun _ hk => ⟨hk.1.2, hk.2⟩))⟩; replace HO515 : Aside0 (Kd.S (Kd.slice 3 (Kd.int .i64)) 22 w34 w.heap.size (fun k_ => some k_ ≠ (v510 : Value).ownBlock ∧ some k_ ≠ (.slice Ao28 t516.length co28 : Value).ownBlock ∧ some k_ ≠ (.slice Ao29 t519.length co29 : Value).ownBlock ∧ some k_ ≠ (.slice Ao33 t524.length co33 : Value).ownBlock ∧ some k_ ≠ (.slice Ao35 t528.length co35 : Value).ownBlock) (.slice Ao25 t513.length co25) t513) := ⟨by rw [← hq_]; exact (by (with_reducible repeat (first | apply Kd.S_alloc | apply Kd.S_drewN | apply Kd.S_drew)); exact Kd.S_mono HO515.out (fun _ hk => ⟨hk.1.1.1, ⟨hk.1.1.2.1, ⟨hk.1.1.2.2, ⟨hk.1.2, hk.2⟩⟩⟩⟩))⟩; replace HO518 : Aside0 (Kd.S (Kd.slice 3 (Kd.int .i64)) 22 w34 w.heap.size (fun k_ => some k_ ≠ (v510 : Value).ownBlock ∧ some k_ ≠ (.slice Ao25 t513.length co25 : Value).ownBlock ∧ some k_ ≠ (.slice Ao29 t519.length co29 : Value).ownBlock ∧ some k_ ≠ (.slice Ao33 t524.length co33 : Value).ownBlock ∧ some k_ ≠ (.slice Ao35 t528.length co35 : Value).ownBlock) (.slice Ao28 t516.length co28) t516) := ⟨by rw [← hq_]; exact (by (with_reducible repeat (first | apply Kd.S_alloc | apply Kd.S_drewN | apply Kd.S_drew)); exact Kd.S_mono HO518.out (fun _ hk => ⟨hk.1.1.1, ⟨hk.1.1.2.1, ⟨hk.1.1.2.2, ⟨hk.1.2, hk.2⟩⟩⟩⟩))⟩; replace HO521 : Aside0 (Kd.S (Kd.slice 3 (Kd.int .i64)) 22 w34 w.heap.size (fun k_ => some k_ ≠ (v510 : Value).ownBlock ∧ some k_ ≠ (.slice Ao25 t513.length co25 : Value).ownBlock ∧ some k_ ≠ (.slice Ao28 t516.length co28 : Value).ownBlock ∧ some k_ ≠ (.slice Ao33 t524.length co33 : Value).ownBlock ∧ some k_ ≠ (.slice Ao35 t528.length co35 : Value).ownBlock) (.slice Ao29 t519.length co29) t519) := ⟨by rw [← hq_]; exact (by (with_reducible repeat (first | apply Kd.S_alloc | apply Kd.S_drewN | apply Kd.S_drew)); exact Kd.S_mono HO521.out (fun _ hk => ⟨hk.1.1.1, ⟨hk.1.1.2.1, ⟨hk.1.1.2.2, ⟨hk.1.2, hk.2⟩⟩⟩⟩))⟩; replace HO526 : Aside0 (Kd.R (Kd.int .i64) 3 w34 w.heap.size (fun k_ => some k_ ≠ (v510 : Value).ownBlock ∧ some k_ ≠ (.slice Ao35 t528.length co35 : Value).ownBlock) (.slice Ao33 t524.length co33) t524) := ⟨by rw [← hq_]; exact (by (with_reducible repeat (first | apply Kd.R_alloc | apply Kd.R_drewN | apply Kd.R_drew)); exact Kd.R_mono HO526.out (fun _ hk => ⟨hk.1.2, hk.2⟩))⟩; replace HO530 : Aside0 (Kd.R (Kd.int .i64) 3 w34 w.heap.size (fun k_ => some k_ ≠ (v510 : Value).ownBlock ∧ some k_ ≠ (.slice Ao33 t524.length co33 : Value).ownBlock) (.slice Ao35 t528.length co35) t528) := ⟨by rw [← hq_]; exact (by (with_reducible repeat (first | apply Kd.R_alloc | apply Kd.R_drewN | apply Kd.R_drew)); exact Kd.R_mono HO530.out (fun _ hk => ⟨hk.1.2, hk.2⟩))⟩; replace BK508 : Aside0 (w34.heap[gb508]? = some (.cells #[.int .i64 a0_0, .int .i64 a0_1, .slice A0_2 l0_2.length c0_2] 32 (0, 0))) := ⟨by rw [← hq_]; exact (bP BK508)⟩; replace BK523 : Aside0 (w34.heap[gb523]? = some (.cells #[.slice Ao25 t513.length co25, .slice Ao28 t516.length co28, .slice Ao29 t519.length co29] 61 (0, 0))) := ⟨by rw [← hq_]; exact (bP BK523)⟩; replace HB : Aside0 (Below w.heap.size w w34) := ⟨by rw [← hq_]; exact (bZ HB)⟩; clear hq_))
  replace HO511 := Aside0.mk (Kd.R_drew HO511.out)
  replace HO515 := Aside0.mk (Kd.S_drew HO515.out)
  replace HO518 := Aside0.mk (Kd.S_drew HO518.out)
  replace HO521 := Aside0.mk (Kd.S_drew HO521.out)
  replace HO526 := Aside0.mk (Kd.R_drew HO526.out)
  replace HO530 := Aside0.mk (Kd.R_drew HO530.out)
  replace BK508 := Aside0.mk (blk_drew BK508.out)
  replace BK523 := Aside0.mk (blk_drew BK523.out)
  replace HB := Aside0.mk (below_drew1 HB.out)
  obtain ⟨Ao37, co37, eo37⟩ := Kd.R_slice HO511.out
  (first | subst eo37 | (injection eo37 with f1_ f2_ f3_; have f4_ := f1_.symm; have f5_ := f3_.symm; clear f1_ f2_ f3_; subst f4_; subst f5_))
  refine start_ (n := 11) (S := fun w' => SQ3 w' gb508 (.int .i64 a0_0) (.int .i64 a0_1) (.slice A0_2 l0_2.length c0_2)) (ds := []) #[false, false, false, false, false, false, false, false, false, false, false] (by kernel_rfl) rfl rfl (bT3 BK508) (fun hHeld => ?_); refine with_tabW impl_QapHolds.tab6 impl_QapHolds.bits6 (fun HT_ HW_ => ?_)
  generalize w34.drew = w36 at HO511 HO515 HO518 HO521 HO526 HO530 BK508 BK523 HB hHeld ⊢
  refine pI 0 (some 39) HT_.out ?_
  refine pI 1 (some 40) HT_.out ?_
  refine pI 3 (some 42) HT_.out ?_
  refine pI 7 (some 46) HT_.out ?_
  refine tI3 4 (some 43) HT_.out HW_.out hHeld ?_
  refine pI 5 (some 44) HT_.out ?_
  refine oI 2 (some 41) HT_.out (fun K hK => ?_)
  refine gO Try.func17 #[.slice Ao37 t509.length co37, .int .i64 a2] ?_
  with_reducible refine (impl_PolyAt.calls k _ _ t509 a2 t533 _ ?side1 ?side2 A12.out).mono ?_
  (case side1 => exact cP ((Kd.R_reads' HO511.out).2.2))
  (case side2 => exact (Kd.R_reads' HO511.out).2.1)
  rintro e w' ⟨rfl, ⟨nd, rfl⟩⟩
  refine ⟨_, rfl, ?_⟩
  refine hK.out _ _ (bT3 BK508) (fun hHeld => ?_)
  clear hK K
  refine nO (some 41) ?_
  refine oI 6 (some 45) HT_.out (fun K hK => ?_)
  refine gO Try.func36 #[.int .i64 (l0_2.length : Int)] ?_
  with_reducible refine (impl_PolyZero.calls k (l0_2.length : Int) t534 _ A13.out).mono ?_
  rintro e w38 ⟨v535, rfl, ho0, hb⟩
  refine ⟨_, rfl, ?_⟩
  replace HO515 := Aside0.mk (Kd.S_elder' (by (with_reducible repeat (first | apply Kd.S_alloc | apply Kd.S_drewN | apply Kd.S_drew)); exact HO515.out) (Kd.R_base ho0) hb)
  replace HO518 := Aside0.mk (Kd.S_elder' (by (with_reducible repeat (first | apply Kd.S_alloc | apply Kd.S_drewN | apply Kd.S_drew)); exact HO518.out) (Kd.R_base ho0) hb)
  replace HO521 := Aside0.mk (Kd.S_elder' (by (with_reducible repeat (first | apply Kd.S_alloc | apply Kd.S_drewN | apply Kd.S_drew)); exact HO521.out) (Kd.R_base ho0) hb)
  have HO536 := Aside0.mk (Kd.R_lower (Kd.R_new' (Kd.R_new' (Kd.R_new' ho0 (Kd.R_lt (rP HO511))) (Kd.R_lt (rP HO526))) (Kd.R_lt (rP HO530))) (below_size (bZ HB)))
  replace HO511 := Aside0.mk (Kd.R_elder' (rP HO511) (Kd.R_base ho0) hb)
  replace HO526 := Aside0.mk (Kd.R_elder' (rP HO526) (Kd.R_base ho0) hb)
  replace HO530 := Aside0.mk (Kd.R_elder' (rP HO530) (Kd.R_base ho0) hb)
  replace BK508 := bB BK508 hb
  replace BK523 := bB BK523 hb
  replace HB := bS HB hb
  (try clear hb)
  (try clear ho0)
  obtain ⟨Ao39, co39, eo39⟩ := Kd.R_slice HO536.out
  (first | subst eo39 | (injection eo39 with f1_ f2_ f3_; have f4_ := f1_.symm; have f5_ := f3_.symm; clear f1_ f2_ f3_; subst f4_; subst f5_))
  refine hK.out _ _ (bT3 BK508) (fun hHeld => ?_)
  clear hK K
  refine nO (some 45) ?_
  refine oI 8 (some 47) HT_.out (fun K hK => ?_)
  refine gO Try.func17 #[.slice Ao39 t534.length co39, .int .i64 a2] ?_
  with_reducible refine (impl_PolyAt.calls k _ _ t534 a2 t537 _ ?side1 ?side2 A14.out).mono ?_
  (case side1 => exact cP ((Kd.R_reads' HO536.out).2.2))
  (case side2 => exact (Kd.R_reads' HO536.out).2.1)
  rintro e w' ⟨rfl, ⟨nd, rfl⟩⟩
  refine ⟨_, rfl, ?_⟩
  refine hK.out _ _ (bT3 BK508) (fun hHeld => ?_)
  clear hK K
  refine nO (some 47) ?_
  refine oI 9 (some 48) HT_.out (fun K hK => ?_)
  refine gO Try.func49 #[.int .i64 t533, .int .i64 t537] ?_
  with_reducible refine (impl_ScMul.calls t533 t537 t538 _ A15.out).mono ?_
  rintro e w' ⟨rfl, ⟨nd, rfl⟩⟩
  refine ⟨_, rfl, ?_⟩
  refine hK.out _ _ (bT3 BK508) (fun hHeld => ?_)
  clear hK K
  refine nO (some 48) ?_
  refine pI 10 (some 12) HT_.out ?_
  refine done_ (done_of HT_.out (by kernel_rfl)) ?_
  obtain ⟨hcz40_0, hcz40_1, hcz40_2, hfz40_0, hfz40_1, hfz40_2⟩ := bK3 (w := w38) BK523
  try go_wp2_with (first | (refine gC (some 53) Try.func42 #[.slice Ao29 t519.length co29, .slice A1 l1.length c1] ?_; (with_reducible refine (impl_Mixed.calls k _ _ t519 _ _ l1 t539 _ ?side1 ?side2 ?side3 ?side4 A16.out).mono ?_); (case side1 => exact cP ((Kd.S_reads' HO521.out).2.2)); (case side2 => exact (Kd.S_reads' HO521.out).2.1); (case side3 => exact cP (Kd.C_below HR1.out (bZ HB))); (case side4 => exact HC1.out); rintro e w41 ⟨v540, rfl, ho0, hb⟩; refine ⟨_, rfl, ?_⟩; replace HO515 := Aside0.mk (Kd.S_elder' (by (with_reducible repeat (first | apply Kd.S_alloc | apply Kd.S_drewN | apply Kd.S_drew)); exact HO515.out) (Kd.R_base ho0) hb); replace HO518 := Aside0.mk (Kd.S_elder' (by (with_reducible repeat (first | apply Kd.S_alloc | apply Kd.S_drewN | apply Kd.S_drew)); exact HO518.out) (Kd.R_base ho0) hb); replace HO521 := Aside0.mk (Kd.S_elder' (by (with_reducible repeat (first | apply Kd.S_alloc | apply Kd.S_drewN | apply Kd.S_drew)); exact HO521.out) (Kd.R_base ho0) hb); have HO541 := Aside0.mk (Kd.R_lower (Kd.R_new' (Kd.R_new' (Kd.R_new' (Kd.R_new' ho0 (Kd.R_lt (rP HO511))) (Kd.R_lt (rP HO526))) (Kd.R_lt (rP HO530))) (Kd.R_lt (rP HO536))) (below_size (bZ HB))); replace HO511 := Aside0.mk (Kd.R_elder' (rP HO511) (Kd.R_base ho0) hb); replace HO526 := Aside0.mk (Kd.R_elder' (rP HO526) (Kd.R_base ho0) hb); replace HO530 := Aside0.mk (Kd.R_elder' (rP HO530) (Kd.R_base ho0) hb); replace HO536 := Aside0.mk (Kd.R_elder' (rP HO536) (Kd.R_base ho0) hb); replace BK508 := bB BK508 hb; replace BK523 := bB BK523 hb; replace HB := bS HB hb; (try clear hb); (try clear ho0); obtain ⟨Ao42, co42, eo42⟩ := Kd.R_slice HO541.out; subst eo42) | (refine gC (some 55) Try.func17 #[.slice Ao42 t539.length co42, .int .i64 a2] ?_; (with_reducible refine (impl_PolyAt.calls k _ _ t539 a2 t542 _ ?side1 ?side2 A17.out).mono ?_); (case side1 => exact cP ((Kd.R_reads' HO541.out).2.2)); (case side2 => exact (Kd.R_reads' HO541.out).2.1); rintro e w' ⟨rfl, ⟨nd, rfl⟩⟩; refine ⟨_, rfl, ?_⟩) | (refine gC (some 57) Try.func50 #[.int .i64 t542, .int .i64 t538] ?_; (with_reducible refine (impl_ScAdd.calls t542 t538 t543 _ A18.out).mono ?_); rintro e w' ⟨rfl, ⟨nd, rfl⟩⟩; refine ⟨_, rfl, ?_⟩))
  go_ret
  exact ⟨rR, bZ HB⟩
 ·replace c5 := Bool.eq_false_iff.mpr c5
  subst c5
  rw [if_neg (show ¬ (false = true) by decide)] at H
  obtain rfl := Option.some.inj H
  go_enter Try.func30, Try.ntmps30
  go_wp2_with (first | (refine gB 3 #[.int .i64 a0_0, .int .i64 a0_1, .slice A0_2 l0_2.length c0_2] 32 ?_; intro gb508 hg w43 BK508 hb; have GW508 := bG HB hg; replace HB := bS HB hb; clear hb hg; obtain ⟨hcz44_0, hcz44_1, hcz44_2, hfz44_0, hfz44_1, hfz44_2⟩ := bK3 (w := w43) BK508) | (refine gC (some 16) Try.func26 #[.agg #[.int .i64 a0_0, .int .i64 a0_1, .slice A0_2 l0_2.length c0_2], .slice A1 l1.length c1] ?_; (with_reducible refine (impl_QuotientOf.calls k a0_0 a0_1 _ _ l0_2 _ _ l1 t509 false _ ?side1 ?side2 ?side3 ?side4 A4.out).mono ?_); (case side1 => exact cP (Kd.C_below HR0_2.out HB.out)); (case side2 => exact HC0_2.out); (case side3 => exact cP (Kd.C_below HR1.out HB.out)); (case side4 => exact HC1.out); rintro e w45 ⟨v510, rfl, ho0, hb⟩; refine ⟨_, rfl, ?_⟩; have HO511 := Aside0.mk (Kd.R_lower ho0 (below_size (bZ HB))); replace BK508 := bB BK508 hb; replace HB := bS HB hb; (try clear hb); (try clear ho0)))
  go_ret
  exact ⟨rR, bZ HB⟩
end Go.Proofs.Ytcnejiflpioaiaa.Pf
end
