/- What is proved here: part 2 of 6 of the proof of the given statement FnRows: the contracts of the Go functions that it reaches, the plain facts on lists and numbers, and (in the last part) the statement itself. No conditions beyond the given ones. -/
import Derived.Test.YthdpfjkdpeamnaaMFnRowswSlim
import Derived.Test.YthdpfjkdpeamnaaMFnRowsa

section
namespace Go.Proofs.Ythdpfjkdpeamnaa.Pf
open Go.RowKit Go.Proofs.YthdpfjkdpeamnaaW.PrintWords Go.Proofs.YthdpfjkdpeamnaaW.PrintLast Go.Proofs.YthdpfjkdpeamnaaW.PrintMore
attribute [local go_sem] max2_int min2_int max_two min_two max_three min_three max_four min_four
set_option linter.unusedVariables false
set_option linter.unusedSimpArgs false
set_option maxHeartbeats 8000000
set_option maxRecDepth 100000
theorem lit_event {P : Program} {ops : Array Oper} {rest : List Oper} {o : Oper} {a : Act} {Q : Exit → Act → World → Prop} {W : World} (hgd : o.guard = none) {N : Tmp} (_hd : o.dst = some N) {cs : Array Value} {t : TypeId} {n : Nat}
  (hrun : (execOp a.eval o).run P W = .ok (.value (.slice (some ⟨W.heap.size, 0, none⟩) n n)) (W.alloc (.cells cs t (0, 0))))
  (h : ∀ g, g = W.heap.size → ∀ w1, w1.heap[g]? = some (.cells cs t (0, 0)) → Below W.heap.size W w1 → wpList P ops Q rest (a.put o.dst (.slice (some ⟨g, 0, none⟩) n n)) w1) : wpList P ops Q (o :: rest) a W :=
 Kd.event_run hgd hrun (h _ rfl _ (blk_new W _) (below_alloc (Below.refl _ _) _))
mutual
def impl_SystemOk.j0 : Nat → Bool → Int → Int → List (S75) → Option (Bool)
 | 0, _, _, _, _ => none
 | k + 1, x27, x191000, x191001, x191002 => if x27 = true then (some false) else (if (x191002.length : Int) < 1 then (impl_SystemOk.j1 k true x191000 x191001 x191002) else (impl_SystemOk.j1 k (decide ((x191002.length : Int) > 16)) x191000 x191001 x191002))
def impl_SystemOk.j1 : Nat → Bool → Int → Int → List (S75) → Option (Bool)
 | 0, _, _, _, _ => none
 | k + 1, x37, x191000, x191001, x191002 => if x37 = true then (some false) else (impl_SystemOk.l0 k x191002 (x191002.length : Int) 0 x191000 x191001 x191002)
def impl_SystemOk.l0 : Nat → List (S75) → Int → Int → Int → Int → List (S75) → Option (Bool)
 | 0, _, _, _, _, _, _ => none
 | k + 1, x39, x40, x41, x191000, x191001, x191002 => if x41 < x40 then (if 0 ≤ x41 then (if x41 < (x39.length : Int) then (if (((rd_T75 x39 x41).f0).length : Int) = x191000 then ((impl_areScalars.f k ((rd_T75 x39 x41).f0)).bind fun t193 => (impl_SystemOk.j3 k x39 x40 x41 (!t193) x191000 x191001 x191002 ((rd_T75 x39 x41).f0) ((rd_T75 x39 x41).f1) ((rd_T75 x39 x41).f2))) else (impl_SystemOk.j3 k x39 x40 x41 true x191000 x191001 x191002 ((rd_T75 x39 x41).f0) ((rd_T75 x39 x41).f1) ((rd_T75 x39 x41).f2))) else (none)) else (none)) else (some true)
def impl_SystemOk.j3 : Nat → List (S75) → Int → Int → Bool → Int → Int → List (S75) → List Int → List Int → List Int → Option (Bool)
 | 0, _, _, _, _, _, _, _, _, _, _ => none
 | k + 1, x39, x40, x41, x66, x191000, x191001, x191002, x193000, x193001, x193002 => if x66 = true then (some false) else (if (x193001.length : Int) = x191000 then ((impl_areScalars.f k x193001).bind fun t194 => (impl_SystemOk.j4 k x39 x40 x41 (!t194) x191000 x191001 x191002 x193000 x193001 x193002)) else (impl_SystemOk.j4 k x39 x40 x41 true x191000 x191001 x191002 x193000 x193001 x193002))
def impl_SystemOk.j4 : Nat → List (S75) → Int → Int → Bool → Int → Int → List (S75) → List Int → List Int → List Int → Option (Bool)
 | 0, _, _, _, _, _, _, _, _, _, _ => none
 | k + 1, x39, x40, x41, x66, x191000, x191001, x191002, x193000, x193001, x193002 => if x66 = true then (some false) else (if (x193002.length : Int) = x191000 then ((impl_areScalars.f k x193002).bind fun t195 => (if t195 = true then (impl_SystemOk.l0 k x39 x40 (wrap64 (x41 + 1)) x191000 x191001 x191002) else (some false))) else (some false))
end
def impl_SystemOk.f (k : Nat) (a0_0 : Int) (a0_1 : Int) (l0_2 : List (S75)) : Option (Bool) := if a0_0 < 1 then (impl_SystemOk.j0 k true a0_0 a0_1 l0_2) else (if a0_0 > 20 then (impl_SystemOk.j0 k true a0_0 a0_1 l0_2) else (if a0_1 < 0 then (impl_SystemOk.j0 k true a0_0 a0_1 l0_2) else (impl_SystemOk.j0 k (decide (a0_1 > (wrap64 (a0_0 - 1)))) a0_0 a0_1 l0_2)))
theorem impl_SystemOk.calls (k : Nat) (a0_0 : Int) (a0_1 : Int) (A0_2 : Option Addr) (c0_2 : Nat) (l0_2 : List (S75)) (r : Bool) (w : World) (hr0_2 : Kd.C k75 w A0_2 l0_2.length l0_2) (hc0_2 : l0_2.length ≤ c0_2) (h : impl_SystemOk.f k a0_0 a0_1 l0_2 = some r) :
  Calls Try.prog 45 #[.agg #[.int .i64 a0_0, .int .i64 a0_1, .slice A0_2 l0_2.length c0_2]] w fun e w' => e = .returned (.bool r) ∧ Below w.heap.size w w' := by
 have hu43 := Try.underlying43
 have hu75 := Try.underlying75
 have HR0_2 := Aside0.mk hr0_2
 have HC0_2 := Aside0.mk hc0_2
 clear hr0_2 hc0_2
 have HB := Aside0.mk (Below.refl w.heap.size w)
 have H : (if a0_0 < 1 then (impl_SystemOk.j0 k true a0_0 a0_1 l0_2) else (if a0_0 > 20 then (impl_SystemOk.j0 k true a0_0 a0_1 l0_2) else (if a0_1 < 0 then (impl_SystemOk.j0 k true a0_0 a0_1 l0_2) else (impl_SystemOk.j0 k (decide (a0_1 > (wrap64 (a0_0 - 1)))) a0_0 a0_1 l0_2)))) = some r := h
 clear h
 have HC2 := Aside0.mk H
 clear H
 go_enter Try.func45, Try.ntmps45
 go_upto_region 1 with (first | ((with_reducible refine gate_dst (N := 1) rfl ?_); (try (refine gate_guard (by rfl) ?_; dsimp only)); refine box_event ?hg (N := 1) ?hd (cs := #[.int .i64 a0_0, .int .i64 a0_1, .slice A0_2 l0_2.length c0_2]) (t := 43) ?hr ?_; (case hd => rfl); (case hg => rfl); (case hr => first | (go_simp; done) | (go_simp; rfl)); intro gb190 hg w3 hbox hb; have BK190 := Aside0.mk (hbox); have GW190 := bG HB hg; replace HB := bS HB hb; clear hb hbox hg))
 (try simp only [Act.put, List.setIfInBounds_toArray, List.set_cons_zero, List.set_cons_succ])
 go_cut [27] (fun v27 wc => ∃ (kq : Nat) (x27_1 : Bool), v27 = .bool x27_1 ∧ Aside0 (impl_SystemOk.j0 kq x27_1 a0_0 a0_1 l0_2 = some r) ∧ Aside0 (kq ≤ k) ∧ Aside0 (wc.heap[gb190]? = some (.cells #[.int .i64 a0_0, .int .i64 a0_1, (.slice A0_2 l0_2.length c0_2)] 43 (0, 0))) ∧ Aside0 (Below w.heap.size w wc))
 case first =>
  have H := HC2.out
  clear HC2
  by_cases c4 : a0_0 < 1
  ·rw [if_pos c4] at H
   have c4b0 := decide_eq_true c4
   clear c4
   (first | rw [c4b0] | (simp only [i64_w, i32_w]; rw [c4b0]) | rw [c4b1] | skip)
   have H' := Aside0.mk H
   clear H
   obtain ⟨hcz5_0, hcz5_1, hcz5_2, hfz5_0, hfz5_1, hfz5_2⟩ := bK3 (w := w3) BK190
   go_wp2
   go_meet
   case rel => exact ⟨_, (true), rS, H', ⟨by first | omega | exact Nat.le_refl _⟩, ⟨bP BK190⟩, ⟨bZ HB⟩⟩
  ·rw [if_neg c4] at H
   have c4b0 := decide_eq_false c4
   clear c4
   (first | rw [c4b0] | (simp only [i64_w, i32_w]; rw [c4b0]) | rw [c4b1] | skip)
   by_cases c6 : a0_0 > 20
   ·rw [if_pos c6] at H
    have c6b0 := decide_eq_true c6
    clear c6
    have H' := Aside0.mk H
    clear H
    obtain ⟨hcz7_0, hcz7_1, hcz7_2, hfz7_0, hfz7_1, hfz7_2⟩ := bK3 (w := w3) BK190
    go_wp2
    go_meet
    case rel => exact ⟨_, (true), rS, H', ⟨by first | omega | exact Nat.le_refl _⟩, ⟨bP BK190⟩, ⟨bZ HB⟩⟩
   ·rw [if_neg c6] at H
    have c6b0 := decide_eq_false c6
    clear c6
    by_cases c8 : a0_1 < 0
    ·rw [if_pos c8] at H
     have c8b0 := decide_eq_true c8
     clear c8
     have H' := Aside0.mk H
     clear H
     obtain ⟨hcz9_0, hcz9_1, hcz9_2, hfz9_0, hfz9_1, hfz9_2⟩ := bK3 (w := w3) BK190
     go_wp2
     go_meet
     case rel => exact ⟨_, (true), rS, H', ⟨by first | omega | exact Nat.le_refl _⟩, ⟨bP BK190⟩, ⟨bZ HB⟩⟩
    ·rw [if_neg c8] at H
     have c8b0 := decide_eq_false c8
     clear c8
     have H' := Aside0.mk H
     clear H
     obtain ⟨hcz10_0, hcz10_1, hcz10_2, hfz10_0, hfz10_1, hfz10_2⟩ := bK3 (w := w3) BK190
     go_wp2
     go_meet
     case rel => exact ⟨_, (decide (a0_1 > (wrap64 (a0_0 - 1)))), rS, H', ⟨by first | omega | exact Nat.le_refl _⟩, ⟨bP BK190⟩, ⟨bZ HB⟩⟩
 case rest =>
  clear HC2
  try clear p2
  try clear c4
  try clear c4b0
  try clear c6
  try clear c6b0
  try clear p6
  try clear c8
  try clear c8b0
  try clear hcz10_0
  try clear hcz10_1
  try clear hcz10_2
  try clear hcz5_0
  try clear hcz5_1
  try clear hcz5_2
  try clear hcz7_0
  try clear hcz7_1
  try clear hcz7_2
  try clear hcz9_0
  try clear hcz9_1
  try clear hcz9_2
  try clear hfz10_0
  try clear hfz10_1
  try clear hfz10_2
  try clear hfz5_0
  try clear hfz5_1
  try clear hfz5_2
  try clear hfz7_0
  try clear hfz7_1
  try clear hfz7_2
  try clear hfz9_0
  try clear hfz9_1
  try clear hfz9_2
  obtain ⟨kq, x27_1, rfl, HA, HJ1, BK190, HB⟩ := hcut
  cases kq with
  | zero => exact absurd HA.out (by simp [impl_SystemOk.j0])
  | succ kj1 =>
   have H := HA.out
   clear HA
   simp only [impl_SystemOk.j0] at H
   by_cases c11 : x27_1 = true
   ·subst c11
    rw [if_pos rfl] at H
    obtain rfl := Option.some.inj H
    go_wp2
    go_ret
    exact ⟨rR, bZ HB⟩
   ·replace c11 := Bool.eq_false_iff.mpr c11
    subst c11
    rw [if_neg (show ¬ (false = true) by decide)] at H
    have HC12 := Aside0.mk H
    clear H
    go_upto_region 3 with (fail)
    go_cut [37] (fun v37 wc => ∃ (kq : Nat) (x37_11 : Bool), v37 = .bool x37_11 ∧ Aside0 (impl_SystemOk.j1 kq x37_11 a0_0 a0_1 l0_2 = some r) ∧ Aside0 (kq ≤ kj1) ∧ Aside0 (wc.heap[gb190]? = some (.cells #[.int .i64 a0_0, .int .i64 a0_1, (.slice A0_2 l0_2.length c0_2)] 43 (0, 0))) ∧ Aside0 (Below w.heap.size w wc))
    case first =>
     have H := HC12.out
     clear HC12
     by_cases c13 : (l0_2.length : Int) < 1
     ·rw [if_pos c13] at H
      have c13b0 := decide_eq_true c13
      have c13b1 : decide (l0_2.length < 1) = true := decide_eq_true (by omega)
      clear c13
      (first | rw [c13b0] | (simp only [i64_w, i32_w]; rw [c13b0]) | rw [c13b1] | skip)
      have H' := Aside0.mk H
      clear H
      obtain ⟨hcz14_0, hcz14_1, hcz14_2, hfz14_0, hfz14_1, hfz14_2⟩ := bK3 (w := wc) BK190
      go_wp2
      go_meet
      case rel => exact ⟨_, (true), rS, H', ⟨by have := HJ1.out; first | omega | exact Nat.le_refl _⟩, ⟨bP BK190⟩, ⟨bZ HB⟩⟩
     ·rw [if_neg c13] at H
      have c13b0 := decide_eq_false c13
      have c13b1 : decide (l0_2.length < 1) = false := decide_eq_false (by omega)
      clear c13
      (first | rw [c13b0] | (simp only [i64_w, i32_w]; rw [c13b0]) | rw [c13b1] | skip)
      have H' := Aside0.mk H
      clear H
      obtain ⟨hcz15_0, hcz15_1, hcz15_2, hfz15_0, hfz15_1, hfz15_2⟩ := bK3 (w := wc) BK190
      go_wp2
      go_meet
      case rel => exact ⟨_, (decide ((l0_2.length : Int) > 16)), rS, H', ⟨by have := HJ1.out; first | omega | exact Nat.le_refl _⟩, ⟨bP BK190⟩, ⟨bZ HB⟩⟩
    case rest =>
     clear HC12
     try clear c1
     try clear p2
     try clear c4
     try clear c4b0
     try clear c6
     try clear c6b0
     try clear p6
     try clear c8
     try clear c8b0
     try clear c11
     try clear c13
     try clear c13b0
     try clear c13b1
     try clear hcz10_0
     try clear hcz10_1
     try clear hcz10_2
     try clear hcz14_0
     try clear hcz14_1
     try clear hcz14_2
     try clear hcz15_0
     try clear hcz15_1
     try clear hcz15_2
     try clear hcz5_0
     try clear hcz5_1
     try clear hcz5_2
     try clear hcz7_0
     try clear hcz7_1
     try clear hcz7_2
     try clear hcz9_0
     try clear hcz9_1
     try clear hcz9_2
     try clear hfz10_0
     try clear hfz10_1
     try clear hfz10_2
     try clear hfz14_0
     try clear hfz14_1
     try clear hfz14_2
     try clear hfz15_0
     try clear hfz15_1
     try clear hfz15_2
     try clear hfz5_0
     try clear hfz5_1
     try clear hfz5_2
     try clear hfz7_0
     try clear hfz7_1
     try clear hfz7_2
     try clear hfz9_0
     try clear hfz9_1
     try clear hfz9_2
     try clear p2
     try clear p6
     obtain ⟨kq, x37_11, rfl, HA, HJ11, BK190, HB⟩ := hcut
     cases kq with
     | zero => exact absurd HA.out (by simp [impl_SystemOk.j1])
     | succ kj11 =>
      have H := HA.out
      clear HA
      simp only [impl_SystemOk.j1] at H
      by_cases c16 : x37_11 = true
      ·subst c16
       rw [if_pos rfl] at H
       obtain rfl := Option.some.inj H
       go_wp2
       go_ret
       exact ⟨rR, bZ HB⟩
      ·replace c16 := Bool.eq_false_iff.mpr c16
       subst c16
       rw [if_neg (show ¬ (false = true) by decide)] at H
       have H' := Aside0.mk H
       clear H
       obtain ⟨hcz17_0, hcz17_1, hcz17_2, hfz17_0, hfz17_1, hfz17_2⟩ := bK3 (w := wc) BK190
       go_wp2
       go_loopg [41] kj11 (fun kq v41 w' => ∃ (x41_3 : Int), v41 = .int .i64 x41_3 ∧ Aside0 (impl_SystemOk.l0 kq l0_2 (l0_2.length : Int) x41_3 a0_0 a0_1 l0_2 = some r) ∧ Aside0 (kq ≤ kj11) ∧ Aside0 (w'.heap[gb190]? = some (.cells #[.int .i64 a0_0, .int .i64 a0_1, (.slice A0_2 l0_2.length c0_2)] 43 (0, 0))) ∧ Aside0 (Below w.heap.size w w'))
       case atStart => exact ⟨(0), rS, H', ⟨Nat.le_refl _⟩, ⟨bP BK190⟩, ⟨bZ HB⟩⟩
       case round =>
        clear H'
        try clear c1
        try clear p2
        try clear c4
        try clear c4b0
        try clear c6
        try clear c6b0
        try clear p6
        try clear c8
        try clear c8b0
        try clear c11
        try clear c13
        try clear c13b0
        try clear c13b1
        try clear c16
        try clear hcz10_0
        try clear hcz10_1
        try clear hcz10_2
        try clear hcz14_0
        try clear hcz14_1
        try clear hcz14_2
        try clear hcz15_0
        try clear hcz15_1
        try clear hcz15_2
        try clear hcz17_0
        try clear hcz17_1
        try clear hcz17_2
        try clear hcz5_0
        try clear hcz5_1
        try clear hcz5_2
        try clear hcz7_0
        try clear hcz7_1
        try clear hcz7_2
        try clear hcz9_0
        try clear hcz9_1
        try clear hcz9_2
        try clear hfz10_0
        try clear hfz10_1
        try clear hfz10_2
        try clear hfz14_0
        try clear hfz14_1
        try clear hfz14_2
        try clear hfz15_0
        try clear hfz15_1
        try clear hfz15_2
        try clear hfz17_0
        try clear hfz17_1
        try clear hfz17_2
        try clear hfz5_0
        try clear hfz5_1
        try clear hfz5_2
        try clear hfz7_0
        try clear hfz7_1
        try clear hfz7_2
        try clear hfz9_0
        try clear hfz9_1
        try clear hfz9_2
        try clear p2
        try clear p6
        obtain ⟨x41_3, rfl, HA, HK3, BK190, HB⟩ := hrel
        cases gk with
        | zero => exact absurd HA.out (by simp [impl_SystemOk.l0])
        | succ k3 =>
         have H := HA.out
         clear HA
         simp only [impl_SystemOk.l0] at H
         by_cases c18 : x41_3 < (l0_2.length : Int)
         ·rw [if_pos c18] at H
          have c18b0 := decide_eq_true c18
          clear c18
          by_cases c19 : 0 ≤ x41_3
          ·rw [if_pos c19] at H
           have c19b0 := decide_eq_true c19
           clear c19
           by_cases c20 : x41_3 < (l0_2.length : Int)
           ·rw [if_pos c20] at H
            have c20b0 := decide_eq_true c20
            clear c20
            have HC21 := Aside0.mk H
            clear H
            have p191 : 0 ≤ (x41_3 : Int) := of_decide_eq_true (by first | (with_reducible assumption) | assumption)
            have q191 : x41_3 < (l0_2.length : Int) := of_decide_eq_true (by first | (with_reducible assumption) | assumption)
            obtain ⟨ad191, A191_0, c191_0, A191_1, c191_1, A191_2, c191_2, e191, hx191_0, hx191_1, hx191_2, hl191_0, hi191_0, hl191_1, hi191_1, hl191_2, hi191_2⟩ := at_T75 HR0_2.out x41_3 p191 q191
            cases e191
            replace hx191_0 := (hC HB hx191_0 :)
            replace hx191_1 := (hC HB hx191_1 :)
            replace hx191_2 := (hC HB hx191_2 :)
            have HR191_0 := Aside0.mk hi191_0
            have HC191_0 := Aside0.mk hl191_0
            clear hi191_0 hl191_0
            have HR191_1 := Aside0.mk hi191_1
            have HC191_1 := Aside0.mk hl191_1
            clear hi191_1 hl191_1
            have HR191_2 := Aside0.mk hi191_2
            have HC191_2 := Aside0.mk hl191_2
            clear hi191_2 hl191_2
            replace p191 := eq_true p191
            replace q191 := eq_true q191
            go_wp2_with (first | ((with_reducible refine gate_dst (N := 4) rfl ?_); (try (refine gate_guard (by rfl) ?_; dsimp only)); refine box_event ?hg (N := 4) ?hd (cs := #[.slice none 0 0, .slice none 0 0, .slice none 0 0]) (t := 75) ?hr ?_; (case hd => rfl); (case hg => rfl); (case hr => first | (go_simp; done) | (go_simp; rfl)); intro gb192 hg w22 hbox hb; have BK192 := Aside0.mk (hbox); have GW192 := bG HB hg; replace HB := bS HB hb; obtain ⟨NB190_192, NB192_190⟩ := bN BK190 hg; replace BK190 := bB BK190 hb; clear hb hbox hg; obtain ⟨hnb23, hnc23⟩ := nB NB192_190; obtain ⟨hcz24_0, hcz24_1, hcz24_2, hfz24_0, hfz24_1, hfz24_2⟩ := bK3 (w := w22) BK192) | ((with_reducible refine gate_dst (N := 51) rfl ?_); refine lit_event ?hg (N := 51) ?hd (cs := #[(.slice A191_0 ((rd_T75 l0_2 x41_3).f0).length c191_0), (.slice A191_1 ((rd_T75 l0_2 x41_3).f1).length c191_1), (.slice A191_2 ((rd_T75 l0_2 x41_3).f2).length c191_2)]) (t := 31) (n := 3) ?hr ?_; (case hd => rfl); (case hg => rfl); (case hr => first | (go_simp; done) | (go_simp; rfl)); intro gb9901 hg w99 hbox hb; replace BK190 := bB BK190 hb; replace BK192 := bV 75 #[(.slice A191_0 ((rd_T75 l0_2 x41_3).f0).length c191_0), (.slice A191_1 ((rd_T75 l0_2 x41_3).f1).length c191_1), (.slice A191_2 ((rd_T75 l0_2 x41_3).f2).length c191_2)] BK192 hb; replace HB := bS HB hb; have BK9901 := Aside0.mk hbox; clear hb hbox hg; have hczLw99_0 : w99.cell? ⟨gb9901, 0, none⟩ = some (.slice A191_0 ((rd_T75 l0_2 x41_3).f0).length c191_0) := bc BK9901 0; have hczLw99_1 : w99.cell? ⟨gb9901, 1, none⟩ = some (.slice A191_1 ((rd_T75 l0_2 x41_3).f1).length c191_1) := bc BK9901 1; have hczLw99_2 : w99.cell? ⟨gb9901, 2, none⟩ = some (.slice A191_2 ((rd_T75 l0_2 x41_3).f2).length c191_2) := bc BK9901 2; have hfzL0 := blk_frozen BK9901.out 0; have hfzL1 := blk_frozen BK9901.out 1; have hfzL2 := blk_frozen BK9901.out 2))
            refine wp_loop_rounds 4 ?_
            rw [rounds_succ]
            go_upto_region 11 with (fail)
            (try simp only [Act.put, List.setIfInBounds_toArray, List.set_cons_zero, List.set_cons_succ])
            go_cut [66] (fun v66 wc => ∃ (kq : Nat) (x66_20 : Bool), v66 = .bool x66_20 ∧ Aside0 (impl_SystemOk.j3 kq l0_2 (l0_2.length : Int) x41_3 x66_20 a0_0 a0_1 l0_2 ((rd_T75 l0_2 x41_3).f0) ((rd_T75 l0_2 x41_3).f1) ((rd_T75 l0_2 x41_3).f2) = some r) ∧ Aside0 (kq ≤ k3) ∧ Aside0 (wc.heap[gb190]? = some (.cells #[.int .i64 a0_0, .int .i64 a0_1, (.slice (some ad191) l0_2.length c0_2)] 43 (0, 0))) ∧ Aside0 (wc.heap[gb192]? = some (.cells #[(.slice A191_0 ((rd_T75 l0_2 x41_3).f0).length c191_0), (.slice A191_1 ((rd_T75 l0_2 x41_3).f1).length c191_1), (.slice A191_2 ((rd_T75 l0_2 x41_3).f2).length c191_2)] 75 (0, 0))) ∧ Aside0 (wc.heap[gb9901]? = some (.cells #[(.slice A191_0 ((rd_T75 l0_2 x41_3).f0).length c191_0), (.slice A191_1 ((rd_T75 l0_2 x41_3).f1).length c191_1), (.slice A191_2 ((rd_T75 l0_2 x41_3).f2).length c191_2)] 31 (0, 0))) ∧ Aside0 (Below w.heap.size w wc))
            case first =>
             have H := HC21.out
             clear HC21
             by_cases c25 : (((rd_T75 l0_2 x41_3).f0).length : Int) = a0_0
             ·rw [if_pos c25] at H
              have c25b0 : ((((rd_T75 l0_2 x41_3).f0).length : Int) == a0_0) = true := beq_iff_eq.mpr c25
              have c25b1 : ((((rd_T75 l0_2 x41_3).f0).length : Int) != a0_0) = false := bne_eq_false_iff_eq.mpr c25
              clear c25
              (first | rw [c25b0] | (simp only [i64_w, i32_w]; rw [c25b0]) | rw [c25b1] | skip)
              replace H := Option.bind_eq_some_iff.mp H
              obtain ⟨t193, A260, H⟩ := H
              have A26 := Aside0.mk A260
              clear A260
              have H' := Aside0.mk H
              clear H
              obtain ⟨hnb27, hnc27⟩ := nB NB190_192
              obtain ⟨hcz28_0, hcz28_1, hcz28_2, hfz28_0, hfz28_1, hfz28_2⟩ := bK3 (w := w99) BK190
              go_wp2_with (first | (go_at_call 74; (with_reducible refine (impl_areScalars.calls k3 _ _ ((rd_T75 l0_2 x41_3).f0) t193 _ ?side1 ?side2 A26.out).mono ?_); (case side1 => exact Kd.C_below HR191_0.out (bZ HB)); (case side2 => exact HC191_0.out); rintro e w' ⟨rfl, ⟨nd, rfl⟩⟩))
              go_meet
              case rel => exact ⟨_, (!t193), rS, H', ⟨by have := HJ1.out; have := HJ11.out; have := HK3.out; first | omega | exact Nat.le_refl _⟩, ⟨bP BK190⟩, ⟨bP BK192⟩, ⟨bP BK9901⟩, ⟨bZ HB⟩⟩
             ·rw [if_neg c25] at H
              have c25b0 : ((((rd_T75 l0_2 x41_3).f0).length : Int) == a0_0) = false := beq_eq_false_iff_ne.mpr c25
              have c25b1 : ((((rd_T75 l0_2 x41_3).f0).length : Int) != a0_0) = true := bne_iff_ne.mpr c25
              (first | rw [c25b0] | (simp only [i64_w, i32_w]; rw [c25b0]) | rw [c25b1] | skip)
              have H' := Aside0.mk H
              clear H
              obtain ⟨hnb29, hnc29⟩ := nB NB190_192
              obtain ⟨hcz30_0, hcz30_1, hcz30_2, hfz30_0, hfz30_1, hfz30_2⟩ := bK3 (w := w99) BK190
              go_wp2
              go_meet
              case rel => exact ⟨_, (true), rS, H', ⟨by have := HJ1.out; have := HJ11.out; have := HK3.out; first | omega | exact Nat.le_refl _⟩, ⟨bP BK190⟩, ⟨bP BK192⟩, ⟨bP BK9901⟩, ⟨bZ HB⟩⟩
            case rest =>
             clear HC21
             try clear c1
             try clear p1
             try clear q1
             try clear hx1
             try clear c2
             try clear p2
             try clear c4
             try clear c4b0
             try clear c6
             try clear c6b0
             try clear p6
             try clear c8
             try clear c8b0
             try clear c11
             try clear c13
             try clear c13b0
             try clear c13b1
             try clear c16
             try clear c18
             try clear c18b0
             try clear c19
             try clear c19b0
             try clear p19
             try clear q19
             try clear hx19
             try clear c20
             try clear c20b0
             try clear c23
             try clear c25
             try clear c25b0
             try clear c25b1
             try clear c27
             try clear c29
             try clear hcz10_0
             try clear hcz10_1
             try clear hcz10_2
             try clear hcz14_0
             try clear hcz14_1
             try clear hcz14_2
             try clear hcz15_0
             try clear hcz15_1
             try clear hcz15_2
             try clear hcz17_0
             try clear hcz17_1
             try clear hcz17_2
             try clear hcz24_0
             try clear hcz24_1
             try clear hcz24_2
             try clear hcz28_0
             try clear hcz28_1
             try clear hcz28_2
             try clear hcz30_0
             try clear hcz30_1
             try clear hcz30_2
             try clear hcz5_0
             try clear hcz5_1
             try clear hcz5_2
             try clear hcz7_0
             try clear hcz7_1
             try clear hcz7_2
             try clear hcz9_0
             try clear hcz9_1
             try clear hcz9_2
             try clear hfz10_0
             try clear hfz10_1
             try clear hfz10_2
             try clear hfz14_0
             try clear hfz14_1
             try clear hfz14_2
             try clear hfz15_0
             try clear hfz15_1
             try clear hfz15_2
             try clear hfz17_0
             try clear hfz17_1
             try clear hfz17_2
             try clear hfz24_0
             try clear hfz24_1
             try clear hfz24_2
             try clear hfz28_0
             try clear hfz28_1
             try clear hfz28_2
             try clear hfz30_0
             try clear hfz30_1
             try clear hfz30_2
             try clear hfz5_0
             try clear hfz5_1
             try clear hfz5_2
             try clear hfz7_0
             try clear hfz7_1
             try clear hfz7_2
             try clear hfz9_0
             try clear hfz9_1
             try clear hfz9_2
             try clear hx191_0
             try clear hx191_1
             try clear hx191_2
             try clear p191
             try clear p2
             try clear p6
             try clear q191
             obtain ⟨kq, x66_20, rfl, HA, HJ20, BK190, BK192, BK9901, HB⟩ := hcut
             cases kq with
             | zero => exact absurd HA.out (by simp [impl_SystemOk.j3])
             | succ kj20 =>
              have H := HA.out
              clear HA
              simp only [impl_SystemOk.j3] at H
              by_cases c31 : x66_20 = true
              ·subst c31
               rw [if_pos rfl] at H
               obtain rfl := Option.some.inj H
               go_wp2
               go_ret
               exact ⟨rR, bZ HB⟩
              ·replace c31 := Bool.eq_false_iff.mpr c31
               subst c31
               rw [if_neg (show ¬ (false = true) by decide)] at H
               have HC32 := Aside0.mk H
               clear H
               obtain ⟨hnb33, hnc33⟩ := nB NB192_190
               obtain ⟨hcz34_0, hcz34_1, hcz34_2, hfz34_0, hfz34_1, hfz34_2⟩ := bK3 (w := wc) BK192
               have hczLwc_0 : wc.cell? ⟨gb9901, 0, none⟩ = some (.slice A191_0 ((rd_T75 l0_2 x41_3).f0).length c191_0) := bc BK9901 0
               have hczLwc_1 : wc.cell? ⟨gb9901, 1, none⟩ = some (.slice A191_1 ((rd_T75 l0_2 x41_3).f1).length c191_1) := bc BK9901 1
               have hczLwc_2 : wc.cell? ⟨gb9901, 2, none⟩ = some (.slice A191_2 ((rd_T75 l0_2 x41_3).f2).length c191_2) := bc BK9901 2
               have hfzc0 := blk_frozen BK9901.out 0
               have hfzc1 := blk_frozen BK9901.out 1
               have hfzc2 := blk_frozen BK9901.out 2
               go_wp2
               rw [rounds_succ]
               go_upto_region 11 with (fail)
               go_cut [66] (fun v66 wc => ∃ (kq : Nat) (x66_31 : Bool), v66 = .bool x66_31 ∧ Aside0 (impl_SystemOk.j4 kq l0_2 (l0_2.length : Int) x41_3 x66_31 a0_0 a0_1 l0_2 ((rd_T75 l0_2 x41_3).f0) ((rd_T75 l0_2 x41_3).f1) ((rd_T75 l0_2 x41_3).f2) = some r) ∧ Aside0 (kq ≤ kj20) ∧ Aside0 (wc.heap[gb190]? = some (.cells #[.int .i64 a0_0, .int .i64 a0_1, (.slice (some ad191) l0_2.length c0_2)] 43 (0, 0))) ∧ Aside0 (wc.heap[gb192]? = some (.cells #[(.slice A191_0 ((rd_T75 l0_2 x41_3).f0).length c191_0), (.slice A191_1 ((rd_T75 l0_2 x41_3).f1).length c191_1), (.slice A191_2 ((rd_T75 l0_2 x41_3).f2).length c191_2)] 75 (0, 0))) ∧ Aside0 (wc.heap[gb9901]? = some (.cells #[(.slice A191_0 ((rd_T75 l0_2 x41_3).f0).length c191_0), (.slice A191_1 ((rd_T75 l0_2 x41_3).f1).length c191_1), (.slice A191_2 ((rd_T75 l0_2 x41_3).f2).length c191_2)] 31 (0, 0))) ∧ Aside0 (Below w.heap.size w wc))
               case first =>
                have H := HC32.out
                clear HC32
                by_cases c35 : (((rd_T75 l0_2 x41_3).f1).length : Int) = a0_0
                ·rw [if_pos c35] at H
                 have c35b0 : ((((rd_T75 l0_2 x41_3).f1).length : Int) == a0_0) = true := beq_iff_eq.mpr c35
                 have c35b1 : ((((rd_T75 l0_2 x41_3).f1).length : Int) != a0_0) = false := bne_eq_false_iff_eq.mpr c35
                 clear c35
                 (first | rw [c35b0] | (simp only [i64_w, i32_w]; rw [c35b0]) | rw [c35b1] | skip)
                 replace H := Option.bind_eq_some_iff.mp H
                 obtain ⟨t194, A360, H⟩ := H
                 have A36 := Aside0.mk A360
                 clear A360
                 have H' := Aside0.mk H
                 clear H
                 obtain ⟨hnb37, hnc37⟩ := nB NB190_192
                 obtain ⟨hcz38_0, hcz38_1, hcz38_2, hfz38_0, hfz38_1, hfz38_2⟩ := bK3 (w := wc) BK190
                 go_wp2_with (first | (go_at_call 74; (with_reducible refine (impl_areScalars.calls kj20 _ _ ((rd_T75 l0_2 x41_3).f1) t194 _ ?side1 ?side2 A36.out).mono ?_); (case side1 => exact cP (Kd.C_below HR191_1.out HB.out)); (case side2 => exact HC191_1.out); rintro e w' ⟨rfl, ⟨nd, rfl⟩⟩))
                 go_meet
                 case rel => exact ⟨_, (!t194), rS, H', ⟨by have := HJ1.out; have := HJ11.out; have := HK3.out; have := HJ20.out; first | omega | exact Nat.le_refl _⟩, ⟨bP BK190⟩, ⟨bP BK192⟩, ⟨bP BK9901⟩, ⟨bZ HB⟩⟩
                ·rw [if_neg c35] at H
                 have c35b0 : ((((rd_T75 l0_2 x41_3).f1).length : Int) == a0_0) = false := beq_eq_false_iff_ne.mpr c35
                 have c35b1 : ((((rd_T75 l0_2 x41_3).f1).length : Int) != a0_0) = true := bne_iff_ne.mpr c35
                 (first | rw [c35b0] | (simp only [i64_w, i32_w]; rw [c35b0]) | rw [c35b1] | skip)
                 have H' := Aside0.mk H
                 clear H
                 obtain ⟨hnb39, hnc39⟩ := nB NB190_192
                 obtain ⟨hcz40_0, hcz40_1, hcz40_2, hfz40_0, hfz40_1, hfz40_2⟩ := bK3 (w := wc) BK190
                 go_wp2
                 go_meet
                 case rel => exact ⟨_, (true), rS, H', ⟨by have := HJ1.out; have := HJ11.out; have := HK3.out; have := HJ20.out; first | omega | exact Nat.le_refl _⟩, ⟨bP BK190⟩, ⟨bP BK192⟩, ⟨bP BK9901⟩, ⟨bZ HB⟩⟩
               case rest =>
                clear HC32
                try clear c1
                try clear p1
                try clear q1
                try clear hx1
                try clear c2
                try clear p2
                try clear c3
                try clear c4
                try clear c4b0
                try clear c6
                try clear c6b0
                try clear p6
                try clear c8
                try clear c8b0
                try clear c11
                try clear c13
                try clear c13b0
                try clear c13b1
                try clear c16
                try clear c18
                try clear c18b0
                try clear c19
                try clear c19b0
                try clear p19
                try clear q19
                try clear hx19
                try clear c20
                try clear c20b0
                try clear c23
                try clear c25
                try clear c25b0
                try clear c25b1
                try clear c27
                try clear c29
                try clear c31
                try clear c33
                try clear c35
                try clear c35b0
                try clear c35b1
                try clear c37
                try clear c39
                try clear hcz10_0
                try clear hcz10_1
                try clear hcz10_2
                try clear hcz14_0
                try clear hcz14_1
                try clear hcz14_2
                try clear hcz15_0
                try clear hcz15_1
                try clear hcz15_2
                try clear hcz17_0
                try clear hcz17_1
                try clear hcz17_2
                try clear hcz24_0
                try clear hcz24_1
                try clear hcz24_2
                try clear hcz28_0
                try clear hcz28_1
                try clear hcz28_2
                try clear hcz30_0
                try clear hcz30_1
                try clear hcz30_2
                try clear hcz34_0
                try clear hcz34_1
                try clear hcz34_2
                try clear hcz38_0
                try clear hcz38_1
                try clear hcz38_2
                try clear hcz40_0
                try clear hcz40_1
                try clear hcz40_2
                try clear hcz5_0
                try clear hcz5_1
                try clear hcz5_2
                try clear hcz7_0
                try clear hcz7_1
                try clear hcz7_2
                try clear hcz9_0
                try clear hcz9_1
                try clear hcz9_2
                try clear hfz10_0
                try clear hfz10_1
                try clear hfz10_2
                try clear hfz14_0
                try clear hfz14_1
                try clear hfz14_2
                try clear hfz15_0
                try clear hfz15_1
                try clear hfz15_2
                try clear hfz17_0
                try clear hfz17_1
                try clear hfz17_2
                try clear hfz24_0
                try clear hfz24_1
                try clear hfz24_2
                try clear hfz28_0
                try clear hfz28_1
                try clear hfz28_2
                try clear hfz30_0
                try clear hfz30_1
                try clear hfz30_2
                try clear hfz34_0
                try clear hfz34_1
                try clear hfz34_2
                try clear hfz38_0
                try clear hfz38_1
                try clear hfz38_2
                try clear hfz40_0
                try clear hfz40_1
                try clear hfz40_2
                try clear hfz5_0
                try clear hfz5_1
                try clear hfz5_2
                try clear hfz7_0
                try clear hfz7_1
                try clear hfz7_2
                try clear hfz9_0
                try clear hfz9_1
                try clear hfz9_2
                try clear hx191_0
                try clear hx191_1
                try clear hx191_2
                try clear p1
                try clear p19
                try clear p191
                try clear p2
                try clear p6
                try clear q1
                try clear q19
                try clear q191
                obtain ⟨kq, x66_31, rfl, HA, HJ31, BK190, BK192, BK9901, HB⟩ := hcut
                cases kq with
                | zero => exact absurd HA.out (by simp [impl_SystemOk.j4])
                | succ kj31 =>
                 have H := HA.out
                 clear HA
                 simp only [impl_SystemOk.j4] at H
                 by_cases c41 : x66_31 = true
                 ·subst c41
                  rw [if_pos rfl] at H
                  obtain rfl := Option.some.inj H
                  go_wp2
                  go_ret
                  exact ⟨rR, bZ HB⟩
                 ·replace c41 := Bool.eq_false_iff.mpr c41
                  subst c41
                  rw [if_neg (show ¬ (false = true) by decide)] at H
                  by_cases c42 : (((rd_T75 l0_2 x41_3).f2).length : Int) = a0_0
                  ·rw [if_pos c42] at H
                   have c42b0 : ((((rd_T75 l0_2 x41_3).f2).length : Int) == a0_0) = true := beq_iff_eq.mpr c42
                   have c42b1 : ((((rd_T75 l0_2 x41_3).f2).length : Int) != a0_0) = false := bne_eq_false_iff_eq.mpr c42
                   clear c42
                   replace H := Option.bind_eq_some_iff.mp H
                   obtain ⟨t195, A430, H⟩ := H
                   have A43 := Aside0.mk A430
                   clear A430
                   by_cases c44 : t195 = true
                   ·subst c44
                    rw [if_pos rfl] at H
                    have H' := Aside0.mk H
                    clear H
                    obtain ⟨hnb45, hnc45⟩ := nB NB192_190
                    obtain ⟨hcz46_0, hcz46_1, hcz46_2, hfz46_0, hfz46_1, hfz46_2⟩ := bK3 (w := wc) BK192
                    obtain ⟨hcz47_0, hcz47_1, hcz47_2, hfz47_0, hfz47_1, hfz47_2⟩ := bK3 (w := wc) BK190
                    have hczLwc_0 : wc.cell? ⟨gb9901, 0, none⟩ = some (.slice A191_0 ((rd_T75 l0_2 x41_3).f0).length c191_0) := bc BK9901 0
                    have hczLwc_1 : wc.cell? ⟨gb9901, 1, none⟩ = some (.slice A191_1 ((rd_T75 l0_2 x41_3).f1).length c191_1) := bc BK9901 1
                    have hczLwc_2 : wc.cell? ⟨gb9901, 2, none⟩ = some (.slice A191_2 ((rd_T75 l0_2 x41_3).f2).length c191_2) := bc BK9901 2
                    have hfzc0 := blk_frozen BK9901.out 0
                    have hfzc1 := blk_frozen BK9901.out 1
                    have hfzc2 := blk_frozen BK9901.out 2
                    go_wp2
                    rw [rounds_succ]
                    go_wp2_with (first | (go_at_call 74; (with_reducible refine (impl_areScalars.calls kj31 _ _ ((rd_T75 l0_2 x41_3).f2) true _ ?side1 ?side2 A43.out).mono ?_); (case side1 => exact cP (Kd.C_below HR191_2.out HB.out)); (case side2 => exact HC191_2.out); rintro e w' ⟨rfl, ⟨nd, rfl⟩⟩))
                    rw [rounds_succ]
                    go_wp2
                    go_roundg kj31
                    case measure => have := HJ1.out; have := HJ11.out; have := HK3.out; have := HJ20.out; have := HJ31.out; omega
                    case rel => exact ⟨(wrap64 (x41_3 + 1)), rS, H', ⟨by have := HJ1.out; have := HJ11.out; have := HK3.out; have := HJ20.out; have := HJ31.out; omega⟩, ⟨bP BK190⟩, ⟨bZ HB⟩⟩
                   ·replace c44 := Bool.eq_false_iff.mpr c44
                    subst c44
                    rw [if_neg (show ¬ (false = true) by decide)] at H
                    obtain rfl := Option.some.inj H
                    obtain ⟨hnb48, hnc48⟩ := nB NB192_190
                    obtain ⟨hcz49_0, hcz49_1, hcz49_2, hfz49_0, hfz49_1, hfz49_2⟩ := bK3 (w := wc) BK192
                    obtain ⟨hcz50_0, hcz50_1, hcz50_2, hfz50_0, hfz50_1, hfz50_2⟩ := bK3 (w := wc) BK190
                    have hczLwc_0 : wc.cell? ⟨gb9901, 0, none⟩ = some (.slice A191_0 ((rd_T75 l0_2 x41_3).f0).length c191_0) := bc BK9901 0
                    have hczLwc_1 : wc.cell? ⟨gb9901, 1, none⟩ = some (.slice A191_1 ((rd_T75 l0_2 x41_3).f1).length c191_1) := bc BK9901 1
                    have hczLwc_2 : wc.cell? ⟨gb9901, 2, none⟩ = some (.slice A191_2 ((rd_T75 l0_2 x41_3).f2).length c191_2) := bc BK9901 2
                    have hfzc0 := blk_frozen BK9901.out 0
                    have hfzc1 := blk_frozen BK9901.out 1
                    have hfzc2 := blk_frozen BK9901.out 2
                    go_wp2
                    rw [rounds_succ]
                    go_wp2_with (first | (go_at_call 74; (with_reducible refine (impl_areScalars.calls kj31 _ _ ((rd_T75 l0_2 x41_3).f2) false _ ?side1 ?side2 A43.out).mono ?_); (case side1 => exact cP (Kd.C_below HR191_2.out HB.out)); (case side2 => exact HC191_2.out); rintro e w' ⟨rfl, ⟨nd, rfl⟩⟩))
                    go_ret
                    exact ⟨rR, bZ HB⟩
                  ·rw [if_neg c42] at H
                   have c42b0 : ((((rd_T75 l0_2 x41_3).f2).length : Int) == a0_0) = false := beq_eq_false_iff_ne.mpr c42
                   have c42b1 : ((((rd_T75 l0_2 x41_3).f2).length : Int) != a0_0) = true := bne_iff_ne.mpr c42
                   obtain rfl := Option.some.inj H
                   obtain ⟨hnb51, hnc51⟩ := nB NB192_190
                   obtain ⟨hcz52_0, hcz52_1, hcz52_2, hfz52_0, hfz52_1, hfz52_2⟩ := bK3 (w := wc) BK192
                   obtain ⟨hcz53_0, hcz53_1, hcz53_2, hfz53_0, hfz53_1, hfz53_2⟩ := bK3 (w := wc) BK190
                   have hczLwc_0 : wc.cell? ⟨gb9901, 0, none⟩ = some (.slice A191_0 ((rd_T75 l0_2 x41_3).f0).length c191_0) := bc BK9901 0
                   have hczLwc_1 : wc.cell? ⟨gb9901, 1, none⟩ = some (.slice A191_1 ((rd_T75 l0_2 x41_3).f1).length c191_1) := bc BK9901 1
                   have hczLwc_2 : wc.cell? ⟨gb9901, 2, none⟩ = some (.slice A191_2 ((rd_T75 l0_2 x41_3).f2).length c191_2) := bc BK9901 2
                   have hfzc0 := blk_frozen BK9901.out 0
                   have hfzc1 := blk_frozen BK9901.out 1
                   have hfzc2 := blk_frozen BK9901.out 2
                   go_wp2
                   rw [rounds_succ]
                   go_wp2
                   go_ret
                   exact ⟨rR, bZ HB⟩
           ·rw [if_neg c20] at H
            exact absurd H (by simp)
          ·rw [if_neg c19] at H
           exact absurd H (by simp)
         ·rw [if_neg c18] at H
          have c18b0 := decide_eq_false c18
          clear c18
          obtain rfl := Option.some.inj H
          go_wp2
          go_ret
          exact ⟨rR, bZ HB⟩
end Go.Proofs.Ythdpfjkdpeamnaa.Pf
end
section
namespace Go.Proofs.Ythdpfjkdpeamnaa.Pf
open Go.RowKit Go.Proofs.YthdpfjkdpeamnaaW.PrintWords Go.Proofs.YthdpfjkdpeamnaaW.PrintLast Go.Proofs.YthdpfjkdpeamnaaW.PrintMore
attribute [local go_sem] max2_int min2_int max_two min_two max_three min_three max_four min_four
set_option linter.unusedVariables false
set_option linter.unusedSimpArgs false
set_option maxHeartbeats 8000000
set_option maxRecDepth 100000
def spec_ScOf.f (a0 : Int) : Option (Int) := if (Int.tmod a0 1009) < 0 then (some (wrap64 ((Int.tmod a0 1009) + 1009))) else (some (Int.tmod a0 1009))
theorem spec_ScOf.calls (a0 : Int) (r : Int) (w : World) (h : spec_ScOf.f a0 = some r) :
  Calls Try.prog 83 #[.int .i64 a0] w fun e w' => e = .returned (.int .i64 r) ∧ Drawn0 w w' := by
 have H : (if (Int.tmod a0 1009) < 0 then (some (wrap64 ((Int.tmod a0 1009) + 1009))) else (some (Int.tmod a0 1009))) = some r := h
 clear h
 by_cases c2 : (Int.tmod a0 1009) < 0
 ·rw [if_pos c2] at H
  have c2b0 := decide_eq_true c2
  clear c2
  obtain rfl := Option.some.inj H
  go_enter Try.func83, Try.ntmps83
  go_wp2
  go_ret
  exact ⟨rS, rD⟩
 ·rw [if_neg c2] at H
  have c2b0 := decide_eq_false c2
  clear c2
  obtain rfl := Option.some.inj H
  go_enter Try.func83, Try.ntmps83
  go_wp2
  go_ret
  exact ⟨rS, rD⟩
def spec_ScAdd.f (a0 : Int) (a1 : Int) : Option (Int) := (spec_ScOf.f a0).bind fun t185 => ((spec_ScOf.f a1).bind fun t186 => ((spec_ScOf.f (wrap64 (t185 + t186))).bind fun t187 => (some t187)))
theorem spec_ScAdd.calls (a0 : Int) (a1 : Int) (r : Int) (w : World) (h : spec_ScAdd.f a0 a1 = some r) :
  Calls Try.prog 52 #[.int .i64 a0, .int .i64 a1] w fun e w' => e = .returned (.int .i64 r) ∧ Drawn0 w w' := by
 have H : ((spec_ScOf.f a0).bind fun t185 => ((spec_ScOf.f a1).bind fun t186 => ((spec_ScOf.f (wrap64 (t185 + t186))).bind fun t187 => (some t187)))) = some r := h
 clear h
 replace H := Option.bind_eq_some_iff.mp H
 obtain ⟨t185, A30, H⟩ := H
 have A3 := Aside0.mk A30
 clear A30
 replace H := Option.bind_eq_some_iff.mp H
 obtain ⟨t186, A40, H⟩ := H
 have A4 := Aside0.mk A40
 clear A40
 replace H := Option.bind_eq_some_iff.mp H
 obtain ⟨t187, A50, H⟩ := H
 have A5 := Aside0.mk A50
 clear A50
 obtain rfl := Option.some.inj H
 go_enter Try.func52, Try.ntmps52
 go_wp2_with (first | (refine gC (some 6) Try.func83 #[.int .i64 a0] ?_; (with_reducible refine (spec_ScOf.calls a0 t185 _ A3.out).mono ?_); rintro e w' ⟨rfl, ⟨nd, rfl⟩⟩; refine ⟨_, rfl, ?_⟩) | (refine gC (some 8) Try.func83 #[.int .i64 a1] ?_; (with_reducible refine (spec_ScOf.calls a1 t186 _ A4.out).mono ?_); rintro e w' ⟨rfl, ⟨nd, rfl⟩⟩; refine ⟨_, rfl, ?_⟩) | (refine gC (some 10) Try.func83 #[.int .i64 (wrap64 (t185 + t186))] ?_; (with_reducible refine (spec_ScOf.calls (wrap64 (t185 + t186)) t187 _ A5.out).mono ?_); rintro e w' ⟨rfl, ⟨nd, rfl⟩⟩; refine ⟨_, rfl, ?_⟩))
 go_ret
 exact ⟨rS, rD⟩
def spec_ScMul.f (a0 : Int) (a1 : Int) : Option (Int) := (spec_ScOf.f a0).bind fun t182 => ((spec_ScOf.f a1).bind fun t183 => ((spec_ScOf.f (wrap64 (t182 * t183))).bind fun t184 => (some t184)))
theorem spec_ScMul.calls (a0 : Int) (a1 : Int) (r : Int) (w : World) (h : spec_ScMul.f a0 a1 = some r) :
  Calls Try.prog 75 #[.int .i64 a0, .int .i64 a1] w fun e w' => e = .returned (.int .i64 r) ∧ Drawn0 w w' := by
 have H : ((spec_ScOf.f a0).bind fun t182 => ((spec_ScOf.f a1).bind fun t183 => ((spec_ScOf.f (wrap64 (t182 * t183))).bind fun t184 => (some t184)))) = some r := h
 clear h
 replace H := Option.bind_eq_some_iff.mp H
 obtain ⟨t182, A30, H⟩ := H
 have A3 := Aside0.mk A30
 clear A30
 replace H := Option.bind_eq_some_iff.mp H
 obtain ⟨t183, A40, H⟩ := H
 have A4 := Aside0.mk A40
 clear A40
 replace H := Option.bind_eq_some_iff.mp H
 obtain ⟨t184, A50, H⟩ := H
 have A5 := Aside0.mk A50
 clear A50
 obtain rfl := Option.some.inj H
 go_enter Try.func75, Try.ntmps75
 go_wp2_with (first | (refine gC (some 6) Try.func83 #[.int .i64 a0] ?_; (with_reducible refine (spec_ScOf.calls a0 t182 _ A3.out).mono ?_); rintro e w' ⟨rfl, ⟨nd, rfl⟩⟩; refine ⟨_, rfl, ?_⟩) | (refine gC (some 8) Try.func83 #[.int .i64 a1] ?_; (with_reducible refine (spec_ScOf.calls a1 t183 _ A4.out).mono ?_); rintro e w' ⟨rfl, ⟨nd, rfl⟩⟩; refine ⟨_, rfl, ?_⟩) | (refine gC (some 10) Try.func83 #[.int .i64 (wrap64 (t182 * t183))] ?_; (with_reducible refine (spec_ScOf.calls (wrap64 (t182 * t183)) t184 _ A5.out).mono ?_); rintro e w' ⟨rfl, ⟨nd, rfl⟩⟩; refine ⟨_, rfl, ?_⟩))
 go_ret
 exact ⟨rS, rD⟩
end Go.Proofs.Ythdpfjkdpeamnaa.Pf
end
section
namespace Go.Proofs.Ythdpfjkdpeamnaa.Pf
open Go.RowKit Go.Proofs.YthdpfjkdpeamnaaW.PrintWords Go.Proofs.YthdpfjkdpeamnaaW.PrintLast Go.Proofs.YthdpfjkdpeamnaaW.PrintMore
attribute [local go_sem] max2_int min2_int max_two min_two max_three min_three max_four min_four
set_option linter.unusedVariables false
set_option linter.unusedSimpArgs false
set_option maxHeartbeats 8000000
set_option maxRecDepth 100000
mutual
def spec_ScDot.l0 : Nat → List Int → List Int → Int → Int → Option (Int)
 | 0, _, _, _, _ => none
 | k + 1, x0, x1, x5, x6 => if x6 < (x0.length : Int) then (spec_ScDot.j1 k x0 x1 x5 x6 (decide (x6 < (x1.length : Int)))) else (spec_ScDot.j1 k x0 x1 x5 x6 false)
def spec_ScDot.j1 : Nat → List Int → List Int → Int → Int → Bool → Option (Int)
 | 0, _, _, _, _, _ => none
 | k + 1, x0, x1, x5, x6, x16 => if x16 = true then (if 0 ≤ x6 then (if x6 < (x0.length : Int) then (if x6 < (x1.length : Int) then ((spec_ScMul.f (rd x0 x6) (rd x1 x6)).bind fun t190 => ((spec_ScAdd.f x5 t190).bind fun t191 => (spec_ScDot.l0 k x0 x1 t191 (wrap64 (x6 + 1))))) else (none)) else (none)) else (none)) else (some x5)
end
def spec_ScDot.f (k : Nat) (l0 : List Int) (l1 : List Int) : Option (Int) := spec_ScDot.l0 k l0 l1 0 0
theorem spec_ScDot.calls (k : Nat) (A0 : Option Addr) (c0 : Nat) (l0 : List Int) (A1 : Option Addr) (c1 : Nat) (l1 : List Int) (r : Int) (w : World) (hr0 : Kd.C (Kd.int .i64) w A0 l0.length l0) (hc0 : l0.length ≤ c0) (hr1 : Kd.C (Kd.int .i64) w A1 l1.length l1) (hc1 : l1.length ≤ c1) (h : spec_ScDot.f k l0 l1 = some r) :
  Calls Try.prog 76 #[.slice A0 l0.length c0, .slice A1 l1.length c1] w fun e w' => e = .returned (.int .i64 r) ∧ Drawn0 w w' := by
 have HR0 := Aside0.mk hr0
 have HC0 := Aside0.mk hc0
 clear hr0 hc0
 have HR1 := Aside0.mk hr1
 have HC1 := Aside0.mk hc1
 clear hr1 hc1
 have H : (spec_ScDot.l0 k l0 l1 0 0) = some r := h
 clear h
 have H' := Aside0.mk H
 clear H
 go_enter Try.func76, Try.ntmps76
 go_wp2
 repeat (go_quiet (fail); try go_wp2)
 go_loopg [5, 6] k (fun kq v5 v6 w' => ∃ (x5_1 : Int) (x6_1 : Int), v5 = .int .i64 x5_1 ∧ v6 = .int .i64 x6_1 ∧ Aside0 (spec_ScDot.l0 kq l0 l1 x5_1 x6_1 = some r) ∧ Aside0 (kq ≤ k) ∧ Drawn0 w w')
 case atStart => exact ⟨(0), (0), rS, rS, H', ⟨Nat.le_refl _⟩, by repeat (first | exact Drawn0.refl _ | apply Drawn0.step)⟩
 case round =>
  clear H'
  try clear c1
  try clear p2
  obtain ⟨x5_1, x6_1, rfl, rfl, HA, HK1, ⟨m1, rfl⟩⟩ := hrel
  cases gk with
  | zero => exact absurd HA.out (by simp [spec_ScDot.l0])
  | succ k1 =>
   have H := HA.out
   clear HA
   simp only [spec_ScDot.l0] at H
   have HC3 := Aside0.mk H
   clear H
   go_upto_region 3 with (fail)
   repeat (go_quiet (fail); go_upto_region 3 with (fail))
   go_cut [16] (fun v16 wc => ∃ (kq : Nat) (x16_2 : Bool), v16 = .bool x16_2 ∧ Aside0 (spec_ScDot.j1 kq l0 l1 x5_1 x6_1 x16_2 = some r) ∧ Aside0 (kq ≤ k1) ∧ Drawn0 w wc)
   case first =>
    have H := HC3.out
    clear HC3
    by_cases c4 : x6_1 < (l0.length : Int)
    ·rw [if_pos c4] at H
     have c4b0 := decide_eq_true c4
     clear c4
     (first | rw [c4b0] | (simp only [i64_w, i32_w]; rw [c4b0]) | rw [c4b1] | skip)
     have H' := Aside0.mk H
     clear H
     go_wp2
     repeat (go_quiet (fail); try go_wp2)
     go_meet
     case rel => exact ⟨_, (decide (x6_1 < (l1.length : Int))), rS, H', ⟨by have := HK1.out; first | omega | exact Nat.le_refl _⟩, by repeat (first | exact Drawn0.refl _ | apply Drawn0.step)⟩
    ·rw [if_neg c4] at H
     have c4b0 := decide_eq_false c4
     clear c4
     (first | rw [c4b0] | (simp only [i64_w, i32_w]; rw [c4b0]) | rw [c4b1] | skip)
     have H' := Aside0.mk H
     clear H
     go_wp2
     repeat (go_quiet (fail); try go_wp2)
     go_meet
     case rel => exact ⟨_, (false), rS, H', ⟨by have := HK1.out; first | omega | exact Nat.le_refl _⟩, by repeat (first | exact Drawn0.refl _ | apply Drawn0.step)⟩
   case rest =>
    clear HC3
    try clear c1
    try clear p2
    try clear c4
    try clear c4b0
    try clear p2
    obtain ⟨kq, x16_2, rfl, HA, HJ2, ⟨mc2, rfl⟩⟩ := hcut
    cases kq with
    | zero => exact absurd HA.out (by simp [spec_ScDot.j1])
    | succ kj2 =>
     have H := HA.out
     clear HA
     simp only [spec_ScDot.j1] at H
     by_cases c5 : x16_2 = true
     ·subst c5
      rw [if_pos rfl] at H
      by_cases c6 : 0 ≤ x6_1
      ·rw [if_pos c6] at H
       have c6b0 := decide_eq_true c6
       clear c6
       by_cases c7 : x6_1 < (l0.length : Int)
       ·rw [if_pos c7] at H
        have c7b0 := decide_eq_true c7
        clear c7
        by_cases c8 : x6_1 < (l1.length : Int)
        ·rw [if_pos c8] at H
         have c8b0 := decide_eq_true c8
         clear c8
         replace H := Option.bind_eq_some_iff.mp H
         obtain ⟨t190, A90, H⟩ := H
         have A9 := Aside0.mk A90
         clear A90
         replace H := Option.bind_eq_some_iff.mp H
         obtain ⟨t191, A100, H⟩ := H
         have A10 := Aside0.mk A100
         clear A100
         have H' := Aside0.mk H
         clear H
         have p188 : 0 ≤ (x6_1 : Int) := of_decide_eq_true (by first | (with_reducible assumption) | assumption)
         have q188 : x6_1 < (l0.length : Int) := of_decide_eq_true (by first | (with_reducible assumption) | assumption)
         obtain ⟨ad188, e188, hx188_0⟩ := Kd.at_int HR0.out x6_1 p188 q188
         cases e188
         replace p188 := eq_true p188
         replace q188 := eq_true q188
         have p189 : 0 ≤ (x6_1 : Int) := of_decide_eq_true (by first | (with_reducible assumption) | assumption)
         have q189 : x6_1 < (l1.length : Int) := of_decide_eq_true (by first | (with_reducible assumption) | assumption)
         obtain ⟨ad189, e189, hx189_0⟩ := Kd.at_int HR1.out x6_1 p189 q189
         cases e189
         replace p189 := eq_true p189
         replace q189 := eq_true q189
         go_wp2_with (first | (go_at_call 75; (with_reducible refine (spec_ScMul.calls (rd l0 x6_1) (rd l1 x6_1) t190 _ A9.out).mono ?_); rintro e w' ⟨rfl, ⟨nd, rfl⟩⟩; (try exact tD)) | (go_at_call 52; (with_reducible refine (spec_ScAdd.calls x5_1 t190 t191 _ A10.out).mono ?_); rintro e w' ⟨rfl, ⟨nd, rfl⟩⟩; (try exact tD)))
         repeat (go_quiet (first | (go_at_call 75; (with_reducible refine (spec_ScMul.calls (rd l0 x6_1) (rd l1 x6_1) t190 _ A9.out).mono ?_); rintro e w' ⟨rfl, ⟨nd, rfl⟩⟩; (try exact tD)) | (go_at_call 52; (with_reducible refine (spec_ScAdd.calls x5_1 t190 t191 _ A10.out).mono ?_); rintro e w' ⟨rfl, ⟨nd, rfl⟩⟩; (try exact tD))); try go_wp2_with (first | (go_at_call 75; (with_reducible refine (spec_ScMul.calls (rd l0 x6_1) (rd l1 x6_1) t190 _ A9.out).mono ?_); rintro e w' ⟨rfl, ⟨nd, rfl⟩⟩; (try exact tD)) | (go_at_call 52; (with_reducible refine (spec_ScAdd.calls x5_1 t190 t191 _ A10.out).mono ?_); rintro e w' ⟨rfl, ⟨nd, rfl⟩⟩; (try exact tD))))
         go_roundg kj2
         case measure => have := HK1.out; have := HJ2.out; omega
         case rel => exact ⟨(t191), (wrap64 (x6_1 + 1)), rS, rS, H', ⟨by have := HK1.out; have := HJ2.out; omega⟩, by repeat (first | exact Drawn0.refl _ | apply Drawn0.step)⟩
        ·rw [if_neg c8] at H
         exact absurd H (by simp)
       ·rw [if_neg c7] at H
        exact absurd H (by simp)
      ·rw [if_neg c6] at H
       exact absurd H (by simp)
     ·replace c5 := Bool.eq_false_iff.mpr c5
      subst c5
      rw [if_neg (show ¬ (false = true) by decide)] at H
      obtain rfl := Option.some.inj H
      go_wp2
      repeat (go_quiet (fail); try go_wp2)
      go_ret
      exact ⟨rS, rD⟩
end Go.Proofs.Ythdpfjkdpeamnaa.Pf
end
section
namespace Go.Proofs.Ythdpfjkdpeamnaa.Pf
open Go.RowKit Go.Proofs.YthdpfjkdpeamnaaW.PrintWords Go.Proofs.YthdpfjkdpeamnaaW.PrintLast Go.Proofs.YthdpfjkdpeamnaaW.PrintMore
attribute [local go_sem] max2_int min2_int max_two min_two max_three min_three max_four min_four
set_option linter.unusedVariables false
set_option linter.unusedSimpArgs false
set_option maxHeartbeats 8000000
set_option maxRecDepth 100000
mutual
def spec_Satisfied.j0 : Nat → List Int → Bool → Int → Int → List (S75) → Option (Bool)
 | 0, _, _, _, _, _ => none
 | k + 1, x1, x22, x193000, x193001, x193002 => if x22 = true then (some false) else (spec_Satisfied.l0 k x1 0 x193000 x193001 x193002)
def spec_Satisfied.l0 : Nat → List Int → Int → Int → Int → List (S75) → Option (Bool)
 | 0, _, _, _, _, _ => none
 | k + 1, x1, x5, x193000, x193001, x193002 => if x5 < (x193002.length : Int) then (if 0 ≤ x5 then ((spec_ScDot.f k ((rd_T75 x193002 x5).f0) x1).bind fun t198 => ((spec_ScDot.f k ((rd_T75 x193002 x5).f1) x1).bind fun t199 => ((spec_ScMul.f t198 t199).bind fun t200 => ((spec_ScDot.f k ((rd_T75 x193002 x5).f2) x1).bind fun t201 => (if t200 = t201 then (spec_Satisfied.l0 k x1 (wrap64 (x5 + 1)) x193000 x193001 x193002) else (some false)))))) else (none)) else (some true)
end
def spec_Satisfied.f (k : Nat) (a0_0 : Int) (a0_1 : Int) (l0_2 : List (S75)) (l1 : List Int) : Option (Bool) := (spec_SystemOk.f k a0_0 a0_1 l0_2).bind fun t193 => (if t193 = true then ((spec_l13Wide.f k l1 a0_0).bind fun t194 => (if t194 = true then (if 0 < (l1.length : Int) then (spec_Satisfied.j0 k l1 ((rd l1 0) != 1) a0_0 a0_1 l0_2) else (none)) else (spec_Satisfied.j0 k l1 true a0_0 a0_1 l0_2))) else (spec_Satisfied.j0 k l1 true a0_0 a0_1 l0_2))
theorem spec_Satisfied.calls (k : Nat) (a0_0 : Int) (a0_1 : Int) (A0_2 : Option Addr) (c0_2 : Nat) (l0_2 : List (S75)) (A1 : Option Addr) (c1 : Nat) (l1 : List Int) (r : Bool) (w : World) (hr0_2 : Kd.C k75 w A0_2 l0_2.length l0_2) (hc0_2 : l0_2.length ≤ c0_2) (hr1 : Kd.C (Kd.int .i64) w A1 l1.length l1) (hc1 : l1.length ≤ c1) (h : spec_Satisfied.f k a0_0 a0_1 l0_2 l1 = some r) :
  Calls Try.prog 46 #[.agg #[.int .i64 a0_0, .int .i64 a0_1, .slice A0_2 l0_2.length c0_2], .slice A1 l1.length c1] w fun e w' => e = .returned (.bool r) ∧ Below w.heap.size w w' := by
 have hu43 := Try.underlying43
 have hu75 := Try.underlying75
 have HR0_2 := Aside0.mk hr0_2
 have HC0_2 := Aside0.mk hc0_2
 clear hr0_2 hc0_2
 have HR1 := Aside0.mk hr1
 have HC1 := Aside0.mk hc1
 clear hr1 hc1
 have HB := Aside0.mk (Below.refl w.heap.size w)
 have H : ((spec_SystemOk.f k a0_0 a0_1 l0_2).bind fun t193 => (if t193 = true then ((spec_l13Wide.f k l1 a0_0).bind fun t194 => (if t194 = true then (if 0 < (l1.length : Int) then (spec_Satisfied.j0 k l1 ((rd l1 0) != 1) a0_0 a0_1 l0_2) else (none)) else (spec_Satisfied.j0 k l1 true a0_0 a0_1 l0_2))) else (spec_Satisfied.j0 k l1 true a0_0 a0_1 l0_2))) = some r := h
 clear h
 have HC3 := Aside0.mk H
 clear H
 go_enter Try.func46, Try.ntmps46
 go_upto_region 1 with (first | (refine gB 2 #[.int .i64 a0_0, .int .i64 a0_1, .slice A0_2 l0_2.length c0_2] 43 ?_; intro gb192 hg w4 BK192 hb; have GW192 := bG HB hg; replace HB := bS HB hb; clear hb hg))
 repeat (go_quiet (first | (refine gB 2 #[.int .i64 a0_0, .int .i64 a0_1, .slice A0_2 l0_2.length c0_2] 43 ?_; intro gb192 hg w4 BK192 hb; have GW192 := bG HB hg; replace HB := bS HB hb; clear hb hg)); go_upto_region 1 with (first | (refine gB 2 #[.int .i64 a0_0, .int .i64 a0_1, .slice A0_2 l0_2.length c0_2] 43 ?_; intro gb192 hg w4 BK192 hb; have GW192 := bG HB hg; replace HB := bS HB hb; clear hb hg)))
 (try simp only [Act.put, List.setIfInBounds_toArray, List.set_cons_zero, List.set_cons_succ])
 go_cut [22] (fun v22 wc => ∃ (kq : Nat) (x22_2 : Bool), v22 = .bool x22_2 ∧ Aside0 (spec_Satisfied.j0 kq l1 x22_2 a0_0 a0_1 l0_2 = some r) ∧ Aside0 (kq ≤ k) ∧ Aside0 (wc.heap[gb192]? = some (.cells #[.int .i64 a0_0, .int .i64 a0_1, (.slice A0_2 l0_2.length c0_2)] 43 (0, 0))) ∧ Aside0 (Below w.heap.size w wc))
 case first =>
  have H := HC3.out
  clear HC3
  replace H := Option.bind_eq_some_iff.mp H
  obtain ⟨t193, A50, H⟩ := H
  have A5 := Aside0.mk A50
  clear A50
  by_cases c6 : t193 = true
  ·subst c6
   rw [if_pos rfl] at H
   replace H := Option.bind_eq_some_iff.mp H
   obtain ⟨t194, A70, H⟩ := H
   have A7 := Aside0.mk A70
   clear A70
   by_cases c8 : t194 = true
   ·subst c8
    rw [if_pos rfl] at H
    by_cases c9 : 0 < (l1.length : Int)
    ·rw [if_pos c9] at H
     have c9b0 := decide_eq_true c9
     have c9b1 : decide (0 < l1.length) = true := decide_eq_true (by omega)
     clear c9
     (first | rw [c9b0] | (simp only [i64_w, i32_w]; rw [c9b0]) | rw [c9b1] | skip)
     have H' := Aside0.mk H
     clear H
     obtain ⟨hcz10_0, hcz10_1, hcz10_2, hfz10_0, hfz10_1, hfz10_2⟩ := bK3 (w := w4) BK192
     go_wp2_with (first | (go_at_call 43; (with_reducible refine (spec_SystemOk.calls k a0_0 a0_1 _ _ l0_2 true _ ?side1 ?side2 A5.out).mono ?_); (case side1 => exact cP (Kd.C_below HR0_2.out HB.out)); (case side2 => exact HC0_2.out); rintro e w11 ⟨rfl, hb⟩; replace BK192 := bB BK192 hb; replace HB := bS HB hb; (try clear hb); obtain ⟨hcz12_0, hcz12_1, hcz12_2, hfz12_0, hfz12_1, hfz12_2⟩ := bK3 (w := w11) BK192) | (go_at_call 72; (with_reducible refine (spec_l13Wide.calls k _ _ l1 a0_0 true _ ?side1 ?side2 A7.out).mono ?_); (case side1 => exact cP (Kd.C_below HR1.out HB.out)); (case side2 => exact HC1.out); rintro e w' ⟨rfl, ⟨nd, rfl⟩⟩; (try exact tD); have p195 : 0 ≤ (0 : Int) := (by omega); have q195 : 0 < (l1.length : Int) := of_decide_eq_true (by first | (with_reducible assumption) | assumption); obtain ⟨ad195, e195, hx195_0⟩ := Kd.at_int HR1.out 0 p195 q195; cases e195; have qi195 : (0 < l1.length) = True := eq_true (by omega); (try rw [show ((0 : Int)).toNat = 0 from rfl] at hx195_0); (try rw [Addr.add_zero'] at hx195_0); replace hx195_0 := (hC HB hx195_0 :); replace p195 := eq_true p195; replace q195 := eq_true q195))
     repeat (go_quiet (first | (go_at_call 43; (with_reducible refine (spec_SystemOk.calls k a0_0 a0_1 _ _ l0_2 true _ ?side1 ?side2 A5.out).mono ?_); (case side1 => exact cP (Kd.C_below HR0_2.out HB.out)); (case side2 => exact HC0_2.out); rintro e w11 ⟨rfl, hb⟩; replace BK192 := bB BK192 hb; replace HB := bS HB hb; (try clear hb); obtain ⟨hcz12_0, hcz12_1, hcz12_2, hfz12_0, hfz12_1, hfz12_2⟩ := bK3 (w := w11) BK192) | (go_at_call 72; (with_reducible refine (spec_l13Wide.calls k _ _ l1 a0_0 true _ ?side1 ?side2 A7.out).mono ?_); (case side1 => exact cP (Kd.C_below HR1.out HB.out)); (case side2 => exact HC1.out); rintro e w' ⟨rfl, ⟨nd, rfl⟩⟩; (try exact tD); have p195 : 0 ≤ (0 : Int) := (by omega); have q195 : 0 < (l1.length : Int) := of_decide_eq_true (by first | (with_reducible assumption) | assumption); obtain ⟨ad195, e195, hx195_0⟩ := Kd.at_int HR1.out 0 p195 q195; cases e195; have qi195 : (0 < l1.length) = True := eq_true (by omega); (try rw [show ((0 : Int)).toNat = 0 from rfl] at hx195_0); (try rw [Addr.add_zero'] at hx195_0); replace hx195_0 := (hC HB hx195_0 :); replace p195 := eq_true p195; replace q195 := eq_true q195)); try go_wp2_with (first | (go_at_call 43; (with_reducible refine (spec_SystemOk.calls k a0_0 a0_1 _ _ l0_2 true _ ?side1 ?side2 A5.out).mono ?_); (case side1 => exact cP (Kd.C_below HR0_2.out HB.out)); (case side2 => exact HC0_2.out); rintro e w11 ⟨rfl, hb⟩; replace BK192 := bB BK192 hb; replace HB := bS HB hb; (try clear hb); obtain ⟨hcz12_0, hcz12_1, hcz12_2, hfz12_0, hfz12_1, hfz12_2⟩ := bK3 (w := w11) BK192) | (go_at_call 72; (with_reducible refine (spec_l13Wide.calls k _ _ l1 a0_0 true _ ?side1 ?side2 A7.out).mono ?_); (case side1 => exact cP (Kd.C_below HR1.out HB.out)); (case side2 => exact HC1.out); rintro e w' ⟨rfl, ⟨nd, rfl⟩⟩; (try exact tD); have p195 : 0 ≤ (0 : Int) := (by omega); have q195 : 0 < (l1.length : Int) := of_decide_eq_true (by first | (with_reducible assumption) | assumption); obtain ⟨ad195, e195, hx195_0⟩ := Kd.at_int HR1.out 0 p195 q195; cases e195; have qi195 : (0 < l1.length) = True := eq_true (by omega); (try rw [show ((0 : Int)).toNat = 0 from rfl] at hx195_0); (try rw [Addr.add_zero'] at hx195_0); replace hx195_0 := (hC HB hx195_0 :); replace p195 := eq_true p195; replace q195 := eq_true q195)))
     go_meet
     case rel => exact ⟨_, (((rd l1 0) != 1)), rS, H', ⟨by first | omega | exact Nat.le_refl _⟩, ⟨bP BK192⟩, ⟨bZ HB⟩⟩
    ·rw [if_neg c9] at H
     exact absurd H (by simp)
   ·replace c8 := Bool.eq_false_iff.mpr c8
    subst c8
    rw [if_neg (show ¬ (false = true) by decide)] at H
    have H' := Aside0.mk H
    clear H
    obtain ⟨hcz13_0, hcz13_1, hcz13_2, hfz13_0, hfz13_1, hfz13_2⟩ := bK3 (w := w4) BK192
    go_wp2_with (first | (go_at_call 43; (with_reducible refine (spec_SystemOk.calls k a0_0 a0_1 _ _ l0_2 true _ ?side1 ?side2 A5.out).mono ?_); (case side1 => exact cP (Kd.C_below HR0_2.out HB.out)); (case side2 => exact HC0_2.out); rintro e w14 ⟨rfl, hb⟩; replace BK192 := bB BK192 hb; replace HB := bS HB hb; (try clear hb); obtain ⟨hcz15_0, hcz15_1, hcz15_2, hfz15_0, hfz15_1, hfz15_2⟩ := bK3 (w := w14) BK192) | (go_at_call 72; (with_reducible refine (spec_l13Wide.calls k _ _ l1 a0_0 false _ ?side1 ?side2 A7.out).mono ?_); (case side1 => exact cP (Kd.C_below HR1.out HB.out)); (case side2 => exact HC1.out); rintro e w' ⟨rfl, ⟨nd, rfl⟩⟩; (try exact tD)))
    repeat (go_quiet (first | (go_at_call 43; (with_reducible refine (spec_SystemOk.calls k a0_0 a0_1 _ _ l0_2 true _ ?side1 ?side2 A5.out).mono ?_); (case side1 => exact cP (Kd.C_below HR0_2.out HB.out)); (case side2 => exact HC0_2.out); rintro e w14 ⟨rfl, hb⟩; replace BK192 := bB BK192 hb; replace HB := bS HB hb; (try clear hb); obtain ⟨hcz15_0, hcz15_1, hcz15_2, hfz15_0, hfz15_1, hfz15_2⟩ := bK3 (w := w14) BK192) | (go_at_call 72; (with_reducible refine (spec_l13Wide.calls k _ _ l1 a0_0 false _ ?side1 ?side2 A7.out).mono ?_); (case side1 => exact cP (Kd.C_below HR1.out HB.out)); (case side2 => exact HC1.out); rintro e w' ⟨rfl, ⟨nd, rfl⟩⟩; (try exact tD))); try go_wp2_with (first | (go_at_call 43; (with_reducible refine (spec_SystemOk.calls k a0_0 a0_1 _ _ l0_2 true _ ?side1 ?side2 A5.out).mono ?_); (case side1 => exact cP (Kd.C_below HR0_2.out HB.out)); (case side2 => exact HC0_2.out); rintro e w14 ⟨rfl, hb⟩; replace BK192 := bB BK192 hb; replace HB := bS HB hb; (try clear hb); obtain ⟨hcz15_0, hcz15_1, hcz15_2, hfz15_0, hfz15_1, hfz15_2⟩ := bK3 (w := w14) BK192) | (go_at_call 72; (with_reducible refine (spec_l13Wide.calls k _ _ l1 a0_0 false _ ?side1 ?side2 A7.out).mono ?_); (case side1 => exact cP (Kd.C_below HR1.out HB.out)); (case side2 => exact HC1.out); rintro e w' ⟨rfl, ⟨nd, rfl⟩⟩; (try exact tD))))
    go_meet
    case rel => exact ⟨_, (true), rS, H', ⟨by first | omega | exact Nat.le_refl _⟩, ⟨bP BK192⟩, ⟨bZ HB⟩⟩
  ·replace c6 := Bool.eq_false_iff.mpr c6
   subst c6
   rw [if_neg (show ¬ (false = true) by decide)] at H
   have H' := Aside0.mk H
   clear H
   obtain ⟨hcz16_0, hcz16_1, hcz16_2, hfz16_0, hfz16_1, hfz16_2⟩ := bK3 (w := w4) BK192
   go_wp2_with (first | (go_at_call 43; (with_reducible refine (spec_SystemOk.calls k a0_0 a0_1 _ _ l0_2 false _ ?side1 ?side2 A5.out).mono ?_); (case side1 => exact cP (Kd.C_below HR0_2.out HB.out)); (case side2 => exact HC0_2.out); rintro e w17 ⟨rfl, hb⟩; replace BK192 := bB BK192 hb; replace HB := bS HB hb; (try clear hb)))
   repeat (go_quiet (first | (go_at_call 43; (with_reducible refine (spec_SystemOk.calls k a0_0 a0_1 _ _ l0_2 false _ ?side1 ?side2 A5.out).mono ?_); (case side1 => exact cP (Kd.C_below HR0_2.out HB.out)); (case side2 => exact HC0_2.out); rintro e w17 ⟨rfl, hb⟩; replace BK192 := bB BK192 hb; replace HB := bS HB hb; (try clear hb))); try go_wp2_with (first | (go_at_call 43; (with_reducible refine (spec_SystemOk.calls k a0_0 a0_1 _ _ l0_2 false _ ?side1 ?side2 A5.out).mono ?_); (case side1 => exact cP (Kd.C_below HR0_2.out HB.out)); (case side2 => exact HC0_2.out); rintro e w17 ⟨rfl, hb⟩; replace BK192 := bB BK192 hb; replace HB := bS HB hb; (try clear hb))))
   go_meet
   case rel => exact ⟨_, (true), rS, H', ⟨by first | omega | exact Nat.le_refl _⟩, ⟨bP BK192⟩, ⟨bZ HB⟩⟩
 case rest =>
  clear HC3
  try clear c1
  try clear p1
  try clear q1
  try clear hx1
  try clear qi1
  try clear p2
  try clear c4
  try clear c6
  try clear c8
  try clear c9
  try clear c9b0
  try clear c9b1
  try clear hcz10_0
  try clear hcz10_1
  try clear hcz10_2
  try clear hcz12_0
  try clear hcz12_1
  try clear hcz12_2
  try clear hcz13_0
  try clear hcz13_1
  try clear hcz13_2
  try clear hcz15_0
  try clear hcz15_1
  try clear hcz15_2
  try clear hcz16_0
  try clear hcz16_1
  try clear hcz16_2
  try clear hfz10_0
  try clear hfz10_1
  try clear hfz10_2
  try clear hfz12_0
  try clear hfz12_1
  try clear hfz12_2
  try clear hfz13_0
  try clear hfz13_1
  try clear hfz13_2
  try clear hfz15_0
  try clear hfz15_1
  try clear hfz15_2
  try clear hfz16_0
  try clear hfz16_1
  try clear hfz16_2
  try clear hx195_0
  try clear p195
  try clear q195
  obtain ⟨kq, x22_2, rfl, HA, HJ2, BK192, HB⟩ := hcut
  cases kq with
  | zero => exact absurd HA.out (by simp [spec_Satisfied.j0])
  | succ kj2 =>
   have H := HA.out
   clear HA
   simp only [spec_Satisfied.j0] at H
   by_cases c18 : x22_2 = true
   ·subst c18
    rw [if_pos rfl] at H
    obtain rfl := Option.some.inj H
    go_wp2
    repeat (go_quiet (fail); try go_wp2)
    go_ret
    exact ⟨rR, bZ HB⟩
   ·replace c18 := Bool.eq_false_iff.mpr c18
    subst c18
    rw [if_neg (show ¬ (false = true) by decide)] at H
    have H' := Aside0.mk H
    clear H
    go_wp2
    repeat (go_quiet (fail); try go_wp2)
    go_loopg [5] kj2 (fun kq v5 w' => ∃ (x5_2 : Int), v5 = .int .i64 x5_2 ∧ Aside0 (spec_Satisfied.l0 kq l1 x5_2 a0_0 a0_1 l0_2 = some r) ∧ Aside0 (kq ≤ kj2) ∧ Aside0 (w'.heap[gb192]? = some (.cells #[.int .i64 a0_0, .int .i64 a0_1, (.slice A0_2 l0_2.length c0_2)] 43 (0, 0))) ∧ Aside0 (Below w.heap.size w w'))
    case atStart => exact ⟨(0), rS, H', ⟨Nat.le_refl _⟩, ⟨bP BK192⟩, ⟨bZ HB⟩⟩
    case round =>
     clear H'
     try clear c1
     try clear p1
     try clear q1
     try clear hx1
     try clear qi1
     try clear p2
     try clear c4
     try clear c6
     try clear c8
     try clear c9
     try clear c9b0
     try clear c9b1
     try clear c18
     try clear hcz10_0
     try clear hcz10_1
     try clear hcz10_2
     try clear hcz12_0
     try clear hcz12_1
     try clear hcz12_2
     try clear hcz13_0
     try clear hcz13_1
     try clear hcz13_2
     try clear hcz15_0
     try clear hcz15_1
     try clear hcz15_2
     try clear hcz16_0
     try clear hcz16_1
     try clear hcz16_2
     try clear hfz10_0
     try clear hfz10_1
     try clear hfz10_2
     try clear hfz12_0
     try clear hfz12_1
     try clear hfz12_2
     try clear hfz13_0
     try clear hfz13_1
     try clear hfz13_2
     try clear hfz15_0
     try clear hfz15_1
     try clear hfz15_2
     try clear hfz16_0
     try clear hfz16_1
     try clear hfz16_2
     try clear hx195_0
     try clear p1
     try clear p195
     try clear p2
     try clear q1
     try clear q195
     obtain ⟨x5_2, rfl, HA, HK2, BK192, HB⟩ := hrel
     cases gk with
     | zero => exact absurd HA.out (by simp [spec_Satisfied.l0])
     | succ k2 =>
      have H := HA.out
      clear HA
      simp only [spec_Satisfied.l0] at H
      by_cases c19 : x5_2 < (l0_2.length : Int)
      ·rw [if_pos c19] at H
       have c19b0 := decide_eq_true c19
       clear c19
       by_cases c20 : 0 ≤ x5_2
       ·rw [if_pos c20] at H
        have c20b0 := decide_eq_true c20
        clear c20
        replace H := Option.bind_eq_some_iff.mp H
        obtain ⟨t198, A210, H⟩ := H
        have A21 := Aside0.mk A210
        clear A210
        replace H := Option.bind_eq_some_iff.mp H
        obtain ⟨t199, A220, H⟩ := H
        have A22 := Aside0.mk A220
        clear A220
        replace H := Option.bind_eq_some_iff.mp H
        obtain ⟨t200, A230, H⟩ := H
        have A23 := Aside0.mk A230
        clear A230
        replace H := Option.bind_eq_some_iff.mp H
        obtain ⟨t201, A240, H⟩ := H
        have A24 := Aside0.mk A240
        clear A240
        by_cases c25 : t200 = t201
        ·rw [if_pos c25] at H
         have c25b0 : (t200 == t201) = true := beq_iff_eq.mpr c25
         have c25b1 : (t200 != t201) = false := bne_eq_false_iff_eq.mpr c25
         clear c25
         have H' := Aside0.mk H
         clear H
         obtain ⟨hcz26_0, hcz26_1, hcz26_2, hfz26_0, hfz26_1, hfz26_2⟩ := bK3 (w := wr) BK192
         have p196 : 0 ≤ (x5_2 : Int) := of_decide_eq_true (by first | (with_reducible assumption) | assumption)
         have q196 : x5_2 < (l0_2.length : Int) := of_decide_eq_true (by first | (with_reducible assumption) | assumption)
         obtain ⟨ad196, A196_0, c196_0, A196_1, c196_1, A196_2, c196_2, e196, hx196_0, hx196_1, hx196_2, hl196_0, hi196_0, hl196_1, hi196_1, hl196_2, hi196_2⟩ := at_T75 HR0_2.out x5_2 p196 q196
         cases e196
         replace hx196_0 := (hC HB hx196_0 :)
         replace hx196_1 := (hC HB hx196_1 :)
         replace hx196_2 := (hC HB hx196_2 :)
         have HR196_0 := Aside0.mk hi196_0
         have HC196_0 := Aside0.mk hl196_0
         clear hi196_0 hl196_0
         have HR196_1 := Aside0.mk hi196_1
         have HC196_1 := Aside0.mk hl196_1
         clear hi196_1 hl196_1
         have HR196_2 := Aside0.mk hi196_2
         have HC196_2 := Aside0.mk hl196_2
         clear hi196_2 hl196_2
         replace p196 := eq_true p196
         replace q196 := eq_true q196
         go_wp2_with (first | (refine gB 6 #[.slice none 0 0, .slice none 0 0, .slice none 0 0] 75 ?_; intro gb197 hg w27 BK197 hb; have GW197 := bG HB hg; replace HB := bS HB hb; obtain ⟨NB192_197, NB197_192⟩ := bN BK192 hg; replace BK192 := bB BK192 hb; clear hb hg; obtain ⟨hnb28, hnc28⟩ := nB NB197_192; obtain ⟨hcz29_0, hcz29_1, hcz29_2, hfz29_0, hfz29_1, hfz29_2⟩ := bK3 (w := w27) BK197) | (go_at_call 76; (with_reducible refine (spec_ScDot.calls k2 _ _ ((rd_T75 l0_2 x5_2).f0) _ _ l1 t198 _ ?side1 ?side2 ?side3 ?side4 A21.out).mono ?_); (case side1 => exact Kd.C_below HR196_0.out (bZ HB)); (case side2 => exact HC196_0.out); (case side3 => exact Kd.C_below HR1.out (bZ HB)); (case side4 => exact HC1.out); rintro e w' ⟨rfl, ⟨nd, rfl⟩⟩; (try exact tD)) | (go_at_call 76; (with_reducible refine (spec_ScDot.calls k2 _ _ ((rd_T75 l0_2 x5_2).f1) _ _ l1 t199 _ ?side1 ?side2 ?side3 ?side4 A22.out).mono ?_); (case side1 => exact Kd.C_below HR196_1.out (bZ HB)); (case side2 => exact HC196_1.out); (case side3 => exact Kd.C_below HR1.out (bZ HB)); (case side4 => exact HC1.out); rintro e w' ⟨rfl, ⟨nd, rfl⟩⟩; (try exact tD)) | (go_at_call 75; (with_reducible refine (spec_ScMul.calls t198 t199 t200 _ A23.out).mono ?_); rintro e w' ⟨rfl, ⟨nd, rfl⟩⟩; (try exact tD)) | (go_at_call 76; (with_reducible refine (spec_ScDot.calls k2 _ _ ((rd_T75 l0_2 x5_2).f2) _ _ l1 t201 _ ?side1 ?side2 ?side3 ?side4 A24.out).mono ?_); (case side1 => exact Kd.C_below HR196_2.out (bZ HB)); (case side2 => exact HC196_2.out); (case side3 => exact Kd.C_below HR1.out (bZ HB)); (case side4 => exact HC1.out); rintro e w' ⟨rfl, ⟨nd, rfl⟩⟩; (try exact tD)))
         repeat (go_quiet (first | (refine gB 6 #[.slice none 0 0, .slice none 0 0, .slice none 0 0] 75 ?_; intro gb197 hg w27 BK197 hb; have GW197 := bG HB hg; replace HB := bS HB hb; obtain ⟨NB192_197, NB197_192⟩ := bN BK192 hg; replace BK192 := bB BK192 hb; clear hb hg; obtain ⟨hnb28, hnc28⟩ := nB NB197_192; obtain ⟨hcz29_0, hcz29_1, hcz29_2, hfz29_0, hfz29_1, hfz29_2⟩ := bK3 (w := w27) BK197) | (go_at_call 76; (with_reducible refine (spec_ScDot.calls k2 _ _ ((rd_T75 l0_2 x5_2).f0) _ _ l1 t198 _ ?side1 ?side2 ?side3 ?side4 A21.out).mono ?_); (case side1 => exact Kd.C_below HR196_0.out (bZ HB)); (case side2 => exact HC196_0.out); (case side3 => exact Kd.C_below HR1.out (bZ HB)); (case side4 => exact HC1.out); rintro e w' ⟨rfl, ⟨nd, rfl⟩⟩; (try exact tD)) | (go_at_call 76; (with_reducible refine (spec_ScDot.calls k2 _ _ ((rd_T75 l0_2 x5_2).f1) _ _ l1 t199 _ ?side1 ?side2 ?side3 ?side4 A22.out).mono ?_); (case side1 => exact Kd.C_below HR196_1.out (bZ HB)); (case side2 => exact HC196_1.out); (case side3 => exact Kd.C_below HR1.out (bZ HB)); (case side4 => exact HC1.out); rintro e w' ⟨rfl, ⟨nd, rfl⟩⟩; (try exact tD)) | (go_at_call 75; (with_reducible refine (spec_ScMul.calls t198 t199 t200 _ A23.out).mono ?_); rintro e w' ⟨rfl, ⟨nd, rfl⟩⟩; (try exact tD)) | (go_at_call 76; (with_reducible refine (spec_ScDot.calls k2 _ _ ((rd_T75 l0_2 x5_2).f2) _ _ l1 t201 _ ?side1 ?side2 ?side3 ?side4 A24.out).mono ?_); (case side1 => exact Kd.C_below HR196_2.out (bZ HB)); (case side2 => exact HC196_2.out); (case side3 => exact Kd.C_below HR1.out (bZ HB)); (case side4 => exact HC1.out); rintro e w' ⟨rfl, ⟨nd, rfl⟩⟩; (try exact tD))); try go_wp2_with (first | (refine gB 6 #[.slice none 0 0, .slice none 0 0, .slice none 0 0] 75 ?_; intro gb197 hg w27 BK197 hb; have GW197 := bG HB hg; replace HB := bS HB hb; obtain ⟨NB192_197, NB197_192⟩ := bN BK192 hg; replace BK192 := bB BK192 hb; clear hb hg; obtain ⟨hnb28, hnc28⟩ := nB NB197_192; obtain ⟨hcz29_0, hcz29_1, hcz29_2, hfz29_0, hfz29_1, hfz29_2⟩ := bK3 (w := w27) BK197) | (go_at_call 76; (with_reducible refine (spec_ScDot.calls k2 _ _ ((rd_T75 l0_2 x5_2).f0) _ _ l1 t198 _ ?side1 ?side2 ?side3 ?side4 A21.out).mono ?_); (case side1 => exact Kd.C_below HR196_0.out (bZ HB)); (case side2 => exact HC196_0.out); (case side3 => exact Kd.C_below HR1.out (bZ HB)); (case side4 => exact HC1.out); rintro e w' ⟨rfl, ⟨nd, rfl⟩⟩; (try exact tD)) | (go_at_call 76; (with_reducible refine (spec_ScDot.calls k2 _ _ ((rd_T75 l0_2 x5_2).f1) _ _ l1 t199 _ ?side1 ?side2 ?side3 ?side4 A22.out).mono ?_); (case side1 => exact Kd.C_below HR196_1.out (bZ HB)); (case side2 => exact HC196_1.out); (case side3 => exact Kd.C_below HR1.out (bZ HB)); (case side4 => exact HC1.out); rintro e w' ⟨rfl, ⟨nd, rfl⟩⟩; (try exact tD)) | (go_at_call 75; (with_reducible refine (spec_ScMul.calls t198 t199 t200 _ A23.out).mono ?_); rintro e w' ⟨rfl, ⟨nd, rfl⟩⟩; (try exact tD)) | (go_at_call 76; (with_reducible refine (spec_ScDot.calls k2 _ _ ((rd_T75 l0_2 x5_2).f2) _ _ l1 t201 _ ?side1 ?side2 ?side3 ?side4 A24.out).mono ?_); (case side1 => exact Kd.C_below HR196_2.out (bZ HB)); (case side2 => exact HC196_2.out); (case side3 => exact Kd.C_below HR1.out (bZ HB)); (case side4 => exact HC1.out); rintro e w' ⟨rfl, ⟨nd, rfl⟩⟩; (try exact tD))))
         go_roundg k2
         case measure => have := HJ2.out; have := HK2.out; omega
         case rel => exact ⟨(wrap64 (x5_2 + 1)), rS, H', ⟨by have := HJ2.out; have := HK2.out; omega⟩, ⟨bP BK192⟩, ⟨bZ HB⟩⟩
        ·rw [if_neg c25] at H
         have c25b0 : (t200 == t201) = false := beq_eq_false_iff_ne.mpr c25
         have c25b1 : (t200 != t201) = true := bne_iff_ne.mpr c25
         obtain rfl := Option.some.inj H
         obtain ⟨hcz30_0, hcz30_1, hcz30_2, hfz30_0, hfz30_1, hfz30_2⟩ := bK3 (w := wr) BK192
         have p196 : 0 ≤ (x5_2 : Int) := of_decide_eq_true (by first | (with_reducible assumption) | assumption)
         have q196 : x5_2 < (l0_2.length : Int) := of_decide_eq_true (by first | (with_reducible assumption) | assumption)
         obtain ⟨ad196, A196_0, c196_0, A196_1, c196_1, A196_2, c196_2, e196, hx196_0, hx196_1, hx196_2, hl196_0, hi196_0, hl196_1, hi196_1, hl196_2, hi196_2⟩ := at_T75 HR0_2.out x5_2 p196 q196
         cases e196
         replace hx196_0 := (hC HB hx196_0 :)
         replace hx196_1 := (hC HB hx196_1 :)
         replace hx196_2 := (hC HB hx196_2 :)
         have HR196_0 := Aside0.mk hi196_0
         have HC196_0 := Aside0.mk hl196_0
         clear hi196_0 hl196_0
         have HR196_1 := Aside0.mk hi196_1
         have HC196_1 := Aside0.mk hl196_1
         clear hi196_1 hl196_1
         have HR196_2 := Aside0.mk hi196_2
         have HC196_2 := Aside0.mk hl196_2
         clear hi196_2 hl196_2
         replace p196 := eq_true p196
         replace q196 := eq_true q196
         go_wp2_with (first | (refine gB 6 #[.slice none 0 0, .slice none 0 0, .slice none 0 0] 75 ?_; intro gb197 hg w31 BK197 hb; have GW197 := bG HB hg; replace HB := bS HB hb; obtain ⟨NB192_197, NB197_192⟩ := bN BK192 hg; replace BK192 := bB BK192 hb; clear hb hg; obtain ⟨hnb32, hnc32⟩ := nB NB197_192; obtain ⟨hcz33_0, hcz33_1, hcz33_2, hfz33_0, hfz33_1, hfz33_2⟩ := bK3 (w := w31) BK197) | (go_at_call 76; (with_reducible refine (spec_ScDot.calls k2 _ _ ((rd_T75 l0_2 x5_2).f0) _ _ l1 t198 _ ?side1 ?side2 ?side3 ?side4 A21.out).mono ?_); (case side1 => exact Kd.C_below HR196_0.out (bZ HB)); (case side2 => exact HC196_0.out); (case side3 => exact Kd.C_below HR1.out (bZ HB)); (case side4 => exact HC1.out); rintro e w' ⟨rfl, ⟨nd, rfl⟩⟩; (try exact tD)) | (go_at_call 76; (with_reducible refine (spec_ScDot.calls k2 _ _ ((rd_T75 l0_2 x5_2).f1) _ _ l1 t199 _ ?side1 ?side2 ?side3 ?side4 A22.out).mono ?_); (case side1 => exact Kd.C_below HR196_1.out (bZ HB)); (case side2 => exact HC196_1.out); (case side3 => exact Kd.C_below HR1.out (bZ HB)); (case side4 => exact HC1.out); rintro e w' ⟨rfl, ⟨nd, rfl⟩⟩; (try exact tD)) | (go_at_call 75; (with_reducible refine (spec_ScMul.calls t198 t199 t200 _ A23.out).mono ?_); rintro e w' ⟨rfl, ⟨nd, rfl⟩⟩; (try exact tD)) | (go_at_call 76; (with_reducible refine (spec_ScDot.calls k2 _ _ ((rd_T75 l0_2 x5_2).f2) _ _ l1 t201 _ ?side1 ?side2 ?side3 ?side4 A24.out).mono ?_); (case side1 => exact Kd.C_below HR196_2.out (bZ HB)); (case side2 => exact HC196_2.out); (case side3 => exact Kd.C_below HR1.out (bZ HB)); (case side4 => exact HC1.out); rintro e w' ⟨rfl, ⟨nd, rfl⟩⟩; (try exact tD)))
         repeat (go_quiet (first | (refine gB 6 #[.slice none 0 0, .slice none 0 0, .slice none 0 0] 75 ?_; intro gb197 hg w31 BK197 hb; have GW197 := bG HB hg; replace HB := bS HB hb; obtain ⟨NB192_197, NB197_192⟩ := bN BK192 hg; replace BK192 := bB BK192 hb; clear hb hg; obtain ⟨hnb32, hnc32⟩ := nB NB197_192; obtain ⟨hcz33_0, hcz33_1, hcz33_2, hfz33_0, hfz33_1, hfz33_2⟩ := bK3 (w := w31) BK197) | (go_at_call 76; (with_reducible refine (spec_ScDot.calls k2 _ _ ((rd_T75 l0_2 x5_2).f0) _ _ l1 t198 _ ?side1 ?side2 ?side3 ?side4 A21.out).mono ?_); (case side1 => exact Kd.C_below HR196_0.out (bZ HB)); (case side2 => exact HC196_0.out); (case side3 => exact Kd.C_below HR1.out (bZ HB)); (case side4 => exact HC1.out); rintro e w' ⟨rfl, ⟨nd, rfl⟩⟩; (try exact tD)) | (go_at_call 76; (with_reducible refine (spec_ScDot.calls k2 _ _ ((rd_T75 l0_2 x5_2).f1) _ _ l1 t199 _ ?side1 ?side2 ?side3 ?side4 A22.out).mono ?_); (case side1 => exact Kd.C_below HR196_1.out (bZ HB)); (case side2 => exact HC196_1.out); (case side3 => exact Kd.C_below HR1.out (bZ HB)); (case side4 => exact HC1.out); rintro e w' ⟨rfl, ⟨nd, rfl⟩⟩; (try exact tD)) | (go_at_call 75; (with_reducible refine (spec_ScMul.calls t198 t199 t200 _ A23.out).mono ?_); rintro e w' ⟨rfl, ⟨nd, rfl⟩⟩; (try exact tD)) | (go_at_call 76; (with_reducible refine (spec_ScDot.calls k2 _ _ ((rd_T75 l0_2 x5_2).f2) _ _ l1 t201 _ ?side1 ?side2 ?side3 ?side4 A24.out).mono ?_); (case side1 => exact Kd.C_below HR196_2.out (bZ HB)); (case side2 => exact HC196_2.out); (case side3 => exact Kd.C_below HR1.out (bZ HB)); (case side4 => exact HC1.out); rintro e w' ⟨rfl, ⟨nd, rfl⟩⟩; (try exact tD))); try go_wp2_with (first | (refine gB 6 #[.slice none 0 0, .slice none 0 0, .slice none 0 0] 75 ?_; intro gb197 hg w31 BK197 hb; have GW197 := bG HB hg; replace HB := bS HB hb; obtain ⟨NB192_197, NB197_192⟩ := bN BK192 hg; replace BK192 := bB BK192 hb; clear hb hg; obtain ⟨hnb32, hnc32⟩ := nB NB197_192; obtain ⟨hcz33_0, hcz33_1, hcz33_2, hfz33_0, hfz33_1, hfz33_2⟩ := bK3 (w := w31) BK197) | (go_at_call 76; (with_reducible refine (spec_ScDot.calls k2 _ _ ((rd_T75 l0_2 x5_2).f0) _ _ l1 t198 _ ?side1 ?side2 ?side3 ?side4 A21.out).mono ?_); (case side1 => exact Kd.C_below HR196_0.out (bZ HB)); (case side2 => exact HC196_0.out); (case side3 => exact Kd.C_below HR1.out (bZ HB)); (case side4 => exact HC1.out); rintro e w' ⟨rfl, ⟨nd, rfl⟩⟩; (try exact tD)) | (go_at_call 76; (with_reducible refine (spec_ScDot.calls k2 _ _ ((rd_T75 l0_2 x5_2).f1) _ _ l1 t199 _ ?side1 ?side2 ?side3 ?side4 A22.out).mono ?_); (case side1 => exact Kd.C_below HR196_1.out (bZ HB)); (case side2 => exact HC196_1.out); (case side3 => exact Kd.C_below HR1.out (bZ HB)); (case side4 => exact HC1.out); rintro e w' ⟨rfl, ⟨nd, rfl⟩⟩; (try exact tD)) | (go_at_call 75; (with_reducible refine (spec_ScMul.calls t198 t199 t200 _ A23.out).mono ?_); rintro e w' ⟨rfl, ⟨nd, rfl⟩⟩; (try exact tD)) | (go_at_call 76; (with_reducible refine (spec_ScDot.calls k2 _ _ ((rd_T75 l0_2 x5_2).f2) _ _ l1 t201 _ ?side1 ?side2 ?side3 ?side4 A24.out).mono ?_); (case side1 => exact Kd.C_below HR196_2.out (bZ HB)); (case side2 => exact HC196_2.out); (case side3 => exact Kd.C_below HR1.out (bZ HB)); (case side4 => exact HC1.out); rintro e w' ⟨rfl, ⟨nd, rfl⟩⟩; (try exact tD))))
         go_ret
         exact ⟨rR, bZ HB⟩
       ·rw [if_neg c20] at H
        exact absurd H (by simp)
      ·rw [if_neg c19] at H
       have c19b0 := decide_eq_false c19
       clear c19
       obtain rfl := Option.some.inj H
       obtain ⟨hcz34_0, hcz34_1, hcz34_2, hfz34_0, hfz34_1, hfz34_2⟩ := bK3 (w := wr) BK192
       go_wp2
       repeat (go_quiet (fail); try go_wp2)
       go_ret
       exact ⟨rR, bZ HB⟩
end Go.Proofs.Ythdpfjkdpeamnaa.Pf
end
section
namespace Go.Proofs.Ythdpfjkdpeamnaa.Pf
open Go.RowKit Go.Proofs.YthdpfjkdpeamnaaW.PrintWords Go.Proofs.YthdpfjkdpeamnaaW.PrintLast Go.Proofs.YthdpfjkdpeamnaaW.PrintMore
attribute [local go_sem] max2_int min2_int max_two min_two max_three min_three max_four min_four
set_option linter.unusedVariables false
set_option linter.unusedSimpArgs false
set_option maxHeartbeats 8000000
set_option maxRecDepth 100000
def impl_isWitness.f (k : Nat) (a0_0 : Int) (a0_1 : Int) (l0_2 : List (S75)) (l1 : List Int) : Option (Bool) := if (l1.length : Int) = a0_0 then ((impl_areScalars.f k l1).bind fun t203 => (some t203)) else (some false)
theorem impl_isWitness.calls (k : Nat) (a0_0 : Int) (a0_1 : Int) (A0_2 : Option Addr) (c0_2 : Nat) (l0_2 : List (S75)) (A1 : Option Addr) (c1 : Nat) (l1 : List Int) (r : Bool) (w : World) (hr0_2 : Kd.C k75 w A0_2 l0_2.length l0_2) (hc0_2 : l0_2.length ≤ c0_2) (hr1 : Kd.C (Kd.int .i64) w A1 l1.length l1) (hc1 : l1.length ≤ c1) (h : impl_isWitness.f k a0_0 a0_1 l0_2 l1 = some r) :
  Calls Try.prog 77 #[.agg #[.int .i64 a0_0, .int .i64 a0_1, .slice A0_2 l0_2.length c0_2], .slice A1 l1.length c1] w fun e w' => e = .returned (.bool r) ∧ Below w.heap.size w w' := by
 have hu43 := Try.underlying43
 have HR0_2 := Aside0.mk hr0_2
 have HC0_2 := Aside0.mk hc0_2
 clear hr0_2 hc0_2
 have HR1 := Aside0.mk hr1
 have HC1 := Aside0.mk hc1
 clear hr1 hc1
 have HB := Aside0.mk (Below.refl w.heap.size w)
 have H : (if (l1.length : Int) = a0_0 then ((impl_areScalars.f k l1).bind fun t203 => (some t203)) else (some false)) = some r := h
 clear h
 by_cases c3 : (l1.length : Int) = a0_0
 ·rw [if_pos c3] at H
  have c3b0 : ((l1.length : Int) == a0_0) = true := beq_iff_eq.mpr c3
  have c3b1 : ((l1.length : Int) != a0_0) = false := bne_eq_false_iff_eq.mpr c3
  clear c3
  replace H := Option.bind_eq_some_iff.mp H
  obtain ⟨t203, A40, H⟩ := H
  have A4 := Aside0.mk A40
  clear A40
  obtain rfl := Option.some.inj H
  go_enter Try.func77, Try.ntmps77
  go_wp2_with (first | (refine gB 2 #[.int .i64 a0_0, .int .i64 a0_1, .slice A0_2 l0_2.length c0_2] 43 ?_; intro gb202 hg w5 BK202 hb; have GW202 := bG HB hg; replace HB := bS HB hb; clear hb hg; obtain ⟨hcz6_0, hcz6_1, hcz6_2, hfz6_0, hfz6_1, hfz6_2⟩ := bK3 (w := w5) BK202) | (go_at_call 74; (with_reducible refine (impl_areScalars.calls k _ _ l1 t203 _ ?side1 ?side2 A4.out).mono ?_); (case side1 => exact cP (Kd.C_below HR1.out HB.out)); (case side2 => exact HC1.out); rintro e w' ⟨rfl, ⟨nd, rfl⟩⟩))
  go_ret
  exact ⟨rR, bZ HB⟩
 ·rw [if_neg c3] at H
  have c3b0 : ((l1.length : Int) == a0_0) = false := beq_eq_false_iff_ne.mpr c3
  have c3b1 : ((l1.length : Int) != a0_0) = true := bne_iff_ne.mpr c3
  obtain rfl := Option.some.inj H
  go_enter Try.func77, Try.ntmps77
  go_wp2_with (first | (refine gB 2 #[.int .i64 a0_0, .int .i64 a0_1, .slice A0_2 l0_2.length c0_2] 43 ?_; intro gb202 hg w7 BK202 hb; have GW202 := bG HB hg; replace HB := bS HB hb; clear hb hg; obtain ⟨hcz8_0, hcz8_1, hcz8_2, hfz8_0, hfz8_1, hfz8_2⟩ := bK3 (w := w7) BK202))
  go_ret
  exact ⟨rR, bZ HB⟩
def impl_remainder.f (a0 : Int) (a1 : Int) : Option (Int) := if a1 = 0 then (none) else (if (Int.tmod a0 a1) < 0 then (some (wrap64 ((Int.tmod a0 a1) + a1))) else (some (Int.tmod a0 a1)))
theorem impl_remainder.calls (a0 : Int) (a1 : Int) (r : Int) (w : World) (h : impl_remainder.f a0 a1 = some r) :
  Calls Try.prog 57 #[.int .i64 a0, .int .i64 a1] w fun e w' => e = .returned (.int .i64 r) ∧ Drawn0 w w' := by
 have H : (if a1 = 0 then (none) else (if (Int.tmod a0 a1) < 0 then (some (wrap64 ((Int.tmod a0 a1) + a1))) else (some (Int.tmod a0 a1)))) = some r := h
 clear h
 by_cases c3 : a1 = 0
 ·rw [if_pos c3] at H
  exact absurd H (by simp)
 ·rw [if_neg c3] at H
  have c3b0 : (a1 == 0) = false := beq_eq_false_iff_ne.mpr c3
  have c3b1 : (a1 != 0) = true := bne_iff_ne.mpr c3
  by_cases c4 : (Int.tmod a0 a1) < 0
  ·rw [if_pos c4] at H
   have c4b0 := decide_eq_true c4
   clear c4
   obtain rfl := Option.some.inj H
   go_enter Try.func57, Try.ntmps57
   go_wp2
   go_ret
   exact ⟨rS, rD⟩
  ·rw [if_neg c4] at H
   have c4b0 := decide_eq_false c4
   clear c4
   obtain rfl := Option.some.inj H
   go_enter Try.func57, Try.ntmps57
   go_wp2
   go_ret
   exact ⟨rS, rD⟩
def impl_ScOf.f (a0 : Int) : Option (Int) := (impl_remainder.f a0 1009).bind fun t204 => (some t204)
theorem impl_ScOf.calls (a0 : Int) (r : Int) (w : World) (h : impl_ScOf.f a0 = some r) :
  Calls Try.prog 94 #[.int .i64 a0] w fun e w' => e = .returned (.int .i64 r) ∧ Drawn0 w w' := by
 have H : ((impl_remainder.f a0 1009).bind fun t204 => (some t204)) = some r := h
 clear h
 replace H := Option.bind_eq_some_iff.mp H
 obtain ⟨t204, A20, H⟩ := H
 have A2 := Aside0.mk A20
 clear A20
 obtain rfl := Option.some.inj H
 go_enter Try.func94, Try.ntmps94
 go_wp2_with (first | (refine gC (some 4) Try.func57 #[.int .i64 a0, .int .i64 1009] ?_; (with_reducible refine (impl_remainder.calls a0 1009 t204 _ A2.out).mono ?_); rintro e w' ⟨rfl, ⟨nd, rfl⟩⟩; refine ⟨_, rfl, ?_⟩))
 go_ret
 exact ⟨rS, rD⟩
def impl_ScMul.f (a0 : Int) (a1 : Int) : Option (Int) := (impl_ScOf.f a0).bind fun t205 => ((impl_ScOf.f a1).bind fun t206 => ((impl_ScOf.f (wrap64 (t205 * t206))).bind fun t207 => (some t207)))
theorem impl_ScMul.calls (a0 : Int) (a1 : Int) (r : Int) (w : World) (h : impl_ScMul.f a0 a1 = some r) :
  Calls Try.prog 78 #[.int .i64 a0, .int .i64 a1] w fun e w' => e = .returned (.int .i64 r) ∧ Drawn0 w w' := by
 have H : ((impl_ScOf.f a0).bind fun t205 => ((impl_ScOf.f a1).bind fun t206 => ((impl_ScOf.f (wrap64 (t205 * t206))).bind fun t207 => (some t207)))) = some r := h
 clear h
 replace H := Option.bind_eq_some_iff.mp H
 obtain ⟨t205, A30, H⟩ := H
 have A3 := Aside0.mk A30
 clear A30
 replace H := Option.bind_eq_some_iff.mp H
 obtain ⟨t206, A40, H⟩ := H
 have A4 := Aside0.mk A40
 clear A40
 replace H := Option.bind_eq_some_iff.mp H
 obtain ⟨t207, A50, H⟩ := H
 have A5 := Aside0.mk A50
 clear A50
 obtain rfl := Option.some.inj H
 go_enter Try.func78, Try.ntmps78
 go_wp2_with (first | (refine gC (some 6) Try.func94 #[.int .i64 a0] ?_; (with_reducible refine (impl_ScOf.calls a0 t205 _ A3.out).mono ?_); rintro e w' ⟨rfl, ⟨nd, rfl⟩⟩; refine ⟨_, rfl, ?_⟩) | (refine gC (some 8) Try.func94 #[.int .i64 a1] ?_; (with_reducible refine (impl_ScOf.calls a1 t206 _ A4.out).mono ?_); rintro e w' ⟨rfl, ⟨nd, rfl⟩⟩; refine ⟨_, rfl, ?_⟩) | (refine gC (some 10) Try.func94 #[.int .i64 (wrap64 (t205 * t206))] ?_; (with_reducible refine (impl_ScOf.calls (wrap64 (t205 * t206)) t207 _ A5.out).mono ?_); rintro e w' ⟨rfl, ⟨nd, rfl⟩⟩; refine ⟨_, rfl, ?_⟩))
 go_ret
 exact ⟨rS, rD⟩
def impl_ScAdd.f (a0 : Int) (a1 : Int) : Option (Int) := (impl_ScOf.f a0).bind fun t208 => ((impl_ScOf.f a1).bind fun t209 => ((impl_ScOf.f (wrap64 (t208 + t209))).bind fun t210 => (some t210)))
theorem impl_ScAdd.calls (a0 : Int) (a1 : Int) (r : Int) (w : World) (h : impl_ScAdd.f a0 a1 = some r) :
  Calls Try.prog 95 #[.int .i64 a0, .int .i64 a1] w fun e w' => e = .returned (.int .i64 r) ∧ Drawn0 w w' := by
 have H : ((impl_ScOf.f a0).bind fun t208 => ((impl_ScOf.f a1).bind fun t209 => ((impl_ScOf.f (wrap64 (t208 + t209))).bind fun t210 => (some t210)))) = some r := h
 clear h
 replace H := Option.bind_eq_some_iff.mp H
 obtain ⟨t208, A30, H⟩ := H
 have A3 := Aside0.mk A30
 clear A30
 replace H := Option.bind_eq_some_iff.mp H
 obtain ⟨t209, A40, H⟩ := H
 have A4 := Aside0.mk A40
 clear A40
 replace H := Option.bind_eq_some_iff.mp H
 obtain ⟨t210, A50, H⟩ := H
 have A5 := Aside0.mk A50
 clear A50
 obtain rfl := Option.some.inj H
 go_enter Try.func95, Try.ntmps95
 go_wp2_with (first | (refine gC (some 6) Try.func94 #[.int .i64 a0] ?_; (with_reducible refine (impl_ScOf.calls a0 t208 _ A3.out).mono ?_); rintro e w' ⟨rfl, ⟨nd, rfl⟩⟩; refine ⟨_, rfl, ?_⟩) | (refine gC (some 8) Try.func94 #[.int .i64 a1] ?_; (with_reducible refine (impl_ScOf.calls a1 t209 _ A4.out).mono ?_); rintro e w' ⟨rfl, ⟨nd, rfl⟩⟩; refine ⟨_, rfl, ?_⟩) | (refine gC (some 10) Try.func94 #[.int .i64 (wrap64 (t208 + t209))] ?_; (with_reducible refine (impl_ScOf.calls (wrap64 (t208 + t209)) t210 _ A5.out).mono ?_); rintro e w' ⟨rfl, ⟨nd, rfl⟩⟩; refine ⟨_, rfl, ?_⟩))
 go_ret
 exact ⟨rS, rD⟩
def impl_ScDot.l0 : Nat → List Int → List Int → Int → Int → Int → Option (Int)
 | 0, _, _, _, _, _ => none
 | k + 1, x0, x1, x5, x11, x12 => if x12 < x11 then (if 0 ≤ x12 then (if x12 < (x0.length : Int) then (if x12 < (x1.length : Int) then ((impl_ScMul.f (rd x0 x12) (rd x1 x12)).bind fun t213 => ((impl_ScAdd.f x5 t213).bind fun t214 => (impl_ScDot.l0 k x0 x1 t214 x11 (wrap64 (x12 + 1))))) else (none)) else (none)) else (none)) else (some x5)
def impl_ScDot.f (k : Nat) (l0 : List Int) (l1 : List Int) : Option (Int) := impl_ScDot.l0 k l0 l1 0 (mn (l0.length : Int) (l1.length : Int)) 0
theorem impl_ScDot.calls (k : Nat) (A0 : Option Addr) (c0 : Nat) (l0 : List Int) (A1 : Option Addr) (c1 : Nat) (l1 : List Int) (r : Int) (w : World) (hr0 : Kd.C (Kd.int .i64) w A0 l0.length l0) (hc0 : l0.length ≤ c0) (hr1 : Kd.C (Kd.int .i64) w A1 l1.length l1) (hc1 : l1.length ≤ c1) (h : impl_ScDot.f k l0 l1 = some r) :
  Calls Try.prog 79 #[.slice A0 l0.length c0, .slice A1 l1.length c1] w fun e w' => e = .returned (.int .i64 r) ∧ Below w.heap.size w w' := by
 have HR0 := Aside0.mk hr0
 have HC0 := Aside0.mk hc0
 clear hr0 hc0
 have HR1 := Aside0.mk hr1
 have HC1 := Aside0.mk hc1
 clear hr1 hc1
 have HB := Aside0.mk (Below.refl w.heap.size w)
 have H : (impl_ScDot.l0 k l0 l1 0 (mn (l0.length : Int) (l1.length : Int)) 0) = some r := h
 clear h
 obtain ⟨ji3, hji3⟩ : ∃ j_ : Int, (mn (l0.length : Int) (l1.length : Int)) = j_ := ⟨_, rfl⟩
 replace H : (impl_ScDot.l0 k l0 l1 0 ji3 0) = some r := by first | (rw [hji3] at H; exact H) | (simp only [hji3] at H ⊢; exact H)
 (try (have hji3l : 0 ≤ ji3 := by (rw [← hji3]; unfold mn; (repeat' split) <;> omega)))
 (try (have hji3m : 0 ≤ ji3 := by omega))
 have hji3_ : (if (l1.length : Int) < (l0.length : Int) then (l1.length : Int) else (l0.length : Int)) = ji3 := hji3
 try (have hji3n_ := hji3_; simp only [Int.ofNat_lt] at hji3n_)
 have H' := Aside0.mk H
 clear H
 go_enter Try.func79, Try.ntmps79
 go_wp2
 repeat (go_quiet (fail); try go_wp2)
 go_loopg [5, 12] k (fun kq v5 v12 w' => ∃ (x5_1 : Int) (x12_1 : Int), v5 = .int .i64 x5_1 ∧ v12 = .int .i64 x12_1 ∧ Aside0 (impl_ScDot.l0 kq l0 l1 x5_1 ji3 x12_1 = some r) ∧ Aside0 (kq ≤ k) ∧ Aside0 (Below w.heap.size w w'))
 case atStart => exact ⟨(0), (0), rS, rS, H', ⟨Nat.le_refl _⟩, ⟨bZ HB⟩⟩
 case round =>
  clear H'
  try clear c1
  try clear p2
  obtain ⟨x5_1, x12_1, rfl, rfl, HA, HK1, HB⟩ := hrel
  cases gk with
  | zero => exact absurd HA.out (by simp [impl_ScDot.l0])
  | succ k1 =>
   have H := HA.out
   clear HA
   simp only [impl_ScDot.l0] at H
   by_cases c4 : x12_1 < ji3
   ·rw [if_pos c4] at H
    have c4b0 := decide_eq_true c4
    clear c4
    by_cases c5 : 0 ≤ x12_1
    ·rw [if_pos c5] at H
     have c5b0 := decide_eq_true c5
     clear c5
     by_cases c6 : x12_1 < (l0.length : Int)
     ·rw [if_pos c6] at H
      have c6b0 := decide_eq_true c6
      clear c6
      by_cases c7 : x12_1 < (l1.length : Int)
      ·rw [if_pos c7] at H
       have c7b0 := decide_eq_true c7
       clear c7
       replace H := Option.bind_eq_some_iff.mp H
       obtain ⟨t213, A80, H⟩ := H
       have A8 := Aside0.mk A80
       clear A80
       replace H := Option.bind_eq_some_iff.mp H
       obtain ⟨t214, A90, H⟩ := H
       have A9 := Aside0.mk A90
       clear A90
       have H' := Aside0.mk H
       clear H
       have p211 : 0 ≤ (x12_1 : Int) := of_decide_eq_true (by first | (with_reducible assumption) | assumption)
       have q211 : x12_1 < (l0.length : Int) := of_decide_eq_true (by first | (with_reducible assumption) | assumption)
       obtain ⟨ad211, e211, hx211_0⟩ := Kd.at_int HR0.out x12_1 p211 q211
       cases e211
       replace hx211_0 := (hC HB hx211_0 :)
       replace p211 := eq_true p211
       replace q211 := eq_true q211
       have p212 : 0 ≤ (x12_1 : Int) := of_decide_eq_true (by first | (with_reducible assumption) | assumption)
       have q212 : x12_1 < (l1.length : Int) := of_decide_eq_true (by first | (with_reducible assumption) | assumption)
       obtain ⟨ad212, e212, hx212_0⟩ := Kd.at_int HR1.out x12_1 p212 q212
       cases e212
       replace hx212_0 := (hC HB hx212_0 :)
       replace p212 := eq_true p212
       replace q212 := eq_true q212
       go_wp2_with (first | (go_at_call 78; (with_reducible refine (impl_ScMul.calls (rd l0 x12_1) (rd l1 x12_1) t213 _ A8.out).mono ?_); rintro e w' ⟨rfl, ⟨nd, rfl⟩⟩; (try exact tD)) | (go_at_call 95; (with_reducible refine (impl_ScAdd.calls x5_1 t213 t214 _ A9.out).mono ?_); rintro e w' ⟨rfl, ⟨nd, rfl⟩⟩; (try exact tD)))
       repeat (go_quiet (first | (go_at_call 78; (with_reducible refine (impl_ScMul.calls (rd l0 x12_1) (rd l1 x12_1) t213 _ A8.out).mono ?_); rintro e w' ⟨rfl, ⟨nd, rfl⟩⟩; (try exact tD)) | (go_at_call 95; (with_reducible refine (impl_ScAdd.calls x5_1 t213 t214 _ A9.out).mono ?_); rintro e w' ⟨rfl, ⟨nd, rfl⟩⟩; (try exact tD))); try go_wp2_with (first | (go_at_call 78; (with_reducible refine (impl_ScMul.calls (rd l0 x12_1) (rd l1 x12_1) t213 _ A8.out).mono ?_); rintro e w' ⟨rfl, ⟨nd, rfl⟩⟩; (try exact tD)) | (go_at_call 95; (with_reducible refine (impl_ScAdd.calls x5_1 t213 t214 _ A9.out).mono ?_); rintro e w' ⟨rfl, ⟨nd, rfl⟩⟩; (try exact tD))))
       go_roundg k1
       case measure => have := HK1.out; omega
       case rel => exact ⟨(t214), (wrap64 (x12_1 + 1)), rS, rS, H', ⟨by have := HK1.out; omega⟩, ⟨bZ HB⟩⟩
      ·rw [if_neg c7] at H
       exact absurd H (by simp)
     ·rw [if_neg c6] at H
      exact absurd H (by simp)
    ·rw [if_neg c5] at H
     exact absurd H (by simp)
   ·rw [if_neg c4] at H
    have c4b0 := decide_eq_false c4
    clear c4
    obtain rfl := Option.some.inj H
    go_wp2
    repeat (go_quiet (fail); try go_wp2)
    go_ret
    exact ⟨by first | rfl | (simp [errW_none, errW_some] <;> rfl) | (simp only [← hji3]; first | rfl | (simp [errW_none, errW_some] <;> rfl)) | (simp [*, errW_none, errW_some] <;> rfl), bZ HB⟩
end Go.Proofs.Ythdpfjkdpeamnaa.Pf
end
section
namespace Go.Proofs.Ythdpfjkdpeamnaa.Pf
open Go.RowKit Go.Proofs.YthdpfjkdpeamnaaW.PrintWords Go.Proofs.YthdpfjkdpeamnaaW.PrintLast Go.Proofs.YthdpfjkdpeamnaaW.PrintMore
attribute [local go_sem] max2_int min2_int max_two min_two max_three min_three max_four min_four
set_option linter.unusedVariables false
set_option linter.unusedSimpArgs false
set_option maxHeartbeats 8000000
set_option maxRecDepth 100000
mutual
def impl_Satisfied.j0 : Nat → List Int → Bool → Int → Int → List (S75) → Option (Bool)
 | 0, _, _, _, _, _ => none
 | k + 1, x1, x21, x216000, x216001, x216002 => if x21 = true then (some false) else (impl_Satisfied.l0 k x1 x216002 (x216002.length : Int) 0)
def impl_Satisfied.l0 : Nat → List Int → List (S75) → Int → Int → Option (Bool)
 | 0, _, _, _, _ => none
 | k + 1, x1, x23, x24, x25 => if x25 < x24 then (if 0 ≤ x25 then (if x25 < (x23.length : Int) then ((impl_ScDot.f k ((rd_T75 x23 x25).f0) x1).bind fun t221 => ((impl_ScDot.f k ((rd_T75 x23 x25).f1) x1).bind fun t222 => ((impl_ScMul.f t221 t222).bind fun t223 => ((impl_ScDot.f k ((rd_T75 x23 x25).f2) x1).bind fun t224 => (if t223 = t224 then (impl_Satisfied.l0 k x1 x23 x24 (wrap64 (x25 + 1))) else (some false)))))) else (none)) else (none)) else (some true)
end
def impl_Satisfied.f (k : Nat) (a0_0 : Int) (a0_1 : Int) (l0_2 : List (S75)) (l1 : List Int) : Option (Bool) := (impl_SystemOk.f k a0_0 a0_1 l0_2).bind fun t216 => (if t216 = true then ((impl_isWitness.f k a0_0 a0_1 l0_2 l1).bind fun t217 => (if t217 = true then (if 0 < (l1.length : Int) then (impl_Satisfied.j0 k l1 ((rd l1 0) != 1) a0_0 a0_1 l0_2) else (none)) else (impl_Satisfied.j0 k l1 true a0_0 a0_1 l0_2))) else (impl_Satisfied.j0 k l1 true a0_0 a0_1 l0_2))
def impl_Satisfied.T6 : Bool × List (List Nat × List Nat) := (true, [([], []), ([0], [0]), ([], []), ([1, 2], [1, 2]), ([], []), ([4], [4]), ([], []), ([5, 6, 3], [5, 6]), ([3, 7, 7], [3, 7]), ([], []), ([9], [9]), ([], []), ([10, 11, 8], [10, 11]), ([8, 12], [8, 12])])
def impl_Satisfied.B6 : List Nat := [0, 1, 0, 7, 0, 16, 0, 127, 255, 0, 512, 0, 4095, 8191]
theorem impl_Satisfied.tab6 : rtab .any (opsOf Try.f48 6) = impl_Satisfied.T6 := by kernel_rfl
theorem impl_Satisfied.bits6 : waitsOk impl_Satisfied.T6.2 impl_Satisfied.B6 = true := by kernel_rfl
theorem impl_Satisfied.calls (k : Nat) (a0_0 : Int) (a0_1 : Int) (A0_2 : Option Addr) (c0_2 : Nat) (l0_2 : List (S75)) (A1 : Option Addr) (c1 : Nat) (l1 : List Int) (r : Bool) (w : World) (hr0_2 : Kd.C k75 w A0_2 l0_2.length l0_2) (hc0_2 : l0_2.length ≤ c0_2) (hr1 : Kd.C (Kd.int .i64) w A1 l1.length l1) (hc1 : l1.length ≤ c1) (h : impl_Satisfied.f k a0_0 a0_1 l0_2 l1 = some r) :
  Calls Try.prog 48 #[.agg #[.int .i64 a0_0, .int .i64 a0_1, .slice A0_2 l0_2.length c0_2], .slice A1 l1.length c1] w fun e w' => e = .returned (.bool r) ∧ Below w.heap.size w w' := by
 have hu43 := Try.underlying43
 have hu75 := Try.underlying75
 have HR0_2 := Aside0.mk hr0_2
 have HC0_2 := Aside0.mk hc0_2
 clear hr0_2 hc0_2
 have HR1 := Aside0.mk hr1
 have HC1 := Aside0.mk hc1
 clear hr1 hc1
 have HB := Aside0.mk (Below.refl w.heap.size w)
 have H : ((impl_SystemOk.f k a0_0 a0_1 l0_2).bind fun t216 => (if t216 = true then ((impl_isWitness.f k a0_0 a0_1 l0_2 l1).bind fun t217 => (if t217 = true then (if 0 < (l1.length : Int) then (impl_Satisfied.j0 k l1 ((rd l1 0) != 1) a0_0 a0_1 l0_2) else (none)) else (impl_Satisfied.j0 k l1 true a0_0 a0_1 l0_2))) else (impl_Satisfied.j0 k l1 true a0_0 a0_1 l0_2))) = some r := h
 clear h
 have HC3 := Aside0.mk H
 clear H
 go_enter Try.func48, Try.ntmps48
 go_upto_region 1 with (first | (refine gB 2 #[.int .i64 a0_0, .int .i64 a0_1, .slice A0_2 l0_2.length c0_2] 43 ?_; intro gb215 hg w4 BK215 hb; have GW215 := bG HB hg; replace HB := bS HB hb; clear hb hg))
 (try simp only [Act.put, List.setIfInBounds_toArray, List.set_cons_zero, List.set_cons_succ])
 go_cut [21] (fun v21 wc => ∃ (kq : Nat) (x21_2 : Bool), v21 = .bool x21_2 ∧ Aside0 (impl_Satisfied.j0 kq l1 x21_2 a0_0 a0_1 l0_2 = some r) ∧ Aside0 (kq ≤ k) ∧ Aside0 (wc.heap[gb215]? = some (.cells #[.int .i64 a0_0, .int .i64 a0_1, (.slice A0_2 l0_2.length c0_2)] 43 (0, 0))) ∧ Aside0 (Below w.heap.size w wc))
 case first =>
  have H := HC3.out
  clear HC3
  replace H := Option.bind_eq_some_iff.mp H
  obtain ⟨t216, A50, H⟩ := H
  have A5 := Aside0.mk A50
  clear A50
  by_cases c6 : t216 = true
  ·subst c6
   rw [if_pos rfl] at H
   replace H := Option.bind_eq_some_iff.mp H
   obtain ⟨t217, A70, H⟩ := H
   have A7 := Aside0.mk A70
   clear A70
   by_cases c8 : t217 = true
   ·subst c8
    rw [if_pos rfl] at H
    by_cases c9 : 0 < (l1.length : Int)
    ·rw [if_pos c9] at H
     have c9b0 := decide_eq_true c9
     have c9b1 : decide (0 < l1.length) = true := decide_eq_true (by omega)
     clear c9
     (first | rw [c9b0] | (simp only [i64_w, i32_w]; rw [c9b0]) | rw [c9b1] | skip)
     have H' := Aside0.mk H
     clear H
     obtain ⟨hcz10_0, hcz10_1, hcz10_2, hfz10_0, hfz10_1, hfz10_2⟩ := bK3 (w := w4) BK215
     go_wp2_with (first | (refine gC (some 8) Try.func45 #[.agg #[.int .i64 a0_0, .int .i64 a0_1, .slice A0_2 l0_2.length c0_2]] ?_; (with_reducible refine (impl_SystemOk.calls k a0_0 a0_1 _ _ l0_2 true _ ?side1 ?side2 A5.out).mono ?_); (case side1 => exact cP (Kd.C_below HR0_2.out HB.out)); (case side2 => exact HC0_2.out); rintro e w11 ⟨rfl, hb⟩; refine ⟨_, rfl, ?_⟩; replace BK215 := bB BK215 hb; replace HB := bS HB hb; (try clear hb); obtain ⟨hcz12_0, hcz12_1, hcz12_2, hfz12_0, hfz12_1, hfz12_2⟩ := bK3 (w := w11) BK215) | (go_at_call 77; (with_reducible refine (impl_isWitness.calls k a0_0 a0_1 _ _ l0_2 _ _ l1 true _ ?side1 ?side2 ?side3 ?side4 A7.out).mono ?_); (case side1 => exact cP (Kd.C_below HR0_2.out HB.out)); (case side2 => exact HC0_2.out); (case side3 => exact cP (Kd.C_below HR1.out HB.out)); (case side4 => exact HC1.out); rintro e w13 ⟨rfl, hb⟩; replace BK215 := bB BK215 hb; replace HB := bS HB hb; (try clear hb); have p218 : 0 ≤ (0 : Int) := (by omega); have q218 : 0 < (l1.length : Int) := of_decide_eq_true (by first | (with_reducible assumption) | assumption); obtain ⟨ad218, e218, hx218_0⟩ := Kd.at_int HR1.out 0 p218 q218; cases e218; have qi218 : (0 < l1.length) = True := eq_true (by omega); (try rw [show ((0 : Int)).toNat = 0 from rfl] at hx218_0); (try rw [Addr.add_zero'] at hx218_0); replace hx218_0 := (hC HB hx218_0 :); replace p218 := eq_true p218; replace q218 := eq_true q218))
     go_meet
     case rel => exact ⟨_, (((rd l1 0) != 1)), rS, H', ⟨by first | omega | exact Nat.le_refl _⟩, ⟨bP BK215⟩, ⟨bZ HB⟩⟩
    ·rw [if_neg c9] at H
     exact absurd H (by simp)
   ·replace c8 := Bool.eq_false_iff.mpr c8
    subst c8
    rw [if_neg (show ¬ (false = true) by decide)] at H
    have H' := Aside0.mk H
    clear H
    obtain ⟨hcz14_0, hcz14_1, hcz14_2, hfz14_0, hfz14_1, hfz14_2⟩ := bK3 (w := w4) BK215
    go_wp2_with (first | (refine gC (some 8) Try.func45 #[.agg #[.int .i64 a0_0, .int .i64 a0_1, .slice A0_2 l0_2.length c0_2]] ?_; (with_reducible refine (impl_SystemOk.calls k a0_0 a0_1 _ _ l0_2 true _ ?side1 ?side2 A5.out).mono ?_); (case side1 => exact cP (Kd.C_below HR0_2.out HB.out)); (case side2 => exact HC0_2.out); rintro e w15 ⟨rfl, hb⟩; refine ⟨_, rfl, ?_⟩; replace BK215 := bB BK215 hb; replace HB := bS HB hb; (try clear hb); obtain ⟨hcz16_0, hcz16_1, hcz16_2, hfz16_0, hfz16_1, hfz16_2⟩ := bK3 (w := w15) BK215) | (go_at_call 77; (with_reducible refine (impl_isWitness.calls k a0_0 a0_1 _ _ l0_2 _ _ l1 false _ ?side1 ?side2 ?side3 ?side4 A7.out).mono ?_); (case side1 => exact cP (Kd.C_below HR0_2.out HB.out)); (case side2 => exact HC0_2.out); (case side3 => exact cP (Kd.C_below HR1.out HB.out)); (case side4 => exact HC1.out); rintro e w17 ⟨rfl, hb⟩; replace BK215 := bB BK215 hb; replace HB := bS HB hb; (try clear hb)))
    go_meet
    case rel => exact ⟨_, (true), rS, H', ⟨by first | omega | exact Nat.le_refl _⟩, ⟨bP BK215⟩, ⟨bZ HB⟩⟩
  ·replace c6 := Bool.eq_false_iff.mpr c6
   subst c6
   rw [if_neg (show ¬ (false = true) by decide)] at H
   have H' := Aside0.mk H
   clear H
   obtain ⟨hcz18_0, hcz18_1, hcz18_2, hfz18_0, hfz18_1, hfz18_2⟩ := bK3 (w := w4) BK215
   go_wp2_with (first | (refine gC (some 8) Try.func45 #[.agg #[.int .i64 a0_0, .int .i64 a0_1, .slice A0_2 l0_2.length c0_2]] ?_; (with_reducible refine (impl_SystemOk.calls k a0_0 a0_1 _ _ l0_2 false _ ?side1 ?side2 A5.out).mono ?_); (case side1 => exact cP (Kd.C_below HR0_2.out HB.out)); (case side2 => exact HC0_2.out); rintro e w19 ⟨rfl, hb⟩; refine ⟨_, rfl, ?_⟩; replace BK215 := bB BK215 hb; replace HB := bS HB hb; (try clear hb)))
   go_meet
   case rel => exact ⟨_, (true), rS, H', ⟨by first | omega | exact Nat.le_refl _⟩, ⟨bP BK215⟩, ⟨bZ HB⟩⟩
 case rest =>
  clear HC3
  try clear c1
  try clear p2
  try clear q2
  try clear hx2
  try clear qi2
  try clear c4
  try clear c6
  try clear c8
  try clear c9
  try clear c9b0
  try clear c9b1
  try clear hcz10_0
  try clear hcz10_1
  try clear hcz10_2
  try clear hcz12_0
  try clear hcz12_1
  try clear hcz12_2
  try clear hcz14_0
  try clear hcz14_1
  try clear hcz14_2
  try clear hcz16_0
  try clear hcz16_1
  try clear hcz16_2
  try clear hcz18_0
  try clear hcz18_1
  try clear hcz18_2
  try clear hfz10_0
  try clear hfz10_1
  try clear hfz10_2
  try clear hfz12_0
  try clear hfz12_1
  try clear hfz12_2
  try clear hfz14_0
  try clear hfz14_1
  try clear hfz14_2
  try clear hfz16_0
  try clear hfz16_1
  try clear hfz16_2
  try clear hfz18_0
  try clear hfz18_1
  try clear hfz18_2
  try clear hx218_0
  try clear p218
  try clear q218
  obtain ⟨kq, x21_2, rfl, HA, HJ2, BK215, HB⟩ := hcut
  cases kq with
  | zero => exact absurd HA.out (by simp [impl_Satisfied.j0])
  | succ kj2 =>
   have H := HA.out
   clear HA
   simp only [impl_Satisfied.j0] at H
   by_cases c20 : x21_2 = true
   ·subst c20
    rw [if_pos rfl] at H
    obtain rfl := Option.some.inj H
    go_wp2
    go_ret
    exact ⟨rR, bZ HB⟩
   ·replace c20 := Bool.eq_false_iff.mpr c20
    subst c20
    rw [if_neg (show ¬ (false = true) by decide)] at H
    have H' := Aside0.mk H
    clear H
    obtain ⟨hcz21_0, hcz21_1, hcz21_2, hfz21_0, hfz21_1, hfz21_2⟩ := bK3 (w := wc) BK215
    go_wp2
    go_loopg [25] kj2 (fun kq v25 w' => ∃ (x25_2 : Int), v25 = .int .i64 x25_2 ∧ Aside0 (impl_Satisfied.l0 kq l1 l0_2 (l0_2.length : Int) x25_2 = some r) ∧ Aside0 (kq ≤ kj2) ∧ Aside0 (w'.heap[gb215]? = some (.cells #[.int .i64 a0_0, .int .i64 a0_1, (.slice A0_2 l0_2.length c0_2)] 43 (0, 0))) ∧ Aside0 (Below w.heap.size w w'))
    case atStart => exact ⟨(0), rS, H', ⟨Nat.le_refl _⟩, ⟨bP BK215⟩, ⟨bZ HB⟩⟩
    case round =>
     clear H'
     try clear c1
     try clear c2
     try clear p2
     try clear q2
     try clear hx2
     try clear qi2
     try clear c4
     try clear c6
     try clear c8
     try clear c9
     try clear c9b0
     try clear c9b1
     try clear c20
     try clear p21
     try clear q21
     try clear hx21
     try clear qi21
     try clear hcz10_0
     try clear hcz10_1
     try clear hcz10_2
     try clear hcz12_0
     try clear hcz12_1
     try clear hcz12_2
     try clear hcz14_0
     try clear hcz14_1
     try clear hcz14_2
     try clear hcz16_0
     try clear hcz16_1
     try clear hcz16_2
     try clear hcz18_0
     try clear hcz18_1
     try clear hcz18_2
     try clear hcz21_0
     try clear hcz21_1
     try clear hcz21_2
     try clear hfz10_0
     try clear hfz10_1
     try clear hfz10_2
     try clear hfz12_0
     try clear hfz12_1
     try clear hfz12_2
     try clear hfz14_0
     try clear hfz14_1
     try clear hfz14_2
     try clear hfz16_0
     try clear hfz16_1
     try clear hfz16_2
     try clear hfz18_0
     try clear hfz18_1
     try clear hfz18_2
     try clear hfz21_0
     try clear hfz21_1
     try clear hfz21_2
     try clear hx218_0
     try clear p2
     try clear p218
     try clear q2
     try clear q218
     obtain ⟨x25_2, rfl, HA, HK2, BK215, HB⟩ := hrel
     cases gk with
     | zero => exact absurd HA.out (by simp [impl_Satisfied.l0])
     | succ k2 =>
      have H := HA.out
      clear HA
      simp only [impl_Satisfied.l0] at H
      by_cases c22 : x25_2 < (l0_2.length : Int)
      ·rw [if_pos c22] at H
       have c22b0 := decide_eq_true c22
       clear c22
       by_cases c23 : 0 ≤ x25_2
       ·rw [if_pos c23] at H
        have c23b0 := decide_eq_true c23
        clear c23
        by_cases c24 : x25_2 < (l0_2.length : Int)
        ·rw [if_pos c24] at H
         have c24b0 := decide_eq_true c24
         clear c24
         replace H := Option.bind_eq_some_iff.mp H
         obtain ⟨t221, A250, H⟩ := H
         have A25 := Aside0.mk A250
         clear A250
         replace H := Option.bind_eq_some_iff.mp H
         obtain ⟨t222, A260, H⟩ := H
         have A26 := Aside0.mk A260
         clear A260
         replace H := Option.bind_eq_some_iff.mp H
         obtain ⟨t223, A270, H⟩ := H
         have A27 := Aside0.mk A270
         clear A270
         replace H := Option.bind_eq_some_iff.mp H
         obtain ⟨t224, A280, H⟩ := H
         have A28 := Aside0.mk A280
         clear A280
         by_cases c29 : t223 = t224
         ·rw [if_pos c29] at H
          have c29b0 : (t223 == t224) = true := beq_iff_eq.mpr c29
          have c29b1 : (t223 != t224) = false := bne_eq_false_iff_eq.mpr c29
          clear c29
          have H' := Aside0.mk H
          clear H
          have p219 : 0 ≤ (x25_2 : Int) := of_decide_eq_true (by first | (with_reducible assumption) | assumption)
          have q219 : x25_2 < (l0_2.length : Int) := of_decide_eq_true (by first | (with_reducible assumption) | assumption)
          obtain ⟨ad219, A219_0, c219_0, A219_1, c219_1, A219_2, c219_2, e219, hx219_0, hx219_1, hx219_2, hl219_0, hi219_0, hl219_1, hi219_1, hl219_2, hi219_2⟩ := at_T75 HR0_2.out x25_2 p219 q219
          cases e219
          replace hx219_0 := (hC HB hx219_0 :)
          replace hx219_1 := (hC HB hx219_1 :)
          replace hx219_2 := (hC HB hx219_2 :)
          have HR219_0 := Aside0.mk hi219_0
          have HC219_0 := Aside0.mk hl219_0
          clear hi219_0 hl219_0
          have HR219_1 := Aside0.mk hi219_1
          have HC219_1 := Aside0.mk hl219_1
          clear hi219_1 hl219_1
          have HR219_2 := Aside0.mk hi219_2
          have HC219_2 := Aside0.mk hl219_2
          clear hi219_2 hl219_2
          replace p219 := eq_true p219
          replace q219 := eq_true q219
          try go_wp2_with (first | (refine gB 6 #[.slice none 0 0, .slice none 0 0, .slice none 0 0] 75 ?_; intro gb220 hg w30 BK220 hb; have GW220 := bG HB hg; replace HB := bS HB hb; obtain ⟨NB215_220, NB220_215⟩ := bN BK215 hg; replace BK215 := bB BK215 hb; clear hb hg; obtain ⟨hnb31, hnc31⟩ := nB NB220_215; obtain ⟨hcz32_0, hcz32_1, hcz32_2, hfz32_0, hfz32_1, hfz32_2⟩ := bK3 (w := w30) BK220))
          obtain ⟨w33, hW_⟩ : ∃ W_ : World, W_ = (((w30.setCell ⟨gb220, 0, none⟩ (.slice A219_0 ((rd_T75 l0_2 x25_2).f0).length c219_0)).setCell ⟨gb220, 1, none⟩ (.slice A219_1 ((rd_T75 l0_2 x25_2).f1).length c219_1)).setCell ⟨gb220, 2, none⟩ (.slice A219_2 ((rd_T75 l0_2 x25_2).f2).length c219_2)) := ⟨_, rfl⟩
          replace BK215 := bW hW_ BK215
          replace BK220 := bX hW_ 75 #[.slice A219_0 ((rd_T75 l0_2 x25_2).f0).length c219_0, .slice A219_1 ((rd_T75 l0_2 x25_2).f1).length c219_1, .slice A219_2 ((rd_T75 l0_2 x25_2).f2).length c219_2] BK220
          replace HB := zW hW_ HB
          rw [← hW_]
          clear hW_
          replace BK215 := Aside0.mk (blk_drew BK215.out)
          replace BK220 := Aside0.mk (blk_drew BK220.out)
          replace HB := Aside0.mk (below_drew1 HB.out)
          refine start_ (n := 14) (S := fun w' => SQ3 w' gb220 (.slice A219_0 ((rd_T75 l0_2 x25_2).f0).length c219_0) (.slice A219_1 ((rd_T75 l0_2 x25_2).f1).length c219_1) (.slice A219_2 ((rd_T75 l0_2 x25_2).f2).length c219_2)) (ds := []) #[false, false, false, false, false, false, false, false, false, false, false, false, false, false] (by kernel_rfl) rfl rfl (bT3 BK220) (fun hHeld => ?_); refine with_tabW impl_Satisfied.tab6 impl_Satisfied.bits6 (fun HT_ HW_ => ?_)
          generalize w33.drew = w34 at BK215 BK220 HB hHeld ⊢
          refine pI 0 (some 29) HT_.out ?_
          refine pI 2 (some 31) HT_.out ?_
          refine pI 4 (some 33) HT_.out ?_
          refine pI 6 (some 35) HT_.out ?_
          refine pI 9 (some 38) HT_.out ?_
          refine pI 11 (some 40) HT_.out ?_
          refine tI3 1 (some 30) HT_.out HW_.out hHeld ?_
          refine tI3 5 (some 34) HT_.out HW_.out hHeld ?_
          refine tI3 10 (some 39) HT_.out HW_.out hHeld ?_
          refine oI 3 (some 32) HT_.out (fun K hK => ?_)
          refine gO Try.func79 #[.slice A219_0 ((rd_T75 l0_2 x25_2).f0).length c219_0, .slice A1 l1.length c1] ?_
          with_reducible refine (impl_ScDot.calls k2 _ _ ((rd_T75 l0_2 x25_2).f0) _ _ l1 t221 _ ?side1 ?side2 ?side3 ?side4 A25.out).mono ?_
          (case side1 => exact cP (Kd.C_below HR219_0.out HB.out))
          (case side2 => exact HC219_0.out)
          (case side3 => exact cP (Kd.C_below HR1.out HB.out))
          (case side4 => exact HC1.out)
          rintro e w35 ⟨rfl, hb⟩
          refine ⟨_, rfl, ?_⟩
          replace BK215 := bB BK215 hb
          replace BK220 := bB BK220 hb
          replace HB := bS HB hb
          (try clear hb)
          refine hK.out _ _ (bT3 BK220) (fun hHeld => ?_)
          clear hK K
          refine nO (some 32) ?_
          refine oI 7 (some 36) HT_.out (fun K hK => ?_)
          refine gO Try.func79 #[.slice A219_1 ((rd_T75 l0_2 x25_2).f1).length c219_1, .slice A1 l1.length c1] ?_
          with_reducible refine (impl_ScDot.calls k2 _ _ ((rd_T75 l0_2 x25_2).f1) _ _ l1 t222 _ ?side1 ?side2 ?side3 ?side4 A26.out).mono ?_
          (case side1 => exact cP (Kd.C_below HR219_1.out HB.out))
          (case side2 => exact HC219_1.out)
          (case side3 => exact cP (Kd.C_below HR1.out HB.out))
          (case side4 => exact HC1.out)
          rintro e w36 ⟨rfl, hb⟩
          refine ⟨_, rfl, ?_⟩
          replace BK215 := bB BK215 hb
          replace BK220 := bB BK220 hb
          replace HB := bS HB hb
          (try clear hb)
          refine hK.out _ _ (bT3 BK220) (fun hHeld => ?_)
          clear hK K
          refine nO (some 36) ?_
          refine oI 8 (some 37) HT_.out (fun K hK => ?_)
          refine gO Try.func78 #[.int .i64 t221, .int .i64 t222] ?_
          with_reducible refine (impl_ScMul.calls t221 t222 t223 _ A27.out).mono ?_
          rintro e w' ⟨rfl, ⟨nd, rfl⟩⟩
          refine ⟨_, rfl, ?_⟩
          refine hK.out _ _ (bT3 BK220) (fun hHeld => ?_)
          clear hK K
          refine nO (some 37) ?_
          refine oI 12 (some 41) HT_.out (fun K hK => ?_)
          refine gO Try.func79 #[.slice A219_2 ((rd_T75 l0_2 x25_2).f2).length c219_2, .slice A1 l1.length c1] ?_
          with_reducible refine (impl_ScDot.calls k2 _ _ ((rd_T75 l0_2 x25_2).f2) _ _ l1 t224 _ ?side1 ?side2 ?side3 ?side4 A28.out).mono ?_
          (case side1 => exact cP (Kd.C_below HR219_2.out (bZ HB)))
          (case side2 => exact HC219_2.out)
          (case side3 => exact cP (Kd.C_below HR1.out (bZ HB)))
          (case side4 => exact HC1.out)
          rintro e w37 ⟨rfl, hb⟩
          refine ⟨_, rfl, ?_⟩
          replace BK215 := bB BK215 hb
          replace BK220 := bB BK220 hb
          replace HB := bS HB hb
          (try clear hb)
          refine hK.out _ _ (bT3 BK220) (fun hHeld => ?_)
          clear hK K
          refine nO (some 41) ?_
          refine pI 13 (some 42) HT_.out ?_
          refine done_ (done_of HT_.out (by kernel_rfl)) ?_
          try go_wp2
          go_roundg k2
          case measure => have := HJ2.out; have := HK2.out; omega
          case rel => exact ⟨(wrap64 (x25_2 + 1)), rS, H', ⟨by have := HJ2.out; have := HK2.out; omega⟩, ⟨bP BK215⟩, ⟨bZ HB⟩⟩
         ·rw [if_neg c29] at H
          have c29b0 : (t223 == t224) = false := beq_eq_false_iff_ne.mpr c29
          have c29b1 : (t223 != t224) = true := bne_iff_ne.mpr c29
          obtain rfl := Option.some.inj H
          have p219 : 0 ≤ (x25_2 : Int) := of_decide_eq_true (by first | (with_reducible assumption) | assumption)
          have q219 : x25_2 < (l0_2.length : Int) := of_decide_eq_true (by first | (with_reducible assumption) | assumption)
          obtain ⟨ad219, A219_0, c219_0, A219_1, c219_1, A219_2, c219_2, e219, hx219_0, hx219_1, hx219_2, hl219_0, hi219_0, hl219_1, hi219_1, hl219_2, hi219_2⟩ := at_T75 HR0_2.out x25_2 p219 q219
          cases e219
          replace hx219_0 := (hC HB hx219_0 :)
          replace hx219_1 := (hC HB hx219_1 :)
          replace hx219_2 := (hC HB hx219_2 :)
          have HR219_0 := Aside0.mk hi219_0
          have HC219_0 := Aside0.mk hl219_0
          clear hi219_0 hl219_0
          have HR219_1 := Aside0.mk hi219_1
          have HC219_1 := Aside0.mk hl219_1
          clear hi219_1 hl219_1
          have HR219_2 := Aside0.mk hi219_2
          have HC219_2 := Aside0.mk hl219_2
          clear hi219_2 hl219_2
          replace p219 := eq_true p219
          replace q219 := eq_true q219
          try go_wp2_with (first | (refine gB 6 #[.slice none 0 0, .slice none 0 0, .slice none 0 0] 75 ?_; intro gb220 hg w38 BK220 hb; have GW220 := bG HB hg; replace HB := bS HB hb; obtain ⟨NB215_220, NB220_215⟩ := bN BK215 hg; replace BK215 := bB BK215 hb; clear hb hg; obtain ⟨hnb39, hnc39⟩ := nB NB220_215; obtain ⟨hcz40_0, hcz40_1, hcz40_2, hfz40_0, hfz40_1, hfz40_2⟩ := bK3 (w := w38) BK220))
          obtain ⟨w41, hW_⟩ : ∃ W_ : World, W_ = (((w38.setCell ⟨gb220, 0, none⟩ (.slice A219_0 ((rd_T75 l0_2 x25_2).f0).length c219_0)).setCell ⟨gb220, 1, none⟩ (.slice A219_1 ((rd_T75 l0_2 x25_2).f1).length c219_1)).setCell ⟨gb220, 2, none⟩ (.slice A219_2 ((rd_T75 l0_2 x25_2).f2).length c219_2)) := ⟨_, rfl⟩
          replace BK215 := bW hW_ BK215
          replace BK220 := bX hW_ 75 #[.slice A219_0 ((rd_T75 l0_2 x25_2).f0).length c219_0, .slice A219_1 ((rd_T75 l0_2 x25_2).f1).length c219_1, .slice A219_2 ((rd_T75 l0_2 x25_2).f2).length c219_2] BK220
          replace HB := zW hW_ HB
          rw [← hW_]
          clear hW_
          replace BK215 := Aside0.mk (blk_drew BK215.out)
          replace BK220 := Aside0.mk (blk_drew BK220.out)
          replace HB := Aside0.mk (below_drew1 HB.out)
          refine start_ (n := 14) (S := fun w' => SQ3 w' gb220 (.slice A219_0 ((rd_T75 l0_2 x25_2).f0).length c219_0) (.slice A219_1 ((rd_T75 l0_2 x25_2).f1).length c219_1) (.slice A219_2 ((rd_T75 l0_2 x25_2).f2).length c219_2)) (ds := []) #[false, false, false, false, false, false, false, false, false, false, false, false, false, false] (by kernel_rfl) rfl rfl (bT3 BK220) (fun hHeld => ?_); refine with_tabW impl_Satisfied.tab6 impl_Satisfied.bits6 (fun HT_ HW_ => ?_)
          generalize w41.drew = w42 at BK215 BK220 HB hHeld ⊢
          refine pI 0 (some 29) HT_.out ?_
          refine pI 2 (some 31) HT_.out ?_
          refine pI 4 (some 33) HT_.out ?_
          refine pI 6 (some 35) HT_.out ?_
          refine pI 9 (some 38) HT_.out ?_
          refine pI 11 (some 40) HT_.out ?_
          refine tI3 1 (some 30) HT_.out HW_.out hHeld ?_
          refine tI3 5 (some 34) HT_.out HW_.out hHeld ?_
          refine tI3 10 (some 39) HT_.out HW_.out hHeld ?_
          refine oI 3 (some 32) HT_.out (fun K hK => ?_)
          refine gO Try.func79 #[.slice A219_0 ((rd_T75 l0_2 x25_2).f0).length c219_0, .slice A1 l1.length c1] ?_
          with_reducible refine (impl_ScDot.calls k2 _ _ ((rd_T75 l0_2 x25_2).f0) _ _ l1 t221 _ ?side1 ?side2 ?side3 ?side4 A25.out).mono ?_
          (case side1 => exact cP (Kd.C_below HR219_0.out HB.out))
          (case side2 => exact HC219_0.out)
          (case side3 => exact cP (Kd.C_below HR1.out HB.out))
          (case side4 => exact HC1.out)
          rintro e w43 ⟨rfl, hb⟩
          refine ⟨_, rfl, ?_⟩
          replace BK215 := bB BK215 hb
          replace BK220 := bB BK220 hb
          replace HB := bS HB hb
          (try clear hb)
          refine hK.out _ _ (bT3 BK220) (fun hHeld => ?_)
          clear hK K
          refine nO (some 32) ?_
          refine oI 7 (some 36) HT_.out (fun K hK => ?_)
          refine gO Try.func79 #[.slice A219_1 ((rd_T75 l0_2 x25_2).f1).length c219_1, .slice A1 l1.length c1] ?_
          with_reducible refine (impl_ScDot.calls k2 _ _ ((rd_T75 l0_2 x25_2).f1) _ _ l1 t222 _ ?side1 ?side2 ?side3 ?side4 A26.out).mono ?_
          (case side1 => exact cP (Kd.C_below HR219_1.out HB.out))
          (case side2 => exact HC219_1.out)
          (case side3 => exact cP (Kd.C_below HR1.out HB.out))
          (case side4 => exact HC1.out)
          rintro e w44 ⟨rfl, hb⟩
          refine ⟨_, rfl, ?_⟩
          replace BK215 := bB BK215 hb
          replace BK220 := bB BK220 hb
          replace HB := bS HB hb
          (try clear hb)
          refine hK.out _ _ (bT3 BK220) (fun hHeld => ?_)
          clear hK K
          refine nO (some 36) ?_
          refine oI 8 (some 37) HT_.out (fun K hK => ?_)
          refine gO Try.func78 #[.int .i64 t221, .int .i64 t222] ?_
          with_reducible refine (impl_ScMul.calls t221 t222 t223 _ A27.out).mono ?_
          rintro e w' ⟨rfl, ⟨nd, rfl⟩⟩
          refine ⟨_, rfl, ?_⟩
          refine hK.out _ _ (bT3 BK220) (fun hHeld => ?_)
          clear hK K
          refine nO (some 37) ?_
          refine oI 12 (some 41) HT_.out (fun K hK => ?_)
          refine gO Try.func79 #[.slice A219_2 ((rd_T75 l0_2 x25_2).f2).length c219_2, .slice A1 l1.length c1] ?_
          with_reducible refine (impl_ScDot.calls k2 _ _ ((rd_T75 l0_2 x25_2).f2) _ _ l1 t224 _ ?side1 ?side2 ?side3 ?side4 A28.out).mono ?_
          (case side1 => exact cP (Kd.C_below HR219_2.out (bZ HB)))
          (case side2 => exact HC219_2.out)
          (case side3 => exact cP (Kd.C_below HR1.out (bZ HB)))
          (case side4 => exact HC1.out)
          rintro e w45 ⟨rfl, hb⟩
          refine ⟨_, rfl, ?_⟩
          replace BK215 := bB BK215 hb
          replace BK220 := bB BK220 hb
          replace HB := bS HB hb
          (try clear hb)
          refine hK.out _ _ (bT3 BK220) (fun hHeld => ?_)
          clear hK K
          refine nO (some 41) ?_
          refine pI 13 (some 42) HT_.out ?_
          refine done_ (done_of HT_.out (by kernel_rfl)) ?_
          try go_wp2
          go_ret
          exact ⟨rR, bZ HB⟩
        ·rw [if_neg c24] at H
         exact absurd H (by simp)
       ·rw [if_neg c23] at H
        exact absurd H (by simp)
      ·rw [if_neg c22] at H
       have c22b0 := decide_eq_false c22
       clear c22
       obtain rfl := Option.some.inj H
       go_wp2
       go_ret
       exact ⟨rR, bZ HB⟩
end Go.Proofs.Ythdpfjkdpeamnaa.Pf
end
section
namespace Go.Proofs.Ythdpfjkdpeamnaa.Pf
open Go.RowKit Go.Proofs.YthdpfjkdpeamnaaW.PrintWords Go.Proofs.YthdpfjkdpeamnaaW.PrintLast Go.Proofs.YthdpfjkdpeamnaaW.PrintMore
attribute [local go_sem] max2_int min2_int max_two min_two max_three min_three max_four min_four
set_option linter.unusedVariables false
set_option linter.unusedSimpArgs false
set_option maxHeartbeats 8000000
set_option maxRecDepth 100000
def laws_big.f (l0 : List Int) : Option (Bool) := some (decide ((l0.length : Int) > 1048576))
theorem laws_big.calls (A0 : Option Addr) (c0 : Nat) (l0 : List Int) (r : Bool) (w : World) (hr0 : Kd.C (Kd.int .u8) w A0 l0.length l0) (hc0 : l0.length ≤ c0) (h : laws_big.f l0 = some r) :
  Calls Try.prog 49 #[.slice A0 l0.length c0] w fun e w' => e = .returned (.bool r) ∧ Drawn0 w w' := by
 have HR0 := Aside0.mk hr0
 have HC0 := Aside0.mk hc0
 clear hr0 hc0
 have H : (some (decide ((l0.length : Int) > 1048576))) = some r := h
 clear h
 obtain rfl := Option.some.inj H
 go_enter Try.func49, Try.ntmps49
 go_wp2
 go_ret
 exact ⟨rS, rD⟩
def IsS103 (w0 W : World) (g : Nat) (f0 : List Int) (f1 : Int) (f2 : Int) : Prop := ∃ A0 c0, W.heap[g]? = some (.cells #[.slice A0 f0.length c0, .int .i64 f1, .int .i64 f2] 103 (0, 0)) ∧ w0.heap.size ≤ g ∧ Kd.C (Kd.int .u8) w0 A0 f0.length f0
theorem IsS103.grown {w0 W : World} {g : Nat} {f0 : List Int} {f1 : Int} {f2 : Int} {W1 : World} {row : Option Nat} (h : IsS103 w0 W g f0 f1 f2) (hw : W.grownBy W1 row) (hne : some g ≠ row) : IsS103 w0 W1 g f0 f1 f2 := by
 obtain ⟨A0, c0, hb, hg, hr0⟩ := h
 exact ⟨A0, c0, blk_grown hb hw hne, hg, hr0⟩
theorem IsS103.own_neN {w0 W : World} {g : Nat} {f0 : List Int} {f1 : Int} {f2 : Int} {α : Type} {d : Kd α} {e : Nat} {base : Nat} {ok : Nat → Prop} {v : Value} {xs : List α} (h : IsS103 w0 W g f0 f1 f2) (ho : Kd.N d e W base ok v xs) (ht : e ≠ 103) : some g ≠ v.ownBlock := by
 obtain ⟨A0, c0, hb, hg, hr0⟩ := h
 exact Kd.N_ne ho hb ht
theorem IsS103.fresh {w0 W : World} {g : Nat} {f0 : List Int} {f1 : Int} {f2 : Int} (h : IsS103 w0 W g f0 f1 f2) : ∀ k, W.heap.size ≤ k → k ≠ g := by
 obtain ⟨A0, c0, hb, hg, hr0⟩ := h
 exact Kd.freshB hb
theorem IsS103.kept {w0 W : World} {g : Nat} {f0 : List Int} {f1 : Int} {f2 : Int} {W1 : World} {S : Nat → Prop} (h : IsS103 w0 W g f0 f1 f2) (hk : Kept W W1 S) (hne : ¬ S g) : IsS103 w0 W1 g f0 f1 f2 := by
 obtain ⟨A0, c0, hb, hg, hr0⟩ := h
 exact ⟨A0, c0, blk_kept hb hk hne, hg, hr0⟩
theorem IsS103.below {w0 W : World} {g : Nat} {f0 : List Int} {f1 : Int} {f2 : Int} {W1 : World} (h : IsS103 w0 W g f0 f1 f2) (hw : Below W.heap.size W W1) : IsS103 w0 W1 g f0 f1 f2 := h.grown (grown_of_below hw none) (by simp)
theorem IsS103.alloc {w0 W : World} {g : Nat} {f0 : List Int} {f1 : Int} {f2 : Int} (h : IsS103 w0 W g f0 f1 f2) (o : Obj) : IsS103 w0 (W.alloc o) g f0 f1 f2 := h.below (below_alloc (Below.refl _ _) o)
theorem IsS103.drewN {w0 W : World} {g : Nat} {f0 : List Int} {f1 : Int} {f2 : Int} (h : IsS103 w0 W g f0 f1 f2) (m : Nat) : IsS103 w0 (W.drewN m) g f0 f1 f2 := h
theorem IsS103.drew {w0 W : World} {g : Nat} {f0 : List Int} {f1 : Int} {f2 : Int} (h : IsS103 w0 W g f0 f1 f2) : IsS103 w0 W.drew g f0 f1 f2 := h
theorem IsS103.at_ {w0 W : World} {g : Nat} {f0 : List Int} {f1 : Int} {f2 : Int} {w' : World} {m : Nat} (hq : W.drewN m = w') (h : IsS103 w0 W g f0 f1 f2) : IsS103 w0 w' g f0 f1 f2 := by subst hq; exact IsS103.drewN h m
theorem IsS103.apart {w0 W : World} {g : Nat} {f0 : List Int} {f1 : Int} {f2 : Int} {α : Type} {d : Kd α} {e : Nat} {base : Nat} {ok : Nat → Prop} {v : Value} {xs : List α} (h : IsS103 w0 W g f0 f1 f2) (ho : d.R e W base ok v xs) (ht : ∀ q, q ∈ e :: d.E → q ≠ 103) : d.R e W base (fun k => ok k ∧ k ≠ g) v xs := by
 obtain ⟨A0, c0, hb, hg, hr0⟩ := h
 exact Kd.R_types ho hb ht
theorem IsS103.own_ne {w0 W : World} {g : Nat} {f0 : List Int} {f1 : Int} {f2 : Int} {α : Type} {d : Kd α} {e : Nat} {base : Nat} {ok : Nat → Prop} {v : Value} {xs : List α} (h : IsS103 w0 W g f0 f1 f2) (ho : d.R e W base ok v xs) (ht : e ≠ 103) : some g ≠ v.ownBlock := by
 obtain ⟨A0, c0, hb, hg, hr0⟩ := h
 exact Kd.R_ne ho hb ht
theorem IsS103.lt {w0 W : World} {g : Nat} {f0 : List Int} {f1 : Int} {f2 : Int} (h : IsS103 w0 W g f0 f1 f2) : g < W.heap.size := by
 obtain ⟨A0, c0, hb, hg, hr0⟩ := h
 exact blk_lt hb
theorem IsS103.ge {w0 W : World} {g : Nat} {f0 : List Int} {f1 : Int} {f2 : Int} (h : IsS103 w0 W g f0 f1 f2) : w0.heap.size ≤ g := by
 obtain ⟨A0, c0, hb, hg, hr0⟩ := h
 exact hg
theorem IsS103.ne_blk {w0 W : World} {g : Nat} {f0 : List Int} {f1 : Int} {f2 : Int} {a : Nat} {cs : Array Value} {t : TypeId} {fr : Nat × Nat} (h : IsS103 w0 W g f0 f1 f2) (hb2 : W.heap[a]? = some (.cells cs t fr)) (ht : t ≠ 103) : g ≠ a := by
 obtain ⟨A0, c0, hb, hg, hr0⟩ := h
 rintro rfl
 rw [hb] at hb2
 injection hb2 with hb2
 injection hb2 with _ ht2
 exact ht ht2.symm
theorem IsS103.far {w0 W : World} {g : Nat} {f0 : List Int} {f1 : Int} {f2 : Int} {p : Addr} (h : IsS103 w0 W g f0 f1 f2) (hne : g ≠ p.block) (u : Value) : IsS103 w0 (W.setCell p u) g f0 f1 f2 := by
 obtain ⟨A0, c0, hb, hg, hr0⟩ := h
 exact ⟨A0, c0, blk_far hb hne u, hg, hr0⟩
theorem cellS103_0 {W : World} {g : Nat} {A0 : Option Addr} {c0 : Nat} {f0 : List Int} {f1 : Int} {f2 : Int} (h : W.heap[g]? = some (.cells #[.slice A0 f0.length c0, .int .i64 f1, .int .i64 f2] 103 (0, 0))) : W.cell? ⟨g, 0, none⟩ = some (.slice A0 f0.length c0) := (blk_cell h 0).trans rfl
theorem cellS103_1 {W : World} {g : Nat} {A0 : Option Addr} {c0 : Nat} {f0 : List Int} {f1 : Int} {f2 : Int} (h : W.heap[g]? = some (.cells #[.slice A0 f0.length c0, .int .i64 f1, .int .i64 f2] 103 (0, 0))) : W.cell? ⟨g, 1, none⟩ = some (.int .i64 f1) := (blk_cell h 1).trans rfl
theorem IsS103.set_1 {w0 W : World} {g : Nat} {f0 : List Int} {f1 : Int} {f2 : Int} (h : IsS103 w0 W g f0 f1 f2) (x : Int) : IsS103 w0 (W.setCell ⟨g, 1, none⟩ (.int .i64 x)) g f0 x f2 := by
 obtain ⟨A0, c0, hb, hg, hr0⟩ := h
 exact ⟨A0, c0, by simpa using blk_set hb 1 (.int .i64 x), hg, hr0⟩
theorem cellS103_2 {W : World} {g : Nat} {A0 : Option Addr} {c0 : Nat} {f0 : List Int} {f1 : Int} {f2 : Int} (h : W.heap[g]? = some (.cells #[.slice A0 f0.length c0, .int .i64 f1, .int .i64 f2] 103 (0, 0))) : W.cell? ⟨g, 2, none⟩ = some (.int .i64 f2) := (blk_cell h 2).trans rfl
theorem IsS103.set_2 {w0 W : World} {g : Nat} {f0 : List Int} {f1 : Int} {f2 : Int} (h : IsS103 w0 W g f0 f1 f2) (x : Int) : IsS103 w0 (W.setCell ⟨g, 2, none⟩ (.int .i64 x)) g f0 f1 x := by
 obtain ⟨A0, c0, hb, hg, hr0⟩ := h
 exact ⟨A0, c0, by simpa using blk_set hb 2 (.int .i64 x), hg, hr0⟩
theorem iZ103 {p q : Prop} (B : Aside0 p) (h : Aside0 p → q := by intro hh_; repeat (first | (with_reducible first | exact hh_.out | apply IsS103.alloc | apply IsS103.drewN | apply IsS103.drew | apply IsS103.set_1 | apply IsS103.set_2 | refine IsS103.far ?_ (by refine Aside0.out ?_; assumption) _) | exact hh_.out)) : q := h B
theorem jZ103 {p q r : Prop} (B : Aside0 p) (I_ : Aside0 r) (h : Aside0 p → Aside0 r → q := by intro hh_ hi_; repeat (first | (with_reducible first | exact hh_.out | apply below_alloc | apply pw_below_drewN | apply below_drew1 | refine below_set ?_ (IsS103.ge hi_.out) | refine below_set ?_ (by refine Aside0.out ?_; assumption)) | exact hh_.out)) : q := h B I_
def spec_l01New.l0 : Nat → List Int → Int → Int → Option (List Int × Int × Int)
 | 0, _, _, _ => none
 | k + 1, x0, x3, x4 => if x4 < (x0.length : Int) then (if x4 < 4000 then (if 0 ≤ x4 then (spec_l01New.l0 k x0 (Go.bits .and .i64 (wrap64 ((wrap64 ((wrap64 (x3 * 131)) + (wrap64 (rd x0 x4)))) + 7)) 1073741823) (wrap64 (x4 + 1))) else (none)) else (some (x0, 0, x3))) else (some (x0, 0, x3))
def spec_l01New.f (k : Nat) (l0 : List Int) : Option (List Int × Int × Int) := spec_l01New.l0 k l0 (wrap64 (76801 + (l0.length : Int))) 0
theorem spec_l01New.calls (k : Nat) (A0 : Option Addr) (c0 : Nat) (l0 : List Int) (r1 : List Int) (r2 : Int) (r3 : Int) (w0 w : World) (hB : Below w0.heap.size w0 w) (hr0 : Kd.C (Kd.int .u8) w0 A0 l0.length l0) (hc0 : l0.length ≤ c0) (h : spec_l01New.f k l0 = some (r1, r2, r3)) :
  Calls Try.prog 80 #[.slice A0 l0.length c0] w fun e w' => ∃ g_ : Nat, e = .returned (.pointer (some ⟨g_, 0, none⟩)) ∧ IsS103 w0 w' g_ r1 r2 r3 ∧ Below w0.heap.size w0 w' ∧ Below w.heap.size w w' := by
 have hu103 := Try.underlying103
 have HR0 := Aside0.mk hr0
 have HC0 := Aside0.mk hc0
 clear hr0 hc0
 have HBW := Aside0.mk (Below.refl w.heap.size w)
 have HW0 := Aside0.mk hB.size
 have HB := Aside0.mk hB
 clear hB
 have H : (spec_l01New.l0 k l0 (wrap64 (76801 + (l0.length : Int))) 0) = some (r1, r2, r3) := h
 clear h
 have H' := Aside0.mk H
 clear H
 go_enter Try.func80, Try.ntmps80
 go_wp2
 go_loopg [3, 4] k (fun kq v3 v4 w' => ∃ (x3_1 : Int) (x4_1 : Int), v3 = .int .i64 x3_1 ∧ v4 = .int .i64 x4_1 ∧ Aside0 (spec_l01New.l0 kq l0 x3_1 x4_1 = some (r1, r2, r3)) ∧ Aside0 (kq ≤ k) ∧ Aside0 (Below w0.heap.size w0 w') ∧ Aside0 (Below w.heap.size w w'))
 case atStart => exact ⟨(wrap64 (76801 + (l0.length : Int))), (0), rS, rS, H', ⟨Nat.le_refl _⟩, ⟨bZ HB⟩, ⟨by repeat (first | (with_reducible first | exact HBW.out | apply below_alloc | apply pw_below_drewN | apply below_drew1) | exact HBW.out)⟩⟩
 case round =>
  clear H' HBW
  obtain ⟨x3_1, x4_1, rfl, rfl, HA, HK1, HB, HBW⟩ := hrel
  cases gk with
  | zero => exact absurd HA.out (by simp [spec_l01New.l0])
  | succ k1 =>
   have H := HA.out
   clear HA
   simp only [spec_l01New.l0] at H
   by_cases c2 : x4_1 < (l0.length : Int)
   ·rw [if_pos c2] at H
    have c2b0 := decide_eq_true c2
    clear c2
    by_cases c3 : x4_1 < 4000
    ·rw [if_pos c3] at H
     have c3b0 := decide_eq_true c3
     clear c3
     by_cases c4 : 0 ≤ x4_1
     ·rw [if_pos c4] at H
      have c4b0 := decide_eq_true c4
      clear c4
      have H' := Aside0.mk H
      clear H
      have p225 : 0 ≤ (x4_1 : Int) := of_decide_eq_true (by first | (with_reducible assumption) | assumption)
      have q225 : x4_1 < (l0.length : Int) := of_decide_eq_true (by first | (with_reducible assumption) | assumption)
      obtain ⟨ad225, e225, hx225_0⟩ := Kd.at_int HR0.out x4_1 p225 q225
      cases e225
      replace hx225_0 := pw_cell_below HB.out hx225_0
      replace p225 := eq_true p225
      replace q225 := eq_true q225
      go_wp2
      go_roundg k1
      case measure => have := HK1.out; omega
      case rel => exact ⟨(Go.bits .and .i64 (wrap64 ((wrap64 ((wrap64 (x3_1 * 131)) + (wrap64 (rd l0 x4_1)))) + 7)) 1073741823), (wrap64 (x4_1 + 1)), rS, rS, H', ⟨by have := HK1.out; omega⟩, ⟨bZ HB⟩, ⟨by repeat (first | (with_reducible first | exact HBW.out | apply below_alloc | apply pw_below_drewN | apply below_drew1) | exact HBW.out)⟩⟩
     ·rw [if_neg c4] at H
      exact absurd H (by simp)
    ·rw [if_neg c3] at H
     have c3b0 := decide_eq_false c3
     clear c3
     simp only [Option.some.injEq, Prod.mk.injEq] at H
     obtain ⟨rfl, rfl, rfl⟩ := H
     go_wp2_with (first | ((with_reducible refine gate_dst (N := 31) rfl ?_); refine bE 31 #[.slice A0 l0.length c0, .int .i64 0, .int .i64 x3_1] 103 ?_; intro gb226 hg w5 hbox hb; replace HB := bS HB hb; have BK226 := Aside0.mk (hbox); have GW226 := Aside0.mk ((by rw [hg]; exact (below_size (by repeat (first | (with_reducible first | exact HBW.out | apply below_alloc | apply pw_below_drewN | apply below_drew1) | exact HBW.out))) : w.heap.size ≤ gb226)); have GE226 := Aside0.mk ((Nat.le_trans HW0.out (by rw [hg]; exact (below_size (by repeat (first | (with_reducible first | exact HBW.out | apply below_alloc | apply pw_below_drewN | apply below_drew1) | exact HBW.out))) : w.heap.size ≤ gb226) : w0.heap.size ≤ gb226)); replace HBW := Aside0.mk (below_step HBW.out hb); clear hb hbox hg))
     go_ret
     exact ⟨_, rfl, (show IsS103 w0 _ gb226 l0 0 x3_1 from ⟨_, _, by (with_reducible repeat (first | refine blk_drewN ?_ _ | refine blk_drew ?_ | refine blk_alloc ?_ _)); exact BK226.out, GE226.out, HR0.out⟩), bZ HB, by repeat (first | (with_reducible first | exact HBW.out | apply below_alloc | apply pw_below_drewN | apply below_drew1 | refine below_set ?_ GW226.out) | exact HBW.out)⟩
   ·rw [if_neg c2] at H
    have c2b0 := decide_eq_false c2
    clear c2
    simp only [Option.some.injEq, Prod.mk.injEq] at H
    obtain ⟨rfl, rfl, rfl⟩ := H
    go_wp2_with (first | ((with_reducible refine gate_dst (N := 31) rfl ?_); refine bE 31 #[.slice A0 l0.length c0, .int .i64 0, .int .i64 x3_1] 103 ?_; intro gb227 hg w6 hbox hb; replace HB := bS HB hb; have BK227 := Aside0.mk (hbox); have GW227 := Aside0.mk ((by rw [hg]; exact (below_size (by repeat (first | (with_reducible first | exact HBW.out | apply below_alloc | apply pw_below_drewN | apply below_drew1) | exact HBW.out))) : w.heap.size ≤ gb227)); have GE227 := Aside0.mk ((Nat.le_trans HW0.out (by rw [hg]; exact (below_size (by repeat (first | (with_reducible first | exact HBW.out | apply below_alloc | apply pw_below_drewN | apply below_drew1) | exact HBW.out))) : w.heap.size ≤ gb227) : w0.heap.size ≤ gb227)); replace HBW := Aside0.mk (below_step HBW.out hb); clear hb hbox hg))
    go_ret
    exact ⟨_, rfl, (show IsS103 w0 _ gb227 l0 0 x3_1 from ⟨_, _, by (with_reducible repeat (first | refine blk_drewN ?_ _ | refine blk_drew ?_ | refine blk_alloc ?_ _)); exact BK227.out, GE227.out, HR0.out⟩), bZ HB, by repeat (first | (with_reducible first | exact HBW.out | apply below_alloc | apply pw_below_drewN | apply below_drew1 | refine below_set ?_ GW227.out) | exact HBW.out)⟩
def spec_l01Byte.f (s0_0 : List Int) (s0_1 : Int) (s0_2 : Int) : Option (Int × Int × Int) := if s0_1 < (s0_0.length : Int) then (if 0 ≤ s0_1 then (some (Go.bits .and .i64 (wrap64 ((Go.bits .and .i64 (Go.bits .xor .i64 ((wrap64 ((wrap64 (s0_2 * 6364136223846793005)) + 1442695040888963407)) / 8589934592) ((wrap64 ((wrap64 (s0_2 * 6364136223846793005)) + 1442695040888963407)) / 35184372088832)) 255) + (wrap64 (rd s0_0 s0_1)))) 255, wrap64 (s0_1 + 1), wrap64 ((wrap64 (s0_2 * 6364136223846793005)) + 1442695040888963407))) else (none)) else (some (Go.bits .and .i64 (Go.bits .xor .i64 ((wrap64 ((wrap64 (s0_2 * 6364136223846793005)) + 1442695040888963407)) / 8589934592) ((wrap64 ((wrap64 (s0_2 * 6364136223846793005)) + 1442695040888963407)) / 35184372088832)) 255, s0_1, wrap64 ((wrap64 (s0_2 * 6364136223846793005)) + 1442695040888963407)))
theorem spec_l01Byte.calls (g : Nat) (s0_0 : List Int) (s0_1 : Int) (s0_2 : Int) (r1 : Int) (r2 : Int) (r3 : Int) (w0 w : World) (hI : IsS103 w0 w g s0_0 s0_1 s0_2) (hB : Below w0.heap.size w0 w) (h : spec_l01Byte.f s0_0 s0_1 s0_2 = some (r1, r2, r3)) :
  Calls Try.prog 81 #[.pointer (some ⟨g, 0, none⟩)] w fun e w' => e = .returned (.int .i64 r1) ∧ IsS103 w0 w' g s0_0 r2 r3 ∧ Below w0.heap.size w0 w' ∧ KeepBut w w' g none := by
 have HI0 := Aside0.mk hI
 have HK := Aside0.mk (KeepBut.refl w g none)
 have HL := Aside0.mk hB.size
 clear hI
 have HW0 := Aside0.mk hB.size
 have HB := Aside0.mk hB
 clear hB
 have H : (if s0_1 < (s0_0.length : Int) then (if 0 ≤ s0_1 then (some (Go.bits .and .i64 (wrap64 ((Go.bits .and .i64 (Go.bits .xor .i64 ((wrap64 ((wrap64 (s0_2 * 6364136223846793005)) + 1442695040888963407)) / 8589934592) ((wrap64 ((wrap64 (s0_2 * 6364136223846793005)) + 1442695040888963407)) / 35184372088832)) 255) + (wrap64 (rd s0_0 s0_1)))) 255, wrap64 (s0_1 + 1), wrap64 ((wrap64 (s0_2 * 6364136223846793005)) + 1442695040888963407))) else (none)) else (some (Go.bits .and .i64 (Go.bits .xor .i64 ((wrap64 ((wrap64 (s0_2 * 6364136223846793005)) + 1442695040888963407)) / 8589934592) ((wrap64 ((wrap64 (s0_2 * 6364136223846793005)) + 1442695040888963407)) / 35184372088832)) 255, s0_1, wrap64 ((wrap64 (s0_2 * 6364136223846793005)) + 1442695040888963407)))) = some (r1, r2, r3) := h
 clear h
 by_cases c2 : s0_1 < (s0_0.length : Int)
 ·rw [if_pos c2] at H
  have c2b0 := decide_eq_true c2
  clear c2
  by_cases c3 : 0 ≤ s0_1
  ·rw [if_pos c3] at H
   have c3b0 := decide_eq_true c3
   clear c3
   simp only [Option.some.injEq, Prod.mk.injEq] at H
   obtain ⟨rfl, rfl, rfl⟩ := H
   obtain ⟨ASz4_0, cSz4_0, HGz4, hgz4, HSz4_0⟩ := HI0.out
   have hcz4_0 := cellS103_0 HGz4
   have hcz4_1 := cellS103_1 HGz4
   have hcz4_2 := cellS103_2 HGz4
   have hfz4_1 := blk_frozen HGz4 1
   have hfz4_2 := blk_frozen HGz4 2
   clear HGz4 hgz4
   have p228 : 0 ≤ (s0_1 : Int) := of_decide_eq_true (by first | (with_reducible assumption) | assumption)
   have q228 : s0_1 < (s0_0.length : Int) := of_decide_eq_true (by first | (with_reducible assumption) | assumption)
   obtain ⟨ad228, e228, hx228_0⟩ := Kd.at_int HSz4_0 s0_1 p228 q228
   cases e228
   have hn228_0 : ad228.block ≠ g := Nat.ne_of_lt (Nat.lt_of_lt_of_le (by have := World.block_lt_of_cell? _ _ hx228_0; first | rwa [add_block] at this | exact this) (IsS103.ge HI0.out))
   replace hx228_0 := pw_cell_below HB.out hx228_0
   replace hx228_0 := (cell_far (p := ⟨g, 2, none⟩) (by first | (rw [add_block]; exact hn228_0) | (show (Addr.add _ _).block ≠ _; rw [add_block]; exact hn228_0) | exact hn228_0) (.int .i64 (wrap64 ((wrap64 (s0_2 * 6364136223846793005)) + 1442695040888963407)))).trans hx228_0
   (try have hy228_0 := fun (n_ : Nat) => (show (((w.drewN n_).setCell ⟨g, 2, none⟩ (.int .i64 (wrap64 ((wrap64 (s0_2 * 6364136223846793005)) + 1442695040888963407))))).cell? _ = some _ from hx228_0))
   clear hn228_0
   replace p228 := eq_true p228
   replace q228 := eq_true q228
   go_enter Try.func81, Try.ntmps81
   go_wp2
   repeat (go_quiet (fail); try go_wp2)
   go_ret
   exact ⟨by first | rfl | (simp [errW_none, errW_some] <;> rfl) | (simp [*, errW_none, errW_some] <;> rfl), iZ103 HI0, jZ103 HB HI0, kZ HK⟩
  ·rw [if_neg c3] at H
   exact absurd H (by simp)
 ·rw [if_neg c2] at H
  have c2b0 := decide_eq_false c2
  clear c2
  simp only [Option.some.injEq, Prod.mk.injEq] at H
  obtain ⟨rfl, rfl, rfl⟩ := H
  obtain ⟨ASz5_0, cSz5_0, HGz5, hgz5, HSz5_0⟩ := HI0.out
  have hcz5_0 := cellS103_0 HGz5
  have hcz5_1 := cellS103_1 HGz5
  have hcz5_2 := cellS103_2 HGz5
  have hfz5_1 := blk_frozen HGz5 1
  have hfz5_2 := blk_frozen HGz5 2
  clear HGz5 hgz5
  go_enter Try.func81, Try.ntmps81
  go_wp2
  repeat (go_quiet (fail); try go_wp2)
  go_ret
  exact ⟨by first | rfl | (simp [errW_none, errW_some] <;> rfl) | (simp [*, errW_none, errW_some] <;> rfl), iZ103 HI0, jZ103 HB HI0, kZ HK⟩
def spec_l01Below.f (s0_0 : List Int) (s0_1 : Int) (s0_2 : Int) (a1 : Int) : Option (Int × Int × Int) := if a1 ≤ 0 then (some (0, s0_1, s0_2)) else (if a1 ≤ 256 then ((spec_l01Byte.f s0_0 s0_1 s0_2).bind fun bt229 => (if a1 = 0 then (none) else (some (Int.tmod bt229.1 a1, bt229.2.1, bt229.2.2)))) else ((spec_l01Byte.f s0_0 s0_1 s0_2).bind fun bt232 => ((spec_l01Byte.f s0_0 bt232.2.1 bt232.2.2).bind fun bt235 => ((spec_l01Byte.f s0_0 bt235.2.1 bt235.2.2).bind fun bt238 => ((spec_l01Byte.f s0_0 bt238.2.1 bt238.2.2).bind fun bt241 => (if a1 = 0 then (none) else (some (Int.tmod (wrap64 ((wrap64 ((wrap64 ((wrap64 (bt232.1 * 16777216)) + (wrap64 (bt235.1 * 65536)))) + (wrap64 (bt238.1 * 256)))) + bt241.1)) a1, bt241.2.1, bt241.2.2))))))))
theorem spec_l01Below.calls (g : Nat) (s0_0 : List Int) (s0_1 : Int) (s0_2 : Int) (a1 : Int) (r1 : Int) (r2 : Int) (r3 : Int) (w0 w : World) (hI : IsS103 w0 w g s0_0 s0_1 s0_2) (hB : Below w0.heap.size w0 w) (h : spec_l01Below.f s0_0 s0_1 s0_2 a1 = some (r1, r2, r3)) :
  Calls Try.prog 82 #[.pointer (some ⟨g, 0, none⟩), .int .i64 a1] w fun e w' => e = .returned (.int .i64 r1) ∧ IsS103 w0 w' g s0_0 r2 r3 ∧ Below w0.heap.size w0 w' ∧ KeepBut w w' g none := by
 have HI0 := Aside0.mk hI
 have HK := Aside0.mk (KeepBut.refl w g none)
 have HL := Aside0.mk hB.size
 clear hI
 have HW0 := Aside0.mk hB.size
 have HB := Aside0.mk hB
 clear hB
 have H : (if a1 ≤ 0 then (some (0, s0_1, s0_2)) else (if a1 ≤ 256 then ((spec_l01Byte.f s0_0 s0_1 s0_2).bind fun bt229 => (if a1 = 0 then (none) else (some (Int.tmod bt229.1 a1, bt229.2.1, bt229.2.2)))) else ((spec_l01Byte.f s0_0 s0_1 s0_2).bind fun bt232 => ((spec_l01Byte.f s0_0 bt232.2.1 bt232.2.2).bind fun bt235 => ((spec_l01Byte.f s0_0 bt235.2.1 bt235.2.2).bind fun bt238 => ((spec_l01Byte.f s0_0 bt238.2.1 bt238.2.2).bind fun bt241 => (if a1 = 0 then (none) else (some (Int.tmod (wrap64 ((wrap64 ((wrap64 ((wrap64 (bt232.1 * 16777216)) + (wrap64 (bt235.1 * 65536)))) + (wrap64 (bt238.1 * 256)))) + bt241.1)) a1, bt241.2.1, bt241.2.2))))))))) = some (r1, r2, r3) := h
 clear h
 by_cases c3 : a1 ≤ 0
 ·rw [if_pos c3] at H
  have c3b0 := decide_eq_true c3
  clear c3
  simp only [Option.some.injEq, Prod.mk.injEq] at H
  obtain ⟨rfl, rfl, rfl⟩ := H
  go_enter Try.func82, Try.ntmps82
  go_wp2
  go_ret
  exact ⟨by first | rfl | (simp [errW_none, errW_some] <;> rfl) | (simp [*, errW_none, errW_some] <;> rfl), iZ103 HI0, jZ103 HB HI0, kZ HK⟩
 ·rw [if_neg c3] at H
  have c3b0 := decide_eq_false c3
  clear c3
  by_cases c4 : a1 ≤ 256
  ·rw [if_pos c4] at H
   have c4b0 := decide_eq_true c4
   clear c4
   replace H := Option.bind_eq_some_iff.mp H
   obtain ⟨⟨t229, t230, t231⟩, A50, H⟩ := H
   have A5 := Aside0.mk A50
   clear A50
   by_cases c6 : a1 = 0
   ·rw [if_pos c6] at H
    exact absurd H (by simp)
   ·rw [if_neg c6] at H
    have c6b0 : (a1 == 0) = false := beq_eq_false_iff_ne.mpr c6
    have c6b1 : (a1 != 0) = true := bne_iff_ne.mpr c6
    simp only [Option.some.injEq, Prod.mk.injEq] at H
    obtain ⟨rfl, rfl, rfl⟩ := H
    go_enter Try.func82, Try.ntmps82
    go_wp2_with (first | (refine gC (some 14) Try.func81 #[.pointer (some ⟨g, 0, none⟩)] ?_; (with_reducible refine (spec_l01Byte.calls g s0_0 s0_1 s0_2 t229 t230 t231 w0 _ ?side1 ?side2 A5.out).mono ?_); (case side1 => exact iZ103 HI0); (case side2 => exact jZ103 HB HI0); rintro e w7 ⟨rfl, hi, hb, hk⟩; refine ⟨_, rfl, ?_⟩; replace HK := Aside0.mk (KeepBut.trans (kZ HK) hk (.inl rfl)); replace HB := Aside0.mk (hb); replace HI0 := Aside0.mk (hi); (try clear hb)))
    go_ret
    exact ⟨by first | rfl | (simp [errW_none, errW_some] <;> rfl) | (simp [*, errW_none, errW_some] <;> rfl), iZ103 HI0, jZ103 HB HI0, kZ HK⟩
  ·rw [if_neg c4] at H
   have c4b0 := decide_eq_false c4
   clear c4
   replace H := Option.bind_eq_some_iff.mp H
   obtain ⟨⟨t232, t233, t234⟩, A80, H⟩ := H
   have A8 := Aside0.mk A80
   clear A80
   replace H := Option.bind_eq_some_iff.mp H
   obtain ⟨⟨t235, t236, t237⟩, A90, H⟩ := H
   have A9 := Aside0.mk A90
   clear A90
   replace H := Option.bind_eq_some_iff.mp H
   obtain ⟨⟨t238, t239, t240⟩, A100, H⟩ := H
   have A10 := Aside0.mk A100
   clear A100
   replace H := Option.bind_eq_some_iff.mp H
   obtain ⟨⟨t241, t242, t243⟩, A110, H⟩ := H
   have A11 := Aside0.mk A110
   clear A110
   by_cases c12 : a1 = 0
   ·rw [if_pos c12] at H
    exact absurd H (by simp)
   ·rw [if_neg c12] at H
    have c12b0 : (a1 == 0) = false := beq_eq_false_iff_ne.mpr c12
    have c12b1 : (a1 != 0) = true := bne_iff_ne.mpr c12
    simp only [Option.some.injEq, Prod.mk.injEq] at H
    obtain ⟨rfl, rfl, rfl⟩ := H
    go_enter Try.func82, Try.ntmps82
    go_wp2_with (first | (refine gC (some 18) Try.func81 #[.pointer (some ⟨g, 0, none⟩)] ?_; (with_reducible refine (spec_l01Byte.calls g s0_0 s0_1 s0_2 t232 t233 t234 w0 _ ?side1 ?side2 A8.out).mono ?_); (case side1 => exact iZ103 HI0); (case side2 => exact jZ103 HB HI0); rintro e w13 ⟨rfl, hi, hb, hk⟩; refine ⟨_, rfl, ?_⟩; replace HK := Aside0.mk (KeepBut.trans (kZ HK) hk (.inl rfl)); replace HB := Aside0.mk (hb); replace HI0 := Aside0.mk (hi); (try clear hb)) | (refine gC (some 20) Try.func81 #[.pointer (some ⟨g, 0, none⟩)] ?_; (with_reducible refine (spec_l01Byte.calls g s0_0 t233 t234 t235 t236 t237 w0 _ ?side1 ?side2 A9.out).mono ?_); (case side1 => exact iZ103 HI0); (case side2 => exact jZ103 HB HI0); rintro e w14 ⟨rfl, hi, hb, hk⟩; refine ⟨_, rfl, ?_⟩; replace HK := Aside0.mk (KeepBut.trans (kZ HK) hk (.inl rfl)); replace HB := Aside0.mk (hb); replace HI0 := Aside0.mk (hi); (try clear hb)) | (refine gC (some 22) Try.func81 #[.pointer (some ⟨g, 0, none⟩)] ?_; (with_reducible refine (spec_l01Byte.calls g s0_0 t236 t237 t238 t239 t240 w0 _ ?side1 ?side2 A10.out).mono ?_); (case side1 => exact iZ103 HI0); (case side2 => exact jZ103 HB HI0); rintro e w15 ⟨rfl, hi, hb, hk⟩; refine ⟨_, rfl, ?_⟩; replace HK := Aside0.mk (KeepBut.trans (kZ HK) hk (.inl rfl)); replace HB := Aside0.mk (hb); replace HI0 := Aside0.mk (hi); (try clear hb)) | (refine gC (some 24) Try.func81 #[.pointer (some ⟨g, 0, none⟩)] ?_; (with_reducible refine (spec_l01Byte.calls g s0_0 t239 t240 t241 t242 t243 w0 _ ?side1 ?side2 A11.out).mono ?_); (case side1 => exact iZ103 HI0); (case side2 => exact jZ103 HB HI0); rintro e w16 ⟨rfl, hi, hb, hk⟩; refine ⟨_, rfl, ?_⟩; replace HK := Aside0.mk (KeepBut.trans (kZ HK) hk (.inl rfl)); replace HB := Aside0.mk (hb); replace HI0 := Aside0.mk (hi); (try clear hb)))
    go_ret
    exact ⟨by first | rfl | (simp [errW_none, errW_some] <;> rfl) | (simp [*, errW_none, errW_some] <;> rfl), iZ103 HI0, jZ103 HB HI0, kZ HK⟩
def spec_DrawPlaces.l0 : Nat → List Int → Int → List Int → Int → Int → Option (List Int)
 | 0, _, _, _, _, _ => none
 | k + 1, x4, x5, x248000, x248001, x248002 => if x5 < 12 then ((spec_l01Below.f x248000 x248001 x248002 10000).bind fun bt254 => (if x4.length < 17592186044416 then (spec_DrawPlaces.l0 k (x4 ++ [bt254.1]) (wrap64 (x5 + 1)) x248000 bt254.2.1 bt254.2.2) else (none))) else (some x4)
def spec_DrawPlaces.f (k : Nat) (l0 : List Int) : Option (List Int) := (spec_l01New.f k l0).bind fun bt244 => ((spec_l01Byte.f bt244.1 bt244.2.1 bt244.2.2).bind fun bt248 => (spec_DrawPlaces.l0 k (([] : List Int)) 0 bt244.1 bt248.2.1 bt248.2.2))
theorem spec_DrawPlaces.calls (k : Nat) (A0 : Option Addr) (c0 : Nat) (l0 : List Int) (r : List Int) (w : World) (hr0 : Kd.C (Kd.int .u8) w A0 l0.length l0) (hc0 : l0.length ≤ c0) (h : spec_DrawPlaces.f k l0 = some r) :
  Calls Try.prog 50 #[.slice A0 l0.length c0] w fun e w' => ∃ v0_ : Value, e = .returned (v0_) ∧ Kd.R (Kd.int .i64) 3 w' w.heap.size (fun _ => True) v0_ r ∧ Below w.heap.size w w' := by
 have HR0 := Aside0.mk hr0
 have HC0 := Aside0.mk hc0
 clear hr0 hc0
 have HB := Aside0.mk (Below.refl w.heap.size w)
 have H : ((spec_l01New.f k l0).bind fun bt244 => ((spec_l01Byte.f bt244.1 bt244.2.1 bt244.2.2).bind fun bt248 => (spec_DrawPlaces.l0 k (([] : List Int)) 0 bt244.1 bt248.2.1 bt248.2.2))) = some r := h
 clear h
 replace H := Option.bind_eq_some_iff.mp H
 obtain ⟨⟨t244, t245, t246⟩, A20, H⟩ := H
 have A2 := Aside0.mk A20
 clear A20
 replace H := Option.bind_eq_some_iff.mp H
 obtain ⟨⟨t248, t249, t250⟩, A30, H⟩ := H
 have A3 := Aside0.mk A30
 clear A30
 obtain ⟨y251, hy251⟩ : ∃ y_ : List Int, y_ = (([] : List Int)) := ⟨_, rfl⟩
 replace H : (spec_DrawPlaces.l0 k y251 0 t244 t249 t250) = some r := by first | (rw [hy251]; with_reducible exact H) | (have H2_ := (Option.bind_some _ _).symm.trans H; rw [hy251]; with_reducible exact H2_) | (have H2_ := (Option.bind_some _ _).symm.trans H; with_reducible exact H2_) | with_reducible exact H | (rw [hy251]; exact H) | exact H
 have Ny251 := Aside0.mk hy251
 clear hy251
 have H' := Aside0.mk H
 clear H
 go_enter Try.func50, Try.ntmps50
 go_wp2_with (first | (refine gC (some 7) Try.func80 #[.slice A0 l0.length c0] ?_; (with_reducible refine (spec_l01New.calls k _ _ l0 t244 t245 t246 w _ ?side1 ?side2 ?side3 A2.out).mono ?_); (case side1 => repeat (first | (with_reducible first | exact HB.out | apply below_alloc | apply pw_below_drewN | apply below_drew1) | exact HB.out)); (case side2 => exact HR0.out); (case side3 => exact HC0.out); rintro e w4 ⟨g247, rfl, hi, hb, hb2⟩; refine ⟨_, rfl, ?_⟩; replace HB := Aside0.mk (hb); have HI247 := Aside0.mk (hi); (try clear hb)) | (refine gC (some 9) Try.func81 #[.pointer (some ⟨g247, 0, none⟩)] ?_; (with_reducible refine (spec_l01Byte.calls g247 t244 t245 t246 t248 t249 t250 w _ ?side1 ?side2 A3.out).mono ?_); (case side1 => exact iZ103 HI247); (case side2 => exact jZ103 HB HI247); rintro e w5 ⟨rfl, hi, hb, hk⟩; refine ⟨_, rfl, ?_⟩; replace HB := Aside0.mk (hb); replace HI247 := Aside0.mk (hi); (try clear hb)) | ((with_reducible refine gate_dst (N := 10) rfl ?_); refine Kd.R_lit (Kd.int .i64) _ 3 ?hg (N := 10) ?hd (xs := ([] : List Int)) (inner := []) (ok := fun _ => True) (okp := fun _ => True) ?hr ?hp (fun _ hk => hk) trivial (Below.refl _ _) (Nat.le_refl _) (by simp) ?_; (case hd => rfl); (case hg => rfl); (case hr => first | (go_simp; done) | (go_simp; rfl)); (case hp => exact (Reps.none _ _)); intro v252 w6 ho7 hb hg_ hnew_; clear hg_ hnew_; (first | rw [← Ny251.out] at ho7 | (simp only [Int.reduceToNat] at ho7; rw [← Ny251.out] at ho7)); have HO253 := Aside0.mk (Kd.R_lower ho7 (below_size (jZ103 HB HI247))); replace HB := Aside0.mk (below_step (jZ103 HB HI247) hb); replace HI247 := Aside0.mk (IsS103.below (iZ103 HI247) hb); clear hb ho7))
 go_loopg [4, 5] k (fun kq v4 v5 w' => ∃ (x4_1 : List Int) (x5_1 : Int) (x248001_1 : Int) (x248002_1 : Int), v5 = .int .i64 x5_1 ∧ Aside0 (spec_DrawPlaces.l0 kq x4_1 x5_1 t244 x248001_1 x248002_1 = some r) ∧ Aside0 (kq ≤ k) ∧ Aside0 (Kd.R (Kd.int .i64) 3 w' w.heap.size (fun _ => True) v4 x4_1) ∧ Aside0 (IsS103 w w' g247 t244 x248001_1 x248002_1) ∧ Aside0 (Below w.heap.size w w'))
 case atStart => exact ⟨(y251), (0), (t249), (t250), rS, H', ⟨Nat.le_refl _⟩, ⟨rP HO253⟩, ⟨iZ103 HI247⟩, ⟨jZ103 HB HI247⟩⟩
 case round =>
  clear H'
  try clear p2
  try clear c5
  obtain ⟨x4_1, x5_1, x248001_1, x248002_1, rfl, HA, HK1, HO_4, HI247, HB⟩ := hrel
  cases gk with
  | zero => exact absurd HA.out (by simp [spec_DrawPlaces.l0])
  | succ k1 =>
   have H := HA.out
   clear HA
   simp only [spec_DrawPlaces.l0] at H
   by_cases c8 : x5_1 < 12
   ·rw [if_pos c8] at H
    have c8b0 := decide_eq_true c8
    clear c8
    replace H := Option.bind_eq_some_iff.mp H
    obtain ⟨⟨t254, t255, t256⟩, A90, H⟩ := H
    have A9 := Aside0.mk A90
    clear A90
    by_cases c10 : x4_1.length < 17592186044416
    ·rw [if_pos c10] at H
     have LMc10 := Aside0.mk c10
     clear c10
     obtain ⟨y257, hy257⟩ : ∃ y_ : List Int, y_ = (x4_1 ++ [t254]) := ⟨_, rfl⟩
     replace H : (spec_DrawPlaces.l0 k1 y257 (wrap64 (x5_1 + 1)) t244 t255 t256) = some r := by first | (rw [hy257]; with_reducible exact H) | (have H2_ := (Option.bind_some _ _).symm.trans H; rw [hy257]; with_reducible exact H2_) | (have H2_ := (Option.bind_some _ _).symm.trans H; with_reducible exact H2_) | with_reducible exact H | (rw [hy257]; exact H) | exact H
     have Ny257 := Aside0.mk hy257
     clear hy257
     have H' := Aside0.mk H
     clear H
     go_wp2_with (first | (refine gC (some 17) Try.func82 #[.pointer (some ⟨g247, 0, none⟩), .int .i64 10000] ?_; (with_reducible refine (spec_l01Below.calls g247 t244 x248001_1 x248002_1 10000 t254 t255 t256 w _ ?side1 ?side2 A9.out).mono ?_); (case side1 => exact iZ103 HI247); (case side2 => exact jZ103 HB HI247); rintro e w11 ⟨rfl, hi, hb, hk⟩; refine ⟨_, rfl, ?_⟩; replace HO_4 := Aside0.mk (Kd.R_mono (Kd.R_keep (IsS103.apart (show IsS103 w _ g247 t244 x248001_1 x248002_1 from iZ103 HI247) (rP HO_4) (by decide)) hk (fun _ h => h.2)) (fun _ h => h.1)); replace HB := Aside0.mk (hb); replace HI247 := Aside0.mk (hi); (try clear hb)) | ((with_reducible refine gate_builtin (b := .append) (xs := #[.tmp 15, .tmp 18]) rfl ?_); at_builtin; refine Kd.R_append (Kd.int .i64) (w0 := w) w.heap.size rfl (.tmp 15) (.tmp 18) 31 3 (.int .i64 0) 8 rfl Try.underlying31 info3 rfl (by decide) (by omega) u4 x4_1 t254 [.int .i64 t254] (fun _ => True) (fun _ => False) rfl rfl ?aP (fun _ hk => hk.elim) ?aF ?aO ?aB ?aS ?aL ?_; (case aP => exact rfl); (case aB => exact (jZ103 HB HI247)); (case aF => exact (fun _ _ => trivial)); (case aO => exact (rP HO_4)); (case aS => exact (below_size (jZ103 HB HI247))); (case aL => have := LMc10.out; omega); intro v258 w12 ho hb hg hat; rw [← Ny257.out] at ho; replace HI247 := Aside0.mk (IsS103.grown (iZ103 HI247) hg (IsS103.own_ne HI247.out HO_4.out (by decide))); replace HB := Aside0.mk (hb); have HO259 := Aside0.mk (ho); clear HO_4; clear ho hb hg hat))
     go_roundg k1
     case measure => have := HK1.out; omega
     case rel => exact ⟨(y257), (wrap64 (x5_1 + 1)), (t255), (t256), rS, H', ⟨by have := HK1.out; omega⟩, ⟨rP HO259⟩, ⟨iZ103 HI247⟩, ⟨jZ103 HB HI247⟩⟩
    ·rw [if_neg c10] at H
     exact absurd H (by simp)
   ·rw [if_neg c8] at H
    have c8b0 := decide_eq_false c8
    clear c8
    obtain rfl := Option.some.inj H
    go_wp2
    go_ret
    exact ⟨_, by first | rfl | (simp [errW_none, errW_some] <;> rfl) | (simp [*, errW_none, errW_some] <;> rfl), by (with_reducible repeat (first | apply Kd.R_alloc | apply Kd.R_drewN | apply Kd.R_drew)); exact HO_4.out, jZ103 HB HI247⟩
def laws_sameInts.l0 : Nat → List Int → List Int → Int → Option (Bool)
 | 0, _, _, _ => none
 | k + 1, x0, x1, x5 => if x5 < (x0.length : Int) then (if 0 ≤ x5 then (if x5 < (x1.length : Int) then (if (rd x0 x5) = (rd x1 x5) then (laws_sameInts.l0 k x0 x1 (wrap64 (x5 + 1))) else (some false)) else (none)) else (none)) else (some true)
def laws_sameInts.f (k : Nat) (l0 : List Int) (l1 : List Int) : Option (Bool) := if (l0.length : Int) = (l1.length : Int) then (laws_sameInts.l0 k l0 l1 0) else (some false)
theorem laws_sameInts.mono_l : ∀ k, (∀ y0 y1 y2, LeO (laws_sameInts.l0 k y0 y1 y2) (laws_sameInts.l0 (k + 1) y0 y1 y2))
 | 0 => fun _ _ _ r h => by simp [laws_sameInts.l0] at h
 | k + 1 => by
  have ih0 := laws_sameInts.mono_l k
  ·intro y0 y1 y2
   unfold laws_sameInts.l0
   with_reducible repeat' first | exact ih0 _ _ _ | exact LeO.refl _ | exact LeO.none _ | refine LeO.ite ?_ ?_ | refine LeO.bind ?_ (fun _ => ?_)
theorem laws_sameInts.mono : ∀ a0 a1 k, LeO (laws_sameInts.f k a0 a1) (laws_sameInts.f (k + 1) a0 a1) := by
 intro a0 a1 k
 have ih0 := laws_sameInts.mono_l k
 unfold laws_sameInts.f
 with_reducible repeat' first | exact ih0 _ _ _ | exact LeO.refl _ | exact LeO.none _ | refine LeO.ite ?_ ?_ | refine LeO.bind ?_ (fun _ => ?_)
theorem laws_sameInts.calls (k : Nat) (A0 : Option Addr) (c0 : Nat) (l0 : List Int) (A1 : Option Addr) (c1 : Nat) (l1 : List Int) (r : Bool) (w : World) (hr0 : Kd.C (Kd.int .i64) w A0 l0.length l0) (hc0 : l0.length ≤ c0) (hr1 : Kd.C (Kd.int .i64) w A1 l1.length l1) (hc1 : l1.length ≤ c1) (h : laws_sameInts.f k l0 l1 = some r) :
  Calls Try.prog 51 #[.slice A0 l0.length c0, .slice A1 l1.length c1] w fun e w' => e = .returned (.bool r) ∧ Drawn0 w w' := by
 have HR0 := Aside0.mk hr0
 have HC0 := Aside0.mk hc0
 clear hr0 hc0
 have HR1 := Aside0.mk hr1
 have HC1 := Aside0.mk hc1
 clear hr1 hc1
 have H : (if (l0.length : Int) = (l1.length : Int) then (laws_sameInts.l0 k l0 l1 0) else (some false)) = some r := h
 clear h
 by_cases c3 : (l0.length : Int) = (l1.length : Int)
 ·rw [if_pos c3] at H
  have c3b0 : ((l0.length : Int) == (l1.length : Int)) = true := beq_iff_eq.mpr c3
  have c3b1 : ((l0.length : Int) != (l1.length : Int)) = false := bne_eq_false_iff_eq.mpr c3
  have c3b2 : (l0.length == l1.length) = true := by first | simpa using c3 | (simp at c3 ⊢; omega)
  clear c3
  have H' := Aside0.mk H
  clear H
  go_enter Try.func51, Try.ntmps51
  go_wp2
  repeat (go_quiet (fail); try go_wp2)
  go_loopg [5] k (fun kq v5 w' => ∃ (x5_1 : Int), v5 = .int .i64 x5_1 ∧ Aside0 (laws_sameInts.l0 kq l0 l1 x5_1 = some r) ∧ Aside0 (kq ≤ k) ∧ Drawn0 w w')
  case atStart => exact ⟨(0), rS, H', ⟨Nat.le_refl _⟩, by repeat (first | exact Drawn0.refl _ | apply Drawn0.step)⟩
  case round =>
   clear H'
   try clear c1
   try clear p2
   try clear c3
   try clear c3b0
   try clear c3b1
   try clear c3b2
   obtain ⟨x5_1, rfl, HA, HK1, ⟨m1, rfl⟩⟩ := hrel
   cases gk with
   | zero => exact absurd HA.out (by simp [laws_sameInts.l0])
   | succ k1 =>
    have H := HA.out
    clear HA
    simp only [laws_sameInts.l0] at H
    by_cases c4 : x5_1 < (l0.length : Int)
    ·rw [if_pos c4] at H
     have c4b0 := decide_eq_true c4
     clear c4
     by_cases c5 : 0 ≤ x5_1
     ·rw [if_pos c5] at H
      have c5b0 := decide_eq_true c5
      clear c5
      by_cases c6 : x5_1 < (l1.length : Int)
      ·rw [if_pos c6] at H
       have c6b0 := decide_eq_true c6
       clear c6
       by_cases c7 : (rd l0 x5_1) = (rd l1 x5_1)
       ·rw [if_pos c7] at H
        have c7b0 : ((rd l0 x5_1) == (rd l1 x5_1)) = true := beq_iff_eq.mpr c7
        have c7b1 : ((rd l0 x5_1) != (rd l1 x5_1)) = false := bne_eq_false_iff_eq.mpr c7
        clear c7
        have H' := Aside0.mk H
        clear H
        have p260 : 0 ≤ (x5_1 : Int) := of_decide_eq_true (by first | (with_reducible assumption) | assumption)
        have q260 : x5_1 < (l0.length : Int) := of_decide_eq_true (by first | (with_reducible assumption) | assumption)
        obtain ⟨ad260, e260, hx260_0⟩ := Kd.at_int HR0.out x5_1 p260 q260
        cases e260
        replace p260 := eq_true p260
        replace q260 := eq_true q260
        have p261 : 0 ≤ (x5_1 : Int) := of_decide_eq_true (by first | (with_reducible assumption) | assumption)
        have q261 : x5_1 < (l1.length : Int) := of_decide_eq_true (by first | (with_reducible assumption) | assumption)
        obtain ⟨ad261, e261, hx261_0⟩ := Kd.at_int HR1.out x5_1 p261 q261
        cases e261
        replace p261 := eq_true p261
        replace q261 := eq_true q261
        go_wp2
        repeat (go_quiet (fail); try go_wp2)
        go_roundg k1
        case measure => have := HK1.out; omega
        case rel => exact ⟨(wrap64 (x5_1 + 1)), rS, H', ⟨by have := HK1.out; omega⟩, by repeat (first | exact Drawn0.refl _ | apply Drawn0.step)⟩
       ·rw [if_neg c7] at H
        have c7b0 : ((rd l0 x5_1) == (rd l1 x5_1)) = false := beq_eq_false_iff_ne.mpr c7
        have c7b1 : ((rd l0 x5_1) != (rd l1 x5_1)) = true := bne_iff_ne.mpr c7
        obtain rfl := Option.some.inj H
        have p260 : 0 ≤ (x5_1 : Int) := of_decide_eq_true (by first | (with_reducible assumption) | assumption)
        have q260 : x5_1 < (l0.length : Int) := of_decide_eq_true (by first | (with_reducible assumption) | assumption)
        obtain ⟨ad260, e260, hx260_0⟩ := Kd.at_int HR0.out x5_1 p260 q260
        cases e260
        replace p260 := eq_true p260
        replace q260 := eq_true q260
        have p261 : 0 ≤ (x5_1 : Int) := of_decide_eq_true (by first | (with_reducible assumption) | assumption)
        have q261 : x5_1 < (l1.length : Int) := of_decide_eq_true (by first | (with_reducible assumption) | assumption)
        obtain ⟨ad261, e261, hx261_0⟩ := Kd.at_int HR1.out x5_1 p261 q261
        cases e261
        replace p261 := eq_true p261
        replace q261 := eq_true q261
        go_wp2
        repeat (go_quiet (fail); try go_wp2)
        go_ret
        exact ⟨rS, rD⟩
      ·rw [if_neg c6] at H
       exact absurd H (by simp)
     ·rw [if_neg c5] at H
      exact absurd H (by simp)
    ·rw [if_neg c4] at H
     have c4b0 := decide_eq_false c4
     clear c4
     obtain rfl := Option.some.inj H
     go_wp2
     repeat (go_quiet (fail); try go_wp2)
     go_ret
     exact ⟨rS, rD⟩
 ·rw [if_neg c3] at H
  have c3b0 : ((l0.length : Int) == (l1.length : Int)) = false := beq_eq_false_iff_ne.mpr c3
  have c3b1 : ((l0.length : Int) != (l1.length : Int)) = true := bne_iff_ne.mpr c3
  have c3b2 : (l0.length == l1.length) = false := by first | simpa using c3 | (simp at c3 ⊢; omega)
  obtain rfl := Option.some.inj H
  go_enter Try.func51, Try.ntmps51
  go_wp2
  repeat (go_quiet (fail); try go_wp2)
  go_ret
  exact ⟨rS, rD⟩
def spec_CountBits.l0 : Nat → Int → Int → Int → Option (Int)
 | 0, _, _, _ => none
 | k + 1, x0, x3, x4 => if x4 < 8 then (if 0 ≤ (IntKind.u64.wrap (x4)) then (spec_CountBits.l0 k x0 (wrap64 (x3 + (Int.tmod (shr .i64 x0 (IntKind.u64.wrap (x4))) 2))) (wrap64 (x4 + 1))) else (none)) else (some x3)
def spec_CountBits.f (k : Nat) (a0 : Int) : Option (Int) := (spec_l01In.f a0 0 255).bind fun t262 => (if t262 = true then (spec_CountBits.l0 k a0 0 0) else (some 0))
theorem spec_CountBits.mono_l : ∀ k, (∀ y0 y1 y2, LeO (spec_CountBits.l0 k y0 y1 y2) (spec_CountBits.l0 (k + 1) y0 y1 y2))
 | 0 => fun _ _ _ r h => by simp [spec_CountBits.l0] at h
 | k + 1 => by
  have ih0 := spec_CountBits.mono_l k
  ·intro y0 y1 y2
   unfold spec_CountBits.l0
   with_reducible repeat' first | exact ih0 _ _ _ | exact LeO.refl _ | exact LeO.none _ | refine LeO.ite ?_ ?_ | refine LeO.bind ?_ (fun _ => ?_)
theorem spec_CountBits.mono : ∀ a0 k, LeO (spec_CountBits.f k a0) (spec_CountBits.f (k + 1) a0) := by
 intro a0 k
 have ih0 := spec_CountBits.mono_l k
 unfold spec_CountBits.f
 with_reducible repeat' first | exact ih0 _ _ _ | exact LeO.refl _ | exact LeO.none _ | refine LeO.ite ?_ ?_ | refine LeO.bind ?_ (fun _ => ?_)
theorem spec_CountBits.calls (k : Nat) (a0 : Int) (r : Int) (w : World) (h : spec_CountBits.f k a0 = some r) :
  Calls Try.prog 26 #[.int .i64 a0] w fun e w' => e = .returned (.int .i64 r) ∧ Drawn0 w w' := by
 have H : ((spec_l01In.f a0 0 255).bind fun t262 => (if t262 = true then (spec_CountBits.l0 k a0 0 0) else (some 0))) = some r := h
 clear h
 replace H := Option.bind_eq_some_iff.mp H
 obtain ⟨t262, A20, H⟩ := H
 have A2 := Aside0.mk A20
 clear A20
 by_cases c3 : t262 = true
 ·subst c3
  rw [if_pos rfl] at H
  have H' := Aside0.mk H
  clear H
  go_enter Try.func26, Try.ntmps26
  go_wp2_with (first | (refine gC (some 6) Try.func54 #[.int .i64 a0, .int .i64 0, .int .i64 255] ?_; (with_reducible refine (spec_l01In.calls a0 0 255 true _ A2.out).mono ?_); rintro e w' ⟨rfl, ⟨nd, rfl⟩⟩; refine ⟨_, rfl, ?_⟩))
  go_loopg [3, 4] k (fun kq v3 v4 w' => ∃ (x3_1 : Int) (x4_1 : Int), v3 = .int .i64 x3_1 ∧ v4 = .int .i64 x4_1 ∧ Aside0 (spec_CountBits.l0 kq a0 x3_1 x4_1 = some r) ∧ Aside0 (kq ≤ k) ∧ Drawn0 w w')
  case atStart => exact ⟨(0), (0), rS, rS, H', ⟨Nat.le_refl _⟩, by repeat (first | exact Drawn0.refl _ | apply Drawn0.step)⟩
  case round =>
   clear H'
   try clear c2
   try clear p2
   try clear c3
   obtain ⟨x3_1, x4_1, rfl, rfl, HA, HK1, ⟨m1, rfl⟩⟩ := hrel
   cases gk with
   | zero => exact absurd HA.out (by simp [spec_CountBits.l0])
   | succ k1 =>
    have H := HA.out
    clear HA
    simp only [spec_CountBits.l0] at H
    by_cases c4 : x4_1 < 8
    ·rw [if_pos c4] at H
     have c4b0 := decide_eq_true c4
     clear c4
     obtain ⟨ji5, hji5⟩ : ∃ j_ : Int, (IntKind.u64.wrap (x4_1)) = j_ := ⟨_, rfl⟩
     replace H : (if 0 ≤ (ji5) then (spec_CountBits.l0 k1 a0 (wrap64 (x3_1 + (Int.tmod (shr .i64 a0 (ji5)) 2))) (wrap64 (x4_1 + 1))) else (none)) = some r := by first | (rw [hji5] at H; exact H) | (simp only [hji5] at H ⊢; exact H)
     by_cases c6 : 0 ≤ (ji5)
     ·rw [if_pos c6] at H
      have c6b0 := eq_true c6
      have c6b1 := decide_eq_true c6
      clear c6
      obtain ⟨ji7, hji7⟩ : ∃ j_ : Int, (shr .i64 a0 (ji5)) = j_ := ⟨_, rfl⟩
      replace H : (spec_CountBits.l0 k1 a0 (wrap64 (x3_1 + (Int.tmod (ji7) 2))) (wrap64 (x4_1 + 1))) = some r := by first | (rw [hji7] at H; exact H) | (simp only [hji7] at H ⊢; exact H)
      have hji7_ : (a0 / 2 ^ min (ji5).toNat 64) = ji7 := hji7
      have hji7z : (ji5) ≤ 64 → (a0 / 2 ^ (ji5).toNat) = ji7 := shr_small hji7
      have H' := Aside0.mk H
      clear H
      go_wp2
      go_roundg k1
      case measure => have := HK1.out; omega
      case rel => exact ⟨(wrap64 (x3_1 + (Int.tmod (ji7) 2))), (wrap64 (x4_1 + 1)), (by first | rfl | (simp; done) | (simp only [← hji7] <;> (first | rfl | simp)) | (simp [*]; done)), rS, H', ⟨by have := HK1.out; omega⟩, by repeat (first | exact Drawn0.refl _ | apply Drawn0.step)⟩
     ·rw [if_neg c6] at H
      exact absurd H (by simp)
    ·rw [if_neg c4] at H
     have c4b0 := decide_eq_false c4
     clear c4
     obtain rfl := Option.some.inj H
     go_wp2
     go_ret
     exact ⟨rS, rD⟩
 ·replace c3 := Bool.eq_false_iff.mpr c3
  subst c3
  rw [if_neg (show ¬ (false = true) by decide)] at H
  obtain rfl := Option.some.inj H
  go_enter Try.func26, Try.ntmps26
  go_wp2_with (first | (refine gC (some 6) Try.func54 #[.int .i64 a0, .int .i64 0, .int .i64 255] ?_; (with_reducible refine (spec_l01In.calls a0 0 255 false _ A2.out).mono ?_); rintro e w' ⟨rfl, ⟨nd, rfl⟩⟩; refine ⟨_, rfl, ?_⟩))
  go_ret
  exact ⟨rS, rD⟩
def spec_CountWitness.l0 : Nat → Int → List Int → Int → Option (List Int)
 | 0, _, _, _ => none
 | k + 1, x0, x3, x4 => if x4 < 8 then (if 0 ≤ (IntKind.u64.wrap (x4)) then (if x3.length < 17592186044416 then (spec_CountWitness.l0 k x0 (x3 ++ [Int.tmod (shr .i64 x0 (IntKind.u64.wrap (x4))) 2]) (wrap64 (x4 + 1))) else (none)) else (none)) else (some x3)
def spec_CountWitness.f (k : Nat) (a0 : Int) : Option (List Int) := (some (([] : List Int) : List Int)).bind fun y263 => ((spec_l01In.f a0 0 255).bind fun t266 => (if t266 = true then ((spec_CountBits.f k a0).bind fun t267 => ((some (([1, a0, t267] : List Int) : List Int)).bind fun y268 => (if y263.length + y268.length < 17592186044416 then (spec_CountWitness.l0 k a0 (y263 ++ y268) 0) else (none)))) else (some y263)))
theorem spec_CountWitness.mono_l : ∀ k, (∀ y0 y1 y2, LeO (spec_CountWitness.l0 k y0 y1 y2) (spec_CountWitness.l0 (k + 1) y0 y1 y2))
 | 0 => fun _ _ _ r h => by simp [spec_CountWitness.l0] at h
 | k + 1 => by
  have ih0 := spec_CountWitness.mono_l k
  ·intro y0 y1 y2
   unfold spec_CountWitness.l0
   with_reducible repeat' first | exact ih0 _ _ _ | exact spec_CountBits.mono _ _ | exact LeO.refl _ | exact LeO.none _ | refine LeO.ite ?_ ?_ | refine LeO.bind ?_ (fun _ => ?_)
theorem spec_CountWitness.mono : ∀ a0 k, LeO (spec_CountWitness.f k a0) (spec_CountWitness.f (k + 1) a0) := by
 intro a0 k
 have ih0 := spec_CountWitness.mono_l k
 unfold spec_CountWitness.f
 with_reducible repeat' first | exact ih0 _ _ _ | exact spec_CountBits.mono _ _ | exact LeO.refl _ | exact LeO.none _ | refine LeO.ite ?_ ?_ | refine LeO.bind ?_ (fun _ => ?_)
theorem spec_CountWitness.calls (k : Nat) (a0 : Int) (r : List Int) (w : World) (h : spec_CountWitness.f k a0 = some r) :
  Calls Try.prog 35 #[.int .i64 a0] w fun e w' => ∃ v0_ : Value, e = .returned (v0_) ∧ Kd.R (Kd.int .i64) 3 w' w.heap.size (fun _ => True) v0_ r ∧ Below w.heap.size w w' := by
 have HB := Aside0.mk (Below.refl w.heap.size w)
 have H : ((some (([] : List Int) : List Int)).bind fun y263 => ((spec_l01In.f a0 0 255).bind fun t266 => (if t266 = true then ((spec_CountBits.f k a0).bind fun t267 => ((some (([1, a0, t267] : List Int) : List Int)).bind fun y268 => (if y263.length + y268.length < 17592186044416 then (spec_CountWitness.l0 k a0 (y263 ++ y268) 0) else (none)))) else (some y263)))) = some r := h
 clear h
 obtain ⟨y263, hy263⟩ : ∃ y_ : List Int, y_ = (([] : List Int)) := ⟨_, rfl⟩
 replace H : ((spec_l01In.f a0 0 255).bind fun t266 => (if t266 = true then ((spec_CountBits.f k a0).bind fun t267 => ((some (([1, a0, t267] : List Int) : List Int)).bind fun y268 => (if y263.length + y268.length < 17592186044416 then (spec_CountWitness.l0 k a0 (y263 ++ y268) 0) else (none)))) else (some y263))) = some r := by first | (rw [hy263]; with_reducible exact H) | (have H2_ := (Option.bind_some _ _).symm.trans H; rw [hy263]; with_reducible exact H2_) | (have H2_ := (Option.bind_some _ _).symm.trans H; with_reducible exact H2_) | with_reducible exact H | (rw [hy263]; exact H) | exact H
 have Ny263 := Aside0.mk hy263
 clear hy263
 replace H := Option.bind_eq_some_iff.mp H
 obtain ⟨t266, A20, H⟩ := H
 have A2 := Aside0.mk A20
 clear A20
 by_cases c3 : t266 = true
 ·subst c3
  rw [if_pos rfl] at H
  replace H := Option.bind_eq_some_iff.mp H
  obtain ⟨t267, A40, H⟩ := H
  have A4 := Aside0.mk A40
  clear A40
  obtain ⟨y268, hy268⟩ : ∃ y_ : List Int, y_ = (([1, a0, t267] : List Int)) := ⟨_, rfl⟩
  replace H : (if y263.length + y268.length < 17592186044416 then (spec_CountWitness.l0 k a0 (y263 ++ y268) 0) else (none)) = some r := by first | (rw [hy268]; with_reducible exact H) | (have H2_ := (Option.bind_some _ _).symm.trans H; rw [hy268]; with_reducible exact H2_) | (have H2_ := (Option.bind_some _ _).symm.trans H; with_reducible exact H2_) | with_reducible exact H | (rw [hy268]; exact H) | exact H
  have Ny268 := Aside0.mk hy268
  clear hy268
  by_cases c5 : y263.length + y268.length < 17592186044416
  ·rw [if_pos c5] at H
   have LMc5 := Aside0.mk c5
   clear c5
   obtain ⟨y271, hy271⟩ : ∃ y_ : List Int, y_ = (y263 ++ y268) := ⟨_, rfl⟩
   replace H : (spec_CountWitness.l0 k a0 y271 0) = some r := by first | (rw [hy271]; with_reducible exact H) | (have H2_ := (Option.bind_some _ _).symm.trans H; rw [hy271]; with_reducible exact H2_) | (have H2_ := (Option.bind_some _ _).symm.trans H; with_reducible exact H2_) | with_reducible exact H | (rw [hy271]; exact H) | exact H
   have Ny271 := Aside0.mk hy271
   clear hy271
   have H' := Aside0.mk H
   clear H
   go_enter Try.func35, Try.ntmps35
   go_wp2_with (first | ((with_reducible refine gate_dst (N := 5) rfl ?_); refine Kd.R_lit (Kd.int .i64) _ 3 ?hg (N := 5) ?hd (xs := ([] : List Int)) (inner := []) (ok := fun _ => True) (okp := fun _ => True) ?hr ?hp (fun _ hk => hk) trivial (Below.refl _ _) (Nat.le_refl _) (by simp) ?_; (case hd => rfl); (case hg => rfl); (case hr => first | (go_simp; done) | (go_simp; rfl)); (case hp => exact (Reps.none _ _)); intro v264 w6 ho7 hb hg_ hnew_; clear hg_ hnew_; (first | rw [← Ny263.out] at ho7 | (simp only [Int.reduceToNat] at ho7; rw [← Ny263.out] at ho7)); have HO265 := Aside0.mk (Kd.R_lower ho7 (below_size (bZ HB))); replace HB := bS HB hb; clear hb ho7) | (refine gC (some 7) Try.func54 #[.int .i64 a0, .int .i64 0, .int .i64 255] ?_; (with_reducible refine (spec_l01In.calls a0 0 255 true _ A2.out).mono ?_); rintro e w' ⟨rfl, ⟨nd, rfl⟩⟩; refine ⟨_, rfl, ?_⟩) | (refine gC (some 13) Try.func26 #[.int .i64 a0] ?_; (with_reducible refine (spec_CountBits.calls k a0 t267 _ A4.out).mono ?_); rintro e w' ⟨rfl, ⟨nd, rfl⟩⟩; refine ⟨_, rfl, ?_⟩) | ((with_reducible refine gate_dst (N := 14) rfl ?_); refine Kd.R_lit (Kd.int .i64) _ 3 ?hg (N := 14) ?hd (xs := ([1, a0, t267] : List Int)) (inner := [.int .i64 1, .int .i64 a0, .int .i64 t267]) (ok := fun _ => True) (okp := fun _ => True) ?hr ?hp (fun _ hk => hk) trivial (Below.refl _ _) (Nat.le_refl _) (by simp) ?_; (case hd => rfl); (case hg => rfl); (case hr => first | (go_simp; done) | (go_simp; rfl)); (case hp => exact (Reps.one (show Kd.M (Kd.int .i64) _ _ _ 1 [.int .i64 1] from rfl) (Reps.one (show Kd.M (Kd.int .i64) _ _ _ a0 [.int .i64 a0] from rfl) (Reps.one (show Kd.M (Kd.int .i64) _ _ _ t267 [.int .i64 t267] from rfl) (Reps.none _ _))))); intro v269 w8 ho9 hb hg_ hnew_; clear hg_ hnew_; (first | rw [← Ny268.out] at ho9 | (simp only [Int.reduceToNat] at ho9; rw [← Ny268.out] at ho9)); have HO270 := Aside0.mk (Kd.R_lower (Kd.R_new' ho9 (Kd.R_lt (rP HO265))) (below_size (bZ HB))); replace HO265 := Aside0.mk (Kd.R_elder' (rP HO265) (Kd.R_base ho9) hb); replace HB := bS HB hb; clear hb ho9; obtain ⟨Ao11, co11, eo11⟩ := Kd.R_slice HO270.out; subst eo11) | ((with_reducible refine gate_builtin (b := .append) (xs := #[.tmp 10, .tmp 14]) rfl ?_); at_builtin; refine Kd.R_append_rows (Kd.int .i64) (w0 := w) w.heap.size rfl (.tmp 10) (.tmp 14) 31 3 (.int .i64 0) 8 rfl Try.underlying31 info3 rfl (by decide) (by omega) v264 y263 y268 _ _ _ (fun k_ => some k_ ≠ (.slice Ao11 y268.length co11 : Value).ownBlock) (fun _ => False) rfl rfl ?aO ?aR (fun _ _ h => h) (fun _ h => h.elim) ?aF ?aB ?aS ?aL ?_; (case aR => exact cP ((Kd.R_reads' HO270.out).2.2)); (case aB => exact (bZ HB)); (case aF => exact (fun k_ hk => Kd.fresh' (Kd.R_lt (rP HO270)) k_ hk)); (case aO => exact (by (with_reducible repeat (first | apply Kd.R_alloc | apply Kd.R_drewN | apply Kd.R_drew)); exact Kd.R_mono HO265.out (fun _ hk => hk.2))); (case aS => exact (below_size (bZ HB))); (case aL => have := LMc5.out; omega); intro v272 w10 ho hb hg hat; rw [← Ny271.out] at ho; replace HO270 := Aside0.mk (Kd.R_after (ok := (fun _ => True)) (rP HO270) hg hat); replace HB := Aside0.mk (hb); have HO273 := Aside0.mk (ho); clear HO265; clear ho hb hg hat))
   go_loopg [3, 4] k (fun kq v3 v4 w' => ∃ (x3_1 : List Int) (x4_1 : Int), v4 = .int .i64 x4_1 ∧ Aside0 (spec_CountWitness.l0 kq a0 x3_1 x4_1 = some r) ∧ Aside0 (kq ≤ k) ∧ Aside0 (Kd.R (Kd.int .i64) 3 w' w.heap.size (fun _ => True) v3 x3_1) ∧ Aside0 (Below w.heap.size w w'))
   case atStart => exact ⟨(y271), (0), rS, H', ⟨Nat.le_refl _⟩, ⟨by (with_reducible repeat (first | apply Kd.R_alloc | apply Kd.R_drewN | apply Kd.R_drew)); exact Kd.R_mono HO273.out (fun _ hk => trivial)⟩, ⟨bZ HB⟩⟩
   case round =>
    clear H'
    try clear c2
    try clear p2
    try clear c3
    try clear c5
    obtain ⟨x3_1, x4_1, rfl, HA, HK1, HO_3, HB⟩ := hrel
    cases gk with
    | zero => exact absurd HA.out (by simp [spec_CountWitness.l0])
    | succ k1 =>
     have H := HA.out
     clear HA
     simp only [spec_CountWitness.l0] at H
     by_cases c12 : x4_1 < 8
     ·rw [if_pos c12] at H
      have c12b0 := decide_eq_true c12
      clear c12
      obtain ⟨ji13, hji13⟩ : ∃ j_ : Int, (IntKind.u64.wrap (x4_1)) = j_ := ⟨_, rfl⟩
      replace H : (if 0 ≤ (ji13) then (if x3_1.length < 17592186044416 then (spec_CountWitness.l0 k1 a0 (x3_1 ++ [Int.tmod (shr .i64 a0 (ji13)) 2]) (wrap64 (x4_1 + 1))) else (none)) else (none)) = some r := by first | (rw [hji13] at H; exact H) | (simp only [hji13] at H ⊢; exact H)
      by_cases c14 : 0 ≤ (ji13)
      ·rw [if_pos c14] at H
       have c14b0 := eq_true c14
       have c14b1 := decide_eq_true c14
       clear c14
       obtain ⟨ji15, hji15⟩ : ∃ j_ : Int, (shr .i64 a0 (ji13)) = j_ := ⟨_, rfl⟩
       replace H : (if x3_1.length < 17592186044416 then (spec_CountWitness.l0 k1 a0 (x3_1 ++ [Int.tmod (ji15) 2]) (wrap64 (x4_1 + 1))) else (none)) = some r := by first | (rw [hji15] at H; exact H) | (simp only [hji15] at H ⊢; exact H)
       have hji15_ : (a0 / 2 ^ min (ji13).toNat 64) = ji15 := hji15
       have hji15z : (ji13) ≤ 64 → (a0 / 2 ^ (ji13).toNat) = ji15 := shr_small hji15
       by_cases c16 : x3_1.length < 17592186044416
       ·rw [if_pos c16] at H
        have LMc16 := Aside0.mk c16
        clear c16
        obtain ⟨y274, hy274⟩ : ∃ y_ : List Int, y_ = (x3_1 ++ [Int.tmod (ji15) 2]) := ⟨_, rfl⟩
        replace H : (spec_CountWitness.l0 k1 a0 y274 (wrap64 (x4_1 + 1))) = some r := by first | (rw [hy274]; with_reducible exact H) | (have H2_ := (Option.bind_some _ _).symm.trans H; rw [hy274]; with_reducible exact H2_) | (have H2_ := (Option.bind_some _ _).symm.trans H; with_reducible exact H2_) | with_reducible exact H | (rw [hy274]; exact H) | exact H
        have Ny274 := Aside0.mk hy274
        clear hy274
        have H' := Aside0.mk H
        clear H
        go_wp2_with (first | ((with_reducible refine gate_builtin (b := .append) (xs := #[.tmp 20, .tmp 26]) rfl ?_); at_builtin; refine Kd.R_append (Kd.int .i64) (w0 := w) w.heap.size rfl (.tmp 20) (.tmp 26) 31 3 (.int .i64 0) 8 rfl Try.underlying31 info3 rfl (by decide) (by omega) u3 x3_1 (Int.tmod (ji15) 2) [.int .i64 (Int.tmod (ji15) 2)] (fun _ => True) (fun _ => False) rfl rfl ?aP (fun _ hk => hk.elim) ?aF ?aO ?aB ?aS ?aL ?_; (case aP => exact rfl); (case aB => exact (bZ HB)); (case aF => exact (fun _ _ => trivial)); (case aO => exact (rP HO_3)); (case aS => exact (below_size (bZ HB))); (case aL => have := LMc16.out; omega); intro v275 w17 ho hb hg hat; rw [← Ny274.out] at ho; replace HB := Aside0.mk (hb); have HO276 := Aside0.mk (ho); clear HO_3; clear ho hb hg hat))
        go_roundg k1
        case measure => have := HK1.out; omega
        case rel => exact ⟨(y274), (wrap64 (x4_1 + 1)), rS, H', ⟨by have := HK1.out; omega⟩, ⟨rP HO276⟩, ⟨bZ HB⟩⟩
       ·rw [if_neg c16] at H
        exact absurd H (by simp)
      ·rw [if_neg c14] at H
       exact absurd H (by simp)
     ·rw [if_neg c12] at H
      have c12b0 := decide_eq_false c12
      clear c12
      obtain rfl := Option.some.inj H
      go_wp2
      go_ret
      exact ⟨_, by first | rfl | (simp [errW_none, errW_some] <;> rfl) | (simp [*, errW_none, errW_some] <;> rfl), by (with_reducible repeat (first | apply Kd.R_alloc | apply Kd.R_drewN | apply Kd.R_drew)); exact HO_3.out, bZ HB⟩
  ·rw [if_neg c5] at H
   exact absurd H (by simp)
 ·replace c3 := Bool.eq_false_iff.mpr c3
  subst c3
  rw [if_neg (show ¬ (false = true) by decide)] at H
  obtain rfl := Option.some.inj H
  go_enter Try.func35, Try.ntmps35
  go_wp2_with (first | ((with_reducible refine gate_dst (N := 5) rfl ?_); refine Kd.R_lit (Kd.int .i64) _ 3 ?hg (N := 5) ?hd (xs := ([] : List Int)) (inner := []) (ok := fun _ => True) (okp := fun _ => True) ?hr ?hp (fun _ hk => hk) trivial (Below.refl _ _) (Nat.le_refl _) (by simp) ?_; (case hd => rfl); (case hg => rfl); (case hr => first | (go_simp; done) | (go_simp; rfl)); (case hp => exact (Reps.none _ _)); intro v264 w18 ho19 hb hg_ hnew_; clear hg_ hnew_; (first | rw [← Ny263.out] at ho19 | (simp only [Int.reduceToNat] at ho19; rw [← Ny263.out] at ho19)); have HO265 := Aside0.mk (Kd.R_lower ho19 (below_size (bZ HB))); replace HB := bS HB hb; clear hb ho19) | (refine gC (some 7) Try.func54 #[.int .i64 a0, .int .i64 0, .int .i64 255] ?_; (with_reducible refine (spec_l01In.calls a0 0 255 false _ A2.out).mono ?_); rintro e w' ⟨rfl, ⟨nd, rfl⟩⟩; refine ⟨_, rfl, ?_⟩))
  go_ret
  exact ⟨_, by first | rfl | (simp [errW_none, errW_some] <;> rfl) | (simp [*, errW_none, errW_some] <;> rfl), by (with_reducible repeat (first | apply Kd.R_alloc | apply Kd.R_drewN | apply Kd.R_drew)); exact HO265.out, bZ HB⟩
def spec_l13Row.f (a0 : Int) : Option (List Int × List Int × List Int) := if 0 ≤ a0 then (if (a0 : Int).toNat ≤ 35184372088832 then (some ((List.replicate (a0 : Int).toNat 0), (List.replicate (a0 : Int).toNat 0), (List.replicate (a0 : Int).toNat 0))) else (none)) else (none)
def spec_l13Row.T1 : Bool × List (List Nat × List Nat) := (true, [([], []), ([0, 0], [0]), ([], []), ([2, 2], [2]), ([], []), ([4, 4], [4]), ([1, 3, 5], [1, 3, 5]), ([6, 0, 1, 2, 3, 4, 5, 6], [6])])
def spec_l13Row.B1 : List Nat := [0, 1, 0, 4, 0, 16, 63, 127]
theorem spec_l13Row.tab1 : rtab .any (opsOf Try.f66 1) = spec_l13Row.T1 := by kernel_rfl
theorem spec_l13Row.bits1 : waitsOk spec_l13Row.T1.2 spec_l13Row.B1 = true := by kernel_rfl
theorem spec_l13Row.calls (a0 : Int) (r1 : List Int) (r2 : List Int) (r3 : List Int) (w : World) (h : spec_l13Row.f a0 = some (r1, r2, r3)) :
  Calls Try.prog 66 #[.int .i64 a0] w fun e w' => ∃ v0_ v1_ v2_ : Value, e = .returned (.agg #[v0_, v1_, v2_]) ∧ Kd.R (Kd.int .i64) 3 w' w.heap.size (fun k_ => some k_ ≠ (v1_ : Value).ownBlock ∧ some k_ ≠ (v2_ : Value).ownBlock) v0_ r1 ∧ Kd.R (Kd.int .i64) 3 w' w.heap.size (fun k_ => some k_ ≠ (v0_ : Value).ownBlock ∧ some k_ ≠ (v2_ : Value).ownBlock) v1_ r2 ∧ Kd.R (Kd.int .i64) 3 w' w.heap.size (fun k_ => some k_ ≠ (v0_ : Value).ownBlock ∧ some k_ ≠ (v1_ : Value).ownBlock) v2_ r3 ∧ Below w.heap.size w w' := by
 have hu75 := Try.underlying75
 have HB := Aside0.mk (Below.refl w.heap.size w)
 have H : (if 0 ≤ a0 then (if (a0 : Int).toNat ≤ 35184372088832 then (some ((List.replicate (a0 : Int).toNat 0), (List.replicate (a0 : Int).toNat 0), (List.replicate (a0 : Int).toNat 0))) else (none)) else (none)) = some (r1, r2, r3) := h
 clear h
 by_cases c2 : 0 ≤ a0
 ·rw [if_pos c2] at H
  have c2b0 := eq_true c2
  have c2b1 := decide_eq_true c2
  clear c2
  by_cases c3 : (a0 : Int).toNat ≤ 35184372088832
  ·rw [if_pos c3] at H
   have c3b0 := eq_true c3
   have c3b1 := decide_eq_true c3
   clear c3
   obtain ⟨y278, hy278⟩ : ∃ y_ : List Int, y_ = (List.replicate (a0 : Int).toNat 0) := ⟨_, rfl⟩
   replace H : (some (y278, (List.replicate (a0 : Int).toNat 0), (List.replicate (a0 : Int).toNat 0))) = some (r1, r2, r3) := by first | (rw [hy278]; with_reducible exact H) | (have H2_ := (Option.bind_some _ _).symm.trans H; rw [hy278]; with_reducible exact H2_) | (have H2_ := (Option.bind_some _ _).symm.trans H; with_reducible exact H2_) | with_reducible exact H | (rw [hy278]; exact H) | exact H
   have Ny278 := Aside0.mk hy278
   clear hy278
   obtain ⟨y281, hy281⟩ : ∃ y_ : List Int, y_ = (List.replicate (a0 : Int).toNat 0) := ⟨_, rfl⟩
   replace H : (some (y278, y281, (List.replicate (a0 : Int).toNat 0))) = some (r1, r2, r3) := by first | (rw [hy281]; with_reducible exact H) | (have H2_ := (Option.bind_some _ _).symm.trans H; rw [hy281]; with_reducible exact H2_) | (have H2_ := (Option.bind_some _ _).symm.trans H; with_reducible exact H2_) | with_reducible exact H | (rw [hy281]; exact H) | exact H
   have Ny281 := Aside0.mk hy281
   clear hy281
   obtain ⟨y284, hy284⟩ : ∃ y_ : List Int, y_ = (List.replicate (a0 : Int).toNat 0) := ⟨_, rfl⟩
   replace H : (some (y278, y281, y284)) = some (r1, r2, r3) := by first | (rw [hy284]; with_reducible exact H) | (have H2_ := (Option.bind_some _ _).symm.trans H; rw [hy284]; with_reducible exact H2_) | (have H2_ := (Option.bind_some _ _).symm.trans H; with_reducible exact H2_) | with_reducible exact H | (rw [hy284]; exact H) | exact H
   have Ny284 := Aside0.mk hy284
   clear hy284
   simp only [Option.some.injEq, Prod.mk.injEq] at H
   obtain ⟨rfl, rfl, rfl⟩ := H
   go_enter Try.func66, Try.ntmps66
   try go_wp2_with (first | (refine gB 2 #[.slice none 0 0, .slice none 0 0, .slice none 0 0] 75 ?_; intro gb277 hg w4 BK277 hb; have GW277 := bG HB hg; replace HB := bS HB hb; clear hb hg))
   replace BK277 := Aside0.mk (blk_drew BK277.out)
   replace HB := Aside0.mk (below_drew1 HB.out)
   refine start_ (n := 8) (S := fun w' => True) (ds := []) #[false, false, false, false, false, false, false, false] (by kernel_rfl) rfl rfl trivial (fun hHeld => ?_); refine with_tabW spec_l13Row.tab1 spec_l13Row.bits1 (fun HT_ HW_ => ?_)
   generalize w4.drew = w5 at BK277 HB hHeld ⊢
   refine pI 0 (some 3) HT_.out ?_
   refine pI 2 (some 5) HT_.out ?_
   refine pI 4 (some 7) HT_.out ?_
   refine join_ (σ := Value × Value × Value) 2 #[true, true, true, true, true, true, false, false] (fun s_ => [(4, s_.1), (6, s_.2.1), (8, s_.2.2)]) (fun s_ w' => (Kd.R (Kd.int .i64) 3 w' w.heap.size (fun k_ => some k_ ≠ (s_.2.1 : Value).ownBlock ∧ some k_ ≠ (s_.2.2 : Value).ownBlock) s_.1 y278) ∧ (Kd.R (Kd.int .i64) 3 w' w.heap.size (fun k_ => some k_ ≠ (s_.1 : Value).ownBlock ∧ some k_ ≠ (s_.2.2 : Value).ownBlock) s_.2.1 y281) ∧ (Kd.R (Kd.int .i64) 3 w' w.heap.size (fun k_ => some k_ ≠ (s_.1 : Value).ownBlock ∧ some k_ ≠ (s_.2.1 : Value).ownBlock) s_.2.2 y284) ∧ (w'.heap[gb277]? = some (.cells #[.slice none 0 0, .slice none 0 0, .slice none 0 0] 75 (0, 0))) ∧ (Below w.heap.size w w')) ?_ ?_
   rotate_left
   ·intro hJ1_3_5
    refine join_ (σ := Value × Value) 3 #[true, true, true, true, true, false, false, false] (fun s_ => [(4, s_.1), (6, s_.2)]) (fun s_ w' => (Kd.R (Kd.int .i64) 3 w' w.heap.size (fun k_ => some k_ ≠ (s_.2 : Value).ownBlock) s_.1 y278) ∧ (Kd.R (Kd.int .i64) 3 w' w.heap.size (fun k_ => some k_ ≠ (s_.1 : Value).ownBlock) s_.2 y281) ∧ (w'.heap[gb277]? = some (.cells #[.slice none 0 0, .slice none 0 0, .slice none 0 0] 75 (0, 0))) ∧ (Below w.heap.size w w')) ?_ ?_
    rotate_left
    ·intro hJ1_3
     refine join_ (σ := Value × Value) 3 #[true, true, true, false, true, true, false, false] (fun s_ => [(4, s_.1), (8, s_.2)]) (fun s_ w' => (Kd.R (Kd.int .i64) 3 w' w.heap.size (fun k_ => some k_ ≠ (s_.2 : Value).ownBlock) s_.1 y278) ∧ (Kd.R (Kd.int .i64) 3 w' w.heap.size (fun k_ => some k_ ≠ (s_.1 : Value).ownBlock) s_.2 y284) ∧ (w'.heap[gb277]? = some (.cells #[.slice none 0 0, .slice none 0 0, .slice none 0 0] 75 (0, 0))) ∧ (Below w.heap.size w w')) ?_ ?_
     rotate_left
     ·intro hJ1_5
      refine join_ (σ := Value × Value) 3 #[true, false, true, true, true, true, false, false] (fun s_ => [(6, s_.1), (8, s_.2)]) (fun s_ w' => (Kd.R (Kd.int .i64) 3 w' w.heap.size (fun k_ => some k_ ≠ (s_.2 : Value).ownBlock) s_.1 y281) ∧ (Kd.R (Kd.int .i64) 3 w' w.heap.size (fun k_ => some k_ ≠ (s_.1 : Value).ownBlock) s_.2 y284) ∧ (w'.heap[gb277]? = some (.cells #[.slice none 0 0, .slice none 0 0, .slice none 0 0] 75 (0, 0))) ∧ (Below w.heap.size w w')) ?_ ?_
      rotate_left
      ·intro hJ3_5
       refine join_ (σ := Value) 4 #[true, true, true, false, true, false, false, false] (fun s_ => [(4, s_)]) (fun s_ w' => (Kd.R (Kd.int .i64) 3 w' w.heap.size (fun _ => True) s_ y278) ∧ (w'.heap[gb277]? = some (.cells #[.slice none 0 0, .slice none 0 0, .slice none 0 0] 75 (0, 0))) ∧ (Below w.heap.size w w')) ?_ ?_
       rotate_left
       ·intro hJ1
        refine join_ (σ := Value) 4 #[true, false, true, true, true, false, false, false] (fun s_ => [(6, s_)]) (fun s_ w' => (Kd.R (Kd.int .i64) 3 w' w.heap.size (fun _ => True) s_ y281) ∧ (w'.heap[gb277]? = some (.cells #[.slice none 0 0, .slice none 0 0, .slice none 0 0] 75 (0, 0))) ∧ (Below w.heap.size w w')) ?_ ?_
        rotate_left
        ·intro hJ3
         refine join_ (σ := Value) 4 #[true, false, true, false, true, true, false, false] (fun s_ => [(8, s_)]) (fun s_ w' => (Kd.R (Kd.int .i64) 3 w' w.heap.size (fun _ => True) s_ y284) ∧ (w'.heap[gb277]? = some (.cells #[.slice none 0 0, .slice none 0 0, .slice none 0 0] 75 (0, 0))) ∧ (Below w.heap.size w w')) ?_ ?_
         rotate_left
         ·intro hJ5
          refine three_ (i := 1) (j := 3) (k := 5) (Ni := some 4) (Nj := some 6) (Nk := some 8) #[true, true, true, false, true, false, false, false] #[true, false, true, true, true, false, false, false] #[true, false, true, false, true, true, false, false] rfl rfl rfl rfl rfl rfl (three_of HT_.out (by kernel_rfl)) (by decide) (by decide) (by decide) (fun K hK => ?_) (fun K hK => ?_) (fun K hK => ?_)
          ·skip
           refine Kd.R_make_step (Kd.int .i64) _ 3 (by rfl) (N := 4) rfl 31 _ _ rfl a0 rfl rfl Try.underlying31 (.int .i64 0) 8 info3 rfl (by decide) (by omega) 0 (ok := fun _ => True) (okp := fun _ => True) rfl (fun _ hk => hk) trivial (of_decide_eq_true (by first | (with_reducible assumption) | assumption)) (Nat.le_trans (Nat.mul_le_mul_right _ (of_decide_eq_true (by first | (with_reducible assumption) | assumption) : a0.toNat ≤ 35184372088832)) (by omega)) (Below.refl _ _) (Nat.le_refl _) ?_
           intro v279 w6 ho7 hb hg_ hnew_
           clear hg_ hnew_
           (first | rw [← Ny278.out] at ho7 | (simp only [Int.reduceToNat] at ho7; rw [← Ny278.out] at ho7))
           have HO280 := Aside0.mk (Kd.R_lower ho7 (below_size (bZ HB)))
           replace BK277 := bB BK277 hb
           replace HB := bS HB hb
           clear hb ho7
           refine hK.out _ _ trivial (fun hHeld => ?_)
           clear hK K
           refine nO (some 4) ?_
           exact norm_ (by first | (simp only [putAll, Act.put, List.setIfInBounds_toArray, List.set_cons_zero, List.set_cons_succ]; done) | (simp only [putAll, Act.put, List.setIfInBounds_toArray, List.set_cons_zero, List.set_cons_succ]; rfl)) (hJ1 (v279) _ ⟨(rP HO280), (bP BK277), (bZ HB)⟩)
          ·skip
           refine Kd.R_make_step (Kd.int .i64) _ 3 (by rfl) (N := 6) rfl 31 _ _ rfl a0 rfl rfl Try.underlying31 (.int .i64 0) 8 info3 rfl (by decide) (by omega) 0 (ok := fun _ => True) (okp := fun _ => True) rfl (fun _ hk => hk) trivial (of_decide_eq_true (by first | (with_reducible assumption) | assumption)) (Nat.le_trans (Nat.mul_le_mul_right _ (of_decide_eq_true (by first | (with_reducible assumption) | assumption) : a0.toNat ≤ 35184372088832)) (by omega)) (Below.refl _ _) (Nat.le_refl _) ?_
           intro v282 w6 ho7 hb hg_ hnew_
           clear hg_ hnew_
           (first | rw [← Ny281.out] at ho7 | (simp only [Int.reduceToNat] at ho7; rw [← Ny281.out] at ho7))
           have HO283 := Aside0.mk (Kd.R_lower ho7 (below_size (bZ HB)))
           replace BK277 := bB BK277 hb
           replace HB := bS HB hb
           clear hb ho7
           refine hK.out _ _ trivial (fun hHeld => ?_)
           clear hK K
           refine nO (some 6) ?_
           exact norm_ (by first | (simp only [putAll, Act.put, List.setIfInBounds_toArray, List.set_cons_zero, List.set_cons_succ]; done) | (simp only [putAll, Act.put, List.setIfInBounds_toArray, List.set_cons_zero, List.set_cons_succ]; rfl)) (hJ3 (v282) _ ⟨(rP HO283), (bP BK277), (bZ HB)⟩)
          ·skip
           refine Kd.R_make_step (Kd.int .i64) _ 3 (by rfl) (N := 8) rfl 31 _ _ rfl a0 rfl rfl Try.underlying31 (.int .i64 0) 8 info3 rfl (by decide) (by omega) 0 (ok := fun _ => True) (okp := fun _ => True) rfl (fun _ hk => hk) trivial (of_decide_eq_true (by first | (with_reducible assumption) | assumption)) (Nat.le_trans (Nat.mul_le_mul_right _ (of_decide_eq_true (by first | (with_reducible assumption) | assumption) : a0.toNat ≤ 35184372088832)) (by omega)) (Below.refl _ _) (Nat.le_refl _) ?_
           intro v285 w6 ho7 hb hg_ hnew_
           clear hg_ hnew_
           (first | rw [← Ny284.out] at ho7 | (simp only [Int.reduceToNat] at ho7; rw [← Ny284.out] at ho7))
           have HO286 := Aside0.mk (Kd.R_lower ho7 (below_size (bZ HB)))
           replace BK277 := bB BK277 hb
           replace HB := bS HB hb
           clear hb ho7
           refine hK.out _ _ trivial (fun hHeld => ?_)
           clear hK K
           refine nO (some 8) ?_
           exact norm_ (by first | (simp only [putAll, Act.put, List.setIfInBounds_toArray, List.set_cons_zero, List.set_cons_succ]; done) | (simp only [putAll, Act.put, List.setIfInBounds_toArray, List.set_cons_zero, List.set_cons_succ]; rfl)) (hJ5 (v285) _ ⟨(rP HO286), (bP BK277), (bZ HB)⟩)
         ·skip
          rintro v285 w8 ⟨h0_, h1_, h2_⟩
          have HO286 : Aside0 (Kd.R (Kd.int .i64) 3 w8 w.heap.size (fun _ => True) v285 y284) := ⟨h0_⟩
          replace BK277 : Aside0 (w8.heap[gb277]? = some (.cells #[.slice none 0 0, .slice none 0 0, .slice none 0 0] 75 (0, 0))) := ⟨h1_⟩
          replace HB : Aside0 (Below w.heap.size w w8) := ⟨h2_⟩
          clear h0_ h1_ h2_
          have hHeld := trivial
          refine norm_ (a' := ?_) ?_ ?_
          rotate_left
          ·simp only [putAll, Act.put, List.setIfInBounds_toArray, List.set_cons_zero, List.set_cons_succ]
           rfl
          refine two_ (i := 1) (j := 3) (Ni := some 4) (Nj := some 6) #[true, true, true, false, true, true, false, false] #[true, false, true, true, true, true, false, false] rfl rfl rfl rfl (two_of HT_.out (by kernel_rfl)) (by decide) (by decide) (fun K hK => ?_) (fun K hK => ?_)
          ·skip
           refine Kd.R_make_step (Kd.int .i64) _ 3 (by rfl) (N := 4) rfl 31 _ _ rfl a0 rfl rfl Try.underlying31 (.int .i64 0) 8 info3 rfl (by decide) (by omega) 0 (ok := fun _ => True) (okp := fun _ => True) rfl (fun _ hk => hk) trivial (of_decide_eq_true (by first | (with_reducible assumption) | assumption)) (Nat.le_trans (Nat.mul_le_mul_right _ (of_decide_eq_true (by first | (with_reducible assumption) | assumption) : a0.toNat ≤ 35184372088832)) (by omega)) (Below.refl _ _) (Nat.le_refl _) ?_
           intro v279 w9 ho10 hb hg_ hnew_
           clear hg_ hnew_
           (first | rw [← Ny278.out] at ho10 | (simp only [Int.reduceToNat] at ho10; rw [← Ny278.out] at ho10))
           have HO280 := Aside0.mk (Kd.R_lower (Kd.R_new' ho10 (Kd.R_lt (rP HO286))) (below_size (bZ HB)))
           replace HO286 := Aside0.mk (Kd.R_elder' (rP HO286) (Kd.R_base ho10) hb)
           replace BK277 := bB BK277 hb
           replace HB := bS HB hb
           clear hb ho10
           refine hK.out _ _ trivial (fun hHeld => ?_)
           clear hK K
           refine nO (some 4) ?_
           exact norm_ (by first | (simp only [putAll, Act.put, List.setIfInBounds_toArray, List.set_cons_zero, List.set_cons_succ]; done) | (simp only [putAll, Act.put, List.setIfInBounds_toArray, List.set_cons_zero, List.set_cons_succ]; rfl)) (hJ1_5 (v279, v285) _ ⟨(by (with_reducible repeat (first | apply Kd.R_alloc | apply Kd.R_drewN | apply Kd.R_drew)); exact Kd.R_mono HO280.out (fun _ hk => hk.2)), (by (with_reducible repeat (first | apply Kd.R_alloc | apply Kd.R_drewN | apply Kd.R_drew)); exact Kd.R_mono HO286.out (fun _ hk => hk.2)), (bP BK277), (bZ HB)⟩)
          ·skip
           refine Kd.R_make_step (Kd.int .i64) _ 3 (by rfl) (N := 6) rfl 31 _ _ rfl a0 rfl rfl Try.underlying31 (.int .i64 0) 8 info3 rfl (by decide) (by omega) 0 (ok := fun _ => True) (okp := fun _ => True) rfl (fun _ hk => hk) trivial (of_decide_eq_true (by first | (with_reducible assumption) | assumption)) (Nat.le_trans (Nat.mul_le_mul_right _ (of_decide_eq_true (by first | (with_reducible assumption) | assumption) : a0.toNat ≤ 35184372088832)) (by omega)) (Below.refl _ _) (Nat.le_refl _) ?_
           intro v282 w9 ho10 hb hg_ hnew_
           clear hg_ hnew_
           (first | rw [← Ny281.out] at ho10 | (simp only [Int.reduceToNat] at ho10; rw [← Ny281.out] at ho10))
           have HO283 := Aside0.mk (Kd.R_lower (Kd.R_new' ho10 (Kd.R_lt (rP HO286))) (below_size (bZ HB)))
           replace HO286 := Aside0.mk (Kd.R_elder' (rP HO286) (Kd.R_base ho10) hb)
           replace BK277 := bB BK277 hb
           replace HB := bS HB hb
           clear hb ho10
           refine hK.out _ _ trivial (fun hHeld => ?_)
           clear hK K
           refine nO (some 6) ?_
           exact norm_ (by first | (simp only [putAll, Act.put, List.setIfInBounds_toArray, List.set_cons_zero, List.set_cons_succ]; done) | (simp only [putAll, Act.put, List.setIfInBounds_toArray, List.set_cons_zero, List.set_cons_succ]; rfl)) (hJ3_5 (v282, v285) _ ⟨(by (with_reducible repeat (first | apply Kd.R_alloc | apply Kd.R_drewN | apply Kd.R_drew)); exact Kd.R_mono HO283.out (fun _ hk => hk.2)), (by (with_reducible repeat (first | apply Kd.R_alloc | apply Kd.R_drewN | apply Kd.R_drew)); exact Kd.R_mono HO286.out (fun _ hk => hk.2)), (bP BK277), (bZ HB)⟩)
        ·skip
         rintro v282 w8 ⟨h0_, h1_, h2_⟩
         have HO283 : Aside0 (Kd.R (Kd.int .i64) 3 w8 w.heap.size (fun _ => True) v282 y281) := ⟨h0_⟩
         replace BK277 : Aside0 (w8.heap[gb277]? = some (.cells #[.slice none 0 0, .slice none 0 0, .slice none 0 0] 75 (0, 0))) := ⟨h1_⟩
         replace HB : Aside0 (Below w.heap.size w w8) := ⟨h2_⟩
         clear h0_ h1_ h2_
         have hHeld := trivial
         refine norm_ (a' := ?_) ?_ ?_
         rotate_left
         ·simp only [putAll, Act.put, List.setIfInBounds_toArray, List.set_cons_zero, List.set_cons_succ]
          rfl
         refine two_ (i := 1) (j := 5) (Ni := some 4) (Nj := some 8) #[true, true, true, true, true, false, false, false] #[true, false, true, true, true, true, false, false] rfl rfl rfl rfl (two_of HT_.out (by kernel_rfl)) (by decide) (by decide) (fun K hK => ?_) (fun K hK => ?_)
         ·skip
          refine Kd.R_make_step (Kd.int .i64) _ 3 (by rfl) (N := 4) rfl 31 _ _ rfl a0 rfl rfl Try.underlying31 (.int .i64 0) 8 info3 rfl (by decide) (by omega) 0 (ok := fun _ => True) (okp := fun _ => True) rfl (fun _ hk => hk) trivial (of_decide_eq_true (by first | (with_reducible assumption) | assumption)) (Nat.le_trans (Nat.mul_le_mul_right _ (of_decide_eq_true (by first | (with_reducible assumption) | assumption) : a0.toNat ≤ 35184372088832)) (by omega)) (Below.refl _ _) (Nat.le_refl _) ?_
          intro v279 w9 ho10 hb hg_ hnew_
          clear hg_ hnew_
          (first | rw [← Ny278.out] at ho10 | (simp only [Int.reduceToNat] at ho10; rw [← Ny278.out] at ho10))
          have HO280 := Aside0.mk (Kd.R_lower (Kd.R_new' ho10 (Kd.R_lt (rP HO283))) (below_size (bZ HB)))
          replace HO283 := Aside0.mk (Kd.R_elder' (rP HO283) (Kd.R_base ho10) hb)
          replace BK277 := bB BK277 hb
          replace HB := bS HB hb
          clear hb ho10
          refine hK.out _ _ trivial (fun hHeld => ?_)
          clear hK K
          refine nO (some 4) ?_
          exact norm_ (by first | (simp only [putAll, Act.put, List.setIfInBounds_toArray, List.set_cons_zero, List.set_cons_succ]; done) | (simp only [putAll, Act.put, List.setIfInBounds_toArray, List.set_cons_zero, List.set_cons_succ]; rfl)) (hJ1_3 (v279, v282) _ ⟨(by (with_reducible repeat (first | apply Kd.R_alloc | apply Kd.R_drewN | apply Kd.R_drew)); exact Kd.R_mono HO280.out (fun _ hk => hk.2)), (by (with_reducible repeat (first | apply Kd.R_alloc | apply Kd.R_drewN | apply Kd.R_drew)); exact Kd.R_mono HO283.out (fun _ hk => hk.2)), (bP BK277), (bZ HB)⟩)
         ·skip
          refine Kd.R_make_step (Kd.int .i64) _ 3 (by rfl) (N := 8) rfl 31 _ _ rfl a0 rfl rfl Try.underlying31 (.int .i64 0) 8 info3 rfl (by decide) (by omega) 0 (ok := fun _ => True) (okp := fun _ => True) rfl (fun _ hk => hk) trivial (of_decide_eq_true (by first | (with_reducible assumption) | assumption)) (Nat.le_trans (Nat.mul_le_mul_right _ (of_decide_eq_true (by first | (with_reducible assumption) | assumption) : a0.toNat ≤ 35184372088832)) (by omega)) (Below.refl _ _) (Nat.le_refl _) ?_
          intro v285 w9 ho10 hb hg_ hnew_
          clear hg_ hnew_
          (first | rw [← Ny284.out] at ho10 | (simp only [Int.reduceToNat] at ho10; rw [← Ny284.out] at ho10))
          have HO286 := Aside0.mk (Kd.R_lower (Kd.R_new' ho10 (Kd.R_lt (rP HO283))) (below_size (bZ HB)))
          replace HO283 := Aside0.mk (Kd.R_elder' (rP HO283) (Kd.R_base ho10) hb)
          replace BK277 := bB BK277 hb
          replace HB := bS HB hb
          clear hb ho10
          refine hK.out _ _ trivial (fun hHeld => ?_)
          clear hK K
          refine nO (some 8) ?_
          exact norm_ (by first | (simp only [putAll, Act.put, List.setIfInBounds_toArray, List.set_cons_zero, List.set_cons_succ]; done) | (simp only [putAll, Act.put, List.setIfInBounds_toArray, List.set_cons_zero, List.set_cons_succ]; rfl)) (hJ3_5 (v282, v285) _ ⟨(by (with_reducible repeat (first | apply Kd.R_alloc | apply Kd.R_drewN | apply Kd.R_drew)); exact Kd.R_mono HO283.out (fun _ hk => hk.2)), (by (with_reducible repeat (first | apply Kd.R_alloc | apply Kd.R_drewN | apply Kd.R_drew)); exact Kd.R_mono HO286.out (fun _ hk => hk.2)), (bP BK277), (bZ HB)⟩)
       ·skip
        rintro v279 w8 ⟨h0_, h1_, h2_⟩
        have HO280 : Aside0 (Kd.R (Kd.int .i64) 3 w8 w.heap.size (fun _ => True) v279 y278) := ⟨h0_⟩
        replace BK277 : Aside0 (w8.heap[gb277]? = some (.cells #[.slice none 0 0, .slice none 0 0, .slice none 0 0] 75 (0, 0))) := ⟨h1_⟩
        replace HB : Aside0 (Below w.heap.size w w8) := ⟨h2_⟩
        clear h0_ h1_ h2_
        have hHeld := trivial
        refine norm_ (a' := ?_) ?_ ?_
        rotate_left
        ·simp only [putAll, Act.put, List.setIfInBounds_toArray, List.set_cons_zero, List.set_cons_succ]
         rfl
        refine two_ (i := 3) (j := 5) (Ni := some 6) (Nj := some 8) #[true, true, true, true, true, false, false, false] #[true, true, true, false, true, true, false, false] rfl rfl rfl rfl (two_of HT_.out (by kernel_rfl)) (by decide) (by decide) (fun K hK => ?_) (fun K hK => ?_)
        ·skip
         refine Kd.R_make_step (Kd.int .i64) _ 3 (by rfl) (N := 6) rfl 31 _ _ rfl a0 rfl rfl Try.underlying31 (.int .i64 0) 8 info3 rfl (by decide) (by omega) 0 (ok := fun _ => True) (okp := fun _ => True) rfl (fun _ hk => hk) trivial (of_decide_eq_true (by first | (with_reducible assumption) | assumption)) (Nat.le_trans (Nat.mul_le_mul_right _ (of_decide_eq_true (by first | (with_reducible assumption) | assumption) : a0.toNat ≤ 35184372088832)) (by omega)) (Below.refl _ _) (Nat.le_refl _) ?_
         intro v282 w9 ho10 hb hg_ hnew_
         clear hg_ hnew_
         (first | rw [← Ny281.out] at ho10 | (simp only [Int.reduceToNat] at ho10; rw [← Ny281.out] at ho10))
         have HO283 := Aside0.mk (Kd.R_lower (Kd.R_new' ho10 (Kd.R_lt (rP HO280))) (below_size (bZ HB)))
         replace HO280 := Aside0.mk (Kd.R_elder' (rP HO280) (Kd.R_base ho10) hb)
         replace BK277 := bB BK277 hb
         replace HB := bS HB hb
         clear hb ho10
         refine hK.out _ _ trivial (fun hHeld => ?_)
         clear hK K
         refine nO (some 6) ?_
         exact norm_ (by first | (simp only [putAll, Act.put, List.setIfInBounds_toArray, List.set_cons_zero, List.set_cons_succ]; done) | (simp only [putAll, Act.put, List.setIfInBounds_toArray, List.set_cons_zero, List.set_cons_succ]; rfl)) (hJ1_3 (v279, v282) _ ⟨(by (with_reducible repeat (first | apply Kd.R_alloc | apply Kd.R_drewN | apply Kd.R_drew)); exact Kd.R_mono HO280.out (fun _ hk => hk.2)), (by (with_reducible repeat (first | apply Kd.R_alloc | apply Kd.R_drewN | apply Kd.R_drew)); exact Kd.R_mono HO283.out (fun _ hk => hk.2)), (bP BK277), (bZ HB)⟩)
        ·skip
         refine Kd.R_make_step (Kd.int .i64) _ 3 (by rfl) (N := 8) rfl 31 _ _ rfl a0 rfl rfl Try.underlying31 (.int .i64 0) 8 info3 rfl (by decide) (by omega) 0 (ok := fun _ => True) (okp := fun _ => True) rfl (fun _ hk => hk) trivial (of_decide_eq_true (by first | (with_reducible assumption) | assumption)) (Nat.le_trans (Nat.mul_le_mul_right _ (of_decide_eq_true (by first | (with_reducible assumption) | assumption) : a0.toNat ≤ 35184372088832)) (by omega)) (Below.refl _ _) (Nat.le_refl _) ?_
         intro v285 w9 ho10 hb hg_ hnew_
         clear hg_ hnew_
         (first | rw [← Ny284.out] at ho10 | (simp only [Int.reduceToNat] at ho10; rw [← Ny284.out] at ho10))
         have HO286 := Aside0.mk (Kd.R_lower (Kd.R_new' ho10 (Kd.R_lt (rP HO280))) (below_size (bZ HB)))
         replace HO280 := Aside0.mk (Kd.R_elder' (rP HO280) (Kd.R_base ho10) hb)
         replace BK277 := bB BK277 hb
         replace HB := bS HB hb
         clear hb ho10
         refine hK.out _ _ trivial (fun hHeld => ?_)
         clear hK K
         refine nO (some 8) ?_
         exact norm_ (by first | (simp only [putAll, Act.put, List.setIfInBounds_toArray, List.set_cons_zero, List.set_cons_succ]; done) | (simp only [putAll, Act.put, List.setIfInBounds_toArray, List.set_cons_zero, List.set_cons_succ]; rfl)) (hJ1_5 (v279, v285) _ ⟨(by (with_reducible repeat (first | apply Kd.R_alloc | apply Kd.R_drewN | apply Kd.R_drew)); exact Kd.R_mono HO280.out (fun _ hk => hk.2)), (by (with_reducible repeat (first | apply Kd.R_alloc | apply Kd.R_drewN | apply Kd.R_drew)); exact Kd.R_mono HO286.out (fun _ hk => hk.2)), (bP BK277), (bZ HB)⟩)
      ·skip
       rintro ⟨v282, v285⟩ w10 ⟨h0_, h1_, h2_, h3_⟩
       have HO283 : Aside0 (Kd.R (Kd.int .i64) 3 w10 w.heap.size (fun k_ => some k_ ≠ (v285 : Value).ownBlock) v282 y281) := ⟨h0_⟩
       have HO286 : Aside0 (Kd.R (Kd.int .i64) 3 w10 w.heap.size (fun k_ => some k_ ≠ (v282 : Value).ownBlock) v285 y284) := ⟨h1_⟩
       replace BK277 : Aside0 (w10.heap[gb277]? = some (.cells #[.slice none 0 0, .slice none 0 0, .slice none 0 0] 75 (0, 0))) := ⟨h2_⟩
       replace HB : Aside0 (Below w.heap.size w w10) := ⟨h3_⟩
       clear h0_ h1_ h2_ h3_
       have hHeld := trivial
       refine norm_ (a' := ?_) ?_ ?_
       rotate_left
       ·simp only [putAll, Act.put, List.setIfInBounds_toArray, List.set_cons_zero, List.set_cons_succ]
        rfl
       refine oI 1 (some 4) HT_.out (fun K hK => ?_)
       refine Kd.R_make_step (Kd.int .i64) _ 3 (by rfl) (N := 4) rfl 31 _ _ rfl a0 rfl rfl Try.underlying31 (.int .i64 0) 8 info3 rfl (by decide) (by omega) 0 (ok := fun _ => True) (okp := fun _ => True) rfl (fun _ hk => hk) trivial (of_decide_eq_true (by first | (with_reducible assumption) | assumption)) (Nat.le_trans (Nat.mul_le_mul_right _ (of_decide_eq_true (by first | (with_reducible assumption) | assumption) : a0.toNat ≤ 35184372088832)) (by omega)) (Below.refl _ _) (Nat.le_refl _) ?_
       intro v279 w11 ho12 hb hg_ hnew_
       clear hg_ hnew_
       (first | rw [← Ny278.out] at ho12 | (simp only [Int.reduceToNat] at ho12; rw [← Ny278.out] at ho12))
       have HO280 := Aside0.mk (Kd.R_lower (Kd.R_new' (Kd.R_new' ho12 (Kd.R_lt (rP HO283))) (Kd.R_lt (rP HO286))) (below_size (bZ HB)))
       replace HO283 := Aside0.mk (Kd.R_elder' (rP HO283) (Kd.R_base ho12) hb)
       replace HO286 := Aside0.mk (Kd.R_elder' (rP HO286) (Kd.R_base ho12) hb)
       replace BK277 := bB BK277 hb
       replace HB := bS HB hb
       clear hb ho12
       obtain ⟨Ao13, co13, eo13⟩ := Kd.R_slice HO286.out
       (first | subst eo13 | (injection eo13 with f1_ f2_ f3_; have f4_ := f1_.symm; have f5_ := f3_.symm; clear f1_ f2_ f3_; subst f4_; subst f5_))
       obtain ⟨Ao14, co14, eo14⟩ := Kd.R_slice HO283.out
       (first | subst eo14 | (injection eo14 with f1_ f2_ f3_; have f4_ := f1_.symm; have f5_ := f3_.symm; clear f1_ f2_ f3_; subst f4_; subst f5_))
       obtain ⟨Ao15, co15, eo15⟩ := Kd.R_slice HO280.out
       (first | subst eo15 | (injection eo15 with f1_ f2_ f3_; have f4_ := f1_.symm; have f5_ := f3_.symm; clear f1_ f2_ f3_; subst f4_; subst f5_))
       refine hK.out _ _ trivial (fun hHeld => ?_)
       clear hK K
       refine nO (some 4) ?_
       exact norm_ (by first | (simp only [putAll, Act.put, List.setIfInBounds_toArray, List.set_cons_zero, List.set_cons_succ]; done) | (simp only [putAll, Act.put, List.setIfInBounds_toArray, List.set_cons_zero, List.set_cons_succ]; rfl)) (hJ1_3_5 (.slice Ao15 y278.length co15, .slice Ao14 y281.length co14, .slice Ao13 y284.length co13) _ ⟨(by (with_reducible repeat (first | apply Kd.R_alloc | apply Kd.R_drewN | apply Kd.R_drew)); exact Kd.R_mono HO280.out (fun _ hk => ⟨hk.1.2, hk.2⟩)), (by (with_reducible repeat (first | apply Kd.R_alloc | apply Kd.R_drewN | apply Kd.R_drew)); exact Kd.R_mono HO283.out (fun _ hk => ⟨hk.2, hk.1⟩)), (by (with_reducible repeat (first | apply Kd.R_alloc | apply Kd.R_drewN | apply Kd.R_drew)); exact Kd.R_mono HO286.out (fun _ hk => ⟨hk.2, hk.1⟩)), (bP BK277), (bZ HB)⟩)
     ·skip
      rintro ⟨v279, v285⟩ w10 ⟨h0_, h1_, h2_, h3_⟩
      have HO280 : Aside0 (Kd.R (Kd.int .i64) 3 w10 w.heap.size (fun k_ => some k_ ≠ (v285 : Value).ownBlock) v279 y278) := ⟨h0_⟩
      have HO286 : Aside0 (Kd.R (Kd.int .i64) 3 w10 w.heap.size (fun k_ => some k_ ≠ (v279 : Value).ownBlock) v285 y284) := ⟨h1_⟩
      replace BK277 : Aside0 (w10.heap[gb277]? = some (.cells #[.slice none 0 0, .slice none 0 0, .slice none 0 0] 75 (0, 0))) := ⟨h2_⟩
      replace HB : Aside0 (Below w.heap.size w w10) := ⟨h3_⟩
      clear h0_ h1_ h2_ h3_
      have hHeld := trivial
      refine norm_ (a' := ?_) ?_ ?_
      rotate_left
      ·simp only [putAll, Act.put, List.setIfInBounds_toArray, List.set_cons_zero, List.set_cons_succ]
       rfl
      refine oI 3 (some 6) HT_.out (fun K hK => ?_)
      refine Kd.R_make_step (Kd.int .i64) _ 3 (by rfl) (N := 6) rfl 31 _ _ rfl a0 rfl rfl Try.underlying31 (.int .i64 0) 8 info3 rfl (by decide) (by omega) 0 (ok := fun _ => True) (okp := fun _ => True) rfl (fun _ hk => hk) trivial (of_decide_eq_true (by first | (with_reducible assumption) | assumption)) (Nat.le_trans (Nat.mul_le_mul_right _ (of_decide_eq_true (by first | (with_reducible assumption) | assumption) : a0.toNat ≤ 35184372088832)) (by omega)) (Below.refl _ _) (Nat.le_refl _) ?_
      intro v282 w11 ho12 hb hg_ hnew_
      clear hg_ hnew_
      (first | rw [← Ny281.out] at ho12 | (simp only [Int.reduceToNat] at ho12; rw [← Ny281.out] at ho12))
      have HO283 := Aside0.mk (Kd.R_lower (Kd.R_new' (Kd.R_new' ho12 (Kd.R_lt (rP HO280))) (Kd.R_lt (rP HO286))) (below_size (bZ HB)))
      replace HO280 := Aside0.mk (Kd.R_elder' (rP HO280) (Kd.R_base ho12) hb)
      replace HO286 := Aside0.mk (Kd.R_elder' (rP HO286) (Kd.R_base ho12) hb)
      replace BK277 := bB BK277 hb
      replace HB := bS HB hb
      clear hb ho12
      obtain ⟨Ao13, co13, eo13⟩ := Kd.R_slice HO286.out
      (first | subst eo13 | (injection eo13 with f1_ f2_ f3_; have f4_ := f1_.symm; have f5_ := f3_.symm; clear f1_ f2_ f3_; subst f4_; subst f5_))
      obtain ⟨Ao14, co14, eo14⟩ := Kd.R_slice HO283.out
      (first | subst eo14 | (injection eo14 with f1_ f2_ f3_; have f4_ := f1_.symm; have f5_ := f3_.symm; clear f1_ f2_ f3_; subst f4_; subst f5_))
      obtain ⟨Ao15, co15, eo15⟩ := Kd.R_slice HO280.out
      (first | subst eo15 | (injection eo15 with f1_ f2_ f3_; have f4_ := f1_.symm; have f5_ := f3_.symm; clear f1_ f2_ f3_; subst f4_; subst f5_))
      refine hK.out _ _ trivial (fun hHeld => ?_)
      clear hK K
      refine nO (some 6) ?_
      exact norm_ (by first | (simp only [putAll, Act.put, List.setIfInBounds_toArray, List.set_cons_zero, List.set_cons_succ]; done) | (simp only [putAll, Act.put, List.setIfInBounds_toArray, List.set_cons_zero, List.set_cons_succ]; rfl)) (hJ1_3_5 (.slice Ao15 y278.length co15, .slice Ao14 y281.length co14, .slice Ao13 y284.length co13) _ ⟨(by (with_reducible repeat (first | apply Kd.R_alloc | apply Kd.R_drewN | apply Kd.R_drew)); exact Kd.R_mono HO280.out (fun _ hk => ⟨hk.2, hk.1⟩)), (by (with_reducible repeat (first | apply Kd.R_alloc | apply Kd.R_drewN | apply Kd.R_drew)); exact Kd.R_mono HO283.out (fun _ hk => ⟨hk.1.2, hk.2⟩)), (rP HO286), (bP BK277), (bZ HB)⟩)
    ·skip
     rintro ⟨v279, v282⟩ w10 ⟨h0_, h1_, h2_, h3_⟩
     have HO280 : Aside0 (Kd.R (Kd.int .i64) 3 w10 w.heap.size (fun k_ => some k_ ≠ (v282 : Value).ownBlock) v279 y278) := ⟨h0_⟩
     have HO283 : Aside0 (Kd.R (Kd.int .i64) 3 w10 w.heap.size (fun k_ => some k_ ≠ (v279 : Value).ownBlock) v282 y281) := ⟨h1_⟩
     replace BK277 : Aside0 (w10.heap[gb277]? = some (.cells #[.slice none 0 0, .slice none 0 0, .slice none 0 0] 75 (0, 0))) := ⟨h2_⟩
     replace HB : Aside0 (Below w.heap.size w w10) := ⟨h3_⟩
     clear h0_ h1_ h2_ h3_
     have hHeld := trivial
     refine norm_ (a' := ?_) ?_ ?_
     rotate_left
     ·simp only [putAll, Act.put, List.setIfInBounds_toArray, List.set_cons_zero, List.set_cons_succ]
      rfl
     refine oI 5 (some 8) HT_.out (fun K hK => ?_)
     refine Kd.R_make_step (Kd.int .i64) _ 3 (by rfl) (N := 8) rfl 31 _ _ rfl a0 rfl rfl Try.underlying31 (.int .i64 0) 8 info3 rfl (by decide) (by omega) 0 (ok := fun _ => True) (okp := fun _ => True) rfl (fun _ hk => hk) trivial (of_decide_eq_true (by first | (with_reducible assumption) | assumption)) (Nat.le_trans (Nat.mul_le_mul_right _ (of_decide_eq_true (by first | (with_reducible assumption) | assumption) : a0.toNat ≤ 35184372088832)) (by omega)) (Below.refl _ _) (Nat.le_refl _) ?_
     intro v285 w11 ho12 hb hg_ hnew_
     clear hg_ hnew_
     (first | rw [← Ny284.out] at ho12 | (simp only [Int.reduceToNat] at ho12; rw [← Ny284.out] at ho12))
     have HO286 := Aside0.mk (Kd.R_lower (Kd.R_new' (Kd.R_new' ho12 (Kd.R_lt (rP HO280))) (Kd.R_lt (rP HO283))) (below_size (bZ HB)))
     replace HO280 := Aside0.mk (Kd.R_elder' (rP HO280) (Kd.R_base ho12) hb)
     replace HO283 := Aside0.mk (Kd.R_elder' (rP HO283) (Kd.R_base ho12) hb)
     replace BK277 := bB BK277 hb
     replace HB := bS HB hb
     clear hb ho12
     obtain ⟨Ao13, co13, eo13⟩ := Kd.R_slice HO286.out
     (first | subst eo13 | (injection eo13 with f1_ f2_ f3_; have f4_ := f1_.symm; have f5_ := f3_.symm; clear f1_ f2_ f3_; subst f4_; subst f5_))
     obtain ⟨Ao14, co14, eo14⟩ := Kd.R_slice HO283.out
     (first | subst eo14 | (injection eo14 with f1_ f2_ f3_; have f4_ := f1_.symm; have f5_ := f3_.symm; clear f1_ f2_ f3_; subst f4_; subst f5_))
     obtain ⟨Ao15, co15, eo15⟩ := Kd.R_slice HO280.out
     (first | subst eo15 | (injection eo15 with f1_ f2_ f3_; have f4_ := f1_.symm; have f5_ := f3_.symm; clear f1_ f2_ f3_; subst f4_; subst f5_))
     refine hK.out _ _ trivial (fun hHeld => ?_)
     clear hK K
     refine nO (some 8) ?_
     exact norm_ (by first | (simp only [putAll, Act.put, List.setIfInBounds_toArray, List.set_cons_zero, List.set_cons_succ]; done) | (simp only [putAll, Act.put, List.setIfInBounds_toArray, List.set_cons_zero, List.set_cons_succ]; rfl)) (hJ1_3_5 (.slice Ao15 y278.length co15, .slice Ao14 y281.length co14, .slice Ao13 y284.length co13) _ ⟨(rP HO280), (rP HO283), (by (with_reducible repeat (first | apply Kd.R_alloc | apply Kd.R_drewN | apply Kd.R_drew)); exact Kd.R_mono HO286.out (fun _ hk => ⟨hk.1.2, hk.2⟩)), (bP BK277), (bZ HB)⟩)
   rintro ⟨v279, v282, v285⟩ w15 ⟨h0_, h1_, h2_, h3_, h4_⟩
   have HO280 : Aside0 (Kd.R (Kd.int .i64) 3 w15 w.heap.size (fun k_ => some k_ ≠ (v282 : Value).ownBlock ∧ some k_ ≠ (v285 : Value).ownBlock) v279 y278) := ⟨h0_⟩
   have HO283 : Aside0 (Kd.R (Kd.int .i64) 3 w15 w.heap.size (fun k_ => some k_ ≠ (v279 : Value).ownBlock ∧ some k_ ≠ (v285 : Value).ownBlock) v282 y281) := ⟨h1_⟩
   have HO286 : Aside0 (Kd.R (Kd.int .i64) 3 w15 w.heap.size (fun k_ => some k_ ≠ (v279 : Value).ownBlock ∧ some k_ ≠ (v282 : Value).ownBlock) v285 y284) := ⟨h2_⟩
   replace BK277 : Aside0 (w15.heap[gb277]? = some (.cells #[.slice none 0 0, .slice none 0 0, .slice none 0 0] 75 (0, 0))) := ⟨h3_⟩
   replace HB : Aside0 (Below w.heap.size w w15) := ⟨h4_⟩
   clear h0_ h1_ h2_ h3_ h4_
   have hHeld := trivial
   obtain ⟨Ao16, co16, eo16⟩ := Kd.R_slice HO286.out
   (first | subst eo16 | (injection eo16 with f1_ f2_ f3_; have f4_ := f1_.symm; have f5_ := f3_.symm; clear f1_ f2_ f3_; subst f4_; subst f5_))
   obtain ⟨Ao17, co17, eo17⟩ := Kd.R_slice HO283.out
   (first | subst eo17 | (injection eo17 with f1_ f2_ f3_; have f4_ := f1_.symm; have f5_ := f3_.symm; clear f1_ f2_ f3_; subst f4_; subst f5_))
   obtain ⟨Ao18, co18, eo18⟩ := Kd.R_slice HO280.out
   (first | subst eo18 | (injection eo18 with f1_ f2_ f3_; have f4_ := f1_.symm; have f5_ := f3_.symm; clear f1_ f2_ f3_; subst f4_; subst f5_))
   refine norm_ (a' := ?_) ?_ ?_
   rotate_left
   ·simp only [putAll, Act.put, List.setIfInBounds_toArray, List.set_cons_zero, List.set_cons_succ]
    rfl
   refine pI 6 (some 9) HT_.out ?_
   refine oI 7 (none) HT_.out (fun K hK => ?_)
   have hs19 : w15.cell? ⟨gb277, 0, none⟩ = some (.slice none 0 0) := bc BK277 0
   have hfs19 := blk_frozen BK277.out 0
   have hs20 : w15.cell? ⟨gb277, 1, none⟩ = some (.slice none 0 0) := bc BK277 1
   have hfs20 := blk_frozen BK277.out 1
   have hs21 : w15.cell? ⟨gb277, 2, none⟩ = some (.slice none 0 0) := bc BK277 2
   have hfs21 := blk_frozen BK277.out 2
   refine skip_ (w1 := ?_) (by rfl) rfl ?_ ?_
   rotate_left
   ·go_simp
    rfl
   refine hK.out _ _ trivial (fun hHeld => ?_)
   clear hK K
   refine done_ (done_of HT_.out (by kernel_rfl)) ?_
   try go_wp2
   refine rC gb277 75 #[.slice Ao18 y278.length co18, .slice Ao17 y281.length co17, .slice Ao16 y284.length co16] (bU BK277) Try.underlying75 ?_
   exact ⟨_, _, _, by first | rfl | (simp [errW_none, errW_some] <;> rfl) | (simp [*, errW_none, errW_some] <;> rfl), by (with_reducible repeat (first | apply Kd.R_alloc | apply Kd.R_drewN | apply Kd.R_drew)); exact Kd.R_mono (Kd.R_far (p := ⟨gb277, 2, none⟩) (Kd.R_far (p := ⟨gb277, 1, none⟩) (Kd.R_far (p := ⟨gb277, 0, none⟩) (Kd.R_types HO280.out BK277.out (by decide)) (fun _ hk => hk.2) (.slice Ao18 y278.length co18)) (fun _ hk => hk.2) (.slice Ao17 y281.length co17)) (fun _ hk => hk.2) (.slice Ao16 y284.length co16)) (fun _ hk => ⟨hk.1.1, hk.1.2⟩), by (with_reducible repeat (first | apply Kd.R_alloc | apply Kd.R_drewN | apply Kd.R_drew)); exact Kd.R_mono (Kd.R_far (p := ⟨gb277, 2, none⟩) (Kd.R_far (p := ⟨gb277, 1, none⟩) (Kd.R_far (p := ⟨gb277, 0, none⟩) (Kd.R_types HO283.out BK277.out (by decide)) (fun _ hk => hk.2) (.slice Ao18 y278.length co18)) (fun _ hk => hk.2) (.slice Ao17 y281.length co17)) (fun _ hk => hk.2) (.slice Ao16 y284.length co16)) (fun _ hk => ⟨hk.1.1, hk.1.2⟩), by (with_reducible repeat (first | apply Kd.R_alloc | apply Kd.R_drewN | apply Kd.R_drew)); exact Kd.R_mono (Kd.R_far (p := ⟨gb277, 2, none⟩) (Kd.R_far (p := ⟨gb277, 1, none⟩) (Kd.R_far (p := ⟨gb277, 0, none⟩) (Kd.R_types HO286.out BK277.out (by decide)) (fun _ hk => hk.2) (.slice Ao18 y278.length co18)) (fun _ hk => hk.2) (.slice Ao17 y281.length co17)) (fun _ hk => hk.2) (.slice Ao16 y284.length co16)) (fun _ hk => ⟨hk.1.1, hk.1.2⟩), bZ HB⟩
  ·rw [if_neg c3] at H
   exact absurd H (by simp)
 ·rw [if_neg c2] at H
  exact absurd H (by simp)
end Go.Proofs.Ythdpfjkdpeamnaa.Pf
end
