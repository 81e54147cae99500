/- What is proved here: part 2 of 3 of the proof of the given statement FnExactCommitteeOf: the contracts of the Go functions that it reaches, the plain facts on lists and numbers, and (in the last part) the statement itself. No conditions beyond the given ones. -/
import Derived.Test.YtogcobdgnkiopaaMFnExactCommitteeOfwSlim
import Derived.Test.YtogcobdgnkiopaaMFnExactCommitteeOfa

section
namespace Go.Proofs.Ytogcobdgnkiopaa.Pf
open Go.RowKit Go.Proofs.YtogcobdgnkiopaaW.PrintWords Go.Proofs.YtogcobdgnkiopaaW.PrintLast Go.Proofs.YtogcobdgnkiopaaW.PrintMore
attribute [local go_sem] max2_int min2_int max_two min_two max_three min_three max_four min_four   -- for this text's walks alone
set_option linter.unusedVariables false
set_option linter.unusedSimpArgs false
/-! ### impl_SecretsOf: function 32 -/
def impl_SecretsOf.l0 : Nat → Int → List Int → Int → Option (List Int)
 | 0, _, _, _ => none
 | k + 1, x0, x3, x7 => if x7 < 8 then (if x3.length < 17592186044416 then (impl_SecretsOf.l0 k x0 (x3 ++ [wrap64 (1 + (Int.tmod (wrap64 ((wrap64 ((wrap64 (x0 * 31)) + (wrap64 (x7 * 57)))) + 7)) 1007))]) (wrap64 (x7 + 1))) else (none)) else (some x3)
def impl_SecretsOf.f (k : Nat) (a0 : Int) : Option (List Int) := (impl_remainder.f a0 1000).bind fun t325 => (impl_SecretsOf.l0 k t325 ([] : List Int) 0)
theorem impl_SecretsOf.mono_l : ∀ k, (∀ y0 y1 y2, LeO (impl_SecretsOf.l0 k y0 y1 y2) (impl_SecretsOf.l0 (k + 1) y0 y1 y2))
 | 0 => fun _ _ _ r h => by simp [impl_SecretsOf.l0] at h
 | k + 1 => by
  have ih0 := impl_SecretsOf.mono_l k
  ·intro y0 y1 y2
   unfold impl_SecretsOf.l0
   repeat' first
   | (with_reducible exact ih0 _ _ _)
   | (with_reducible exact LeO.refl _)
   | (with_reducible exact LeO.none _)
   | (with_reducible refine LeO.ite ?_ ?_)
   | (with_reducible refine LeO.bind ?_ (fun _ => ?_))
   | exact ih0 _ _ _
   | exact LeO.none _
   | refine LeO.ite ?_ ?_
   | refine LeO.bind ?_ (fun _ => ?_)
theorem impl_SecretsOf.mono : ∀ a0 k, LeO (impl_SecretsOf.f k a0) (impl_SecretsOf.f (k + 1) a0) := by
 intro a0 k
 have ih0 := impl_SecretsOf.mono_l k
 unfold impl_SecretsOf.f
 repeat' first
   | (with_reducible exact ih0 _ _ _)
   | (with_reducible exact LeO.refl _)
   | (with_reducible exact LeO.none _)
   | (with_reducible refine LeO.ite ?_ ?_)
   | (with_reducible refine LeO.bind ?_ (fun _ => ?_))
   | exact ih0 _ _ _
   | exact LeO.none _
   | refine LeO.ite ?_ ?_
   | refine LeO.bind ?_ (fun _ => ?_)
set_option maxHeartbeats 8000000 in
set_option maxRecDepth 100000 in
theorem impl_SecretsOf.calls (k : Nat) (a0 : Int) (r : List Int) (w : World) (h : impl_SecretsOf.f k a0 = some r) :
  Calls Try.prog 32 #[.int .i64 a0] w fun e w' => ∃ v0_ : Value, e = .returned (v0_) ∧ Kd.R (Kd.int .i64) 3 w' w.heap.size (fun _ => True) v0_ r ∧ Below w.heap.size w w' := by
 have HB := Aside0.mk (Below.refl w.heap.size w)
 have H : ((impl_remainder.f a0 1000).bind fun t325 => (impl_SecretsOf.l0 k t325 ([] : List Int) 0)) = some r := h
 clear h
 replace H := Option.bind_eq_some_iff.mp H
 obtain ⟨t325, A20, H⟩ := H
 replace H : (impl_SecretsOf.l0 k t325 ([] : List Int) 0) = some r := H
 have A2 := Aside0.mk A20
 clear A20
 have H' := Aside0.mk H
 clear H
 go_enter Try.func32, Try.ntmps32
 go_wp2_with (first | ((with_reducible refine gate_callee (f := 51) rfl ?_); refine goesL_ (some 6) rfl rfl Try.func51 (by kernel_rfl) rfl #[.int .i64 a0, .int .i64 1000] rfl (by (try simp only [List.map_toArray, List.map_cons, List.map_nil]); first | done | rfl | (simp only [List.length_drop, List.length_take]; rfl)) ?_; (with_reducible refine (impl_remainder.calls a0 1000 t325 _ A2.out).mono ?_); rintro e w' ⟨rfl, ⟨nd, rfl⟩⟩; refine ⟨_, rfl, ?_⟩))
 go_loopg [3, 7] k (fun kq v3 v7 w' => ∃ (x3_1 : List Int) (x7_1 : Int), v7 = .int .i64 x7_1 ∧ Aside0 (impl_SecretsOf.l0 kq t325 x3_1 x7_1 = some r) ∧ Aside0 (kq ≤ k) ∧ Aside0 (Kd.R (Kd.int .i64) 3 w' w.heap.size (fun _ => True) v3 x3_1) ∧ Aside0 (Below w.heap.size w w'))
 case atStart => exact ⟨(([] : List Int)), (0), (by first | rfl | (simp; done) | (simp [*]; done)), H', ⟨Nat.le_refl _⟩, ⟨by first | exact Kd.R_nil _ _ _ _ _ | exact Kd.N_nil _ _ _ _ _ | exact Kd.V_nil _ _ _ _ _ | exact Kd.Q_nil _ _ _ _ _ | exact Kd.S_nil _ _ _ _ _⟩, ⟨bZ HB⟩⟩
 case round =>
  clear H'
  try clear p2
  obtain ⟨x3_1, x7_1, rfl, HA, HK1, HO_3, HB⟩ := hrel
  cases gk with
  | zero => exact absurd HA.out (by simp [impl_SecretsOf.l0])
  | succ k1 =>
   have H := HA.out
   clear HA
   simp only [impl_SecretsOf.l0] at H
   by_cases c3 : x7_1 < 8
   ·rw [if_pos c3] at H
    have c3b0 : decide (x7_1 < 8) = true := decide_eq_true c3
    clear c3
    by_cases c4 : x3_1.length < 17592186044416
    ·rw [if_pos c4] at H
     have LMc4 := Aside0.mk c4
     clear c4
     obtain ⟨y326, hy326⟩ : ∃ y_ : List Int, y_ = (x3_1 ++ [wrap64 (1 + (Int.tmod (wrap64 ((wrap64 ((wrap64 (t325 * 31)) + (wrap64 (x7_1 * 57)))) + 7)) 1007))]) := ⟨_, rfl⟩
     replace H : (impl_SecretsOf.l0 k1 t325 y326 (wrap64 (x7_1 + 1))) = some r := by first | (rw [hy326]; with_reducible exact H) | (have H2_ := (Option.bind_some _ _).symm.trans H; rw [hy326]; with_reducible exact H2_) | (have H2_ := (Option.bind_some _ _).symm.trans H; with_reducible exact H2_) | with_reducible exact H | (rw [hy326]; exact H) | exact H
     have Ny326 := Aside0.mk hy326
     clear hy326
     have H' := Aside0.mk H
     clear H
     go_wp2_with (first | ((with_reducible refine gate_builtin (b := .append) (xs := #[.tmp 10, .tmp 19]) rfl ?_); at_builtin; refine Kd.R_append (Kd.int .i64) (w0 := w) w.heap.size rfl (.tmp 10) (.tmp 19) 50 3 (.int .i64 0) 8 rfl Try.underlying50 info3 rfl (by decide) (by omega) u3 x3_1 (wrap64 (1 + (Int.tmod (wrap64 ((wrap64 ((wrap64 (t325 * 31)) + (wrap64 (x7_1 * 57)))) + 7)) 1007))) [.int .i64 (wrap64 (1 + (Int.tmod (wrap64 ((wrap64 ((wrap64 (t325 * 31)) + (wrap64 (x7_1 * 57)))) + 7)) 1007)))] (fun _ => True) (fun _ => False) rfl rfl ?aP (fun _ hk => hk.elim) ?aF ?aO ?aB ?aS ?aL ?_; (case aP => exact rfl); (case aB => exact (bZ HB)); (case aF => exact (fun _ _ => trivial)); (case aO => exact (by (with_reducible repeat (first | apply Kd.R_alloc | apply Kd.R_drewN | apply Kd.R_drew)); exact HO_3.out)); (case aS => exact (below_size (bZ HB))); (case aL => have := LMc4.out; omega); intro v327 w5 ho hb hg hat; rw [← Ny326.out] at ho; replace HB := Aside0.mk (hb); have HO328 := Aside0.mk (ho); clear HO_3; clear ho hb hg hat))
     go_roundg k1
     case measure => have := HK1.out; omega
     case rel => exact ⟨(y326), (wrap64 (x7_1 + 1)), (by first | rfl | (simp; done) | (simp [*]; done)), H', ⟨by have := HK1.out; omega⟩, ⟨by (with_reducible repeat (first | apply Kd.R_alloc | apply Kd.R_drewN | apply Kd.R_drew)); exact HO328.out⟩, ⟨bZ HB⟩⟩
    ·rw [if_neg c4] at H
     exact absurd H (by simp)
   ·rw [if_neg c3] at H
    have c3b0 : decide (x7_1 < 8) = false := decide_eq_false c3
    clear c3
    obtain rfl := Option.some.inj H
    go_wp2
    go_ret
    exact ⟨_, by first | rfl | (simp [errW_none, errW_some] <;> rfl) | (simp [*, errW_none, errW_some] <;> rfl), by (with_reducible repeat (first | apply Kd.R_alloc | apply Kd.R_drewN | apply Kd.R_drew)); exact HO_3.out, bZ HB⟩
/-! ### impl_FpOf: function 74 -/
def impl_FpOf.f (a0 : Int) : Option (Int) := (impl_remainder.f a0 12107).bind fun t209 => (some t209)
set_option maxHeartbeats 8000000 in
set_option maxRecDepth 100000 in
theorem impl_FpOf.calls (a0 : Int) (r : Int) (w : World) (h : impl_FpOf.f a0 = some r) :
  Calls Try.prog 74 #[.int .i64 a0] w fun e w' => e = .returned (.int .i64 r) ∧ Drawn0 w w' := by
 have H : ((impl_remainder.f a0 12107).bind fun t209 => (some t209)) = some r := h
 clear h
 replace H := Option.bind_eq_some_iff.mp H
 obtain ⟨t209, A20, H⟩ := H
 replace H : (some t209) = some r := H
 have A2 := Aside0.mk A20
 clear A20
 obtain rfl := Option.some.inj H
 go_enter Try.func74, Try.ntmps74
 go_wp2_with (first | ((with_reducible refine gate_callee (f := 51) rfl ?_); refine goesL_ (some 4) rfl rfl Try.func51 (by kernel_rfl) rfl #[.int .i64 a0, .int .i64 12107] rfl (by (try simp only [List.map_toArray, List.map_cons, List.map_nil]); first | done | rfl | (simp only [List.length_drop, List.length_take]; rfl)) ?_; (with_reducible refine (impl_remainder.calls a0 12107 t209 _ A2.out).mono ?_); rintro e w' ⟨rfl, ⟨nd, rfl⟩⟩; refine ⟨_, rfl, ?_⟩))
 go_ret
 exact ⟨by first | rfl | (simp; done) | (simp [*]; done), by repeat (first | exact Drawn0.refl _ | apply Drawn0.step)⟩
/-! ### impl_FpMul: function 68 -/
def impl_FpMul.f (a0 : Int) (a1 : Int) : Option (Int) := (impl_FpOf.f a0).bind fun t210 => ((impl_FpOf.f a1).bind fun t211 => ((impl_FpOf.f (wrap64 (t210 * t211))).bind fun t212 => (some t212)))
set_option maxHeartbeats 8000000 in
set_option maxRecDepth 100000 in
theorem impl_FpMul.calls (a0 : Int) (a1 : Int) (r : Int) (w : World) (h : impl_FpMul.f a0 a1 = some r) :
  Calls Try.prog 68 #[.int .i64 a0, .int .i64 a1] w fun e w' => e = .returned (.int .i64 r) ∧ Drawn0 w w' := by
 have H : ((impl_FpOf.f a0).bind fun t210 => ((impl_FpOf.f a1).bind fun t211 => ((impl_FpOf.f (wrap64 (t210 * t211))).bind fun t212 => (some t212)))) = some r := h
 clear h
 replace H := Option.bind_eq_some_iff.mp H
 obtain ⟨t210, A30, H⟩ := H
 replace H : ((impl_FpOf.f a1).bind fun t211 => ((impl_FpOf.f (wrap64 (t210 * t211))).bind fun t212 => (some t212))) = some r := H
 have A3 := Aside0.mk A30
 clear A30
 replace H := Option.bind_eq_some_iff.mp H
 obtain ⟨t211, A40, H⟩ := H
 replace H : ((impl_FpOf.f (wrap64 (t210 * t211))).bind fun t212 => (some t212)) = some r := H
 have A4 := Aside0.mk A40
 clear A40
 replace H := Option.bind_eq_some_iff.mp H
 obtain ⟨t212, A50, H⟩ := H
 replace H : (some t212) = some r := H
 have A5 := Aside0.mk A50
 clear A50
 obtain rfl := Option.some.inj H
 go_enter Try.func68, Try.ntmps68
 go_wp2_with (first | ((with_reducible refine gate_callee (f := 74) rfl ?_); refine goesL_ (some 6) rfl rfl Try.func74 (by kernel_rfl) rfl #[.int .i64 a0] rfl (by (try simp only [List.map_toArray, List.map_cons, List.map_nil]); first | done | rfl | (simp only [List.length_drop, List.length_take]; rfl)) ?_; (with_reducible refine (impl_FpOf.calls a0 t210 _ A3.out).mono ?_); rintro e w' ⟨rfl, ⟨nd, rfl⟩⟩; refine ⟨_, rfl, ?_⟩) | ((with_reducible refine gate_callee (f := 74) rfl ?_); refine goesL_ (some 8) rfl rfl Try.func74 (by kernel_rfl) rfl #[.int .i64 a1] rfl (by (try simp only [List.map_toArray, List.map_cons, List.map_nil]); first | done | rfl | (simp only [List.length_drop, List.length_take]; rfl)) ?_; (with_reducible refine (impl_FpOf.calls a1 t211 _ A4.out).mono ?_); rintro e w' ⟨rfl, ⟨nd, rfl⟩⟩; refine ⟨_, rfl, ?_⟩) | ((with_reducible refine gate_callee (f := 74) rfl ?_); refine goesL_ (some 10) rfl rfl Try.func74 (by kernel_rfl) rfl #[.int .i64 (wrap64 (t210 * t211))] rfl (by (try simp only [List.map_toArray, List.map_cons, List.map_nil]); first | done | rfl | (simp only [List.length_drop, List.length_take]; rfl)) ?_; (with_reducible refine (impl_FpOf.calls (wrap64 (t210 * t211)) t212 _ A5.out).mono ?_); rintro e w' ⟨rfl, ⟨nd, rfl⟩⟩; refine ⟨_, rfl, ?_⟩))
 go_ret
 exact ⟨by first | rfl | (simp; done) | (simp [*]; done), by repeat (first | exact Drawn0.refl _ | apply Drawn0.step)⟩
/-! ### impl_FpAdd: function 75 -/
def impl_FpAdd.f (a0 : Int) (a1 : Int) : Option (Int) := (impl_FpOf.f a0).bind fun t213 => ((impl_FpOf.f a1).bind fun t214 => ((impl_FpOf.f (wrap64 (t213 + t214))).bind fun t215 => (some t215)))
set_option maxHeartbeats 8000000 in
set_option maxRecDepth 100000 in
theorem impl_FpAdd.calls (a0 : Int) (a1 : Int) (r : Int) (w : World) (h : impl_FpAdd.f a0 a1 = some r) :
  Calls Try.prog 75 #[.int .i64 a0, .int .i64 a1] w fun e w' => e = .returned (.int .i64 r) ∧ Drawn0 w w' := by
 have H : ((impl_FpOf.f a0).bind fun t213 => ((impl_FpOf.f a1).bind fun t214 => ((impl_FpOf.f (wrap64 (t213 + t214))).bind fun t215 => (some t215)))) = some r := h
 clear h
 replace H := Option.bind_eq_some_iff.mp H
 obtain ⟨t213, A30, H⟩ := H
 replace H : ((impl_FpOf.f a1).bind fun t214 => ((impl_FpOf.f (wrap64 (t213 + t214))).bind fun t215 => (some t215))) = some r := H
 have A3 := Aside0.mk A30
 clear A30
 replace H := Option.bind_eq_some_iff.mp H
 obtain ⟨t214, A40, H⟩ := H
 replace H : ((impl_FpOf.f (wrap64 (t213 + t214))).bind fun t215 => (some t215)) = some r := H
 have A4 := Aside0.mk A40
 clear A40
 replace H := Option.bind_eq_some_iff.mp H
 obtain ⟨t215, A50, H⟩ := H
 replace H : (some t215) = some r := H
 have A5 := Aside0.mk A50
 clear A50
 obtain rfl := Option.some.inj H
 go_enter Try.func75, Try.ntmps75
 go_wp2_with (first | ((with_reducible refine gate_callee (f := 74) rfl ?_); refine goesL_ (some 6) rfl rfl Try.func74 (by kernel_rfl) rfl #[.int .i64 a0] rfl (by (try simp only [List.map_toArray, List.map_cons, List.map_nil]); first | done | rfl | (simp only [List.length_drop, List.length_take]; rfl)) ?_; (with_reducible refine (impl_FpOf.calls a0 t213 _ A3.out).mono ?_); rintro e w' ⟨rfl, ⟨nd, rfl⟩⟩; refine ⟨_, rfl, ?_⟩) | ((with_reducible refine gate_callee (f := 74) rfl ?_); refine goesL_ (some 8) rfl rfl Try.func74 (by kernel_rfl) rfl #[.int .i64 a1] rfl (by (try simp only [List.map_toArray, List.map_cons, List.map_nil]); first | done | rfl | (simp only [List.length_drop, List.length_take]; rfl)) ?_; (with_reducible refine (impl_FpOf.calls a1 t214 _ A4.out).mono ?_); rintro e w' ⟨rfl, ⟨nd, rfl⟩⟩; refine ⟨_, rfl, ?_⟩) | ((with_reducible refine gate_callee (f := 74) rfl ?_); refine goesL_ (some 10) rfl rfl Try.func74 (by kernel_rfl) rfl #[.int .i64 (wrap64 (t213 + t214))] rfl (by (try simp only [List.map_toArray, List.map_cons, List.map_nil]); first | done | rfl | (simp only [List.length_drop, List.length_take]; rfl)) ?_; (with_reducible refine (impl_FpOf.calls (wrap64 (t213 + t214)) t215 _ A5.out).mono ?_); rintro e w' ⟨rfl, ⟨nd, rfl⟩⟩; refine ⟨_, rfl, ?_⟩))
 go_ret
 exact ⟨by first | rfl | (simp; done) | (simp [*]; done), by repeat (first | exact Drawn0.refl _ | apply Drawn0.step)⟩
/-! ### impl_curveAt: function 62 -/
def impl_curveAt.f (a0 : Int) : Option (Int) := (impl_FpMul.f a0 a0).bind fun t216 => ((impl_FpMul.f t216 a0).bind fun t217 => ((impl_FpAdd.f t217 a0).bind fun t218 => (some t218)))
set_option maxHeartbeats 8000000 in
set_option maxRecDepth 100000 in
theorem impl_curveAt.calls (a0 : Int) (r : Int) (w : World) (h : impl_curveAt.f a0 = some r) :
  Calls Try.prog 62 #[.int .i64 a0] w fun e w' => e = .returned (.int .i64 r) ∧ Drawn0 w w' := by
 have H : ((impl_FpMul.f a0 a0).bind fun t216 => ((impl_FpMul.f t216 a0).bind fun t217 => ((impl_FpAdd.f t217 a0).bind fun t218 => (some t218)))) = some r := h
 clear h
 replace H := Option.bind_eq_some_iff.mp H
 obtain ⟨t216, A20, H⟩ := H
 replace H : ((impl_FpMul.f t216 a0).bind fun t217 => ((impl_FpAdd.f t217 a0).bind fun t218 => (some t218))) = some r := H
 have A2 := Aside0.mk A20
 clear A20
 replace H := Option.bind_eq_some_iff.mp H
 obtain ⟨t217, A30, H⟩ := H
 replace H : ((impl_FpAdd.f t217 a0).bind fun t218 => (some t218)) = some r := H
 have A3 := Aside0.mk A30
 clear A30
 replace H := Option.bind_eq_some_iff.mp H
 obtain ⟨t218, A40, H⟩ := H
 replace H : (some t218) = some r := H
 have A4 := Aside0.mk A40
 clear A40
 obtain rfl := Option.some.inj H
 go_enter Try.func62, Try.ntmps62
 go_wp2_with (first | ((with_reducible refine gate_callee (f := 68) rfl ?_); refine goesL_ (some 5) rfl rfl Try.func68 (by kernel_rfl) rfl #[.int .i64 a0, .int .i64 a0] rfl (by (try simp only [List.map_toArray, List.map_cons, List.map_nil]); first | done | rfl | (simp only [List.length_drop, List.length_take]; rfl)) ?_; (with_reducible refine (impl_FpMul.calls a0 a0 t216 _ A2.out).mono ?_); rintro e w' ⟨rfl, ⟨nd, rfl⟩⟩; refine ⟨_, rfl, ?_⟩) | ((with_reducible refine gate_callee (f := 68) rfl ?_); refine goesL_ (some 7) rfl rfl Try.func68 (by kernel_rfl) rfl #[.int .i64 t216, .int .i64 a0] rfl (by (try simp only [List.map_toArray, List.map_cons, List.map_nil]); first | done | rfl | (simp only [List.length_drop, List.length_take]; rfl)) ?_; (with_reducible refine (impl_FpMul.calls t216 a0 t217 _ A3.out).mono ?_); rintro e w' ⟨rfl, ⟨nd, rfl⟩⟩; refine ⟨_, rfl, ?_⟩) | ((with_reducible refine gate_callee (f := 75) rfl ?_); refine goesL_ (some 9) rfl rfl Try.func75 (by kernel_rfl) rfl #[.int .i64 t217, .int .i64 a0] rfl (by (try simp only [List.map_toArray, List.map_cons, List.map_nil]); first | done | rfl | (simp only [List.length_drop, List.length_take]; rfl)) ?_; (with_reducible refine (impl_FpAdd.calls t217 a0 t218 _ A4.out).mono ?_); rintro e w' ⟨rfl, ⟨nd, rfl⟩⟩; refine ⟨_, rfl, ?_⟩))
 go_ret
 exact ⟨by first | rfl | (simp; done) | (simp [*]; done), by repeat (first | exact Drawn0.refl _ | apply Drawn0.step)⟩
/-! ### impl_FpOk: function 67 -/
def impl_FpOk.f (a0 : Int) : Option (Bool) := if a0 ≥ 0 then (some (decide (a0 < 12107))) else (some false)
set_option maxHeartbeats 8000000 in
set_option maxRecDepth 100000 in
theorem impl_FpOk.calls (a0 : Int) (r : Bool) (w : World) (h : impl_FpOk.f a0 = some r) :
  Calls Try.prog 67 #[.int .i64 a0] w fun e w' => e = .returned (.bool r) ∧ Drawn0 w w' := by
 have H : (if a0 ≥ 0 then (some (decide (a0 < 12107))) else (some false)) = some r := h
 clear h
 by_cases c2 : a0 ≥ 0
 ·rw [if_pos c2] at H
  have c2b0 : decide (0 ≤ a0) = true := decide_eq_true c2
  clear c2
  obtain rfl := Option.some.inj H
  go_enter Try.func67, Try.ntmps67
  go_wp2
  go_ret
  exact ⟨by first | rfl | (simp; done) | (simp [*]; done), by repeat (first | exact Drawn0.refl _ | apply Drawn0.step)⟩
 ·rw [if_neg c2] at H
  have c2b0 : decide (0 ≤ a0) = false := decide_eq_false c2
  clear c2
  obtain rfl := Option.some.inj H
  go_enter Try.func67, Try.ntmps67
  go_wp2
  go_ret
  exact ⟨by first | rfl | (simp; done) | (simp [*]; done), by repeat (first | exact Drawn0.refl _ | apply Drawn0.step)⟩
/-! ### impl_PointOk: function 47 -/
def impl_PointOk.f (a0_0 : Int) (a0_1 : Int) (a0_2 : Bool) : Option (Bool) := if a0_2 = true then (if a0_0 = 0 then (some (a0_1 == 0)) else (some false)) else ((impl_FpOk.f a0_0).bind fun t220 => (if t220 = true then ((impl_FpOk.f a0_1).bind fun t221 => (if t221 = true then ((impl_FpMul.f a0_1 a0_1).bind fun t222 => ((impl_curveAt.f a0_0).bind fun t223 => (some (t222 == t223)))) else (some false))) else (some false)))
set_option maxHeartbeats 8000000 in
set_option maxRecDepth 100000 in
theorem impl_PointOk.calls (a0_0 : Int) (a0_1 : Int) (a0_2 : Bool) (r : Bool) (w : World) (h : impl_PointOk.f a0_0 a0_1 a0_2 = some r) :
  Calls Try.prog 47 #[.agg #[.int .i64 a0_0, .int .i64 a0_1, .bool a0_2]] w fun e w' => e = .returned (.bool r) ∧ Below w.heap.size w w' := by
 have hu48 := Try.underlying48
 have HB := Aside0.mk (Below.refl w.heap.size w)
 have H : (if a0_2 = true then (if a0_0 = 0 then (some (a0_1 == 0)) else (some false)) else ((impl_FpOk.f a0_0).bind fun t220 => (if t220 = true then ((impl_FpOk.f a0_1).bind fun t221 => (if t221 = true then ((impl_FpMul.f a0_1 a0_1).bind fun t222 => ((impl_curveAt.f a0_0).bind fun t223 => (some (t222 == t223)))) else (some false))) else (some false)))) = some r := h
 clear h
 by_cases c2 : a0_2 = true
 ·subst c2
  have H1 : (if a0_0 = 0 then (some (a0_1 == 0)) else (some false)) = some r := by rw [if_pos rfl] at H; exact H
  clear H
  have H := H1
  clear H1
  by_cases c3 : a0_0 = 0
  ·rw [if_pos c3] at H
   have c3b0 : (a0_0 == 0) = true := beq_iff_eq.mpr c3
   have c3b1 : (a0_0 != 0) = false := bne_eq_false_iff_eq.mpr c3
   clear c3
   obtain rfl := Option.some.inj H
   go_enter Try.func47, Try.ntmps47
   go_wp2_with (first | ((with_reducible refine gate_dst (N := 1) rfl ?_); refine box_event ?hg (N := 1) ?hd (cs := #[.int .i64 a0_0, .int .i64 a0_1, .bool true]) (t := 48) ?hr ?_; (case hd => rfl); (case hg => rfl); (case hr => first | (go_simp; done) | (go_simp; rfl)); intro gb219 hg w4 hbox hb; have BK219 := Aside0.mk (hbox); have GW219 := bG HB hg; have GE219 := bG HB hg; replace HB := bS HB hb; clear hb hbox hg; have hcz5_0 : w4.cell? ⟨gb219, 0, none⟩ = some (.int .i64 a0_0) := bc BK219 0; have hcz5_1 : w4.cell? ⟨gb219, 1, none⟩ = some (.int .i64 a0_1) := bc BK219 1; have hcz5_2 : w4.cell? ⟨gb219, 2, none⟩ = some (.bool true) := bc BK219 2; have hfz5_0 := blk_frozen BK219.out 0; have hfz5_1 := blk_frozen BK219.out 1; have hfz5_2 := blk_frozen BK219.out 2))
   repeat (go_quiet (first | ((with_reducible refine gate_dst (N := 1) rfl ?_); refine box_event ?hg (N := 1) ?hd (cs := #[.int .i64 a0_0, .int .i64 a0_1, .bool true]) (t := 48) ?hr ?_; (case hd => rfl); (case hg => rfl); (case hr => first | (go_simp; done) | (go_simp; rfl)); intro gb219 hg w4 hbox hb; have BK219 := Aside0.mk (hbox); have GW219 := bG HB hg; have GE219 := bG HB hg; replace HB := bS HB hb; clear hb hbox hg; have hcz5_0 : w4.cell? ⟨gb219, 0, none⟩ = some (.int .i64 a0_0) := bc BK219 0; have hcz5_1 : w4.cell? ⟨gb219, 1, none⟩ = some (.int .i64 a0_1) := bc BK219 1; have hcz5_2 : w4.cell? ⟨gb219, 2, none⟩ = some (.bool true) := bc BK219 2; have hfz5_0 := blk_frozen BK219.out 0; have hfz5_1 := blk_frozen BK219.out 1; have hfz5_2 := blk_frozen BK219.out 2)); try go_wp2_with (first | ((with_reducible refine gate_dst (N := 1) rfl ?_); refine box_event ?hg (N := 1) ?hd (cs := #[.int .i64 a0_0, .int .i64 a0_1, .bool true]) (t := 48) ?hr ?_; (case hd => rfl); (case hg => rfl); (case hr => first | (go_simp; done) | (go_simp; rfl)); intro gb219 hg w4 hbox hb; have BK219 := Aside0.mk (hbox); have GW219 := bG HB hg; have GE219 := bG HB hg; replace HB := bS HB hb; clear hb hbox hg; have hcz5_0 : w4.cell? ⟨gb219, 0, none⟩ = some (.int .i64 a0_0) := bc BK219 0; have hcz5_1 : w4.cell? ⟨gb219, 1, none⟩ = some (.int .i64 a0_1) := bc BK219 1; have hcz5_2 : w4.cell? ⟨gb219, 2, none⟩ = some (.bool true) := bc BK219 2; have hfz5_0 := blk_frozen BK219.out 0; have hfz5_1 := blk_frozen BK219.out 1; have hfz5_2 := blk_frozen BK219.out 2)))
   go_ret
   exact ⟨by first | rfl | (simp [errW_none, errW_some] <;> rfl) | (simp [*, errW_none, errW_some] <;> rfl), bZ HB⟩
  ·rw [if_neg c3] at H
   have c3b0 : (a0_0 == 0) = false := beq_eq_false_iff_ne.mpr c3
   have c3b1 : (a0_0 != 0) = true := bne_iff_ne.mpr c3
   obtain rfl := Option.some.inj H
   go_enter Try.func47, Try.ntmps47
   go_wp2_with (first | ((with_reducible refine gate_dst (N := 1) rfl ?_); refine box_event ?hg (N := 1) ?hd (cs := #[.int .i64 a0_0, .int .i64 a0_1, .bool true]) (t := 48) ?hr ?_; (case hd => rfl); (case hg => rfl); (case hr => first | (go_simp; done) | (go_simp; rfl)); intro gb219 hg w6 hbox hb; have BK219 := Aside0.mk (hbox); have GW219 := bG HB hg; have GE219 := bG HB hg; replace HB := bS HB hb; clear hb hbox hg; have hcz7_0 : w6.cell? ⟨gb219, 0, none⟩ = some (.int .i64 a0_0) := bc BK219 0; have hcz7_1 : w6.cell? ⟨gb219, 1, none⟩ = some (.int .i64 a0_1) := bc BK219 1; have hcz7_2 : w6.cell? ⟨gb219, 2, none⟩ = some (.bool true) := bc BK219 2; have hfz7_0 := blk_frozen BK219.out 0; have hfz7_1 := blk_frozen BK219.out 1; have hfz7_2 := blk_frozen BK219.out 2))
   repeat (go_quiet (first | ((with_reducible refine gate_dst (N := 1) rfl ?_); refine box_event ?hg (N := 1) ?hd (cs := #[.int .i64 a0_0, .int .i64 a0_1, .bool true]) (t := 48) ?hr ?_; (case hd => rfl); (case hg => rfl); (case hr => first | (go_simp; done) | (go_simp; rfl)); intro gb219 hg w6 hbox hb; have BK219 := Aside0.mk (hbox); have GW219 := bG HB hg; have GE219 := bG HB hg; replace HB := bS HB hb; clear hb hbox hg; have hcz7_0 : w6.cell? ⟨gb219, 0, none⟩ = some (.int .i64 a0_0) := bc BK219 0; have hcz7_1 : w6.cell? ⟨gb219, 1, none⟩ = some (.int .i64 a0_1) := bc BK219 1; have hcz7_2 : w6.cell? ⟨gb219, 2, none⟩ = some (.bool true) := bc BK219 2; have hfz7_0 := blk_frozen BK219.out 0; have hfz7_1 := blk_frozen BK219.out 1; have hfz7_2 := blk_frozen BK219.out 2)); try go_wp2_with (first | ((with_reducible refine gate_dst (N := 1) rfl ?_); refine box_event ?hg (N := 1) ?hd (cs := #[.int .i64 a0_0, .int .i64 a0_1, .bool true]) (t := 48) ?hr ?_; (case hd => rfl); (case hg => rfl); (case hr => first | (go_simp; done) | (go_simp; rfl)); intro gb219 hg w6 hbox hb; have BK219 := Aside0.mk (hbox); have GW219 := bG HB hg; have GE219 := bG HB hg; replace HB := bS HB hb; clear hb hbox hg; have hcz7_0 : w6.cell? ⟨gb219, 0, none⟩ = some (.int .i64 a0_0) := bc BK219 0; have hcz7_1 : w6.cell? ⟨gb219, 1, none⟩ = some (.int .i64 a0_1) := bc BK219 1; have hcz7_2 : w6.cell? ⟨gb219, 2, none⟩ = some (.bool true) := bc BK219 2; have hfz7_0 := blk_frozen BK219.out 0; have hfz7_1 := blk_frozen BK219.out 1; have hfz7_2 := blk_frozen BK219.out 2)))
   go_ret
   exact ⟨by first | rfl | (simp [errW_none, errW_some] <;> rfl) | (simp [*, errW_none, errW_some] <;> rfl), bZ HB⟩
 ·replace c2 := Bool.eq_false_iff.mpr c2
  subst c2
  have H1 : ((impl_FpOk.f a0_0).bind fun t220 => (if t220 = true then ((impl_FpOk.f a0_1).bind fun t221 => (if t221 = true then ((impl_FpMul.f a0_1 a0_1).bind fun t222 => ((impl_curveAt.f a0_0).bind fun t223 => (some (t222 == t223)))) else (some false))) else (some false))) = some r := by rw [if_neg (show ¬ (false = true) by decide)] at H; exact H
  clear H
  have H := H1
  clear H1
  replace H := Option.bind_eq_some_iff.mp H
  obtain ⟨t220, A80, H⟩ := H
  replace H : (if t220 = true then ((impl_FpOk.f a0_1).bind fun t221 => (if t221 = true then ((impl_FpMul.f a0_1 a0_1).bind fun t222 => ((impl_curveAt.f a0_0).bind fun t223 => (some (t222 == t223)))) else (some false))) else (some false)) = some r := H
  have A8 := Aside0.mk A80
  clear A80
  by_cases c9 : t220 = true
  ·subst c9
   have H1 : ((impl_FpOk.f a0_1).bind fun t221 => (if t221 = true then ((impl_FpMul.f a0_1 a0_1).bind fun t222 => ((impl_curveAt.f a0_0).bind fun t223 => (some (t222 == t223)))) else (some false))) = some r := by rw [if_pos rfl] at H; exact H
   clear H
   have H := H1
   clear H1
   replace H := Option.bind_eq_some_iff.mp H
   obtain ⟨t221, A100, H⟩ := H
   replace H : (if t221 = true then ((impl_FpMul.f a0_1 a0_1).bind fun t222 => ((impl_curveAt.f a0_0).bind fun t223 => (some (t222 == t223)))) else (some false)) = some r := H
   have A10 := Aside0.mk A100
   clear A100
   by_cases c11 : t221 = true
   ·subst c11
    have H1 : ((impl_FpMul.f a0_1 a0_1).bind fun t222 => ((impl_curveAt.f a0_0).bind fun t223 => (some (t222 == t223)))) = some r := by rw [if_pos rfl] at H; exact H
    clear H
    have H := H1
    clear H1
    replace H := Option.bind_eq_some_iff.mp H
    obtain ⟨t222, A120, H⟩ := H
    replace H : ((impl_curveAt.f a0_0).bind fun t223 => (some (t222 == t223))) = some r := H
    have A12 := Aside0.mk A120
    clear A120
    replace H := Option.bind_eq_some_iff.mp H
    obtain ⟨t223, A130, H⟩ := H
    replace H : (some (t222 == t223)) = some r := H
    have A13 := Aside0.mk A130
    clear A130
    obtain rfl := Option.some.inj H
    go_enter Try.func47, Try.ntmps47
    go_wp2_with (first | ((with_reducible refine gate_dst (N := 1) rfl ?_); refine box_event ?hg (N := 1) ?hd (cs := #[.int .i64 a0_0, .int .i64 a0_1, .bool false]) (t := 48) ?hr ?_; (case hd => rfl); (case hg => rfl); (case hr => first | (go_simp; done) | (go_simp; rfl)); intro gb219 hg w14 hbox hb; have BK219 := Aside0.mk (hbox); have GW219 := bG HB hg; have GE219 := bG HB hg; replace HB := bS HB hb; clear hb hbox hg; have hcz15_0 : w14.cell? ⟨gb219, 0, none⟩ = some (.int .i64 a0_0) := bc BK219 0; have hcz15_1 : w14.cell? ⟨gb219, 1, none⟩ = some (.int .i64 a0_1) := bc BK219 1; have hcz15_2 : w14.cell? ⟨gb219, 2, none⟩ = some (.bool false) := bc BK219 2; have hfz15_0 := blk_frozen BK219.out 0; have hfz15_1 := blk_frozen BK219.out 1; have hfz15_2 := blk_frozen BK219.out 2) | (go_at_call 67; (with_reducible refine (impl_FpOk.calls a0_0 true _ A8.out).mono ?_); rintro e w' ⟨rfl, ⟨nd, rfl⟩⟩; (try first | exact ⟨rfl, _, World.drewN_drewN _ _ _⟩ | exact ⟨rfl, _, Eq.trans (World.drewN_drewN _ _ _) (congrArg (World.drewN _) (Nat.add_assoc _ _ _))⟩)) | (go_at_call 67; (with_reducible refine (impl_FpOk.calls a0_1 true _ A10.out).mono ?_); rintro e w' ⟨rfl, ⟨nd, rfl⟩⟩; (try first | exact ⟨rfl, _, World.drewN_drewN _ _ _⟩ | exact ⟨rfl, _, Eq.trans (World.drewN_drewN _ _ _) (congrArg (World.drewN _) (Nat.add_assoc _ _ _))⟩)) | (go_at_call 68; (with_reducible refine (impl_FpMul.calls a0_1 a0_1 t222 _ A12.out).mono ?_); rintro e w' ⟨rfl, ⟨nd, rfl⟩⟩; (try first | exact ⟨rfl, _, World.drewN_drewN _ _ _⟩ | exact ⟨rfl, _, Eq.trans (World.drewN_drewN _ _ _) (congrArg (World.drewN _) (Nat.add_assoc _ _ _))⟩)) | (go_at_call 62; (with_reducible refine (impl_curveAt.calls a0_0 t223 _ A13.out).mono ?_); rintro e w' ⟨rfl, ⟨nd, rfl⟩⟩; (try first | exact ⟨rfl, _, World.drewN_drewN _ _ _⟩ | exact ⟨rfl, _, Eq.trans (World.drewN_drewN _ _ _) (congrArg (World.drewN _) (Nat.add_assoc _ _ _))⟩)))
    repeat (go_quiet (first | ((with_reducible refine gate_dst (N := 1) rfl ?_); refine box_event ?hg (N := 1) ?hd (cs := #[.int .i64 a0_0, .int .i64 a0_1, .bool false]) (t := 48) ?hr ?_; (case hd => rfl); (case hg => rfl); (case hr => first | (go_simp; done) | (go_simp; rfl)); intro gb219 hg w14 hbox hb; have BK219 := Aside0.mk (hbox); have GW219 := bG HB hg; have GE219 := bG HB hg; replace HB := bS HB hb; clear hb hbox hg; have hcz15_0 : w14.cell? ⟨gb219, 0, none⟩ = some (.int .i64 a0_0) := bc BK219 0; have hcz15_1 : w14.cell? ⟨gb219, 1, none⟩ = some (.int .i64 a0_1) := bc BK219 1; have hcz15_2 : w14.cell? ⟨gb219, 2, none⟩ = some (.bool false) := bc BK219 2; have hfz15_0 := blk_frozen BK219.out 0; have hfz15_1 := blk_frozen BK219.out 1; have hfz15_2 := blk_frozen BK219.out 2) | (go_at_call 67; (with_reducible refine (impl_FpOk.calls a0_0 true _ A8.out).mono ?_); rintro e w' ⟨rfl, ⟨nd, rfl⟩⟩; (try first | exact ⟨rfl, _, World.drewN_drewN _ _ _⟩ | exact ⟨rfl, _, Eq.trans (World.drewN_drewN _ _ _) (congrArg (World.drewN _) (Nat.add_assoc _ _ _))⟩)) | (go_at_call 67; (with_reducible refine (impl_FpOk.calls a0_1 true _ A10.out).mono ?_); rintro e w' ⟨rfl, ⟨nd, rfl⟩⟩; (try first | exact ⟨rfl, _, World.drewN_drewN _ _ _⟩ | exact ⟨rfl, _, Eq.trans (World.drewN_drewN _ _ _) (congrArg (World.drewN _) (Nat.add_assoc _ _ _))⟩)) | (go_at_call 68; (with_reducible refine (impl_FpMul.calls a0_1 a0_1 t222 _ A12.out).mono ?_); rintro e w' ⟨rfl, ⟨nd, rfl⟩⟩; (try first | exact ⟨rfl, _, World.drewN_drewN _ _ _⟩ | exact ⟨rfl, _, Eq.trans (World.drewN_drewN _ _ _) (congrArg (World.drewN _) (Nat.add_assoc _ _ _))⟩)) | (go_at_call 62; (with_reducible refine (impl_curveAt.calls a0_0 t223 _ A13.out).mono ?_); rintro e w' ⟨rfl, ⟨nd, rfl⟩⟩; (try first | exact ⟨rfl, _, World.drewN_drewN _ _ _⟩ | exact ⟨rfl, _, Eq.trans (World.drewN_drewN _ _ _) (congrArg (World.drewN _) (Nat.add_assoc _ _ _))⟩))); try go_wp2_with (first | ((with_reducible refine gate_dst (N := 1) rfl ?_); refine box_event ?hg (N := 1) ?hd (cs := #[.int .i64 a0_0, .int .i64 a0_1, .bool false]) (t := 48) ?hr ?_; (case hd => rfl); (case hg => rfl); (case hr => first | (go_simp; done) | (go_simp; rfl)); intro gb219 hg w14 hbox hb; have BK219 := Aside0.mk (hbox); have GW219 := bG HB hg; have GE219 := bG HB hg; replace HB := bS HB hb; clear hb hbox hg; have hcz15_0 : w14.cell? ⟨gb219, 0, none⟩ = some (.int .i64 a0_0) := bc BK219 0; have hcz15_1 : w14.cell? ⟨gb219, 1, none⟩ = some (.int .i64 a0_1) := bc BK219 1; have hcz15_2 : w14.cell? ⟨gb219, 2, none⟩ = some (.bool false) := bc BK219 2; have hfz15_0 := blk_frozen BK219.out 0; have hfz15_1 := blk_frozen BK219.out 1; have hfz15_2 := blk_frozen BK219.out 2) | (go_at_call 67; (with_reducible refine (impl_FpOk.calls a0_0 true _ A8.out).mono ?_); rintro e w' ⟨rfl, ⟨nd, rfl⟩⟩; (try first | exact ⟨rfl, _, World.drewN_drewN _ _ _⟩ | exact ⟨rfl, _, Eq.trans (World.drewN_drewN _ _ _) (congrArg (World.drewN _) (Nat.add_assoc _ _ _))⟩)) | (go_at_call 67; (with_reducible refine (impl_FpOk.calls a0_1 true _ A10.out).mono ?_); rintro e w' ⟨rfl, ⟨nd, rfl⟩⟩; (try first | exact ⟨rfl, _, World.drewN_drewN _ _ _⟩ | exact ⟨rfl, _, Eq.trans (World.drewN_drewN _ _ _) (congrArg (World.drewN _) (Nat.add_assoc _ _ _))⟩)) | (go_at_call 68; (with_reducible refine (impl_FpMul.calls a0_1 a0_1 t222 _ A12.out).mono ?_); rintro e w' ⟨rfl, ⟨nd, rfl⟩⟩; (try first | exact ⟨rfl, _, World.drewN_drewN _ _ _⟩ | exact ⟨rfl, _, Eq.trans (World.drewN_drewN _ _ _) (congrArg (World.drewN _) (Nat.add_assoc _ _ _))⟩)) | (go_at_call 62; (with_reducible refine (impl_curveAt.calls a0_0 t223 _ A13.out).mono ?_); rintro e w' ⟨rfl, ⟨nd, rfl⟩⟩; (try first | exact ⟨rfl, _, World.drewN_drewN _ _ _⟩ | exact ⟨rfl, _, Eq.trans (World.drewN_drewN _ _ _) (congrArg (World.drewN _) (Nat.add_assoc _ _ _))⟩))))
    go_ret
    exact ⟨by first | rfl | (simp [errW_none, errW_some] <;> rfl) | (simp [*, errW_none, errW_some] <;> rfl), bZ HB⟩
   ·replace c11 := Bool.eq_false_iff.mpr c11
    subst c11
    have H1 : (some false) = some r := by rw [if_neg (show ¬ (false = true) by decide)] at H; exact H
    clear H
    have H := H1
    clear H1
    obtain rfl := Option.some.inj H
    go_enter Try.func47, Try.ntmps47
    go_wp2_with (first | ((with_reducible refine gate_dst (N := 1) rfl ?_); refine box_event ?hg (N := 1) ?hd (cs := #[.int .i64 a0_0, .int .i64 a0_1, .bool false]) (t := 48) ?hr ?_; (case hd => rfl); (case hg => rfl); (case hr => first | (go_simp; done) | (go_simp; rfl)); intro gb219 hg w16 hbox hb; have BK219 := Aside0.mk (hbox); have GW219 := bG HB hg; have GE219 := bG HB hg; replace HB := bS HB hb; clear hb hbox hg; have hcz17_0 : w16.cell? ⟨gb219, 0, none⟩ = some (.int .i64 a0_0) := bc BK219 0; have hcz17_1 : w16.cell? ⟨gb219, 1, none⟩ = some (.int .i64 a0_1) := bc BK219 1; have hcz17_2 : w16.cell? ⟨gb219, 2, none⟩ = some (.bool false) := bc BK219 2; have hfz17_0 := blk_frozen BK219.out 0; have hfz17_1 := blk_frozen BK219.out 1; have hfz17_2 := blk_frozen BK219.out 2) | (go_at_call 67; (with_reducible refine (impl_FpOk.calls a0_0 true _ A8.out).mono ?_); rintro e w' ⟨rfl, ⟨nd, rfl⟩⟩; (try first | exact ⟨rfl, _, World.drewN_drewN _ _ _⟩ | exact ⟨rfl, _, Eq.trans (World.drewN_drewN _ _ _) (congrArg (World.drewN _) (Nat.add_assoc _ _ _))⟩)) | (go_at_call 67; (with_reducible refine (impl_FpOk.calls a0_1 false _ A10.out).mono ?_); rintro e w' ⟨rfl, ⟨nd, rfl⟩⟩; (try first | exact ⟨rfl, _, World.drewN_drewN _ _ _⟩ | exact ⟨rfl, _, Eq.trans (World.drewN_drewN _ _ _) (congrArg (World.drewN _) (Nat.add_assoc _ _ _))⟩)))
    repeat (go_quiet (first | ((with_reducible refine gate_dst (N := 1) rfl ?_); refine box_event ?hg (N := 1) ?hd (cs := #[.int .i64 a0_0, .int .i64 a0_1, .bool false]) (t := 48) ?hr ?_; (case hd => rfl); (case hg => rfl); (case hr => first | (go_simp; done) | (go_simp; rfl)); intro gb219 hg w16 hbox hb; have BK219 := Aside0.mk (hbox); have GW219 := bG HB hg; have GE219 := bG HB hg; replace HB := bS HB hb; clear hb hbox hg; have hcz17_0 : w16.cell? ⟨gb219, 0, none⟩ = some (.int .i64 a0_0) := bc BK219 0; have hcz17_1 : w16.cell? ⟨gb219, 1, none⟩ = some (.int .i64 a0_1) := bc BK219 1; have hcz17_2 : w16.cell? ⟨gb219, 2, none⟩ = some (.bool false) := bc BK219 2; have hfz17_0 := blk_frozen BK219.out 0; have hfz17_1 := blk_frozen BK219.out 1; have hfz17_2 := blk_frozen BK219.out 2) | (go_at_call 67; (with_reducible refine (impl_FpOk.calls a0_0 true _ A8.out).mono ?_); rintro e w' ⟨rfl, ⟨nd, rfl⟩⟩; (try first | exact ⟨rfl, _, World.drewN_drewN _ _ _⟩ | exact ⟨rfl, _, Eq.trans (World.drewN_drewN _ _ _) (congrArg (World.drewN _) (Nat.add_assoc _ _ _))⟩)) | (go_at_call 67; (with_reducible refine (impl_FpOk.calls a0_1 false _ A10.out).mono ?_); rintro e w' ⟨rfl, ⟨nd, rfl⟩⟩; (try first | exact ⟨rfl, _, World.drewN_drewN _ _ _⟩ | exact ⟨rfl, _, Eq.trans (World.drewN_drewN _ _ _) (congrArg (World.drewN _) (Nat.add_assoc _ _ _))⟩))); try go_wp2_with (first | ((with_reducible refine gate_dst (N := 1) rfl ?_); refine box_event ?hg (N := 1) ?hd (cs := #[.int .i64 a0_0, .int .i64 a0_1, .bool false]) (t := 48) ?hr ?_; (case hd => rfl); (case hg => rfl); (case hr => first | (go_simp; done) | (go_simp; rfl)); intro gb219 hg w16 hbox hb; have BK219 := Aside0.mk (hbox); have GW219 := bG HB hg; have GE219 := bG HB hg; replace HB := bS HB hb; clear hb hbox hg; have hcz17_0 : w16.cell? ⟨gb219, 0, none⟩ = some (.int .i64 a0_0) := bc BK219 0; have hcz17_1 : w16.cell? ⟨gb219, 1, none⟩ = some (.int .i64 a0_1) := bc BK219 1; have hcz17_2 : w16.cell? ⟨gb219, 2, none⟩ = some (.bool false) := bc BK219 2; have hfz17_0 := blk_frozen BK219.out 0; have hfz17_1 := blk_frozen BK219.out 1; have hfz17_2 := blk_frozen BK219.out 2) | (go_at_call 67; (with_reducible refine (impl_FpOk.calls a0_0 true _ A8.out).mono ?_); rintro e w' ⟨rfl, ⟨nd, rfl⟩⟩; (try first | exact ⟨rfl, _, World.drewN_drewN _ _ _⟩ | exact ⟨rfl, _, Eq.trans (World.drewN_drewN _ _ _) (congrArg (World.drewN _) (Nat.add_assoc _ _ _))⟩)) | (go_at_call 67; (with_reducible refine (impl_FpOk.calls a0_1 false _ A10.out).mono ?_); rintro e w' ⟨rfl, ⟨nd, rfl⟩⟩; (try first | exact ⟨rfl, _, World.drewN_drewN _ _ _⟩ | exact ⟨rfl, _, Eq.trans (World.drewN_drewN _ _ _) (congrArg (World.drewN _) (Nat.add_assoc _ _ _))⟩))))
    go_ret
    exact ⟨by first | rfl | (simp [errW_none, errW_some] <;> rfl) | (simp [*, errW_none, errW_some] <;> rfl), bZ HB⟩
  ·replace c9 := Bool.eq_false_iff.mpr c9
   subst c9
   have H1 : (some false) = some r := by rw [if_neg (show ¬ (false = true) by decide)] at H; exact H
   clear H
   have H := H1
   clear H1
   obtain rfl := Option.some.inj H
   go_enter Try.func47, Try.ntmps47
   go_wp2_with (first | ((with_reducible refine gate_dst (N := 1) rfl ?_); refine box_event ?hg (N := 1) ?hd (cs := #[.int .i64 a0_0, .int .i64 a0_1, .bool false]) (t := 48) ?hr ?_; (case hd => rfl); (case hg => rfl); (case hr => first | (go_simp; done) | (go_simp; rfl)); intro gb219 hg w18 hbox hb; have BK219 := Aside0.mk (hbox); have GW219 := bG HB hg; have GE219 := bG HB hg; replace HB := bS HB hb; clear hb hbox hg; have hcz19_0 : w18.cell? ⟨gb219, 0, none⟩ = some (.int .i64 a0_0) := bc BK219 0; have hcz19_1 : w18.cell? ⟨gb219, 1, none⟩ = some (.int .i64 a0_1) := bc BK219 1; have hcz19_2 : w18.cell? ⟨gb219, 2, none⟩ = some (.bool false) := bc BK219 2; have hfz19_0 := blk_frozen BK219.out 0; have hfz19_1 := blk_frozen BK219.out 1; have hfz19_2 := blk_frozen BK219.out 2) | (go_at_call 67; (with_reducible refine (impl_FpOk.calls a0_0 false _ A8.out).mono ?_); rintro e w' ⟨rfl, ⟨nd, rfl⟩⟩; (try first | exact ⟨rfl, _, World.drewN_drewN _ _ _⟩ | exact ⟨rfl, _, Eq.trans (World.drewN_drewN _ _ _) (congrArg (World.drewN _) (Nat.add_assoc _ _ _))⟩)))
   repeat (go_quiet (first | ((with_reducible refine gate_dst (N := 1) rfl ?_); refine box_event ?hg (N := 1) ?hd (cs := #[.int .i64 a0_0, .int .i64 a0_1, .bool false]) (t := 48) ?hr ?_; (case hd => rfl); (case hg => rfl); (case hr => first | (go_simp; done) | (go_simp; rfl)); intro gb219 hg w18 hbox hb; have BK219 := Aside0.mk (hbox); have GW219 := bG HB hg; have GE219 := bG HB hg; replace HB := bS HB hb; clear hb hbox hg; have hcz19_0 : w18.cell? ⟨gb219, 0, none⟩ = some (.int .i64 a0_0) := bc BK219 0; have hcz19_1 : w18.cell? ⟨gb219, 1, none⟩ = some (.int .i64 a0_1) := bc BK219 1; have hcz19_2 : w18.cell? ⟨gb219, 2, none⟩ = some (.bool false) := bc BK219 2; have hfz19_0 := blk_frozen BK219.out 0; have hfz19_1 := blk_frozen BK219.out 1; have hfz19_2 := blk_frozen BK219.out 2) | (go_at_call 67; (with_reducible refine (impl_FpOk.calls a0_0 false _ A8.out).mono ?_); rintro e w' ⟨rfl, ⟨nd, rfl⟩⟩; (try first | exact ⟨rfl, _, World.drewN_drewN _ _ _⟩ | exact ⟨rfl, _, Eq.trans (World.drewN_drewN _ _ _) (congrArg (World.drewN _) (Nat.add_assoc _ _ _))⟩))); try go_wp2_with (first | ((with_reducible refine gate_dst (N := 1) rfl ?_); refine box_event ?hg (N := 1) ?hd (cs := #[.int .i64 a0_0, .int .i64 a0_1, .bool false]) (t := 48) ?hr ?_; (case hd => rfl); (case hg => rfl); (case hr => first | (go_simp; done) | (go_simp; rfl)); intro gb219 hg w18 hbox hb; have BK219 := Aside0.mk (hbox); have GW219 := bG HB hg; have GE219 := bG HB hg; replace HB := bS HB hb; clear hb hbox hg; have hcz19_0 : w18.cell? ⟨gb219, 0, none⟩ = some (.int .i64 a0_0) := bc BK219 0; have hcz19_1 : w18.cell? ⟨gb219, 1, none⟩ = some (.int .i64 a0_1) := bc BK219 1; have hcz19_2 : w18.cell? ⟨gb219, 2, none⟩ = some (.bool false) := bc BK219 2; have hfz19_0 := blk_frozen BK219.out 0; have hfz19_1 := blk_frozen BK219.out 1; have hfz19_2 := blk_frozen BK219.out 2) | (go_at_call 67; (with_reducible refine (impl_FpOk.calls a0_0 false _ A8.out).mono ?_); rintro e w' ⟨rfl, ⟨nd, rfl⟩⟩; (try first | exact ⟨rfl, _, World.drewN_drewN _ _ _⟩ | exact ⟨rfl, _, Eq.trans (World.drewN_drewN _ _ _) (congrArg (World.drewN _) (Nat.add_assoc _ _ _))⟩))))
   go_ret
   exact ⟨by first | rfl | (simp [errW_none, errW_some] <;> rfl) | (simp [*, errW_none, errW_some] <;> rfl), bZ HB⟩
/-! ### impl_FpSub: function 76 -/
def impl_FpSub.f (a0 : Int) (a1 : Int) : Option (Int) := (impl_FpOf.f a0).bind fun t224 => ((impl_FpOf.f a1).bind fun t225 => ((impl_FpOf.f (wrap64 (t224 - t225))).bind fun t226 => (some t226)))
set_option maxHeartbeats 8000000 in
set_option maxRecDepth 100000 in
theorem impl_FpSub.calls (a0 : Int) (a1 : Int) (r : Int) (w : World) (h : impl_FpSub.f a0 a1 = some r) :
  Calls Try.prog 76 #[.int .i64 a0, .int .i64 a1] w fun e w' => e = .returned (.int .i64 r) ∧ Drawn0 w w' := by
 have H : ((impl_FpOf.f a0).bind fun t224 => ((impl_FpOf.f a1).bind fun t225 => ((impl_FpOf.f (wrap64 (t224 - t225))).bind fun t226 => (some t226)))) = some r := h
 clear h
 replace H := Option.bind_eq_some_iff.mp H
 obtain ⟨t224, A30, H⟩ := H
 replace H : ((impl_FpOf.f a1).bind fun t225 => ((impl_FpOf.f (wrap64 (t224 - t225))).bind fun t226 => (some t226))) = some r := H
 have A3 := Aside0.mk A30
 clear A30
 replace H := Option.bind_eq_some_iff.mp H
 obtain ⟨t225, A40, H⟩ := H
 replace H : ((impl_FpOf.f (wrap64 (t224 - t225))).bind fun t226 => (some t226)) = some r := H
 have A4 := Aside0.mk A40
 clear A40
 replace H := Option.bind_eq_some_iff.mp H
 obtain ⟨t226, A50, H⟩ := H
 replace H : (some t226) = some r := H
 have A5 := Aside0.mk A50
 clear A50
 obtain rfl := Option.some.inj H
 go_enter Try.func76, Try.ntmps76
 go_wp2_with (first | ((with_reducible refine gate_callee (f := 74) rfl ?_); refine goesL_ (some 6) rfl rfl Try.func74 (by kernel_rfl) rfl #[.int .i64 a0] rfl (by (try simp only [List.map_toArray, List.map_cons, List.map_nil]); first | done | rfl | (simp only [List.length_drop, List.length_take]; rfl)) ?_; (with_reducible refine (impl_FpOf.calls a0 t224 _ A3.out).mono ?_); rintro e w' ⟨rfl, ⟨nd, rfl⟩⟩; refine ⟨_, rfl, ?_⟩) | ((with_reducible refine gate_callee (f := 74) rfl ?_); refine goesL_ (some 8) rfl rfl Try.func74 (by kernel_rfl) rfl #[.int .i64 a1] rfl (by (try simp only [List.map_toArray, List.map_cons, List.map_nil]); first | done | rfl | (simp only [List.length_drop, List.length_take]; rfl)) ?_; (with_reducible refine (impl_FpOf.calls a1 t225 _ A4.out).mono ?_); rintro e w' ⟨rfl, ⟨nd, rfl⟩⟩; refine ⟨_, rfl, ?_⟩) | ((with_reducible refine gate_callee (f := 74) rfl ?_); refine goesL_ (some 10) rfl rfl Try.func74 (by kernel_rfl) rfl #[.int .i64 (wrap64 (t224 - t225))] rfl (by (try simp only [List.map_toArray, List.map_cons, List.map_nil]); first | done | rfl | (simp only [List.length_drop, List.length_take]; rfl)) ?_; (with_reducible refine (impl_FpOf.calls (wrap64 (t224 - t225)) t226 _ A5.out).mono ?_); rintro e w' ⟨rfl, ⟨nd, rfl⟩⟩; refine ⟨_, rfl, ?_⟩))
 go_ret
 exact ⟨by first | rfl | (simp; done) | (simp [*]; done), by repeat (first | exact Drawn0.refl _ | apply Drawn0.step)⟩
/-! ### impl_powerMod: function 73 -/
def impl_powerMod.l0 : Nat → Int → Int → Int → Int → Option (Int)
 | 0, _, _, _, _ => none
 | k + 1, x0, x1, x2, x7 => if x1 > 0 then (if (Int.tmod x1 2) = 1 then (if x2 = 0 then (none) else (impl_powerMod.l0 k (Int.tmod (wrap64 (x0 * x0)) x2) (wrap64 (Int.tdiv x1 2)) x2 (Int.tmod (wrap64 (x7 * x0)) x2))) else (if x2 = 0 then (none) else (impl_powerMod.l0 k (Int.tmod (wrap64 (x0 * x0)) x2) (wrap64 (Int.tdiv x1 2)) x2 x7))) else (some x7)
def impl_powerMod.f (k : Nat) (a0 : Int) (a1 : Int) (a2 : Int) : Option (Int) := (impl_remainder.f a0 a2).bind fun t227 => (impl_powerMod.l0 k t227 a1 a2 1)
theorem impl_powerMod.mono_l : ∀ k, (∀ y0 y1 y2 y3, LeO (impl_powerMod.l0 k y0 y1 y2 y3) (impl_powerMod.l0 (k + 1) y0 y1 y2 y3))
 | 0 => fun _ _ _ _ r h => by simp [impl_powerMod.l0] at h
 | k + 1 => by
  have ih0 := impl_powerMod.mono_l k
  ·intro y0 y1 y2 y3
   unfold impl_powerMod.l0
   repeat' first
   | (with_reducible exact ih0 _ _ _ _)
   | (with_reducible exact LeO.refl _)
   | (with_reducible exact LeO.none _)
   | (with_reducible refine LeO.ite ?_ ?_)
   | (with_reducible refine LeO.bind ?_ (fun _ => ?_))
   | exact ih0 _ _ _ _
   | exact LeO.none _
   | refine LeO.ite ?_ ?_
   | refine LeO.bind ?_ (fun _ => ?_)
theorem impl_powerMod.mono : ∀ a0 a1 a2 k, LeO (impl_powerMod.f k a0 a1 a2) (impl_powerMod.f (k + 1) a0 a1 a2) := by
 intro a0 a1 a2 k
 have ih0 := impl_powerMod.mono_l k
 unfold impl_powerMod.f
 repeat' first
   | (with_reducible exact ih0 _ _ _ _)
   | (with_reducible exact LeO.refl _)
   | (with_reducible exact LeO.none _)
   | (with_reducible refine LeO.ite ?_ ?_)
   | (with_reducible refine LeO.bind ?_ (fun _ => ?_))
   | exact ih0 _ _ _ _
   | exact LeO.none _
   | refine LeO.ite ?_ ?_
   | refine LeO.bind ?_ (fun _ => ?_)
set_option maxHeartbeats 8000000 in
set_option maxRecDepth 100000 in
theorem impl_powerMod.calls (k : Nat) (a0 : Int) (a1 : Int) (a2 : Int) (r : Int) (w : World) (h : impl_powerMod.f k a0 a1 a2 = some r) :
  Calls Try.prog 73 #[.int .i64 a0, .int .i64 a1, .int .i64 a2] w fun e w' => e = .returned (.int .i64 r) ∧ Drawn0 w w' := by
 have H : ((impl_remainder.f a0 a2).bind fun t227 => (impl_powerMod.l0 k t227 a1 a2 1)) = some r := h
 clear h
 replace H := Option.bind_eq_some_iff.mp H
 obtain ⟨t227, A40, H⟩ := H
 replace H : (impl_powerMod.l0 k t227 a1 a2 1) = some r := H
 have A4 := Aside0.mk A40
 clear A40
 have H' := Aside0.mk H
 clear H
 go_enter Try.func73, Try.ntmps73
 go_wp2_with (first | ((with_reducible refine gate_callee (f := 51) rfl ?_); refine goesL_ (some 10) rfl rfl Try.func51 (by kernel_rfl) rfl #[.int .i64 a0, .int .i64 a2] rfl (by (try simp only [List.map_toArray, List.map_cons, List.map_nil]); first | done | rfl | (simp only [List.length_drop, List.length_take]; rfl)) ?_; (with_reducible refine (impl_remainder.calls a0 a2 t227 _ A4.out).mono ?_); rintro e w' ⟨rfl, ⟨nd, rfl⟩⟩; refine ⟨_, rfl, ?_⟩))
 go_loopg [0, 1, 7] k (fun kq v0 v1 v7 w' => ∃ (x0_1 : Int) (x1_1 : Int) (x7_1 : Int), v0 = .int .i64 x0_1 ∧ v1 = .int .i64 x1_1 ∧ v7 = .int .i64 x7_1 ∧ Aside0 (impl_powerMod.l0 kq x0_1 x1_1 a2 x7_1 = some r) ∧ Aside0 (kq ≤ k) ∧ Drawn0 w w')
 case atStart => exact ⟨(t227), (a1), (1), (by first | rfl | (simp; done) | (simp [*]; done)), (by first | rfl | (simp; done) | (simp [*]; done)), (by first | rfl | (simp; done) | (simp [*]; done)), H', ⟨Nat.le_refl _⟩, by repeat (first | exact Drawn0.refl _ | apply Drawn0.step)⟩
 case round =>
  clear H'
  try clear p2
  obtain ⟨x0_1, x1_1, x7_1, rfl, rfl, rfl, HA, HK1, ⟨m1, rfl⟩⟩ := hrel
  cases gk with
  | zero => exact absurd HA.out (by simp [impl_powerMod.l0])
  | succ k1 =>
   have H := HA.out
   clear HA
   simp only [impl_powerMod.l0] at H
   by_cases c5 : x1_1 > 0
   ·rw [if_pos c5] at H
    have c5b0 : decide (0 < x1_1) = true := decide_eq_true c5
    clear c5
    by_cases c6 : (Int.tmod x1_1 2) = 1
    ·rw [if_pos c6] at H
     have c6b0 : ((Int.tmod x1_1 2) == 1) = true := beq_iff_eq.mpr c6
     have c6b1 : ((Int.tmod x1_1 2) != 1) = false := bne_eq_false_iff_eq.mpr c6
     clear c6
     by_cases c7 : a2 = 0
     ·rw [if_pos c7] at H
      exact absurd H (by simp)
     ·rw [if_neg c7] at H
      have c7b0 : (a2 == 0) = false := beq_eq_false_iff_ne.mpr c7
      have c7b1 : (a2 != 0) = true := bne_iff_ne.mpr c7
      have H' := Aside0.mk H
      clear H
      go_wp2
      go_roundg k1
      case measure => have := HK1.out; omega
      case rel => exact ⟨(Int.tmod (wrap64 (x0_1 * x0_1)) a2), (wrap64 (Int.tdiv x1_1 2)), (Int.tmod (wrap64 (x7_1 * x0_1)) a2), (by first | rfl | (simp; done) | (simp [*]; done)), (by first | rfl | (simp; done) | (simp [*]; done)), (by first | rfl | (simp; done) | (simp [*]; done)), H', ⟨by have := HK1.out; omega⟩, by repeat (first | exact Drawn0.refl _ | apply Drawn0.step)⟩
    ·rw [if_neg c6] at H
     have c6b0 : ((Int.tmod x1_1 2) == 1) = false := beq_eq_false_iff_ne.mpr c6
     have c6b1 : ((Int.tmod x1_1 2) != 1) = true := bne_iff_ne.mpr c6
     by_cases c8 : a2 = 0
     ·rw [if_pos c8] at H
      exact absurd H (by simp)
     ·rw [if_neg c8] at H
      have c8b0 : (a2 == 0) = false := beq_eq_false_iff_ne.mpr c8
      have c8b1 : (a2 != 0) = true := bne_iff_ne.mpr c8
      have H' := Aside0.mk H
      clear H
      go_wp2
      go_roundg k1
      case measure => have := HK1.out; omega
      case rel => exact ⟨(Int.tmod (wrap64 (x0_1 * x0_1)) a2), (wrap64 (Int.tdiv x1_1 2)), (x7_1), (by first | rfl | (simp; done) | (simp [*]; done)), (by first | rfl | (simp; done) | (simp [*]; done)), (by first | rfl | (simp; done) | (simp [*]; done)), H', ⟨by have := HK1.out; omega⟩, by repeat (first | exact Drawn0.refl _ | apply Drawn0.step)⟩
   ·rw [if_neg c5] at H
    have c5b0 : decide (0 < x1_1) = false := decide_eq_false c5
    clear c5
    obtain rfl := Option.some.inj H
    go_wp2
    go_ret
    exact ⟨by first | rfl | (simp; done) | (simp [*]; done), by repeat (first | exact Drawn0.refl _ | apply Drawn0.step)⟩
/-! ### impl_FpInv: function 80 -/
def impl_FpInv.f (k : Nat) (a0 : Int) : Option (Int) := (impl_powerMod.f k a0 12105 12107).bind fun t228 => (some t228)
theorem impl_FpInv.mono : ∀ a0 k, LeO (impl_FpInv.f k a0) (impl_FpInv.f (k + 1) a0) := by
 intro a0 k
 unfold impl_FpInv.f
 repeat' first
   | (with_reducible exact impl_powerMod.mono _ _ _ _)
   | (with_reducible exact LeO.refl _)
   | (with_reducible exact LeO.none _)
   | (with_reducible refine LeO.ite ?_ ?_)
   | (with_reducible refine LeO.bind ?_ (fun _ => ?_))
   | exact impl_powerMod.mono _ _ _ _
   | exact LeO.none _
   | refine LeO.ite ?_ ?_
   | refine LeO.bind ?_ (fun _ => ?_)
set_option maxHeartbeats 8000000 in
set_option maxRecDepth 100000 in
theorem impl_FpInv.calls (k : Nat) (a0 : Int) (r : Int) (w : World) (h : impl_FpInv.f k a0 = some r) :
  Calls Try.prog 80 #[.int .i64 a0] w fun e w' => e = .returned (.int .i64 r) ∧ Drawn0 w w' := by
 have H : ((impl_powerMod.f k a0 12105 12107).bind fun t228 => (some t228)) = some r := h
 clear h
 replace H := Option.bind_eq_some_iff.mp H
 obtain ⟨t228, A20, H⟩ := H
 replace H : (some t228) = some r := H
 have A2 := Aside0.mk A20
 clear A20
 obtain rfl := Option.some.inj H
 go_enter Try.func80, Try.ntmps80
 go_wp2_with (first | ((with_reducible refine gate_callee (f := 73) rfl ?_); refine goesL_ (some 4) rfl rfl Try.func73 (by kernel_rfl) rfl #[.int .i64 a0, .int .i64 12105, .int .i64 12107] rfl (by (try simp only [List.map_toArray, List.map_cons, List.map_nil]); first | done | rfl | (simp only [List.length_drop, List.length_take]; rfl)) ?_; (with_reducible refine (impl_powerMod.calls k a0 12105 12107 t228 _ A2.out).mono ?_); rintro e w' ⟨rfl, ⟨nd, rfl⟩⟩; refine ⟨_, rfl, ?_⟩))
 go_ret
 exact ⟨by first | rfl | (simp; done) | (simp [*]; done), by repeat (first | exact Drawn0.refl _ | apply Drawn0.step)⟩
/-! ### impl_slopeOf: function 78 -/
def impl_slopeOf.j0 : Nat → Bool → Int → Int → Bool → Option (Int × Bool)
 | 0, _, _, _, _ => none
 | k + 1, x32, x230000, x230001, x230002 => if x32 = true then (some (0, false)) else ((impl_FpMul.f x230000 x230000).bind fun t235 => ((impl_FpMul.f 3 t235).bind fun t236 => ((impl_FpAdd.f t236 1).bind fun t237 => ((impl_FpMul.f 2 x230001).bind fun t238 => ((impl_FpInv.f k t238).bind fun t239 => ((impl_FpMul.f t237 t239).bind fun t240 => (some (t240, true))))))))
def impl_slopeOf.f (k : Nat) (a0_0 : Int) (a0_1 : Int) (a0_2 : Bool) (a1_0 : Int) (a1_1 : Int) (a1_2 : Bool) : Option (Int × Bool) := if a0_0 = a1_0 then (if a0_1 = a1_1 then (impl_slopeOf.j0 k (a0_1 == 0) a0_0 a0_1 a0_2) else (impl_slopeOf.j0 k true a0_0 a0_1 a0_2)) else ((impl_FpSub.f a1_1 a0_1).bind fun t231 => ((impl_FpSub.f a1_0 a0_0).bind fun t232 => ((impl_FpInv.f k t232).bind fun t233 => ((impl_FpMul.f t231 t233).bind fun t234 => (some (t234, true))))))
theorem impl_slopeOf.mono_l : ∀ k, (∀ y0 y1 y2 y3, LeO (impl_slopeOf.j0 k y0 y1 y2 y3) (impl_slopeOf.j0 (k + 1) y0 y1 y2 y3))
 | 0 => fun _ _ _ _ r h => by simp [impl_slopeOf.j0] at h
 | k + 1 => by
  have ih0 := impl_slopeOf.mono_l k
  ·intro y0 y1 y2 y3
   unfold impl_slopeOf.j0
   repeat' first
   | (with_reducible exact ih0 _ _ _ _)
   | (with_reducible exact impl_FpInv.mono _ _)
   | (with_reducible exact LeO.refl _)
   | (with_reducible exact LeO.none _)
   | (with_reducible refine LeO.ite ?_ ?_)
   | (with_reducible refine LeO.bind ?_ (fun _ => ?_))
   | exact ih0 _ _ _ _
   | exact impl_FpInv.mono _ _
   | exact LeO.none _
   | refine LeO.ite ?_ ?_
   | refine LeO.bind ?_ (fun _ => ?_)
theorem impl_slopeOf.mono : ∀ a0 a1 a2 a3 a4 a5 k, LeO (impl_slopeOf.f k a0 a1 a2 a3 a4 a5) (impl_slopeOf.f (k + 1) a0 a1 a2 a3 a4 a5) := by
 intro a0 a1 a2 a3 a4 a5 k
 have ih0 := impl_slopeOf.mono_l k
 unfold impl_slopeOf.f
 repeat' first
   | (with_reducible exact ih0 _ _ _ _)
   | (with_reducible exact impl_FpInv.mono _ _)
   | (with_reducible exact LeO.refl _)
   | (with_reducible exact LeO.none _)
   | (with_reducible refine LeO.ite ?_ ?_)
   | (with_reducible refine LeO.bind ?_ (fun _ => ?_))
   | exact ih0 _ _ _ _
   | exact impl_FpInv.mono _ _
   | exact LeO.none _
   | refine LeO.ite ?_ ?_
   | refine LeO.bind ?_ (fun _ => ?_)
set_option maxHeartbeats 8000000 in
set_option maxRecDepth 100000 in
theorem impl_slopeOf.calls (k : Nat) (a0_0 : Int) (a0_1 : Int) (a0_2 : Bool) (a1_0 : Int) (a1_1 : Int) (a1_2 : Bool) (r1 : Int) (r2 : Bool) (w : World) (h : impl_slopeOf.f k a0_0 a0_1 a0_2 a1_0 a1_1 a1_2 = some (r1, r2)) :
  Calls Try.prog 78 #[.agg #[.int .i64 a0_0, .int .i64 a0_1, .bool a0_2], .agg #[.int .i64 a1_0, .int .i64 a1_1, .bool a1_2]] w fun e w' => e = .returned (.tuple #[.int .i64 r1, .bool r2]) ∧ Below w.heap.size w w' := by
 have hu48 := Try.underlying48
 have HB := Aside0.mk (Below.refl w.heap.size w)
 have H : (if a0_0 = a1_0 then (if a0_1 = a1_1 then (impl_slopeOf.j0 k (a0_1 == 0) a0_0 a0_1 a0_2) else (impl_slopeOf.j0 k true a0_0 a0_1 a0_2)) else ((impl_FpSub.f a1_1 a0_1).bind fun t231 => ((impl_FpSub.f a1_0 a0_0).bind fun t232 => ((impl_FpInv.f k t232).bind fun t233 => ((impl_FpMul.f t231 t233).bind fun t234 => (some (t234, true))))))) = some (r1, r2) := h
 clear h
 by_cases c3 : a0_0 = a1_0
 ·rw [if_pos c3] at H
  have c3b0 : (a0_0 == a1_0) = true := beq_iff_eq.mpr c3
  have c3b1 : (a0_0 != a1_0) = false := bne_eq_false_iff_eq.mpr c3
  clear c3
  have HC4 := Aside0.mk H
  clear H
  go_enter Try.func78, Try.ntmps78
  go_upto_region 3 with (first | ((with_reducible refine gate_dst (N := 2) rfl ?_); refine box_event ?hg (N := 2) ?hd (cs := #[.int .i64 a0_0, .int .i64 a0_1, .bool a0_2]) (t := 48) ?hr ?_; (case hd => rfl); (case hg => rfl); (case hr => first | (go_simp; done) | (go_simp; rfl)); intro gb229 hg w5 hbox hb; have BK229 := Aside0.mk (hbox); have GW229 := bG HB hg; have GE229 := bG HB hg; replace HB := bS HB hb; clear hb hbox hg) | ((with_reducible refine gate_dst (N := 3) rfl ?_); refine box_event ?hg (N := 3) ?hd (cs := #[.int .i64 a1_0, .int .i64 a1_1, .bool a1_2]) (t := 48) ?hr ?_; (case hd => rfl); (case hg => rfl); (case hr => first | (go_simp; done) | (go_simp; rfl)); intro gb230 hg w6 hbox hb; have BK230 := Aside0.mk (hbox); have GW230 := bG HB hg; have GE230 := bG HB hg; replace HB := bS HB hb; have NB229_230 := bL BK229 hg; have NB230_229 := bR BK229 hg; replace BK229 := bB BK229 hb; clear hb hbox hg; have hnb7 := NB229_230.out; have hnc7 := NB230_229.out; have hcz8_0 : w6.cell? ⟨gb229, 0, none⟩ = some (.int .i64 a0_0) := bc BK229 0; have hcz8_1 : w6.cell? ⟨gb229, 1, none⟩ = some (.int .i64 a0_1) := bc BK229 1; have hcz8_2 : w6.cell? ⟨gb229, 2, none⟩ = some (.bool a0_2) := bc BK229 2; have hfz8_0 := blk_frozen BK229.out 0; have hfz8_1 := blk_frozen BK229.out 1; have hfz8_2 := blk_frozen BK229.out 2; have hcz9_0 : w6.cell? ⟨gb230, 0, none⟩ = some (.int .i64 a1_0) := bc BK230 0; have hcz9_1 : w6.cell? ⟨gb230, 1, none⟩ = some (.int .i64 a1_1) := bc BK230 1; have hcz9_2 : w6.cell? ⟨gb230, 2, none⟩ = some (.bool a1_2) := bc BK230 2; have hfz9_0 := blk_frozen BK230.out 0; have hfz9_1 := blk_frozen BK230.out 1; have hfz9_2 := blk_frozen BK230.out 2))
  repeat (go_quiet (first | ((with_reducible refine gate_dst (N := 2) rfl ?_); refine box_event ?hg (N := 2) ?hd (cs := #[.int .i64 a0_0, .int .i64 a0_1, .bool a0_2]) (t := 48) ?hr ?_; (case hd => rfl); (case hg => rfl); (case hr => first | (go_simp; done) | (go_simp; rfl)); intro gb229 hg w5 hbox hb; have BK229 := Aside0.mk (hbox); have GW229 := bG HB hg; have GE229 := bG HB hg; replace HB := bS HB hb; clear hb hbox hg) | ((with_reducible refine gate_dst (N := 3) rfl ?_); refine box_event ?hg (N := 3) ?hd (cs := #[.int .i64 a1_0, .int .i64 a1_1, .bool a1_2]) (t := 48) ?hr ?_; (case hd => rfl); (case hg => rfl); (case hr => first | (go_simp; done) | (go_simp; rfl)); intro gb230 hg w6 hbox hb; have BK230 := Aside0.mk (hbox); have GW230 := bG HB hg; have GE230 := bG HB hg; replace HB := bS HB hb; have NB229_230 := bL BK229 hg; have NB230_229 := bR BK229 hg; replace BK229 := bB BK229 hb; clear hb hbox hg; have hnb7 := NB229_230.out; have hnc7 := NB230_229.out; have hcz8_0 : w6.cell? ⟨gb229, 0, none⟩ = some (.int .i64 a0_0) := bc BK229 0; have hcz8_1 : w6.cell? ⟨gb229, 1, none⟩ = some (.int .i64 a0_1) := bc BK229 1; have hcz8_2 : w6.cell? ⟨gb229, 2, none⟩ = some (.bool a0_2) := bc BK229 2; have hfz8_0 := blk_frozen BK229.out 0; have hfz8_1 := blk_frozen BK229.out 1; have hfz8_2 := blk_frozen BK229.out 2; have hcz9_0 : w6.cell? ⟨gb230, 0, none⟩ = some (.int .i64 a1_0) := bc BK230 0; have hcz9_1 : w6.cell? ⟨gb230, 1, none⟩ = some (.int .i64 a1_1) := bc BK230 1; have hcz9_2 : w6.cell? ⟨gb230, 2, none⟩ = some (.bool a1_2) := bc BK230 2; have hfz9_0 := blk_frozen BK230.out 0; have hfz9_1 := blk_frozen BK230.out 1; have hfz9_2 := blk_frozen BK230.out 2)); go_upto_region 3 with (first | ((with_reducible refine gate_dst (N := 2) rfl ?_); refine box_event ?hg (N := 2) ?hd (cs := #[.int .i64 a0_0, .int .i64 a0_1, .bool a0_2]) (t := 48) ?hr ?_; (case hd => rfl); (case hg => rfl); (case hr => first | (go_simp; done) | (go_simp; rfl)); intro gb229 hg w5 hbox hb; have BK229 := Aside0.mk (hbox); have GW229 := bG HB hg; have GE229 := bG HB hg; replace HB := bS HB hb; clear hb hbox hg) | ((with_reducible refine gate_dst (N := 3) rfl ?_); refine box_event ?hg (N := 3) ?hd (cs := #[.int .i64 a1_0, .int .i64 a1_1, .bool a1_2]) (t := 48) ?hr ?_; (case hd => rfl); (case hg => rfl); (case hr => first | (go_simp; done) | (go_simp; rfl)); intro gb230 hg w6 hbox hb; have BK230 := Aside0.mk (hbox); have GW230 := bG HB hg; have GE230 := bG HB hg; replace HB := bS HB hb; have NB229_230 := bL BK229 hg; have NB230_229 := bR BK229 hg; replace BK229 := bB BK229 hb; clear hb hbox hg; have hnb7 := NB229_230.out; have hnc7 := NB230_229.out; have hcz8_0 : w6.cell? ⟨gb229, 0, none⟩ = some (.int .i64 a0_0) := bc BK229 0; have hcz8_1 : w6.cell? ⟨gb229, 1, none⟩ = some (.int .i64 a0_1) := bc BK229 1; have hcz8_2 : w6.cell? ⟨gb229, 2, none⟩ = some (.bool a0_2) := bc BK229 2; have hfz8_0 := blk_frozen BK229.out 0; have hfz8_1 := blk_frozen BK229.out 1; have hfz8_2 := blk_frozen BK229.out 2; have hcz9_0 : w6.cell? ⟨gb230, 0, none⟩ = some (.int .i64 a1_0) := bc BK230 0; have hcz9_1 : w6.cell? ⟨gb230, 1, none⟩ = some (.int .i64 a1_1) := bc BK230 1; have hcz9_2 : w6.cell? ⟨gb230, 2, none⟩ = some (.bool a1_2) := bc BK230 2; have hfz9_0 := blk_frozen BK230.out 0; have hfz9_1 := blk_frozen BK230.out 1; have hfz9_2 := blk_frozen BK230.out 2)))
  (try simp only [Act.put, List.setIfInBounds_toArray, List.set_cons_zero, List.set_cons_succ])
  go_cut [32] (fun v32 wc => ∃ (kq : Nat) (x32_3 : Bool), v32 = .bool x32_3 ∧ Aside0 (impl_slopeOf.j0 kq x32_3 a0_0 a0_1 a0_2 = some (r1, r2)) ∧ Aside0 (kq ≤ k) ∧ Aside0 (wc.heap[gb229]? = some (.cells #[.int .i64 a0_0, .int .i64 a0_1, .bool a0_2] 48 (0, 0))) ∧ Aside0 (wc.heap[gb230]? = some (.cells #[.int .i64 a1_0, .int .i64 a1_1, .bool a1_2] 48 (0, 0))) ∧ Aside0 (Below w.heap.size w wc))
  case first =>
   have H := HC4.out
   clear HC4
   by_cases c10 : a0_1 = a1_1
   ·rw [if_pos c10] at H
    have c10b0 : (a0_1 == a1_1) = true := beq_iff_eq.mpr c10
    have c10b1 : (a0_1 != a1_1) = false := bne_eq_false_iff_eq.mpr c10
    clear c10
    (first | rw [c10b0] | (simp only [i64_w, i32_w]; rw [c10b0]) | rw [c10b1] | skip)
    have H' := Aside0.mk H
    clear H
    have hnb11 := NB229_230.out
    have hnc11 := NB230_229.out
    have hcz12_0 : w6.cell? ⟨gb229, 0, none⟩ = some (.int .i64 a0_0) := bc BK229 0
    have hcz12_1 : w6.cell? ⟨gb229, 1, none⟩ = some (.int .i64 a0_1) := bc BK229 1
    have hcz12_2 : w6.cell? ⟨gb229, 2, none⟩ = some (.bool a0_2) := bc BK229 2
    have hfz12_0 := blk_frozen BK229.out 0
    have hfz12_1 := blk_frozen BK229.out 1
    have hfz12_2 := blk_frozen BK229.out 2
    have hcz13_0 : w6.cell? ⟨gb230, 0, none⟩ = some (.int .i64 a1_0) := bc BK230 0
    have hcz13_1 : w6.cell? ⟨gb230, 1, none⟩ = some (.int .i64 a1_1) := bc BK230 1
    have hcz13_2 : w6.cell? ⟨gb230, 2, none⟩ = some (.bool a1_2) := bc BK230 2
    have hfz13_0 := blk_frozen BK230.out 0
    have hfz13_1 := blk_frozen BK230.out 1
    have hfz13_2 := blk_frozen BK230.out 2
    go_wp2
    repeat (go_quiet (fail); try go_wp2)
    go_meet
    case rel => exact ⟨_, ((a0_1 == 0)), (by first | rfl | (simp; done) | (simp [*]; done)), H', ⟨by first | omega | exact Nat.le_refl _⟩, ⟨bP BK229⟩, ⟨bP BK230⟩, ⟨bZ HB⟩⟩
   ·rw [if_neg c10] at H
    have c10b0 : (a0_1 == a1_1) = false := beq_eq_false_iff_ne.mpr c10
    have c10b1 : (a0_1 != a1_1) = true := bne_iff_ne.mpr c10
    (first | rw [c10b0] | (simp only [i64_w, i32_w]; rw [c10b0]) | rw [c10b1] | skip)
    have H' := Aside0.mk H
    clear H
    have hnb14 := NB229_230.out
    have hnc14 := NB230_229.out
    have hcz15_0 : w6.cell? ⟨gb229, 0, none⟩ = some (.int .i64 a0_0) := bc BK229 0
    have hcz15_1 : w6.cell? ⟨gb229, 1, none⟩ = some (.int .i64 a0_1) := bc BK229 1
    have hcz15_2 : w6.cell? ⟨gb229, 2, none⟩ = some (.bool a0_2) := bc BK229 2
    have hfz15_0 := blk_frozen BK229.out 0
    have hfz15_1 := blk_frozen BK229.out 1
    have hfz15_2 := blk_frozen BK229.out 2
    have hcz16_0 : w6.cell? ⟨gb230, 0, none⟩ = some (.int .i64 a1_0) := bc BK230 0
    have hcz16_1 : w6.cell? ⟨gb230, 1, none⟩ = some (.int .i64 a1_1) := bc BK230 1
    have hcz16_2 : w6.cell? ⟨gb230, 2, none⟩ = some (.bool a1_2) := bc BK230 2
    have hfz16_0 := blk_frozen BK230.out 0
    have hfz16_1 := blk_frozen BK230.out 1
    have hfz16_2 := blk_frozen BK230.out 2
    go_wp2
    repeat (go_quiet (fail); try go_wp2)
    go_meet
    case rel => exact ⟨_, (true), (by first | rfl | (simp; done) | (simp [*]; done)), H', ⟨by first | omega | exact Nat.le_refl _⟩, ⟨bP BK229⟩, ⟨bP BK230⟩, ⟨bZ HB⟩⟩
  case rest =>
   clear HC4
   try clear c1
   try clear p2
   try clear c3
   try clear c3b0
   try clear c3b1
   try clear c7
   try clear c10
   try clear c10b0
   try clear c10b1
   try clear c11
   try clear c14
   try clear hcz12_0
   try clear hcz12_1
   try clear hcz12_2
   try clear hcz13_0
   try clear hcz13_1
   try clear hcz13_2
   try clear hcz15_0
   try clear hcz15_1
   try clear hcz15_2
   try clear hcz16_0
   try clear hcz16_1
   try clear hcz16_2
   try clear hcz8_0
   try clear hcz8_1
   try clear hcz8_2
   try clear hcz9_0
   try clear hcz9_1
   try clear hcz9_2
   try clear hfz12_0
   try clear hfz12_1
   try clear hfz12_2
   try clear hfz13_0
   try clear hfz13_1
   try clear hfz13_2
   try clear hfz15_0
   try clear hfz15_1
   try clear hfz15_2
   try clear hfz16_0
   try clear hfz16_1
   try clear hfz16_2
   try clear hfz8_0
   try clear hfz8_1
   try clear hfz8_2
   try clear hfz9_0
   try clear hfz9_1
   try clear hfz9_2
   obtain ⟨kq, x32_3, rfl, HA, HJ3, BK229, BK230, HB⟩ := hcut
   cases kq with
   | zero => exact absurd HA.out (by simp [impl_slopeOf.j0])
   | succ kj3 =>
    have H := HA.out
    clear HA
    simp only [impl_slopeOf.j0] at H
    by_cases c17 : x32_3 = true
    ·subst c17
     have H1 : (some (0, false)) = some (r1, r2) := by rw [if_pos rfl] at H; exact H
     clear H
     have H := H1
     clear H1
     simp only [Option.some.injEq, Prod.mk.injEq] at H
     obtain ⟨rfl, rfl⟩ := H
     go_wp2
     repeat (go_quiet (fail); try go_wp2)
     go_ret2
     exact ⟨by first | rfl | (simp [errW_none, errW_some] <;> rfl) | (simp [*, errW_none, errW_some] <;> rfl), bZ HB⟩
    ·replace c17 := Bool.eq_false_iff.mpr c17
     subst c17
     have H1 : ((impl_FpMul.f a0_0 a0_0).bind fun t235 => ((impl_FpMul.f 3 t235).bind fun t236 => ((impl_FpAdd.f t236 1).bind fun t237 => ((impl_FpMul.f 2 a0_1).bind fun t238 => ((impl_FpInv.f kj3 t238).bind fun t239 => ((impl_FpMul.f t237 t239).bind fun t240 => (some (t240, true)))))))) = some (r1, r2) := by rw [if_neg (show ¬ (false = true) by decide)] at H; exact H
     clear H
     have H := H1
     clear H1
     replace H := Option.bind_eq_some_iff.mp H
     obtain ⟨t235, A180, H⟩ := H
     replace H : ((impl_FpMul.f 3 t235).bind fun t236 => ((impl_FpAdd.f t236 1).bind fun t237 => ((impl_FpMul.f 2 a0_1).bind fun t238 => ((impl_FpInv.f kj3 t238).bind fun t239 => ((impl_FpMul.f t237 t239).bind fun t240 => (some (t240, true))))))) = some (r1, r2) := H
     have A18 := Aside0.mk A180
     clear A180
     replace H := Option.bind_eq_some_iff.mp H
     obtain ⟨t236, A190, H⟩ := H
     replace H : ((impl_FpAdd.f t236 1).bind fun t237 => ((impl_FpMul.f 2 a0_1).bind fun t238 => ((impl_FpInv.f kj3 t238).bind fun t239 => ((impl_FpMul.f t237 t239).bind fun t240 => (some (t240, true)))))) = some (r1, r2) := H
     have A19 := Aside0.mk A190
     clear A190
     replace H := Option.bind_eq_some_iff.mp H
     obtain ⟨t237, A200, H⟩ := H
     replace H : ((impl_FpMul.f 2 a0_1).bind fun t238 => ((impl_FpInv.f kj3 t238).bind fun t239 => ((impl_FpMul.f t237 t239).bind fun t240 => (some (t240, true))))) = some (r1, r2) := H
     have A20 := Aside0.mk A200
     clear A200
     replace H := Option.bind_eq_some_iff.mp H
     obtain ⟨t238, A210, H⟩ := H
     replace H : ((impl_FpInv.f kj3 t238).bind fun t239 => ((impl_FpMul.f t237 t239).bind fun t240 => (some (t240, true)))) = some (r1, r2) := H
     have A21 := Aside0.mk A210
     clear A210
     replace H := Option.bind_eq_some_iff.mp H
     obtain ⟨t239, A220, H⟩ := H
     replace H : ((impl_FpMul.f t237 t239).bind fun t240 => (some (t240, true))) = some (r1, r2) := H
     have A22 := Aside0.mk A220
     clear A220
     replace H := Option.bind_eq_some_iff.mp H
     obtain ⟨t240, A230, H⟩ := H
     replace H : (some (t240, true)) = some (r1, r2) := H
     have A23 := Aside0.mk A230
     clear A230
     simp only [Option.some.injEq, Prod.mk.injEq] at H
     obtain ⟨rfl, rfl⟩ := H
     have hnb24 := NB229_230.out
     have hnc24 := NB230_229.out
     have hcz25_0 : wc.cell? ⟨gb229, 0, none⟩ = some (.int .i64 a0_0) := bc BK229 0
     have hcz25_1 : wc.cell? ⟨gb229, 1, none⟩ = some (.int .i64 a0_1) := bc BK229 1
     have hcz25_2 : wc.cell? ⟨gb229, 2, none⟩ = some (.bool a0_2) := bc BK229 2
     have hfz25_0 := blk_frozen BK229.out 0
     have hfz25_1 := blk_frozen BK229.out 1
     have hfz25_2 := blk_frozen BK229.out 2
     go_wp2_with (first | (go_at_call 68; (with_reducible refine (impl_FpMul.calls a0_0 a0_0 t235 _ A18.out).mono ?_); rintro e w' ⟨rfl, ⟨nd, rfl⟩⟩; (try first | exact ⟨rfl, _, World.drewN_drewN _ _ _⟩ | exact ⟨rfl, _, Eq.trans (World.drewN_drewN _ _ _) (congrArg (World.drewN _) (Nat.add_assoc _ _ _))⟩)) | (go_at_call 68; (with_reducible refine (impl_FpMul.calls 3 t235 t236 _ A19.out).mono ?_); rintro e w' ⟨rfl, ⟨nd, rfl⟩⟩; (try first | exact ⟨rfl, _, World.drewN_drewN _ _ _⟩ | exact ⟨rfl, _, Eq.trans (World.drewN_drewN _ _ _) (congrArg (World.drewN _) (Nat.add_assoc _ _ _))⟩)) | (go_at_call 75; (with_reducible refine (impl_FpAdd.calls t236 1 t237 _ A20.out).mono ?_); rintro e w' ⟨rfl, ⟨nd, rfl⟩⟩; (try first | exact ⟨rfl, _, World.drewN_drewN _ _ _⟩ | exact ⟨rfl, _, Eq.trans (World.drewN_drewN _ _ _) (congrArg (World.drewN _) (Nat.add_assoc _ _ _))⟩)) | (go_at_call 68; (with_reducible refine (impl_FpMul.calls 2 a0_1 t238 _ A21.out).mono ?_); rintro e w' ⟨rfl, ⟨nd, rfl⟩⟩; (try first | exact ⟨rfl, _, World.drewN_drewN _ _ _⟩ | exact ⟨rfl, _, Eq.trans (World.drewN_drewN _ _ _) (congrArg (World.drewN _) (Nat.add_assoc _ _ _))⟩)) | (go_at_call 80; (with_reducible refine (impl_FpInv.calls kj3 t238 t239 _ A22.out).mono ?_); rintro e w' ⟨rfl, ⟨nd, rfl⟩⟩; (try first | exact ⟨rfl, _, World.drewN_drewN _ _ _⟩ | exact ⟨rfl, _, Eq.trans (World.drewN_drewN _ _ _) (congrArg (World.drewN _) (Nat.add_assoc _ _ _))⟩)) | (go_at_call 68; (with_reducible refine (impl_FpMul.calls t237 t239 t240 _ A23.out).mono ?_); rintro e w' ⟨rfl, ⟨nd, rfl⟩⟩; (try first | exact ⟨rfl, _, World.drewN_drewN _ _ _⟩ | exact ⟨rfl, _, Eq.trans (World.drewN_drewN _ _ _) (congrArg (World.drewN _) (Nat.add_assoc _ _ _))⟩)))
     repeat (go_quiet (first | (go_at_call 68; (with_reducible refine (impl_FpMul.calls a0_0 a0_0 t235 _ A18.out).mono ?_); rintro e w' ⟨rfl, ⟨nd, rfl⟩⟩; (try first | exact ⟨rfl, _, World.drewN_drewN _ _ _⟩ | exact ⟨rfl, _, Eq.trans (World.drewN_drewN _ _ _) (congrArg (World.drewN _) (Nat.add_assoc _ _ _))⟩)) | (go_at_call 68; (with_reducible refine (impl_FpMul.calls 3 t235 t236 _ A19.out).mono ?_); rintro e w' ⟨rfl, ⟨nd, rfl⟩⟩; (try first | exact ⟨rfl, _, World.drewN_drewN _ _ _⟩ | exact ⟨rfl, _, Eq.trans (World.drewN_drewN _ _ _) (congrArg (World.drewN _) (Nat.add_assoc _ _ _))⟩)) | (go_at_call 75; (with_reducible refine (impl_FpAdd.calls t236 1 t237 _ A20.out).mono ?_); rintro e w' ⟨rfl, ⟨nd, rfl⟩⟩; (try first | exact ⟨rfl, _, World.drewN_drewN _ _ _⟩ | exact ⟨rfl, _, Eq.trans (World.drewN_drewN _ _ _) (congrArg (World.drewN _) (Nat.add_assoc _ _ _))⟩)) | (go_at_call 68; (with_reducible refine (impl_FpMul.calls 2 a0_1 t238 _ A21.out).mono ?_); rintro e w' ⟨rfl, ⟨nd, rfl⟩⟩; (try first | exact ⟨rfl, _, World.drewN_drewN _ _ _⟩ | exact ⟨rfl, _, Eq.trans (World.drewN_drewN _ _ _) (congrArg (World.drewN _) (Nat.add_assoc _ _ _))⟩)) | (go_at_call 80; (with_reducible refine (impl_FpInv.calls kj3 t238 t239 _ A22.out).mono ?_); rintro e w' ⟨rfl, ⟨nd, rfl⟩⟩; (try first | exact ⟨rfl, _, World.drewN_drewN _ _ _⟩ | exact ⟨rfl, _, Eq.trans (World.drewN_drewN _ _ _) (congrArg (World.drewN _) (Nat.add_assoc _ _ _))⟩)) | (go_at_call 68; (with_reducible refine (impl_FpMul.calls t237 t239 t240 _ A23.out).mono ?_); rintro e w' ⟨rfl, ⟨nd, rfl⟩⟩; (try first | exact ⟨rfl, _, World.drewN_drewN _ _ _⟩ | exact ⟨rfl, _, Eq.trans (World.drewN_drewN _ _ _) (congrArg (World.drewN _) (Nat.add_assoc _ _ _))⟩))); try go_wp2_with (first | (go_at_call 68; (with_reducible refine (impl_FpMul.calls a0_0 a0_0 t235 _ A18.out).mono ?_); rintro e w' ⟨rfl, ⟨nd, rfl⟩⟩; (try first | exact ⟨rfl, _, World.drewN_drewN _ _ _⟩ | exact ⟨rfl, _, Eq.trans (World.drewN_drewN _ _ _) (congrArg (World.drewN _) (Nat.add_assoc _ _ _))⟩)) | (go_at_call 68; (with_reducible refine (impl_FpMul.calls 3 t235 t236 _ A19.out).mono ?_); rintro e w' ⟨rfl, ⟨nd, rfl⟩⟩; (try first | exact ⟨rfl, _, World.drewN_drewN _ _ _⟩ | exact ⟨rfl, _, Eq.trans (World.drewN_drewN _ _ _) (congrArg (World.drewN _) (Nat.add_assoc _ _ _))⟩)) | (go_at_call 75; (with_reducible refine (impl_FpAdd.calls t236 1 t237 _ A20.out).mono ?_); rintro e w' ⟨rfl, ⟨nd, rfl⟩⟩; (try first | exact ⟨rfl, _, World.drewN_drewN _ _ _⟩ | exact ⟨rfl, _, Eq.trans (World.drewN_drewN _ _ _) (congrArg (World.drewN _) (Nat.add_assoc _ _ _))⟩)) | (go_at_call 68; (with_reducible refine (impl_FpMul.calls 2 a0_1 t238 _ A21.out).mono ?_); rintro e w' ⟨rfl, ⟨nd, rfl⟩⟩; (try first | exact ⟨rfl, _, World.drewN_drewN _ _ _⟩ | exact ⟨rfl, _, Eq.trans (World.drewN_drewN _ _ _) (congrArg (World.drewN _) (Nat.add_assoc _ _ _))⟩)) | (go_at_call 80; (with_reducible refine (impl_FpInv.calls kj3 t238 t239 _ A22.out).mono ?_); rintro e w' ⟨rfl, ⟨nd, rfl⟩⟩; (try first | exact ⟨rfl, _, World.drewN_drewN _ _ _⟩ | exact ⟨rfl, _, Eq.trans (World.drewN_drewN _ _ _) (congrArg (World.drewN _) (Nat.add_assoc _ _ _))⟩)) | (go_at_call 68; (with_reducible refine (impl_FpMul.calls t237 t239 t240 _ A23.out).mono ?_); rintro e w' ⟨rfl, ⟨nd, rfl⟩⟩; (try first | exact ⟨rfl, _, World.drewN_drewN _ _ _⟩ | exact ⟨rfl, _, Eq.trans (World.drewN_drewN _ _ _) (congrArg (World.drewN _) (Nat.add_assoc _ _ _))⟩))))
     go_ret2
     exact ⟨by first | rfl | (simp [errW_none, errW_some] <;> rfl) | (simp [*, errW_none, errW_some] <;> rfl), bZ HB⟩
 ·rw [if_neg c3] at H
  have c3b0 : (a0_0 == a1_0) = false := beq_eq_false_iff_ne.mpr c3
  have c3b1 : (a0_0 != a1_0) = true := bne_iff_ne.mpr c3
  replace H := Option.bind_eq_some_iff.mp H
  obtain ⟨t231, A260, H⟩ := H
  replace H : ((impl_FpSub.f a1_0 a0_0).bind fun t232 => ((impl_FpInv.f k t232).bind fun t233 => ((impl_FpMul.f t231 t233).bind fun t234 => (some (t234, true))))) = some (r1, r2) := H
  have A26 := Aside0.mk A260
  clear A260
  replace H := Option.bind_eq_some_iff.mp H
  obtain ⟨t232, A270, H⟩ := H
  replace H : ((impl_FpInv.f k t232).bind fun t233 => ((impl_FpMul.f t231 t233).bind fun t234 => (some (t234, true)))) = some (r1, r2) := H
  have A27 := Aside0.mk A270
  clear A270
  replace H := Option.bind_eq_some_iff.mp H
  obtain ⟨t233, A280, H⟩ := H
  replace H : ((impl_FpMul.f t231 t233).bind fun t234 => (some (t234, true))) = some (r1, r2) := H
  have A28 := Aside0.mk A280
  clear A280
  replace H := Option.bind_eq_some_iff.mp H
  obtain ⟨t234, A290, H⟩ := H
  replace H : (some (t234, true)) = some (r1, r2) := H
  have A29 := Aside0.mk A290
  clear A290
  simp only [Option.some.injEq, Prod.mk.injEq] at H
  obtain ⟨rfl, rfl⟩ := H
  go_enter Try.func78, Try.ntmps78
  go_wp2_with (first | ((with_reducible refine gate_dst (N := 2) rfl ?_); refine box_event ?hg (N := 2) ?hd (cs := #[.int .i64 a0_0, .int .i64 a0_1, .bool a0_2]) (t := 48) ?hr ?_; (case hd => rfl); (case hg => rfl); (case hr => first | (go_simp; done) | (go_simp; rfl)); intro gb229 hg w30 hbox hb; have BK229 := Aside0.mk (hbox); have GW229 := bG HB hg; have GE229 := bG HB hg; replace HB := bS HB hb; clear hb hbox hg) | ((with_reducible refine gate_dst (N := 3) rfl ?_); refine box_event ?hg (N := 3) ?hd (cs := #[.int .i64 a1_0, .int .i64 a1_1, .bool a1_2]) (t := 48) ?hr ?_; (case hd => rfl); (case hg => rfl); (case hr => first | (go_simp; done) | (go_simp; rfl)); intro gb230 hg w31 hbox hb; have BK230 := Aside0.mk (hbox); have GW230 := bG HB hg; have GE230 := bG HB hg; replace HB := bS HB hb; have NB229_230 := bL BK229 hg; have NB230_229 := bR BK229 hg; replace BK229 := bB BK229 hb; clear hb hbox hg; have hnb32 := NB229_230.out; have hnc32 := NB230_229.out; have hcz33_0 : w31.cell? ⟨gb229, 0, none⟩ = some (.int .i64 a0_0) := bc BK229 0; have hcz33_1 : w31.cell? ⟨gb229, 1, none⟩ = some (.int .i64 a0_1) := bc BK229 1; have hcz33_2 : w31.cell? ⟨gb229, 2, none⟩ = some (.bool a0_2) := bc BK229 2; have hfz33_0 := blk_frozen BK229.out 0; have hfz33_1 := blk_frozen BK229.out 1; have hfz33_2 := blk_frozen BK229.out 2; have hcz34_0 : w31.cell? ⟨gb230, 0, none⟩ = some (.int .i64 a1_0) := bc BK230 0; have hcz34_1 : w31.cell? ⟨gb230, 1, none⟩ = some (.int .i64 a1_1) := bc BK230 1; have hcz34_2 : w31.cell? ⟨gb230, 2, none⟩ = some (.bool a1_2) := bc BK230 2; have hfz34_0 := blk_frozen BK230.out 0; have hfz34_1 := blk_frozen BK230.out 1; have hfz34_2 := blk_frozen BK230.out 2) | (go_at_call 76; (with_reducible refine (impl_FpSub.calls a1_1 a0_1 t231 _ A26.out).mono ?_); rintro e w' ⟨rfl, ⟨nd, rfl⟩⟩; (try first | exact ⟨rfl, _, World.drewN_drewN _ _ _⟩ | exact ⟨rfl, _, Eq.trans (World.drewN_drewN _ _ _) (congrArg (World.drewN _) (Nat.add_assoc _ _ _))⟩)) | (go_at_call 76; (with_reducible refine (impl_FpSub.calls a1_0 a0_0 t232 _ A27.out).mono ?_); rintro e w' ⟨rfl, ⟨nd, rfl⟩⟩; (try first | exact ⟨rfl, _, World.drewN_drewN _ _ _⟩ | exact ⟨rfl, _, Eq.trans (World.drewN_drewN _ _ _) (congrArg (World.drewN _) (Nat.add_assoc _ _ _))⟩)) | (go_at_call 80; (with_reducible refine (impl_FpInv.calls k t232 t233 _ A28.out).mono ?_); rintro e w' ⟨rfl, ⟨nd, rfl⟩⟩; (try first | exact ⟨rfl, _, World.drewN_drewN _ _ _⟩ | exact ⟨rfl, _, Eq.trans (World.drewN_drewN _ _ _) (congrArg (World.drewN _) (Nat.add_assoc _ _ _))⟩)) | (go_at_call 68; (with_reducible refine (impl_FpMul.calls t231 t233 t234 _ A29.out).mono ?_); rintro e w' ⟨rfl, ⟨nd, rfl⟩⟩; (try first | exact ⟨rfl, _, World.drewN_drewN _ _ _⟩ | exact ⟨rfl, _, Eq.trans (World.drewN_drewN _ _ _) (congrArg (World.drewN _) (Nat.add_assoc _ _ _))⟩)))
  repeat (go_quiet (first | ((with_reducible refine gate_dst (N := 2) rfl ?_); refine box_event ?hg (N := 2) ?hd (cs := #[.int .i64 a0_0, .int .i64 a0_1, .bool a0_2]) (t := 48) ?hr ?_; (case hd => rfl); (case hg => rfl); (case hr => first | (go_simp; done) | (go_simp; rfl)); intro gb229 hg w30 hbox hb; have BK229 := Aside0.mk (hbox); have GW229 := bG HB hg; have GE229 := bG HB hg; replace HB := bS HB hb; clear hb hbox hg) | ((with_reducible refine gate_dst (N := 3) rfl ?_); refine box_event ?hg (N := 3) ?hd (cs := #[.int .i64 a1_0, .int .i64 a1_1, .bool a1_2]) (t := 48) ?hr ?_; (case hd => rfl); (case hg => rfl); (case hr => first | (go_simp; done) | (go_simp; rfl)); intro gb230 hg w31 hbox hb; have BK230 := Aside0.mk (hbox); have GW230 := bG HB hg; have GE230 := bG HB hg; replace HB := bS HB hb; have NB229_230 := bL BK229 hg; have NB230_229 := bR BK229 hg; replace BK229 := bB BK229 hb; clear hb hbox hg; have hnb32 := NB229_230.out; have hnc32 := NB230_229.out; have hcz33_0 : w31.cell? ⟨gb229, 0, none⟩ = some (.int .i64 a0_0) := bc BK229 0; have hcz33_1 : w31.cell? ⟨gb229, 1, none⟩ = some (.int .i64 a0_1) := bc BK229 1; have hcz33_2 : w31.cell? ⟨gb229, 2, none⟩ = some (.bool a0_2) := bc BK229 2; have hfz33_0 := blk_frozen BK229.out 0; have hfz33_1 := blk_frozen BK229.out 1; have hfz33_2 := blk_frozen BK229.out 2; have hcz34_0 : w31.cell? ⟨gb230, 0, none⟩ = some (.int .i64 a1_0) := bc BK230 0; have hcz34_1 : w31.cell? ⟨gb230, 1, none⟩ = some (.int .i64 a1_1) := bc BK230 1; have hcz34_2 : w31.cell? ⟨gb230, 2, none⟩ = some (.bool a1_2) := bc BK230 2; have hfz34_0 := blk_frozen BK230.out 0; have hfz34_1 := blk_frozen BK230.out 1; have hfz34_2 := blk_frozen BK230.out 2) | (go_at_call 76; (with_reducible refine (impl_FpSub.calls a1_1 a0_1 t231 _ A26.out).mono ?_); rintro e w' ⟨rfl, ⟨nd, rfl⟩⟩; (try first | exact ⟨rfl, _, World.drewN_drewN _ _ _⟩ | exact ⟨rfl, _, Eq.trans (World.drewN_drewN _ _ _) (congrArg (World.drewN _) (Nat.add_assoc _ _ _))⟩)) | (go_at_call 76; (with_reducible refine (impl_FpSub.calls a1_0 a0_0 t232 _ A27.out).mono ?_); rintro e w' ⟨rfl, ⟨nd, rfl⟩⟩; (try first | exact ⟨rfl, _, World.drewN_drewN _ _ _⟩ | exact ⟨rfl, _, Eq.trans (World.drewN_drewN _ _ _) (congrArg (World.drewN _) (Nat.add_assoc _ _ _))⟩)) | (go_at_call 80; (with_reducible refine (impl_FpInv.calls k t232 t233 _ A28.out).mono ?_); rintro e w' ⟨rfl, ⟨nd, rfl⟩⟩; (try first | exact ⟨rfl, _, World.drewN_drewN _ _ _⟩ | exact ⟨rfl, _, Eq.trans (World.drewN_drewN _ _ _) (congrArg (World.drewN _) (Nat.add_assoc _ _ _))⟩)) | (go_at_call 68; (with_reducible refine (impl_FpMul.calls t231 t233 t234 _ A29.out).mono ?_); rintro e w' ⟨rfl, ⟨nd, rfl⟩⟩; (try first | exact ⟨rfl, _, World.drewN_drewN _ _ _⟩ | exact ⟨rfl, _, Eq.trans (World.drewN_drewN _ _ _) (congrArg (World.drewN _) (Nat.add_assoc _ _ _))⟩))); try go_wp2_with (first | ((with_reducible refine gate_dst (N := 2) rfl ?_); refine box_event ?hg (N := 2) ?hd (cs := #[.int .i64 a0_0, .int .i64 a0_1, .bool a0_2]) (t := 48) ?hr ?_; (case hd => rfl); (case hg => rfl); (case hr => first | (go_simp; done) | (go_simp; rfl)); intro gb229 hg w30 hbox hb; have BK229 := Aside0.mk (hbox); have GW229 := bG HB hg; have GE229 := bG HB hg; replace HB := bS HB hb; clear hb hbox hg) | ((with_reducible refine gate_dst (N := 3) rfl ?_); refine box_event ?hg (N := 3) ?hd (cs := #[.int .i64 a1_0, .int .i64 a1_1, .bool a1_2]) (t := 48) ?hr ?_; (case hd => rfl); (case hg => rfl); (case hr => first | (go_simp; done) | (go_simp; rfl)); intro gb230 hg w31 hbox hb; have BK230 := Aside0.mk (hbox); have GW230 := bG HB hg; have GE230 := bG HB hg; replace HB := bS HB hb; have NB229_230 := bL BK229 hg; have NB230_229 := bR BK229 hg; replace BK229 := bB BK229 hb; clear hb hbox hg; have hnb32 := NB229_230.out; have hnc32 := NB230_229.out; have hcz33_0 : w31.cell? ⟨gb229, 0, none⟩ = some (.int .i64 a0_0) := bc BK229 0; have hcz33_1 : w31.cell? ⟨gb229, 1, none⟩ = some (.int .i64 a0_1) := bc BK229 1; have hcz33_2 : w31.cell? ⟨gb229, 2, none⟩ = some (.bool a0_2) := bc BK229 2; have hfz33_0 := blk_frozen BK229.out 0; have hfz33_1 := blk_frozen BK229.out 1; have hfz33_2 := blk_frozen BK229.out 2; have hcz34_0 : w31.cell? ⟨gb230, 0, none⟩ = some (.int .i64 a1_0) := bc BK230 0; have hcz34_1 : w31.cell? ⟨gb230, 1, none⟩ = some (.int .i64 a1_1) := bc BK230 1; have hcz34_2 : w31.cell? ⟨gb230, 2, none⟩ = some (.bool a1_2) := bc BK230 2; have hfz34_0 := blk_frozen BK230.out 0; have hfz34_1 := blk_frozen BK230.out 1; have hfz34_2 := blk_frozen BK230.out 2) | (go_at_call 76; (with_reducible refine (impl_FpSub.calls a1_1 a0_1 t231 _ A26.out).mono ?_); rintro e w' ⟨rfl, ⟨nd, rfl⟩⟩; (try first | exact ⟨rfl, _, World.drewN_drewN _ _ _⟩ | exact ⟨rfl, _, Eq.trans (World.drewN_drewN _ _ _) (congrArg (World.drewN _) (Nat.add_assoc _ _ _))⟩)) | (go_at_call 76; (with_reducible refine (impl_FpSub.calls a1_0 a0_0 t232 _ A27.out).mono ?_); rintro e w' ⟨rfl, ⟨nd, rfl⟩⟩; (try first | exact ⟨rfl, _, World.drewN_drewN _ _ _⟩ | exact ⟨rfl, _, Eq.trans (World.drewN_drewN _ _ _) (congrArg (World.drewN _) (Nat.add_assoc _ _ _))⟩)) | (go_at_call 80; (with_reducible refine (impl_FpInv.calls k t232 t233 _ A28.out).mono ?_); rintro e w' ⟨rfl, ⟨nd, rfl⟩⟩; (try first | exact ⟨rfl, _, World.drewN_drewN _ _ _⟩ | exact ⟨rfl, _, Eq.trans (World.drewN_drewN _ _ _) (congrArg (World.drewN _) (Nat.add_assoc _ _ _))⟩)) | (go_at_call 68; (with_reducible refine (impl_FpMul.calls t231 t233 t234 _ A29.out).mono ?_); rintro e w' ⟨rfl, ⟨nd, rfl⟩⟩; (try first | exact ⟨rfl, _, World.drewN_drewN _ _ _⟩ | exact ⟨rfl, _, Eq.trans (World.drewN_drewN _ _ _) (congrArg (World.drewN _) (Nat.add_assoc _ _ _))⟩))))
  go_ret2
  exact ⟨by first | rfl | (simp [errW_none, errW_some] <;> rfl) | (simp [*, errW_none, errW_some] <;> rfl), bZ HB⟩
/-! ### impl_add: function 69 -/
def impl_add.f (k : Nat) (a0_0 : Int) (a0_1 : Int) (a0_2 : Bool) (a1_0 : Int) (a1_1 : Int) (a1_2 : Bool) : Option (Int × Int × Bool) := if a0_2 = true then (some (a1_0, a1_1, a1_2)) else (if a1_2 = true then (some (a0_0, a0_1, a0_2)) else ((impl_slopeOf.f k a0_0 a0_1 a0_2 a1_0 a1_1 a1_2).bind fun bt244 => (if bt244.2 = true then ((impl_FpMul.f bt244.1 bt244.1).bind fun t246 => ((impl_FpSub.f t246 a0_0).bind fun t247 => ((impl_FpSub.f t247 a1_0).bind fun t248 => ((impl_FpSub.f a0_0 t248).bind fun t249 => ((impl_FpMul.f bt244.1 t249).bind fun t250 => ((impl_FpSub.f t250 a0_1).bind fun t251 => (some (t248, t251, false)))))))) else (some (0, 0, true)))))
theorem impl_add.mono : ∀ a0 a1 a2 a3 a4 a5 k, LeO (impl_add.f k a0 a1 a2 a3 a4 a5) (impl_add.f (k + 1) a0 a1 a2 a3 a4 a5) := by
 intro a0 a1 a2 a3 a4 a5 k
 unfold impl_add.f
 repeat' first
   | (with_reducible exact impl_slopeOf.mono _ _ _ _ _ _ _)
   | (with_reducible exact LeO.refl _)
   | (with_reducible exact LeO.none _)
   | (with_reducible refine LeO.ite ?_ ?_)
   | (with_reducible refine LeO.bind ?_ (fun _ => ?_))
   | exact impl_slopeOf.mono _ _ _ _ _ _ _
   | exact LeO.none _
   | refine LeO.ite ?_ ?_
   | refine LeO.bind ?_ (fun _ => ?_)
def impl_add.T8 : Bool × List (List Nat × List Nat) := (true, [([], []), ([], []), ([0, 1], [0, 1]), ([], []), ([3], [3]), ([2, 4, 2], [2, 4]), ([], []), ([6], [6]), ([5, 7, 5], [5, 7]), ([8, 8, 0, 1, 2, 3, 4, 5, 6, 7, 8], [8])])
def impl_add.B8 : List Nat := [0, 0, 3, 0, 8, 31, 0, 64, 255, 511]
theorem impl_add.tab8 : rtab .any (opsOf Try.f69 8) = impl_add.T8 := by kernel_rfl
theorem impl_add.bits8 : waitsOk impl_add.T8.2 impl_add.B8 = true := by kernel_rfl
def impl_add.T9 : Bool × List (List Nat × List Nat) := (true, [([], []), ([], []), ([], []), ([2], [2]), ([], []), ([3, 4], [3, 4]), ([1, 5, 5], [1, 5]), ([], []), ([7], [7]), ([6, 8, 6], [6, 8]), ([0, 9], [0, 9]), ([10, 9, 0, 1, 2, 3, 4, 5, 6, 7, 8, 9, 10], [10])])
def impl_add.B9 : List Nat := [0, 0, 0, 4, 0, 28, 62, 0, 128, 510, 1023, 2047]
theorem impl_add.tab9 : rtab .any (opsOf Try.f69 9) = impl_add.T9 := by kernel_rfl
theorem impl_add.bits9 : waitsOk impl_add.T9.2 impl_add.B9 = true := by kernel_rfl
set_option maxHeartbeats 8000000 in
set_option maxRecDepth 100000 in
theorem impl_add.calls (k : Nat) (a0_0 : Int) (a0_1 : Int) (a0_2 : Bool) (a1_0 : Int) (a1_1 : Int) (a1_2 : Bool) (r1 : Int) (r2 : Int) (r3 : Bool) (w : World) (h : impl_add.f k a0_0 a0_1 a0_2 a1_0 a1_1 a1_2 = some (r1, r2, r3)) :
  Calls Try.prog 69 #[.agg #[.int .i64 a0_0, .int .i64 a0_1, .bool a0_2], .agg #[.int .i64 a1_0, .int .i64 a1_1, .bool a1_2]] w fun e w' => e = .returned (.agg #[.int .i64 r1, .int .i64 r2, .bool r3]) ∧ Below w.heap.size w w' := by
 have hu48 := Try.underlying48
 have HB := Aside0.mk (Below.refl w.heap.size w)
 have H : (if a0_2 = true then (some (a1_0, a1_1, a1_2)) else (if a1_2 = true then (some (a0_0, a0_1, a0_2)) else ((impl_slopeOf.f k a0_0 a0_1 a0_2 a1_0 a1_1 a1_2).bind fun bt244 => (if bt244.2 = true then ((impl_FpMul.f bt244.1 bt244.1).bind fun t246 => ((impl_FpSub.f t246 a0_0).bind fun t247 => ((impl_FpSub.f t247 a1_0).bind fun t248 => ((impl_FpSub.f a0_0 t248).bind fun t249 => ((impl_FpMul.f bt244.1 t249).bind fun t250 => ((impl_FpSub.f t250 a0_1).bind fun t251 => (some (t248, t251, false)))))))) else (some (0, 0, true)))))) = some (r1, r2, r3) := h
 clear h
 by_cases c3 : a0_2 = true
 ·subst c3
  have H1 : (some (a1_0, a1_1, a1_2)) = some (r1, r2, r3) := by rw [if_pos rfl] at H; exact H
  clear H
  have H := H1
  clear H1
  simp only [Option.some.injEq, Prod.mk.injEq] at H
  obtain ⟨rfl, rfl, rfl⟩ := H
  go_enter Try.func69, Try.ntmps69
  go_wp2_with (first | ((with_reducible refine gate_dst (N := 2) rfl ?_); refine box_event ?hg (N := 2) ?hd (cs := #[.int .i64 a0_0, .int .i64 a0_1, .bool true]) (t := 48) ?hr ?_; (case hd => rfl); (case hg => rfl); (case hr => first | (go_simp; done) | (go_simp; rfl)); intro gb241 hg w4 hbox hb; have BK241 := Aside0.mk (hbox); have GW241 := bG HB hg; have GE241 := bG HB hg; replace HB := bS HB hb; clear hb hbox hg) | ((with_reducible refine gate_dst (N := 3) rfl ?_); refine box_event ?hg (N := 3) ?hd (cs := #[.int .i64 a1_0, .int .i64 a1_1, .bool a1_2]) (t := 48) ?hr ?_; (case hd => rfl); (case hg => rfl); (case hr => first | (go_simp; done) | (go_simp; rfl)); intro gb242 hg w5 hbox hb; have BK242 := Aside0.mk (hbox); have GW242 := bG HB hg; have GE242 := bG HB hg; replace HB := bS HB hb; have NB241_242 := bL BK241 hg; have NB242_241 := bR BK241 hg; replace BK241 := bB BK241 hb; clear hb hbox hg) | ((with_reducible refine gate_dst (N := 4) rfl ?_); refine box_event ?hg (N := 4) ?hd (cs := #[.int .i64 0, .int .i64 0, .bool false]) (t := 48) ?hr ?_; (case hd => rfl); (case hg => rfl); (case hr => first | (go_simp; done) | (go_simp; rfl)); intro gb243 hg w6 hbox hb; have BK243 := Aside0.mk (hbox); have GW243 := bG HB hg; have GE243 := bG HB hg; replace HB := bS HB hb; have NB241_243 := bL BK241 hg; have NB243_241 := bR BK241 hg; replace BK241 := bB BK241 hb; have NB242_243 := bL BK242 hg; have NB243_242 := bR BK242 hg; replace BK242 := bB BK242 hb; clear hb hbox hg; have hnb7 := NB241_242.out; have hnc7 := NB242_241.out; have hnb8 := NB241_243.out; have hnc8 := NB243_241.out; have hcz9_0 : w6.cell? ⟨gb241, 0, none⟩ = some (.int .i64 a0_0) := bc BK241 0; have hcz9_1 : w6.cell? ⟨gb241, 1, none⟩ = some (.int .i64 a0_1) := bc BK241 1; have hcz9_2 : w6.cell? ⟨gb241, 2, none⟩ = some (.bool true) := bc BK241 2; have hfz9_0 := blk_frozen BK241.out 0; have hfz9_1 := blk_frozen BK241.out 1; have hfz9_2 := blk_frozen BK241.out 2; have hnb10 := NB242_243.out; have hnc10 := NB243_242.out; have hcz11_0 : w6.cell? ⟨gb242, 0, none⟩ = some (.int .i64 a1_0) := bc BK242 0; have hcz11_1 : w6.cell? ⟨gb242, 1, none⟩ = some (.int .i64 a1_1) := bc BK242 1; have hcz11_2 : w6.cell? ⟨gb242, 2, none⟩ = some (.bool a1_2) := bc BK242 2; have hfz11_0 := blk_frozen BK242.out 0; have hfz11_1 := blk_frozen BK242.out 1; have hfz11_2 := blk_frozen BK242.out 2; have hcz12_0 : w6.cell? ⟨gb243, 0, none⟩ = some (.int .i64 0) := bc BK243 0; have hcz12_1 : w6.cell? ⟨gb243, 1, none⟩ = some (.int .i64 0) := bc BK243 1; have hcz12_2 : w6.cell? ⟨gb243, 2, none⟩ = some (.bool false) := bc BK243 2; have hfz12_0 := blk_frozen BK243.out 0; have hfz12_1 := blk_frozen BK243.out 1; have hfz12_2 := blk_frozen BK243.out 2))
  refine bodyPost_ret (results_cell_row rfl _ _ gb243 48 #[.int .i64 a1_0, .int .i64 a1_1, .bool a1_2] (0, 0) _ rfl (by (with_reducible repeat (first | refine blk_drewN ?_ _ | refine blk_drew ?_ | refine blk_alloc ?_ _)); refine blk_put (cs := #[.int .i64 a1_0, .int .i64 a1_1, .bool false]) ?_ 2 _ rfl; (with_reducible repeat (first | refine blk_drewN ?_ _ | refine blk_drew ?_ | refine blk_alloc ?_ _)); refine blk_put (cs := #[.int .i64 a1_0, .int .i64 0, .bool false]) ?_ 1 _ rfl; (with_reducible repeat (first | refine blk_drewN ?_ _ | refine blk_drew ?_ | refine blk_alloc ?_ _)); refine blk_put (cs := #[.int .i64 0, .int .i64 0, .bool false]) ?_ 0 _ rfl; (with_reducible repeat (first | refine blk_drewN ?_ _ | refine blk_drew ?_ | refine blk_alloc ?_ _)); exact BK243.out) Try.underlying48 rfl (by kernel_rfl)) rfl ?_
  exact ⟨by first | rfl | (simp [errW_none, errW_some] <;> rfl) | (simp [*, errW_none, errW_some] <;> rfl), bZ HB⟩
 ·replace c3 := Bool.eq_false_iff.mpr c3
  subst c3
  have H1 : (if a1_2 = true then (some (a0_0, a0_1, false)) else ((impl_slopeOf.f k a0_0 a0_1 false a1_0 a1_1 a1_2).bind fun bt244 => (if bt244.2 = true then ((impl_FpMul.f bt244.1 bt244.1).bind fun t246 => ((impl_FpSub.f t246 a0_0).bind fun t247 => ((impl_FpSub.f t247 a1_0).bind fun t248 => ((impl_FpSub.f a0_0 t248).bind fun t249 => ((impl_FpMul.f bt244.1 t249).bind fun t250 => ((impl_FpSub.f t250 a0_1).bind fun t251 => (some (t248, t251, false)))))))) else (some (0, 0, true))))) = some (r1, r2, r3) := by rw [if_neg (show ¬ (false = true) by decide)] at H; exact H
  clear H
  have H := H1
  clear H1
  by_cases c13 : a1_2 = true
  ·subst c13
   have H1 : (some (a0_0, a0_1, false)) = some (r1, r2, r3) := by rw [if_pos rfl] at H; exact H
   clear H
   have H := H1
   clear H1
   simp only [Option.some.injEq, Prod.mk.injEq] at H
   obtain ⟨rfl, rfl, rfl⟩ := H
   go_enter Try.func69, Try.ntmps69
   go_wp2_with (first | ((with_reducible refine gate_dst (N := 2) rfl ?_); refine box_event ?hg (N := 2) ?hd (cs := #[.int .i64 a0_0, .int .i64 a0_1, .bool false]) (t := 48) ?hr ?_; (case hd => rfl); (case hg => rfl); (case hr => first | (go_simp; done) | (go_simp; rfl)); intro gb241 hg w14 hbox hb; have BK241 := Aside0.mk (hbox); have GW241 := bG HB hg; have GE241 := bG HB hg; replace HB := bS HB hb; clear hb hbox hg) | ((with_reducible refine gate_dst (N := 3) rfl ?_); refine box_event ?hg (N := 3) ?hd (cs := #[.int .i64 a1_0, .int .i64 a1_1, .bool true]) (t := 48) ?hr ?_; (case hd => rfl); (case hg => rfl); (case hr => first | (go_simp; done) | (go_simp; rfl)); intro gb242 hg w15 hbox hb; have BK242 := Aside0.mk (hbox); have GW242 := bG HB hg; have GE242 := bG HB hg; replace HB := bS HB hb; have NB241_242 := bL BK241 hg; have NB242_241 := bR BK241 hg; replace BK241 := bB BK241 hb; clear hb hbox hg) | ((with_reducible refine gate_dst (N := 4) rfl ?_); refine box_event ?hg (N := 4) ?hd (cs := #[.int .i64 0, .int .i64 0, .bool false]) (t := 48) ?hr ?_; (case hd => rfl); (case hg => rfl); (case hr => first | (go_simp; done) | (go_simp; rfl)); intro gb243 hg w16 hbox hb; have BK243 := Aside0.mk (hbox); have GW243 := bG HB hg; have GE243 := bG HB hg; replace HB := bS HB hb; have NB241_243 := bL BK241 hg; have NB243_241 := bR BK241 hg; replace BK241 := bB BK241 hb; have NB242_243 := bL BK242 hg; have NB243_242 := bR BK242 hg; replace BK242 := bB BK242 hb; clear hb hbox hg; have hnb17 := NB241_242.out; have hnc17 := NB242_241.out; have hnb18 := NB241_243.out; have hnc18 := NB243_241.out; have hcz19_0 : w16.cell? ⟨gb241, 0, none⟩ = some (.int .i64 a0_0) := bc BK241 0; have hcz19_1 : w16.cell? ⟨gb241, 1, none⟩ = some (.int .i64 a0_1) := bc BK241 1; have hcz19_2 : w16.cell? ⟨gb241, 2, none⟩ = some (.bool false) := bc BK241 2; have hfz19_0 := blk_frozen BK241.out 0; have hfz19_1 := blk_frozen BK241.out 1; have hfz19_2 := blk_frozen BK241.out 2; have hnb20 := NB242_243.out; have hnc20 := NB243_242.out; have hcz21_0 : w16.cell? ⟨gb242, 0, none⟩ = some (.int .i64 a1_0) := bc BK242 0; have hcz21_1 : w16.cell? ⟨gb242, 1, none⟩ = some (.int .i64 a1_1) := bc BK242 1; have hcz21_2 : w16.cell? ⟨gb242, 2, none⟩ = some (.bool true) := bc BK242 2; have hfz21_0 := blk_frozen BK242.out 0; have hfz21_1 := blk_frozen BK242.out 1; have hfz21_2 := blk_frozen BK242.out 2; have hcz22_0 : w16.cell? ⟨gb243, 0, none⟩ = some (.int .i64 0) := bc BK243 0; have hcz22_1 : w16.cell? ⟨gb243, 1, none⟩ = some (.int .i64 0) := bc BK243 1; have hcz22_2 : w16.cell? ⟨gb243, 2, none⟩ = some (.bool false) := bc BK243 2; have hfz22_0 := blk_frozen BK243.out 0; have hfz22_1 := blk_frozen BK243.out 1; have hfz22_2 := blk_frozen BK243.out 2))
   refine bodyPost_ret (results_cell_row rfl _ _ gb243 48 #[.int .i64 a0_0, .int .i64 a0_1, .bool false] (0, 0) _ rfl (by (with_reducible repeat (first | refine blk_drewN ?_ _ | refine blk_drew ?_ | refine blk_alloc ?_ _)); refine blk_put (cs := #[.int .i64 a0_0, .int .i64 a0_1, .bool false]) ?_ 2 _ rfl; (with_reducible repeat (first | refine blk_drewN ?_ _ | refine blk_drew ?_ | refine blk_alloc ?_ _)); refine blk_put (cs := #[.int .i64 a0_0, .int .i64 0, .bool false]) ?_ 1 _ rfl; (with_reducible repeat (first | refine blk_drewN ?_ _ | refine blk_drew ?_ | refine blk_alloc ?_ _)); refine blk_put (cs := #[.int .i64 0, .int .i64 0, .bool false]) ?_ 0 _ rfl; (with_reducible repeat (first | refine blk_drewN ?_ _ | refine blk_drew ?_ | refine blk_alloc ?_ _)); exact BK243.out) Try.underlying48 rfl (by kernel_rfl)) rfl ?_
   exact ⟨by first | rfl | (simp [errW_none, errW_some] <;> rfl) | (simp [*, errW_none, errW_some] <;> rfl), bZ HB⟩
  ·replace c13 := Bool.eq_false_iff.mpr c13
   subst c13
   have H1 : ((impl_slopeOf.f k a0_0 a0_1 false a1_0 a1_1 false).bind fun bt244 => (if bt244.2 = true then ((impl_FpMul.f bt244.1 bt244.1).bind fun t246 => ((impl_FpSub.f t246 a0_0).bind fun t247 => ((impl_FpSub.f t247 a1_0).bind fun t248 => ((impl_FpSub.f a0_0 t248).bind fun t249 => ((impl_FpMul.f bt244.1 t249).bind fun t250 => ((impl_FpSub.f t250 a0_1).bind fun t251 => (some (t248, t251, false)))))))) else (some (0, 0, true)))) = some (r1, r2, r3) := by rw [if_neg (show ¬ (false = true) by decide)] at H; exact H
   clear H
   have H := H1
   clear H1
   replace H := Option.bind_eq_some_iff.mp H
   obtain ⟨⟨t244, t245⟩, A230, H⟩ := H
   replace H : (if t245 = true then ((impl_FpMul.f t244 t244).bind fun t246 => ((impl_FpSub.f t246 a0_0).bind fun t247 => ((impl_FpSub.f t247 a1_0).bind fun t248 => ((impl_FpSub.f a0_0 t248).bind fun t249 => ((impl_FpMul.f t244 t249).bind fun t250 => ((impl_FpSub.f t250 a0_1).bind fun t251 => (some (t248, t251, false)))))))) else (some (0, 0, true))) = some (r1, r2, r3) := H
   have A23 := Aside0.mk A230
   clear A230
   by_cases c24 : t245 = true
   ·subst c24
    have H1 : ((impl_FpMul.f t244 t244).bind fun t246 => ((impl_FpSub.f t246 a0_0).bind fun t247 => ((impl_FpSub.f t247 a1_0).bind fun t248 => ((impl_FpSub.f a0_0 t248).bind fun t249 => ((impl_FpMul.f t244 t249).bind fun t250 => ((impl_FpSub.f t250 a0_1).bind fun t251 => (some (t248, t251, false)))))))) = some (r1, r2, r3) := by rw [if_pos rfl] at H; exact H
    clear H
    have H := H1
    clear H1
    replace H := Option.bind_eq_some_iff.mp H
    obtain ⟨t246, A250, H⟩ := H
    replace H : ((impl_FpSub.f t246 a0_0).bind fun t247 => ((impl_FpSub.f t247 a1_0).bind fun t248 => ((impl_FpSub.f a0_0 t248).bind fun t249 => ((impl_FpMul.f t244 t249).bind fun t250 => ((impl_FpSub.f t250 a0_1).bind fun t251 => (some (t248, t251, false))))))) = some (r1, r2, r3) := H
    have A25 := Aside0.mk A250
    clear A250
    replace H := Option.bind_eq_some_iff.mp H
    obtain ⟨t247, A260, H⟩ := H
    replace H : ((impl_FpSub.f t247 a1_0).bind fun t248 => ((impl_FpSub.f a0_0 t248).bind fun t249 => ((impl_FpMul.f t244 t249).bind fun t250 => ((impl_FpSub.f t250 a0_1).bind fun t251 => (some (t248, t251, false)))))) = some (r1, r2, r3) := H
    have A26 := Aside0.mk A260
    clear A260
    replace H := Option.bind_eq_some_iff.mp H
    obtain ⟨t248, A270, H⟩ := H
    replace H : ((impl_FpSub.f a0_0 t248).bind fun t249 => ((impl_FpMul.f t244 t249).bind fun t250 => ((impl_FpSub.f t250 a0_1).bind fun t251 => (some (t248, t251, false))))) = some (r1, r2, r3) := H
    have A27 := Aside0.mk A270
    clear A270
    replace H := Option.bind_eq_some_iff.mp H
    obtain ⟨t249, A280, H⟩ := H
    replace H : ((impl_FpMul.f t244 t249).bind fun t250 => ((impl_FpSub.f t250 a0_1).bind fun t251 => (some (t248, t251, false)))) = some (r1, r2, r3) := H
    have A28 := Aside0.mk A280
    clear A280
    replace H := Option.bind_eq_some_iff.mp H
    obtain ⟨t250, A290, H⟩ := H
    replace H : ((impl_FpSub.f t250 a0_1).bind fun t251 => (some (t248, t251, false))) = some (r1, r2, r3) := H
    have A29 := Aside0.mk A290
    clear A290
    replace H := Option.bind_eq_some_iff.mp H
    obtain ⟨t251, A300, H⟩ := H
    replace H : (some (t248, t251, false)) = some (r1, r2, r3) := H
    have A30 := Aside0.mk A300
    clear A300
    simp only [Option.some.injEq, Prod.mk.injEq] at H
    obtain ⟨rfl, rfl, rfl⟩ := H
    go_enter Try.func69, Try.ntmps69
    try go_wp2_with (first | ((with_reducible refine gate_dst (N := 2) rfl ?_); refine box_event ?hg (N := 2) ?hd (cs := #[.int .i64 a0_0, .int .i64 a0_1, .bool false]) (t := 48) ?hr ?_; (case hd => rfl); (case hg => rfl); (case hr => first | (go_simp; done) | (go_simp; rfl)); intro gb241 hg w31 hbox hb; have BK241 := Aside0.mk (hbox); have GW241 := bG HB hg; have GE241 := bG HB hg; replace HB := bS HB hb; clear hb hbox hg) | ((with_reducible refine gate_dst (N := 3) rfl ?_); refine box_event ?hg (N := 3) ?hd (cs := #[.int .i64 a1_0, .int .i64 a1_1, .bool false]) (t := 48) ?hr ?_; (case hd => rfl); (case hg => rfl); (case hr => first | (go_simp; done) | (go_simp; rfl)); intro gb242 hg w32 hbox hb; have BK242 := Aside0.mk (hbox); have GW242 := bG HB hg; have GE242 := bG HB hg; replace HB := bS HB hb; have NB241_242 := bL BK241 hg; have NB242_241 := bR BK241 hg; replace BK241 := bB BK241 hb; clear hb hbox hg) | ((with_reducible refine gate_dst (N := 4) rfl ?_); refine box_event ?hg (N := 4) ?hd (cs := #[.int .i64 0, .int .i64 0, .bool false]) (t := 48) ?hr ?_; (case hd => rfl); (case hg => rfl); (case hr => first | (go_simp; done) | (go_simp; rfl)); intro gb243 hg w33 hbox hb; have BK243 := Aside0.mk (hbox); have GW243 := bG HB hg; have GE243 := bG HB hg; replace HB := bS HB hb; have NB241_243 := bL BK241 hg; have NB243_241 := bR BK241 hg; replace BK241 := bB BK241 hb; have NB242_243 := bL BK242 hg; have NB243_242 := bR BK242 hg; replace BK242 := bB BK242 hb; clear hb hbox hg; have hnb34 := NB241_242.out; have hnc34 := NB242_241.out; have hnb35 := NB241_243.out; have hnc35 := NB243_241.out; have hcz36_0 : w33.cell? ⟨gb241, 0, none⟩ = some (.int .i64 a0_0) := bc BK241 0; have hcz36_1 : w33.cell? ⟨gb241, 1, none⟩ = some (.int .i64 a0_1) := bc BK241 1; have hcz36_2 : w33.cell? ⟨gb241, 2, none⟩ = some (.bool false) := bc BK241 2; have hfz36_0 := blk_frozen BK241.out 0; have hfz36_1 := blk_frozen BK241.out 1; have hfz36_2 := blk_frozen BK241.out 2; have hnb37 := NB242_243.out; have hnc37 := NB243_242.out; have hcz38_0 : w33.cell? ⟨gb242, 0, none⟩ = some (.int .i64 a1_0) := bc BK242 0; have hcz38_1 : w33.cell? ⟨gb242, 1, none⟩ = some (.int .i64 a1_1) := bc BK242 1; have hcz38_2 : w33.cell? ⟨gb242, 2, none⟩ = some (.bool false) := bc BK242 2; have hfz38_0 := blk_frozen BK242.out 0; have hfz38_1 := blk_frozen BK242.out 1; have hfz38_2 := blk_frozen BK242.out 2) | ((with_reducible refine gate_callee (f := 78) rfl ?_); refine goesL_ (some 17) rfl rfl Try.func78 (by kernel_rfl) rfl #[.agg #[.int .i64 a0_0, .int .i64 a0_1, .bool false], .agg #[.int .i64 a1_0, .int .i64 a1_1, .bool false]] rfl (by (try simp only [List.map_toArray, List.map_cons, List.map_nil]); first | done | rfl | (simp only [List.length_drop, List.length_take]; rfl)) ?_; (with_reducible refine (impl_slopeOf.calls k a0_0 a0_1 false a1_0 a1_1 false t244 true _ A23.out).mono ?_); rintro e w39 ⟨rfl, hb⟩; refine ⟨_, rfl, ?_⟩; replace BK241 := bB BK241 hb; replace BK242 := bB BK242 hb; replace BK243 := bB BK243 hb; replace HB := bS HB hb; (try clear hb); (try clear hb2); (try clear hk); (try clear hi)))
    replace BK241 := Aside0.mk (blk_drew BK241.out)
    replace BK242 := Aside0.mk (blk_drew BK242.out)
    replace BK243 := Aside0.mk (blk_drew BK243.out)
    replace HB := Aside0.mk (below_drew1 HB.out)
    refine start_ (n := 10) (S := fun w' => w'.cell? ⟨gb241, 0, none⟩ = some (.int .i64 a0_0) ∧ w'.cell? ⟨gb241, 1, none⟩ = some (.int .i64 a0_1) ∧ w'.cell? ⟨gb241, 2, none⟩ = some (.bool false) ∧ w'.cell? ⟨gb242, 0, none⟩ = some (.int .i64 a1_0) ∧ w'.cell? ⟨gb242, 1, none⟩ = some (.int .i64 a1_1) ∧ w'.cell? ⟨gb242, 2, none⟩ = some (.bool false)) (ds := []) #[false, false, false, false, false, false, false, false, false, false] (by kernel_rfl) rfl rfl ⟨bc BK241 0, bc BK241 1, bc BK241 2, bc BK242 0, bc BK242 1, bc BK242 2⟩ (fun hHeld => ?_); refine with_tabW impl_add.tab8 impl_add.bits8 (fun HT_ HW_ => ?_)
    generalize w39.drew = w40 at BK241 BK242 BK243 HB hHeld ⊢
    refine pure_ (i := 0) (N := some 23) (v := ?_) (a' := ?_) #[true, false, false, false, false, false, false, false, false, false] rfl rfl (any_of HT_.out (by kernel_rfl)) (fun _ _ _ h => h) (Or.inl ⟨by rfl, ?_⟩) ?_ ?_
    rotate_left
    ·intro w'
     go_simp
     with_reducible rfl
    rotate_left
    ·simp only [Act.put, List.setIfInBounds_toArray, List.set_cons_zero, List.set_cons_succ, i64_w, i32_w]
     rfl
    refine pure_ (i := 1) (N := some 24) (v := ?_) (a' := ?_) #[true, true, false, false, false, false, false, false, false, false] rfl rfl (any_of HT_.out (by kernel_rfl)) (fun _ _ _ h => h) (Or.inl ⟨by rfl, ?_⟩) ?_ ?_
    rotate_left
    ·intro w'
     go_simp
     with_reducible rfl
    rotate_left
    ·simp only [Act.put, List.setIfInBounds_toArray, List.set_cons_zero, List.set_cons_succ, i64_w, i32_w]
     rfl
    refine pure_ (i := 3) (N := some 26) (v := ?_) (a' := ?_) #[true, true, false, true, false, false, false, false, false, false] rfl rfl (any_of HT_.out (by kernel_rfl)) (fun _ _ _ h => h) (Or.inl ⟨by rfl, ?_⟩) ?_ ?_
    rotate_left
    ·intro w'
     go_simp
     with_reducible rfl
    rotate_left
    ·simp only [Act.put, List.setIfInBounds_toArray, List.set_cons_zero, List.set_cons_succ, i64_w, i32_w]
     rfl
    refine pure_ (i := 6) (N := some 29) (v := ?_) (a' := ?_) #[true, true, false, true, false, false, true, false, false, false] rfl rfl (any_of HT_.out (by kernel_rfl)) (fun _ _ _ h => h) (Or.inl ⟨by rfl, ?_⟩) ?_ ?_
    rotate_left
    ·intro w'
     go_simp
     with_reducible rfl
    rotate_left
    ·simp only [Act.put, List.setIfInBounds_toArray, List.set_cons_zero, List.set_cons_succ, i64_w, i32_w]
     rfl
    refine take_ (i := 4) (N := some 27) (v := ?_) (a' := ?_) #[true, true, false, true, true, false, true, false, false, false] rfl rfl (take_ofW HT_.out HW_.out (by kernel_rfl)) (fun _ _ _ h => h) (Or.inl ⟨by rfl, ?_⟩) hHeld ?_ ?_
    rotate_left
    ·rintro w' ⟨s0, s1, s2, s3, s4, s5⟩
     go_simp
     with_reducible rfl
    rotate_left
    ·simp only [Act.put, List.setIfInBounds_toArray, List.set_cons_zero, List.set_cons_succ, i64_w, i32_w]
     rfl
    refine take_ (i := 7) (N := some 30) (v := ?_) (a' := ?_) #[true, true, false, true, true, false, true, true, false, false] rfl rfl (take_ofW HT_.out HW_.out (by kernel_rfl)) (fun _ _ _ h => h) (Or.inl ⟨by rfl, ?_⟩) hHeld ?_ ?_
    rotate_left
    ·rintro w' ⟨s0, s1, s2, s3, s4, s5⟩
     go_simp
     with_reducible rfl
    rotate_left
    ·simp only [Act.put, List.setIfInBounds_toArray, List.set_cons_zero, List.set_cons_succ, i64_w, i32_w]
     rfl
    refine one_ (i := 2) (N := some 25) #[true, true, true, true, true, false, true, true, false, false] rfl rfl (one_of HT_.out (by kernel_rfl)) (by decide) (fun K hK => ?_)
    refine goes_ Try.func68 (by kernel_rfl) rfl #[.int .i64 t244, .int .i64 t244] (by rfl) rfl rfl (by (try simp only [List.map_toArray, List.map_cons, List.map_nil]); first | done | rfl | (simp only [List.length_drop, List.length_take]; rfl)) ?_
    with_reducible refine (impl_FpMul.calls t244 t244 t246 _ A25.out).mono ?_
    rintro e w' ⟨rfl, ⟨nd, rfl⟩⟩
    refine ⟨_, rfl, ?_⟩
    refine hK.out _ _ ⟨bc BK241 0, bc BK241 1, bc BK241 2, bc BK242 0, bc BK242 1, bc BK242 2⟩ (fun hHeld => ?_)
    clear hK K
    refine norm_ (a' := ?_) ?_ ?_
    rotate_left
    ·show Act.put _ (some 25) _ = _
     simp only [Act.put, List.setIfInBounds_toArray, List.set_cons_zero, List.set_cons_succ, i64_w, i32_w]
     rfl
    refine one_ (i := 5) (N := some 28) #[true, true, true, true, true, true, true, true, false, false] rfl rfl (one_of HT_.out (by kernel_rfl)) (by decide) (fun K hK => ?_)
    refine goes_ Try.func76 (by kernel_rfl) rfl #[.int .i64 t246, .int .i64 a0_0] (by rfl) rfl rfl (by (try simp only [List.map_toArray, List.map_cons, List.map_nil]); first | done | rfl | (simp only [List.length_drop, List.length_take]; rfl)) ?_
    with_reducible refine (impl_FpSub.calls t246 a0_0 t247 _ A26.out).mono ?_
    rintro e w' ⟨rfl, ⟨nd, rfl⟩⟩
    refine ⟨_, rfl, ?_⟩
    refine hK.out _ _ ⟨bc BK241 0, bc BK241 1, bc BK241 2, bc BK242 0, bc BK242 1, bc BK242 2⟩ (fun hHeld => ?_)
    clear hK K
    refine norm_ (a' := ?_) ?_ ?_
    rotate_left
    ·show Act.put _ (some 28) _ = _
     simp only [Act.put, List.setIfInBounds_toArray, List.set_cons_zero, List.set_cons_succ, i64_w, i32_w]
     rfl
    refine one_ (i := 8) (N := some 31) #[true, true, true, true, true, true, true, true, true, false] rfl rfl (one_of HT_.out (by kernel_rfl)) (by decide) (fun K hK => ?_)
    refine goes_ Try.func76 (by kernel_rfl) rfl #[.int .i64 t247, .int .i64 a1_0] (by rfl) rfl rfl (by (try simp only [List.map_toArray, List.map_cons, List.map_nil]); first | done | rfl | (simp only [List.length_drop, List.length_take]; rfl)) ?_
    with_reducible refine (impl_FpSub.calls t247 a1_0 t248 _ A27.out).mono ?_
    rintro e w' ⟨rfl, ⟨nd, rfl⟩⟩
    refine ⟨_, rfl, ?_⟩
    refine hK.out _ _ ⟨bc BK241 0, bc BK241 1, bc BK241 2, bc BK242 0, bc BK242 1, bc BK242 2⟩ (fun hHeld => ?_)
    clear hK K
    refine norm_ (a' := ?_) ?_ ?_
    rotate_left
    ·show Act.put _ (some 31) _ = _
     simp only [Act.put, List.setIfInBounds_toArray, List.set_cons_zero, List.set_cons_succ, i64_w, i32_w]
     rfl
    refine pure_ (i := 9) (N := some 7) (v := ?_) (a' := ?_) #[true, true, true, true, true, true, true, true, true, true] rfl rfl (any_of HT_.out (by kernel_rfl)) (fun _ _ _ h => h) (Or.inl ⟨by rfl, ?_⟩) ?_ ?_
    rotate_left
    ·intro w'
     go_simp
     with_reducible rfl
    rotate_left
    ·simp only [Act.put, List.setIfInBounds_toArray, List.set_cons_zero, List.set_cons_succ, i64_w, i32_w]
     rfl
    refine done_ (done_of HT_.out (by kernel_rfl)) ?_
    try go_wp2
    (try simp only [World.drewN_drewN]); (try (rw [drewN_self w40]; generalize hq_ : World.drewN w40 _ = w40; replace BK241 : Aside0 (w40.heap[gb241]? = some (.cells #[.int .i64 a0_0, .int .i64 a0_1, .bool false] 48 (0, 0))) := ⟨by rw [← hq_]; exact (bP BK241)⟩; replace BK242 : Aside0 (w40.heap[gb242]? = some (.cells #[.int .i64 a1_0, .int .i64 a1_1, .bool false] 48 (0, 0))) := ⟨by rw [← hq_]; exact (bP BK242)⟩; replace BK243 : Aside0 (w40.heap[gb243]? = some (.cells #[.int .i64 0, .int .i64 0, .bool false] 48 (0, 0))) := ⟨by rw [← hq_]; exact (bP BK243)⟩; replace HB : Aside0 (Below w.heap.size w w40) := ⟨by rw [← hq_]; exact (bZ HB)⟩; clear hq_))
    replace BK241 := Aside0.mk (blk_drew BK241.out)
    replace BK242 := Aside0.mk (blk_drew BK242.out)
    replace BK243 := Aside0.mk (blk_drew BK243.out)
    replace HB := Aside0.mk (below_drew1 HB.out)
    refine start_ (n := 12) (S := fun w' => w'.cell? ⟨gb241, 0, none⟩ = some (.int .i64 a0_0) ∧ w'.cell? ⟨gb241, 1, none⟩ = some (.int .i64 a0_1) ∧ w'.cell? ⟨gb241, 2, none⟩ = some (.bool false)) (ds := []) #[false, false, false, false, false, false, false, false, false, false, false, false] (by kernel_rfl) rfl rfl ⟨bc BK241 0, bc BK241 1, bc BK241 2⟩ (fun hHeld => ?_); refine with_tabW impl_add.tab9 impl_add.bits9 (fun HT_ HW_ => ?_)
    generalize w40.drew = w41 at BK241 BK242 BK243 HB hHeld ⊢
    refine pure_ (i := 0) (N := some 32) (v := ?_) (a' := ?_) #[true, false, false, false, false, false, false, false, false, false, false, false] rfl rfl (any_of HT_.out (by kernel_rfl)) (fun _ _ _ h => h) (Or.inl ⟨by rfl, ?_⟩) ?_ ?_
    rotate_left
    ·intro w'
     go_simp
     with_reducible rfl
    rotate_left
    ·simp only [Act.put, List.setIfInBounds_toArray, List.set_cons_zero, List.set_cons_succ, i64_w, i32_w]
     rfl
    refine pure_ (i := 1) (N := some 33) (v := ?_) (a' := ?_) #[true, true, false, false, false, false, false, false, false, false, false, false] rfl rfl (any_of HT_.out (by kernel_rfl)) (fun _ _ _ h => h) (Or.inl ⟨by rfl, ?_⟩) ?_ ?_
    rotate_left
    ·intro w'
     go_simp
     with_reducible rfl
    rotate_left
    ·simp only [Act.put, List.setIfInBounds_toArray, List.set_cons_zero, List.set_cons_succ, i64_w, i32_w]
     rfl
    refine pure_ (i := 2) (N := some 34) (v := ?_) (a' := ?_) #[true, true, true, false, false, false, false, false, false, false, false, false] rfl rfl (any_of HT_.out (by kernel_rfl)) (fun _ _ _ h => h) (Or.inl ⟨by rfl, ?_⟩) ?_ ?_
    rotate_left
    ·intro w'
     go_simp
     with_reducible rfl
    rotate_left
    ·simp only [Act.put, List.setIfInBounds_toArray, List.set_cons_zero, List.set_cons_succ, i64_w, i32_w]
     rfl
    refine pure_ (i := 4) (N := some 36) (v := ?_) (a' := ?_) #[true, true, true, false, true, false, false, false, false, false, false, false] rfl rfl (any_of HT_.out (by kernel_rfl)) (fun _ _ _ h => h) (Or.inl ⟨by rfl, ?_⟩) ?_ ?_
    rotate_left
    ·intro w'
     go_simp
     with_reducible rfl
    rotate_left
    ·simp only [Act.put, List.setIfInBounds_toArray, List.set_cons_zero, List.set_cons_succ, i64_w, i32_w]
     rfl
    refine pure_ (i := 7) (N := some 39) (v := ?_) (a' := ?_) #[true, true, true, false, true, false, false, true, false, false, false, false] rfl rfl (any_of HT_.out (by kernel_rfl)) (fun _ _ _ h => h) (Or.inl ⟨by rfl, ?_⟩) ?_ ?_
    rotate_left
    ·intro w'
     go_simp
     with_reducible rfl
    rotate_left
    ·simp only [Act.put, List.setIfInBounds_toArray, List.set_cons_zero, List.set_cons_succ, i64_w, i32_w]
     rfl
    refine take_ (i := 3) (N := some 35) (v := ?_) (a' := ?_) #[true, true, true, true, true, false, false, true, false, false, false, false] rfl rfl (take_ofW HT_.out HW_.out (by kernel_rfl)) (fun _ _ _ h => h) (Or.inl ⟨by rfl, ?_⟩) hHeld ?_ ?_
    rotate_left
    ·rintro w' ⟨s0, s1, s2⟩
     go_simp
     with_reducible rfl
    rotate_left
    ·simp only [Act.put, List.setIfInBounds_toArray, List.set_cons_zero, List.set_cons_succ, i64_w, i32_w]
     rfl
    refine take_ (i := 8) (N := some 40) (v := ?_) (a' := ?_) #[true, true, true, true, true, false, false, true, true, false, false, false] rfl rfl (take_ofW HT_.out HW_.out (by kernel_rfl)) (fun _ _ _ h => h) (Or.inl ⟨by rfl, ?_⟩) hHeld ?_ ?_
    rotate_left
    ·rintro w' ⟨s0, s1, s2⟩
     go_simp
     with_reducible rfl
    rotate_left
    ·simp only [Act.put, List.setIfInBounds_toArray, List.set_cons_zero, List.set_cons_succ, i64_w, i32_w]
     rfl
    refine one_ (i := 5) (N := some 37) #[true, true, true, true, true, true, false, true, true, false, false, false] rfl rfl (one_of HT_.out (by kernel_rfl)) (by decide) (fun K hK => ?_)
    refine goes_ Try.func76 (by kernel_rfl) rfl #[.int .i64 a0_0, .int .i64 t248] (by rfl) rfl rfl (by (try simp only [List.map_toArray, List.map_cons, List.map_nil]); first | done | rfl | (simp only [List.length_drop, List.length_take]; rfl)) ?_
    with_reducible refine (impl_FpSub.calls a0_0 t248 t249 _ A28.out).mono ?_
    rintro e w' ⟨rfl, ⟨nd, rfl⟩⟩
    refine ⟨_, rfl, ?_⟩
    refine hK.out _ _ ⟨bc BK241 0, bc BK241 1, bc BK241 2⟩ (fun hHeld => ?_)
    clear hK K
    refine norm_ (a' := ?_) ?_ ?_
    rotate_left
    ·show Act.put _ (some 37) _ = _
     simp only [Act.put, List.setIfInBounds_toArray, List.set_cons_zero, List.set_cons_succ, i64_w, i32_w]
     rfl
    refine one_ (i := 6) (N := some 38) #[true, true, true, true, true, true, true, true, true, false, false, false] rfl rfl (one_of HT_.out (by kernel_rfl)) (by decide) (fun K hK => ?_)
    refine goes_ Try.func68 (by kernel_rfl) rfl #[.int .i64 t244, .int .i64 t249] (by rfl) rfl rfl (by (try simp only [List.map_toArray, List.map_cons, List.map_nil]); first | done | rfl | (simp only [List.length_drop, List.length_take]; rfl)) ?_
    with_reducible refine (impl_FpMul.calls t244 t249 t250 _ A29.out).mono ?_
    rintro e w' ⟨rfl, ⟨nd, rfl⟩⟩
    refine ⟨_, rfl, ?_⟩
    refine hK.out _ _ ⟨bc BK241 0, bc BK241 1, bc BK241 2⟩ (fun hHeld => ?_)
    clear hK K
    refine norm_ (a' := ?_) ?_ ?_
    rotate_left
    ·show Act.put _ (some 38) _ = _
     simp only [Act.put, List.setIfInBounds_toArray, List.set_cons_zero, List.set_cons_succ, i64_w, i32_w]
     rfl
    refine one_ (i := 9) (N := some 41) #[true, true, true, true, true, true, true, true, true, true, false, false] rfl rfl (one_of HT_.out (by kernel_rfl)) (by decide) (fun K hK => ?_)
    refine goes_ Try.func76 (by kernel_rfl) rfl #[.int .i64 t250, .int .i64 a0_1] (by rfl) rfl rfl (by (try simp only [List.map_toArray, List.map_cons, List.map_nil]); first | done | rfl | (simp only [List.length_drop, List.length_take]; rfl)) ?_
    with_reducible refine (impl_FpSub.calls t250 a0_1 t251 _ A30.out).mono ?_
    rintro e w' ⟨rfl, ⟨nd, rfl⟩⟩
    refine ⟨_, rfl, ?_⟩
    refine hK.out _ _ ⟨bc BK241 0, bc BK241 1, bc BK241 2⟩ (fun hHeld => ?_)
    clear hK K
    refine norm_ (a' := ?_) ?_ ?_
    rotate_left
    ·show Act.put _ (some 41) _ = _
     simp only [Act.put, List.setIfInBounds_toArray, List.set_cons_zero, List.set_cons_succ, i64_w, i32_w]
     rfl
    refine pure_ (i := 10) (N := some 42) (v := ?_) (a' := ?_) #[true, true, true, true, true, true, true, true, true, true, true, false] rfl rfl (any_of HT_.out (by kernel_rfl)) (fun _ _ _ h => h) (Or.inl ⟨by rfl, ?_⟩) ?_ ?_
    rotate_left
    ·intro w'
     go_simp
     with_reducible rfl
    rotate_left
    ·simp only [Act.put, List.setIfInBounds_toArray, List.set_cons_zero, List.set_cons_succ, i64_w, i32_w]
     rfl
    refine one_ (i := 11) (N := none) #[true, true, true, true, true, true, true, true, true, true, true, true] rfl rfl (one_of HT_.out (by kernel_rfl)) (by decide) (fun K hK => ?_)
    have hs42 : w41.cell? ⟨gb243, 0, none⟩ = some (.int .i64 0) := bc BK243 0
    have hfs42 := blk_frozen BK243.out 0
    have hns42_0 := NB241_243.out
    have hns42_1 := NB242_243.out
    have hms42_0 := NB243_241.out
    have hms42_1 := NB243_242.out
    have hs43 : w41.cell? ⟨gb243, 1, none⟩ = some (.int .i64 0) := bc BK243 1
    have hfs43 := blk_frozen BK243.out 1
    have hns43_0 := NB241_243.out
    have hns43_1 := NB242_243.out
    have hms43_0 := NB243_241.out
    have hms43_1 := NB243_242.out
    have hs44 : w41.cell? ⟨gb243, 2, none⟩ = some (.bool false) := bc BK243 2
    have hfs44 := blk_frozen BK243.out 2
    have hns44_0 := NB241_243.out
    have hns44_1 := NB242_243.out
    have hms44_0 := NB243_241.out
    have hms44_1 := NB243_242.out
    refine skip_ (w1 := ?_) (by rfl) rfl ?_ ?_
    rotate_left
    ·go_simp
     rfl
    refine hK.out _ _ ⟨((cell_far (p := ⟨gb243, _, none⟩) NB241_243.out _).trans (((cell_far (p := ⟨gb243, _, none⟩) NB241_243.out _).trans (((cell_far (p := ⟨gb243, _, none⟩) NB241_243.out _).trans (hHeld.1)))))), ((cell_far (p := ⟨gb243, _, none⟩) NB241_243.out _).trans (((cell_far (p := ⟨gb243, _, none⟩) NB241_243.out _).trans (((cell_far (p := ⟨gb243, _, none⟩) NB241_243.out _).trans (hHeld.2.1)))))), ((cell_far (p := ⟨gb243, _, none⟩) NB241_243.out _).trans (((cell_far (p := ⟨gb243, _, none⟩) NB241_243.out _).trans (((cell_far (p := ⟨gb243, _, none⟩) NB241_243.out _).trans (hHeld.2.2))))))⟩ (fun hHeld => ?_)
    clear hK K
    refine done_ (done_of HT_.out (by kernel_rfl)) ?_
    try go_wp2
    refine bodyPost_ret (results_cell_row rfl _ _ gb243 48 #[.int .i64 t248, .int .i64 t251, .bool false] (0, 0) _ rfl (by (with_reducible repeat (first | refine blk_drewN ?_ _ | refine blk_drew ?_ | refine blk_alloc ?_ _)); refine blk_put (cs := #[.int .i64 t248, .int .i64 t251, .bool false]) ?_ 2 _ rfl; (with_reducible repeat (first | refine blk_drewN ?_ _ | refine blk_drew ?_ | refine blk_alloc ?_ _)); refine blk_put (cs := #[.int .i64 t248, .int .i64 0, .bool false]) ?_ 1 _ rfl; (with_reducible repeat (first | refine blk_drewN ?_ _ | refine blk_drew ?_ | refine blk_alloc ?_ _)); refine blk_put (cs := #[.int .i64 0, .int .i64 0, .bool false]) ?_ 0 _ rfl; (with_reducible repeat (first | refine blk_drewN ?_ _ | refine blk_drew ?_ | refine blk_alloc ?_ _)); exact BK243.out) Try.underlying48 rfl (by kernel_rfl)) rfl ?_
    exact ⟨by first | rfl | (simp [errW_none, errW_some] <;> rfl) | (simp [*, errW_none, errW_some] <;> rfl), bZ HB⟩
   ·replace c24 := Bool.eq_false_iff.mpr c24
    subst c24
    have H1 : (some (0, 0, true)) = some (r1, r2, r3) := by rw [if_neg (show ¬ (false = true) by decide)] at H; exact H
    clear H
    have H := H1
    clear H1
    simp only [Option.some.injEq, Prod.mk.injEq] at H
    obtain ⟨rfl, rfl, rfl⟩ := H
    go_enter Try.func69, Try.ntmps69
    go_wp2_with (first | ((with_reducible refine gate_dst (N := 2) rfl ?_); refine box_event ?hg (N := 2) ?hd (cs := #[.int .i64 a0_0, .int .i64 a0_1, .bool false]) (t := 48) ?hr ?_; (case hd => rfl); (case hg => rfl); (case hr => first | (go_simp; done) | (go_simp; rfl)); intro gb241 hg w45 hbox hb; have BK241 := Aside0.mk (hbox); have GW241 := bG HB hg; have GE241 := bG HB hg; replace HB := bS HB hb; clear hb hbox hg) | ((with_reducible refine gate_dst (N := 3) rfl ?_); refine box_event ?hg (N := 3) ?hd (cs := #[.int .i64 a1_0, .int .i64 a1_1, .bool false]) (t := 48) ?hr ?_; (case hd => rfl); (case hg => rfl); (case hr => first | (go_simp; done) | (go_simp; rfl)); intro gb242 hg w46 hbox hb; have BK242 := Aside0.mk (hbox); have GW242 := bG HB hg; have GE242 := bG HB hg; replace HB := bS HB hb; have NB241_242 := bL BK241 hg; have NB242_241 := bR BK241 hg; replace BK241 := bB BK241 hb; clear hb hbox hg) | ((with_reducible refine gate_dst (N := 4) rfl ?_); refine box_event ?hg (N := 4) ?hd (cs := #[.int .i64 0, .int .i64 0, .bool false]) (t := 48) ?hr ?_; (case hd => rfl); (case hg => rfl); (case hr => first | (go_simp; done) | (go_simp; rfl)); intro gb243 hg w47 hbox hb; have BK243 := Aside0.mk (hbox); have GW243 := bG HB hg; have GE243 := bG HB hg; replace HB := bS HB hb; have NB241_243 := bL BK241 hg; have NB243_241 := bR BK241 hg; replace BK241 := bB BK241 hb; have NB242_243 := bL BK242 hg; have NB243_242 := bR BK242 hg; replace BK242 := bB BK242 hb; clear hb hbox hg; have hnb48 := NB241_242.out; have hnc48 := NB242_241.out; have hnb49 := NB241_243.out; have hnc49 := NB243_241.out; have hcz50_0 : w47.cell? ⟨gb241, 0, none⟩ = some (.int .i64 a0_0) := bc BK241 0; have hcz50_1 : w47.cell? ⟨gb241, 1, none⟩ = some (.int .i64 a0_1) := bc BK241 1; have hcz50_2 : w47.cell? ⟨gb241, 2, none⟩ = some (.bool false) := bc BK241 2; have hfz50_0 := blk_frozen BK241.out 0; have hfz50_1 := blk_frozen BK241.out 1; have hfz50_2 := blk_frozen BK241.out 2; have hnb51 := NB242_243.out; have hnc51 := NB243_242.out; have hcz52_0 : w47.cell? ⟨gb242, 0, none⟩ = some (.int .i64 a1_0) := bc BK242 0; have hcz52_1 : w47.cell? ⟨gb242, 1, none⟩ = some (.int .i64 a1_1) := bc BK242 1; have hcz52_2 : w47.cell? ⟨gb242, 2, none⟩ = some (.bool false) := bc BK242 2; have hfz52_0 := blk_frozen BK242.out 0; have hfz52_1 := blk_frozen BK242.out 1; have hfz52_2 := blk_frozen BK242.out 2) | ((with_reducible refine gate_callee (f := 78) rfl ?_); refine goesL_ (some 17) rfl rfl Try.func78 (by kernel_rfl) rfl #[.agg #[.int .i64 a0_0, .int .i64 a0_1, .bool false], .agg #[.int .i64 a1_0, .int .i64 a1_1, .bool false]] rfl (by (try simp only [List.map_toArray, List.map_cons, List.map_nil]); first | done | rfl | (simp only [List.length_drop, List.length_take]; rfl)) ?_; (with_reducible refine (impl_slopeOf.calls k a0_0 a0_1 false a1_0 a1_1 false t244 false _ A23.out).mono ?_); rintro e w53 ⟨rfl, hb⟩; refine ⟨_, rfl, ?_⟩; replace BK241 := bB BK241 hb; replace BK242 := bB BK242 hb; replace BK243 := bB BK243 hb; replace HB := bS HB hb; (try clear hb); (try clear hb2); (try clear hk); (try clear hi); have hcz54_0 : w53.cell? ⟨gb243, 0, none⟩ = some (.int .i64 0) := bc BK243 0; have hcz54_1 : w53.cell? ⟨gb243, 1, none⟩ = some (.int .i64 0) := bc BK243 1; have hcz54_2 : w53.cell? ⟨gb243, 2, none⟩ = some (.bool false) := bc BK243 2; have hfz54_0 := blk_frozen BK243.out 0; have hfz54_1 := blk_frozen BK243.out 1; have hfz54_2 := blk_frozen BK243.out 2))
    refine bodyPost_ret (results_cell_row rfl _ _ gb243 48 #[.int .i64 0, .int .i64 0, .bool true] (0, 0) _ rfl (by (with_reducible repeat (first | refine blk_drewN ?_ _ | refine blk_drew ?_ | refine blk_alloc ?_ _)); refine blk_put (cs := #[.int .i64 0, .int .i64 0, .bool false]) ?_ 2 _ rfl; (with_reducible repeat (first | refine blk_drewN ?_ _ | refine blk_drew ?_ | refine blk_alloc ?_ _)); refine blk_put (cs := #[.int .i64 0, .int .i64 0, .bool false]) ?_ 1 _ rfl; (with_reducible repeat (first | refine blk_drewN ?_ _ | refine blk_drew ?_ | refine blk_alloc ?_ _)); refine blk_put (cs := #[.int .i64 0, .int .i64 0, .bool false]) ?_ 0 _ rfl; (with_reducible repeat (first | refine blk_drewN ?_ _ | refine blk_drew ?_ | refine blk_alloc ?_ _)); exact BK243.out) Try.underlying48 rfl (by kernel_rfl)) rfl ?_
    exact ⟨by first | rfl | (simp [errW_none, errW_some] <;> rfl) | (simp [*, errW_none, errW_some] <;> rfl), bZ HB⟩
/-! ### impl_PointTimes: function 48 -/
def impl_PointTimes.l0 : Nat → Int → Int → Int → Bool → Int → Int → Bool → Option (Int × Int × Bool)
 | 0, _, _, _, _, _, _, _ => none
 | k + 1, x0, x253000, x253001, x253002, x255000, x255001, x255002 => if x0 > 0 then (if (Int.tmod x0 2) = 1 then ((impl_add.f k x255000 x255001 x255002 x253000 x253001 x253002).bind fun bt257 => ((impl_add.f k x253000 x253001 x253002 x253000 x253001 x253002).bind fun bt260 => (impl_PointTimes.l0 k (wrap64 (Int.tdiv x0 2)) bt260.1 bt260.2.1 bt260.2.2 bt257.1 bt257.2.1 bt257.2.2))) else ((impl_add.f k x253000 x253001 x253002 x253000 x253001 x253002).bind fun bt263 => (impl_PointTimes.l0 k (wrap64 (Int.tdiv x0 2)) bt263.1 bt263.2.1 bt263.2.2 x255000 x255001 x255002))) else (some (x255000, x255001, x255002))
def impl_PointTimes.f (k : Nat) (a0 : Int) (a1_0 : Int) (a1_1 : Int) (a1_2 : Bool) : Option (Int × Int × Bool) := (impl_PointOk.f a1_0 a1_1 a1_2).bind fun t255 => (if t255 = true then ((impl_remainder.f a0 12108).bind fun t256 => (impl_PointTimes.l0 k t256 a1_0 a1_1 a1_2 0 0 true)) else (some (0, 0, true)))
theorem impl_PointTimes.mono_l : ∀ k, (∀ y0 y1 y2 y3 y4 y5 y6, LeO (impl_PointTimes.l0 k y0 y1 y2 y3 y4 y5 y6) (impl_PointTimes.l0 (k + 1) y0 y1 y2 y3 y4 y5 y6))
 | 0 => fun _ _ _ _ _ _ _ r h => by simp [impl_PointTimes.l0] at h
 | k + 1 => by
  have ih0 := impl_PointTimes.mono_l k
  ·intro y0 y1 y2 y3 y4 y5 y6
   unfold impl_PointTimes.l0
   repeat' first
   | (with_reducible exact ih0 _ _ _ _ _ _ _)
   | (with_reducible exact impl_add.mono _ _ _ _ _ _ _)
   | (with_reducible exact LeO.refl _)
   | (with_reducible exact LeO.none _)
   | (with_reducible refine LeO.ite ?_ ?_)
   | (with_reducible refine LeO.bind ?_ (fun _ => ?_))
   | exact ih0 _ _ _ _ _ _ _
   | exact impl_add.mono _ _ _ _ _ _ _
   | exact LeO.none _
   | refine LeO.ite ?_ ?_
   | refine LeO.bind ?_ (fun _ => ?_)
theorem impl_PointTimes.mono : ∀ a0 a1 a2 a3 k, LeO (impl_PointTimes.f k a0 a1 a2 a3) (impl_PointTimes.f (k + 1) a0 a1 a2 a3) := by
 intro a0 a1 a2 a3 k
 have ih0 := impl_PointTimes.mono_l k
 unfold impl_PointTimes.f
 repeat' first
   | (with_reducible exact ih0 _ _ _ _ _ _ _)
   | (with_reducible exact impl_add.mono _ _ _ _ _ _ _)
   | (with_reducible exact LeO.refl _)
   | (with_reducible exact LeO.none _)
   | (with_reducible refine LeO.ite ?_ ?_)
   | (with_reducible refine LeO.bind ?_ (fun _ => ?_))
   | exact ih0 _ _ _ _ _ _ _
   | exact impl_add.mono _ _ _ _ _ _ _
   | exact LeO.none _
   | refine LeO.ite ?_ ?_
   | refine LeO.bind ?_ (fun _ => ?_)
set_option maxHeartbeats 8000000 in
set_option maxRecDepth 100000 in
theorem impl_PointTimes.calls (k : Nat) (a0 : Int) (a1_0 : Int) (a1_1 : Int) (a1_2 : Bool) (r1 : Int) (r2 : Int) (r3 : Bool) (w : World) (h : impl_PointTimes.f k a0 a1_0 a1_1 a1_2 = some (r1, r2, r3)) :
  Calls Try.prog 48 #[.int .i64 a0, .agg #[.int .i64 a1_0, .int .i64 a1_1, .bool a1_2]] w fun e w' => e = .returned (.agg #[.int .i64 r1, .int .i64 r2, .bool r3]) ∧ Below w.heap.size w w' := by
 have hu48 := Try.underlying48
 have HB := Aside0.mk (Below.refl w.heap.size w)
 have H : ((impl_PointOk.f a1_0 a1_1 a1_2).bind fun t255 => (if t255 = true then ((impl_remainder.f a0 12108).bind fun t256 => (impl_PointTimes.l0 k t256 a1_0 a1_1 a1_2 0 0 true)) else (some (0, 0, true)))) = some (r1, r2, r3) := h
 clear h
 replace H := Option.bind_eq_some_iff.mp H
 obtain ⟨t255, A30, H⟩ := H
 replace H : (if t255 = true then ((impl_remainder.f a0 12108).bind fun t256 => (impl_PointTimes.l0 k t256 a1_0 a1_1 a1_2 0 0 true)) else (some (0, 0, true))) = some (r1, r2, r3) := H
 have A3 := Aside0.mk A30
 clear A30
 by_cases c4 : t255 = true
 ·subst c4
  have H1 : ((impl_remainder.f a0 12108).bind fun t256 => (impl_PointTimes.l0 k t256 a1_0 a1_1 a1_2 0 0 true)) = some (r1, r2, r3) := by rw [if_pos rfl] at H; exact H
  clear H
  have H := H1
  clear H1
  replace H := Option.bind_eq_some_iff.mp H
  obtain ⟨t256, A50, H⟩ := H
  replace H : (impl_PointTimes.l0 k t256 a1_0 a1_1 a1_2 0 0 true) = some (r1, r2, r3) := H
  have A5 := Aside0.mk A50
  clear A50
  have H' := Aside0.mk H
  clear H
  go_enter Try.func48, Try.ntmps48
  go_wp2_with (first | ((with_reducible refine gate_dst (N := 3) rfl ?_); refine box_event ?hg (N := 3) ?hd (cs := #[.int .i64 a1_0, .int .i64 a1_1, .bool a1_2]) (t := 48) ?hr ?_; (case hd => rfl); (case hg => rfl); (case hr => first | (go_simp; done) | (go_simp; rfl)); intro gb252 hg w6 hbox hb; have BK252 := Aside0.mk (hbox); have GW252 := bG HB hg; have GE252 := bG HB hg; replace HB := bS HB hb; clear hb hbox hg) | ((with_reducible refine gate_dst (N := 4) rfl ?_); refine box_event ?hg (N := 4) ?hd (cs := #[.int .i64 0, .int .i64 0, .bool false]) (t := 48) ?hr ?_; (case hd => rfl); (case hg => rfl); (case hr => first | (go_simp; done) | (go_simp; rfl)); intro gb253 hg w7 hbox hb; have BK253 := Aside0.mk (hbox); have GW253 := bG HB hg; have GE253 := bG HB hg; replace HB := bS HB hb; have NB252_253 := bL BK252 hg; have NB253_252 := bR BK252 hg; replace BK252 := bB BK252 hb; clear hb hbox hg) | ((with_reducible refine gate_dst (N := 5) rfl ?_); refine box_event ?hg (N := 5) ?hd (cs := #[.int .i64 0, .int .i64 0, .bool false]) (t := 48) ?hr ?_; (case hd => rfl); (case hg => rfl); (case hr => first | (go_simp; done) | (go_simp; rfl)); intro gb254 hg w8 hbox hb; have BK254 := Aside0.mk (hbox); have GW254 := bG HB hg; have GE254 := bG HB hg; replace HB := bS HB hb; have NB252_254 := bL BK252 hg; have NB254_252 := bR BK252 hg; replace BK252 := bB BK252 hb; have NB253_254 := bL BK253 hg; have NB254_253 := bR BK253 hg; replace BK253 := bB BK253 hb; clear hb hbox hg; have hnb9 := NB254_252.out; have hnc9 := NB252_254.out; have hnb10 := NB254_253.out; have hnc10 := NB253_254.out; have hcz11_0 : w8.cell? ⟨gb254, 0, none⟩ = some (.int .i64 0) := bc BK254 0; have hcz11_1 : w8.cell? ⟨gb254, 1, none⟩ = some (.int .i64 0) := bc BK254 1; have hcz11_2 : w8.cell? ⟨gb254, 2, none⟩ = some (.bool false) := bc BK254 2; have hfz11_0 := blk_frozen BK254.out 0; have hfz11_1 := blk_frozen BK254.out 1; have hfz11_2 := blk_frozen BK254.out 2; have hnb12 := NB252_253.out; have hnc12 := NB253_252.out; have hcz13_0 : w8.cell? ⟨gb252, 0, none⟩ = some (.int .i64 a1_0) := bc BK252 0; have hcz13_1 : w8.cell? ⟨gb252, 1, none⟩ = some (.int .i64 a1_1) := bc BK252 1; have hcz13_2 : w8.cell? ⟨gb252, 2, none⟩ = some (.bool a1_2) := bc BK252 2; have hfz13_0 := blk_frozen BK252.out 0; have hfz13_1 := blk_frozen BK252.out 1; have hfz13_2 := blk_frozen BK252.out 2) | ((with_reducible refine gate_callee (f := 47) rfl ?_); refine goesL_ (some 8) rfl rfl Try.func47 (by kernel_rfl) rfl #[.agg #[.int .i64 a1_0, .int .i64 a1_1, .bool a1_2]] rfl (by (try simp only [List.map_toArray, List.map_cons, List.map_nil]); first | done | rfl | (simp only [List.length_drop, List.length_take]; rfl)) ?_; (with_reducible refine (impl_PointOk.calls a1_0 a1_1 a1_2 true _ A3.out).mono ?_); rintro e w14 ⟨rfl, hb⟩; refine ⟨_, rfl, ?_⟩; replace BK252 := bB BK252 hb; replace BK253 := bB BK253 hb; replace BK254 := Aside0.mk (blk_below (g := gb254) (o := .cells #[.int .i64 0, .int .i64 0, .bool true] 48 (0, 0)) (by (with_reducible repeat (first | refine blk_drewN ?_ _ | refine blk_drew ?_ | refine blk_alloc ?_ _)); refine blk_put (cs := #[.int .i64 0, .int .i64 0, .bool false]) ?_ 2 _ rfl; (with_reducible repeat (first | refine blk_drewN ?_ _ | refine blk_drew ?_ | refine blk_alloc ?_ _)); refine blk_put (cs := #[.int .i64 0, .int .i64 0, .bool false]) ?_ 1 _ rfl; (with_reducible repeat (first | refine blk_drewN ?_ _ | refine blk_drew ?_ | refine blk_alloc ?_ _)); refine blk_put (cs := #[.int .i64 0, .int .i64 0, .bool false]) ?_ 0 _ rfl; (with_reducible repeat (first | refine blk_drewN ?_ _ | refine blk_drew ?_ | refine blk_alloc ?_ _)); exact BK254.out) hb); replace HB := bS HB hb; (try clear hb); (try clear hb2); (try clear hk); (try clear hi)) | ((with_reducible refine gate_callee (f := 51) rfl ?_); refine goesL_ (some 12) rfl rfl Try.func51 (by kernel_rfl) rfl #[.int .i64 a0, .int .i64 12108] rfl (by (try simp only [List.map_toArray, List.map_cons, List.map_nil]); first | done | rfl | (simp only [List.length_drop, List.length_take]; rfl)) ?_; (with_reducible refine (impl_remainder.calls a0 12108 t256 _ A5.out).mono ?_); rintro e w' ⟨rfl, ⟨nd, rfl⟩⟩; refine ⟨_, rfl, ?_⟩))
  go_loopg [0] k (fun kq v0 w' => ∃ (x0_1 : Int) (x253000_1 : Int) (x253001_1 : Int) (x253002_1 : Bool) (x255000_1 : Int) (x255001_1 : Int) (x255002_1 : Bool), v0 = .int .i64 x0_1 ∧ Aside0 (impl_PointTimes.l0 kq x0_1 x253000_1 x253001_1 x253002_1 x255000_1 x255001_1 x255002_1 = some (r1, r2, r3)) ∧ Aside0 (kq ≤ k) ∧ Aside0 (w'.heap[gb252]? = some (.cells #[.int .i64 x253000_1, .int .i64 x253001_1, .bool x253002_1] 48 (0, 0))) ∧ Aside0 (w'.heap[gb253]? = some (.cells #[.int .i64 0, .int .i64 0, .bool false] 48 (0, 0))) ∧ Aside0 (w'.heap[gb254]? = some (.cells #[.int .i64 x255000_1, .int .i64 x255001_1, .bool x255002_1] 48 (0, 0))) ∧ Aside0 (Below w.heap.size w w'))
  case atStart => exact ⟨(t256), (a1_0), (a1_1), (a1_2), (0), (0), (true), (by first | rfl | (simp; done) | (simp [*]; done)), H', ⟨Nat.le_refl _⟩, ⟨bP BK252⟩, ⟨bP BK253⟩, ⟨bP BK254⟩, ⟨bZ HB⟩⟩
  case round =>
   clear H'
   try clear c1
   try clear p2
   try clear c4
   try clear c5
   try clear c9
   try clear c10
   try clear c12
   try clear hcz11_0
   try clear hcz11_1
   try clear hcz11_2
   try clear hcz13_0
   try clear hcz13_1
   try clear hcz13_2
   try clear hfz11_0
   try clear hfz11_1
   try clear hfz11_2
   try clear hfz13_0
   try clear hfz13_1
   try clear hfz13_2
   obtain ⟨x0_1, x253000_1, x253001_1, x253002_1, x255000_1, x255001_1, x255002_1, rfl, HA, HK1, BK252, BK253, BK254, HB⟩ := hrel
   cases gk with
   | zero => exact absurd HA.out (by simp [impl_PointTimes.l0])
   | succ k1 =>
    have H := HA.out
    clear HA
    simp only [impl_PointTimes.l0] at H
    by_cases c15 : x0_1 > 0
    ·rw [if_pos c15] at H
     have c15b0 : decide (0 < x0_1) = true := decide_eq_true c15
     clear c15
     by_cases c16 : (Int.tmod x0_1 2) = 1
     ·rw [if_pos c16] at H
      have c16b0 : ((Int.tmod x0_1 2) == 1) = true := beq_iff_eq.mpr c16
      have c16b1 : ((Int.tmod x0_1 2) != 1) = false := bne_eq_false_iff_eq.mpr c16
      clear c16
      replace H := Option.bind_eq_some_iff.mp H
      obtain ⟨⟨t257, t258, t259⟩, A170, H⟩ := H
      replace H : ((impl_add.f k1 x253000_1 x253001_1 x253002_1 x253000_1 x253001_1 x253002_1).bind fun bt260 => (impl_PointTimes.l0 k1 (wrap64 (Int.tdiv x0_1 2)) bt260.1 bt260.2.1 bt260.2.2 t257 t258 t259)) = some (r1, r2, r3) := H
      have A17 := Aside0.mk A170
      clear A170
      replace H := Option.bind_eq_some_iff.mp H
      obtain ⟨⟨t260, t261, t262⟩, A180, H⟩ := H
      replace H : (impl_PointTimes.l0 k1 (wrap64 (Int.tdiv x0_1 2)) t260 t261 t262 t257 t258 t259) = some (r1, r2, r3) := H
      have A18 := Aside0.mk A180
      clear A180
      have H' := Aside0.mk H
      clear H
      have hnb19 := NB254_252.out
      have hnc19 := NB252_254.out
      have hnb20 := NB254_253.out
      have hnc20 := NB253_254.out
      have hcz21_0 : wr.cell? ⟨gb254, 0, none⟩ = some (.int .i64 x255000_1) := bc BK254 0
      have hcz21_1 : wr.cell? ⟨gb254, 1, none⟩ = some (.int .i64 x255001_1) := bc BK254 1
      have hcz21_2 : wr.cell? ⟨gb254, 2, none⟩ = some (.bool x255002_1) := bc BK254 2
      have hfz21_0 := blk_frozen BK254.out 0
      have hfz21_1 := blk_frozen BK254.out 1
      have hfz21_2 := blk_frozen BK254.out 2
      have hnb22 := NB252_253.out
      have hnc22 := NB253_252.out
      have hcz23_0 : wr.cell? ⟨gb252, 0, none⟩ = some (.int .i64 x253000_1) := bc BK252 0
      have hcz23_1 : wr.cell? ⟨gb252, 1, none⟩ = some (.int .i64 x253001_1) := bc BK252 1
      have hcz23_2 : wr.cell? ⟨gb252, 2, none⟩ = some (.bool x253002_1) := bc BK252 2
      have hfz23_0 := blk_frozen BK252.out 0
      have hfz23_1 := blk_frozen BK252.out 1
      have hfz23_2 := blk_frozen BK252.out 2
      go_wp2_with (first | ((with_reducible refine gate_callee (f := 69) rfl ?_); refine goesL_ (some 22) rfl rfl Try.func69 (by kernel_rfl) rfl #[.agg #[.int .i64 x255000_1, .int .i64 x255001_1, .bool x255002_1], .agg #[.int .i64 x253000_1, .int .i64 x253001_1, .bool x253002_1]] rfl (by (try simp only [List.map_toArray, List.map_cons, List.map_nil]); first | done | rfl | (simp only [List.length_drop, List.length_take]; rfl)) ?_; (with_reducible refine (impl_add.calls k1 x255000_1 x255001_1 x255002_1 x253000_1 x253001_1 x253002_1 t257 t258 t259 _ A17.out).mono ?_); rintro e w24 ⟨rfl, hb⟩; refine ⟨_, rfl, ?_⟩; replace BK252 := bB BK252 hb; replace BK253 := bB BK253 hb; replace BK254 := bB BK254 hb; replace HB := bS HB hb; (try clear hb); (try clear hb2); (try clear hk); (try clear hi); have hcz25_0 : w24.cell? ⟨gb254, 0, none⟩ = some (.int .i64 x255000_1) := bc BK254 0; have hcz25_1 : w24.cell? ⟨gb254, 1, none⟩ = some (.int .i64 x255001_1) := bc BK254 1; have hcz25_2 : w24.cell? ⟨gb254, 2, none⟩ = some (.bool x255002_1) := bc BK254 2; have hfz25_0 := blk_frozen BK254.out 0; have hfz25_1 := blk_frozen BK254.out 1; have hfz25_2 := blk_frozen BK254.out 2; have hcz26_0 : w24.cell? ⟨gb252, 0, none⟩ = some (.int .i64 x253000_1) := bc BK252 0; have hcz26_1 : w24.cell? ⟨gb252, 1, none⟩ = some (.int .i64 x253001_1) := bc BK252 1; have hcz26_2 : w24.cell? ⟨gb252, 2, none⟩ = some (.bool x253002_1) := bc BK252 2; have hfz26_0 := blk_frozen BK252.out 0; have hfz26_1 := blk_frozen BK252.out 1; have hfz26_2 := blk_frozen BK252.out 2) | ((with_reducible refine gate_callee (f := 69) rfl ?_); refine goesL_ (some 25) rfl rfl Try.func69 (by kernel_rfl) rfl #[.agg #[.int .i64 x253000_1, .int .i64 x253001_1, .bool x253002_1], .agg #[.int .i64 x253000_1, .int .i64 x253001_1, .bool x253002_1]] rfl (by (try simp only [List.map_toArray, List.map_cons, List.map_nil]); first | done | rfl | (simp only [List.length_drop, List.length_take]; rfl)) ?_; (with_reducible refine (impl_add.calls k1 x253000_1 x253001_1 x253002_1 x253000_1 x253001_1 x253002_1 t260 t261 t262 _ A18.out).mono ?_); rintro e w27 ⟨rfl, hb⟩; refine ⟨_, rfl, ?_⟩; replace BK252 := bB BK252 hb; replace BK253 := bB BK253 hb; replace BK254 := Aside0.mk (blk_below (g := gb254) (o := .cells #[.int .i64 t257, .int .i64 t258, .bool t259] 48 (0, 0)) (by (with_reducible repeat (first | refine blk_drewN ?_ _ | refine blk_drew ?_ | refine blk_alloc ?_ _)); refine blk_put (cs := #[.int .i64 t257, .int .i64 t258, .bool x255002_1]) ?_ 2 _ rfl; (with_reducible repeat (first | refine blk_drewN ?_ _ | refine blk_drew ?_ | refine blk_alloc ?_ _)); refine blk_put (cs := #[.int .i64 t257, .int .i64 x255001_1, .bool x255002_1]) ?_ 1 _ rfl; (with_reducible repeat (first | refine blk_drewN ?_ _ | refine blk_drew ?_ | refine blk_alloc ?_ _)); refine blk_put (cs := #[.int .i64 x255000_1, .int .i64 x255001_1, .bool x255002_1]) ?_ 0 _ rfl; (with_reducible repeat (first | refine blk_drewN ?_ _ | refine blk_drew ?_ | refine blk_alloc ?_ _)); exact BK254.out) hb); replace HB := bS HB hb; (try clear hb); (try clear hb2); (try clear hk); (try clear hi); have hcz28_0 : w27.cell? ⟨gb252, 0, none⟩ = some (.int .i64 x253000_1) := bc BK252 0; have hcz28_1 : w27.cell? ⟨gb252, 1, none⟩ = some (.int .i64 x253001_1) := bc BK252 1; have hcz28_2 : w27.cell? ⟨gb252, 2, none⟩ = some (.bool x253002_1) := bc BK252 2; have hfz28_0 := blk_frozen BK252.out 0; have hfz28_1 := blk_frozen BK252.out 1; have hfz28_2 := blk_frozen BK252.out 2))
      go_roundg k1
      case measure => have := HK1.out; omega
      case rel => exact ⟨(wrap64 (Int.tdiv x0_1 2)), (t260), (t261), (t262), (t257), (t258), (t259), (by first | rfl | (simp; done) | (simp [*]; done)), H', ⟨by have := HK1.out; omega⟩, ⟨by (with_reducible repeat (first | refine blk_drewN ?_ _ | refine blk_drew ?_ | refine blk_alloc ?_ _)); refine blk_put (cs := #[.int .i64 t260, .int .i64 t261, .bool x253002_1]) ?_ 2 _ rfl; (with_reducible repeat (first | refine blk_drewN ?_ _ | refine blk_drew ?_ | refine blk_alloc ?_ _)); refine blk_put (cs := #[.int .i64 t260, .int .i64 x253001_1, .bool x253002_1]) ?_ 1 _ rfl; (with_reducible repeat (first | refine blk_drewN ?_ _ | refine blk_drew ?_ | refine blk_alloc ?_ _)); refine blk_put (cs := #[.int .i64 x253000_1, .int .i64 x253001_1, .bool x253002_1]) ?_ 0 _ rfl; (with_reducible repeat (first | refine blk_drewN ?_ _ | refine blk_drew ?_ | refine blk_alloc ?_ _)); exact BK252.out⟩, ⟨bP BK253⟩, ⟨bP BK254⟩, ⟨bZ HB⟩⟩
     ·rw [if_neg c16] at H
      have c16b0 : ((Int.tmod x0_1 2) == 1) = false := beq_eq_false_iff_ne.mpr c16
      have c16b1 : ((Int.tmod x0_1 2) != 1) = true := bne_iff_ne.mpr c16
      replace H := Option.bind_eq_some_iff.mp H
      obtain ⟨⟨t263, t264, t265⟩, A290, H⟩ := H
      replace H : (impl_PointTimes.l0 k1 (wrap64 (Int.tdiv x0_1 2)) t263 t264 t265 x255000_1 x255001_1 x255002_1) = some (r1, r2, r3) := H
      have A29 := Aside0.mk A290
      clear A290
      have H' := Aside0.mk H
      clear H
      have hnb30 := NB252_253.out
      have hnc30 := NB253_252.out
      have hnb31 := NB252_254.out
      have hnc31 := NB254_252.out
      have hcz32_0 : wr.cell? ⟨gb252, 0, none⟩ = some (.int .i64 x253000_1) := bc BK252 0
      have hcz32_1 : wr.cell? ⟨gb252, 1, none⟩ = some (.int .i64 x253001_1) := bc BK252 1
      have hcz32_2 : wr.cell? ⟨gb252, 2, none⟩ = some (.bool x253002_1) := bc BK252 2
      have hfz32_0 := blk_frozen BK252.out 0
      have hfz32_1 := blk_frozen BK252.out 1
      have hfz32_2 := blk_frozen BK252.out 2
      go_wp2_with (first | ((with_reducible refine gate_callee (f := 69) rfl ?_); refine goesL_ (some 25) rfl rfl Try.func69 (by kernel_rfl) rfl #[.agg #[.int .i64 x253000_1, .int .i64 x253001_1, .bool x253002_1], .agg #[.int .i64 x253000_1, .int .i64 x253001_1, .bool x253002_1]] rfl (by (try simp only [List.map_toArray, List.map_cons, List.map_nil]); first | done | rfl | (simp only [List.length_drop, List.length_take]; rfl)) ?_; (with_reducible refine (impl_add.calls k1 x253000_1 x253001_1 x253002_1 x253000_1 x253001_1 x253002_1 t263 t264 t265 _ A29.out).mono ?_); rintro e w33 ⟨rfl, hb⟩; refine ⟨_, rfl, ?_⟩; replace BK252 := bB BK252 hb; replace BK253 := bB BK253 hb; replace BK254 := bB BK254 hb; replace HB := bS HB hb; (try clear hb); (try clear hb2); (try clear hk); (try clear hi); have hcz34_0 : w33.cell? ⟨gb252, 0, none⟩ = some (.int .i64 x253000_1) := bc BK252 0; have hcz34_1 : w33.cell? ⟨gb252, 1, none⟩ = some (.int .i64 x253001_1) := bc BK252 1; have hcz34_2 : w33.cell? ⟨gb252, 2, none⟩ = some (.bool x253002_1) := bc BK252 2; have hfz34_0 := blk_frozen BK252.out 0; have hfz34_1 := blk_frozen BK252.out 1; have hfz34_2 := blk_frozen BK252.out 2))
      go_roundg k1
      case measure => have := HK1.out; omega
      case rel => exact ⟨(wrap64 (Int.tdiv x0_1 2)), (t263), (t264), (t265), (x255000_1), (x255001_1), (x255002_1), (by first | rfl | (simp; done) | (simp [*]; done)), H', ⟨by have := HK1.out; omega⟩, ⟨by (with_reducible repeat (first | refine blk_drewN ?_ _ | refine blk_drew ?_ | refine blk_alloc ?_ _)); refine blk_put (cs := #[.int .i64 t263, .int .i64 t264, .bool x253002_1]) ?_ 2 _ rfl; (with_reducible repeat (first | refine blk_drewN ?_ _ | refine blk_drew ?_ | refine blk_alloc ?_ _)); refine blk_put (cs := #[.int .i64 t263, .int .i64 x253001_1, .bool x253002_1]) ?_ 1 _ rfl; (with_reducible repeat (first | refine blk_drewN ?_ _ | refine blk_drew ?_ | refine blk_alloc ?_ _)); refine blk_put (cs := #[.int .i64 x253000_1, .int .i64 x253001_1, .bool x253002_1]) ?_ 0 _ rfl; (with_reducible repeat (first | refine blk_drewN ?_ _ | refine blk_drew ?_ | refine blk_alloc ?_ _)); exact BK252.out⟩, ⟨bP BK253⟩, ⟨bP BK254⟩, ⟨bZ HB⟩⟩
    ·rw [if_neg c15] at H
     have c15b0 : decide (0 < x0_1) = false := decide_eq_false c15
     clear c15
     simp only [Option.some.injEq, Prod.mk.injEq] at H
     obtain ⟨rfl, rfl, rfl⟩ := H
     have hnb35 := NB254_252.out
     have hnc35 := NB252_254.out
     have hnb36 := NB254_253.out
     have hnc36 := NB253_254.out
     have hcz37_0 : wr.cell? ⟨gb254, 0, none⟩ = some (.int .i64 x255000_1) := bc BK254 0
     have hcz37_1 : wr.cell? ⟨gb254, 1, none⟩ = some (.int .i64 x255001_1) := bc BK254 1
     have hcz37_2 : wr.cell? ⟨gb254, 2, none⟩ = some (.bool x255002_1) := bc BK254 2
     have hfz37_0 := blk_frozen BK254.out 0
     have hfz37_1 := blk_frozen BK254.out 1
     have hfz37_2 := blk_frozen BK254.out 2
     have hnb38 := NB253_252.out
     have hnc38 := NB252_253.out
     have hcz39_0 : wr.cell? ⟨gb253, 0, none⟩ = some (.int .i64 0) := bc BK253 0
     have hcz39_1 : wr.cell? ⟨gb253, 1, none⟩ = some (.int .i64 0) := bc BK253 1
     have hcz39_2 : wr.cell? ⟨gb253, 2, none⟩ = some (.bool false) := bc BK253 2
     have hfz39_0 := blk_frozen BK253.out 0
     have hfz39_1 := blk_frozen BK253.out 1
     have hfz39_2 := blk_frozen BK253.out 2
     go_wp2
     refine bodyPost_ret (results_cell_row rfl _ _ gb253 48 #[.int .i64 x255000_1, .int .i64 x255001_1, .bool x255002_1] (0, 0) _ rfl (by (with_reducible repeat (first | refine blk_drewN ?_ _ | refine blk_drew ?_ | refine blk_alloc ?_ _)); refine blk_put (cs := #[.int .i64 x255000_1, .int .i64 x255001_1, .bool false]) ?_ 2 _ rfl; (with_reducible repeat (first | refine blk_drewN ?_ _ | refine blk_drew ?_ | refine blk_alloc ?_ _)); refine blk_put (cs := #[.int .i64 x255000_1, .int .i64 0, .bool false]) ?_ 1 _ rfl; (with_reducible repeat (first | refine blk_drewN ?_ _ | refine blk_drew ?_ | refine blk_alloc ?_ _)); refine blk_put (cs := #[.int .i64 0, .int .i64 0, .bool false]) ?_ 0 _ rfl; (with_reducible repeat (first | refine blk_drewN ?_ _ | refine blk_drew ?_ | refine blk_alloc ?_ _)); exact BK253.out) Try.underlying48 rfl (by kernel_rfl)) rfl ?_
     exact ⟨by first | rfl | (simp [errW_none, errW_some] <;> rfl) | (simp [*, errW_none, errW_some] <;> rfl), bZ HB⟩
 ·replace c4 := Bool.eq_false_iff.mpr c4
  subst c4
  have H1 : (some (0, 0, true)) = some (r1, r2, r3) := by rw [if_neg (show ¬ (false = true) by decide)] at H; exact H
  clear H
  have H := H1
  clear H1
  simp only [Option.some.injEq, Prod.mk.injEq] at H
  obtain ⟨rfl, rfl, rfl⟩ := H
  go_enter Try.func48, Try.ntmps48
  go_wp2_with (first | ((with_reducible refine gate_dst (N := 3) rfl ?_); refine box_event ?hg (N := 3) ?hd (cs := #[.int .i64 a1_0, .int .i64 a1_1, .bool a1_2]) (t := 48) ?hr ?_; (case hd => rfl); (case hg => rfl); (case hr => first | (go_simp; done) | (go_simp; rfl)); intro gb252 hg w40 hbox hb; have BK252 := Aside0.mk (hbox); have GW252 := bG HB hg; have GE252 := bG HB hg; replace HB := bS HB hb; clear hb hbox hg) | ((with_reducible refine gate_dst (N := 4) rfl ?_); refine box_event ?hg (N := 4) ?hd (cs := #[.int .i64 0, .int .i64 0, .bool false]) (t := 48) ?hr ?_; (case hd => rfl); (case hg => rfl); (case hr => first | (go_simp; done) | (go_simp; rfl)); intro gb253 hg w41 hbox hb; have BK253 := Aside0.mk (hbox); have GW253 := bG HB hg; have GE253 := bG HB hg; replace HB := bS HB hb; have NB252_253 := bL BK252 hg; have NB253_252 := bR BK252 hg; replace BK252 := bB BK252 hb; clear hb hbox hg) | ((with_reducible refine gate_dst (N := 5) rfl ?_); refine box_event ?hg (N := 5) ?hd (cs := #[.int .i64 0, .int .i64 0, .bool false]) (t := 48) ?hr ?_; (case hd => rfl); (case hg => rfl); (case hr => first | (go_simp; done) | (go_simp; rfl)); intro gb254 hg w42 hbox hb; have BK254 := Aside0.mk (hbox); have GW254 := bG HB hg; have GE254 := bG HB hg; replace HB := bS HB hb; have NB252_254 := bL BK252 hg; have NB254_252 := bR BK252 hg; replace BK252 := bB BK252 hb; have NB253_254 := bL BK253 hg; have NB254_253 := bR BK253 hg; replace BK253 := bB BK253 hb; clear hb hbox hg; have hnb43 := NB254_252.out; have hnc43 := NB252_254.out; have hnb44 := NB254_253.out; have hnc44 := NB253_254.out; have hcz45_0 : w42.cell? ⟨gb254, 0, none⟩ = some (.int .i64 0) := bc BK254 0; have hcz45_1 : w42.cell? ⟨gb254, 1, none⟩ = some (.int .i64 0) := bc BK254 1; have hcz45_2 : w42.cell? ⟨gb254, 2, none⟩ = some (.bool false) := bc BK254 2; have hfz45_0 := blk_frozen BK254.out 0; have hfz45_1 := blk_frozen BK254.out 1; have hfz45_2 := blk_frozen BK254.out 2; have hnb46 := NB252_253.out; have hnc46 := NB253_252.out; have hcz47_0 : w42.cell? ⟨gb252, 0, none⟩ = some (.int .i64 a1_0) := bc BK252 0; have hcz47_1 : w42.cell? ⟨gb252, 1, none⟩ = some (.int .i64 a1_1) := bc BK252 1; have hcz47_2 : w42.cell? ⟨gb252, 2, none⟩ = some (.bool a1_2) := bc BK252 2; have hfz47_0 := blk_frozen BK252.out 0; have hfz47_1 := blk_frozen BK252.out 1; have hfz47_2 := blk_frozen BK252.out 2) | ((with_reducible refine gate_callee (f := 47) rfl ?_); refine goesL_ (some 8) rfl rfl Try.func47 (by kernel_rfl) rfl #[.agg #[.int .i64 a1_0, .int .i64 a1_1, .bool a1_2]] rfl (by (try simp only [List.map_toArray, List.map_cons, List.map_nil]); first | done | rfl | (simp only [List.length_drop, List.length_take]; rfl)) ?_; (with_reducible refine (impl_PointOk.calls a1_0 a1_1 a1_2 false _ A3.out).mono ?_); rintro e w48 ⟨rfl, hb⟩; refine ⟨_, rfl, ?_⟩; replace BK252 := bB BK252 hb; replace BK253 := bB BK253 hb; replace BK254 := Aside0.mk (blk_below (g := gb254) (o := .cells #[.int .i64 0, .int .i64 0, .bool true] 48 (0, 0)) (by (with_reducible repeat (first | refine blk_drewN ?_ _ | refine blk_drew ?_ | refine blk_alloc ?_ _)); refine blk_put (cs := #[.int .i64 0, .int .i64 0, .bool false]) ?_ 2 _ rfl; (with_reducible repeat (first | refine blk_drewN ?_ _ | refine blk_drew ?_ | refine blk_alloc ?_ _)); refine blk_put (cs := #[.int .i64 0, .int .i64 0, .bool false]) ?_ 1 _ rfl; (with_reducible repeat (first | refine blk_drewN ?_ _ | refine blk_drew ?_ | refine blk_alloc ?_ _)); refine blk_put (cs := #[.int .i64 0, .int .i64 0, .bool false]) ?_ 0 _ rfl; (with_reducible repeat (first | refine blk_drewN ?_ _ | refine blk_drew ?_ | refine blk_alloc ?_ _)); exact BK254.out) hb); replace HB := bS HB hb; (try clear hb); (try clear hb2); (try clear hk); (try clear hi); have hcz49_0 : w48.cell? ⟨gb254, 0, none⟩ = some (.int .i64 0) := bc BK254 0; have hcz49_1 : w48.cell? ⟨gb254, 1, none⟩ = some (.int .i64 0) := bc BK254 1; have hcz49_2 : w48.cell? ⟨gb254, 2, none⟩ = some (.bool true) := bc BK254 2; have hfz49_0 := blk_frozen BK254.out 0; have hfz49_1 := blk_frozen BK254.out 1; have hfz49_2 := blk_frozen BK254.out 2; have hcz50_0 : w48.cell? ⟨gb253, 0, none⟩ = some (.int .i64 0) := bc BK253 0; have hcz50_1 : w48.cell? ⟨gb253, 1, none⟩ = some (.int .i64 0) := bc BK253 1; have hcz50_2 : w48.cell? ⟨gb253, 2, none⟩ = some (.bool false) := bc BK253 2; have hfz50_0 := blk_frozen BK253.out 0; have hfz50_1 := blk_frozen BK253.out 1; have hfz50_2 := blk_frozen BK253.out 2))
  refine bodyPost_ret (results_cell_row rfl _ _ gb253 48 #[.int .i64 0, .int .i64 0, .bool true] (0, 0) _ rfl (by (with_reducible repeat (first | refine blk_drewN ?_ _ | refine blk_drew ?_ | refine blk_alloc ?_ _)); refine blk_put (cs := #[.int .i64 0, .int .i64 0, .bool false]) ?_ 2 _ rfl; (with_reducible repeat (first | refine blk_drewN ?_ _ | refine blk_drew ?_ | refine blk_alloc ?_ _)); refine blk_put (cs := #[.int .i64 0, .int .i64 0, .bool false]) ?_ 1 _ rfl; (with_reducible repeat (first | refine blk_drewN ?_ _ | refine blk_drew ?_ | refine blk_alloc ?_ _)); refine blk_put (cs := #[.int .i64 0, .int .i64 0, .bool false]) ?_ 0 _ rfl; (with_reducible repeat (first | refine blk_drewN ?_ _ | refine blk_drew ?_ | refine blk_alloc ?_ _)); exact BK253.out) Try.underlying48 rfl (by kernel_rfl)) rfl ?_
  exact ⟨by first | rfl | (simp [errW_none, errW_some] <;> rfl) | (simp [*, errW_none, errW_some] <;> rfl), bZ HB⟩
/-! ### impl_ScOf: function 52 -/
def impl_ScOf.f (a0 : Int) : Option (Int) := (impl_remainder.f a0 1009).bind fun t329 => (some t329)
set_option maxHeartbeats 8000000 in
set_option maxRecDepth 100000 in
theorem impl_ScOf.calls (a0 : Int) (r : Int) (w : World) (h : impl_ScOf.f a0 = some r) :
  Calls Try.prog 52 #[.int .i64 a0] w fun e w' => e = .returned (.int .i64 r) ∧ Drawn0 w w' := by
 have H : ((impl_remainder.f a0 1009).bind fun t329 => (some t329)) = some r := h
 clear h
 replace H := Option.bind_eq_some_iff.mp H
 obtain ⟨t329, A20, H⟩ := H
 replace H : (some t329) = some r := H
 have A2 := Aside0.mk A20
 clear A20
 obtain rfl := Option.some.inj H
 go_enter Try.func52, Try.ntmps52
 go_wp2_with (first | ((with_reducible refine gate_callee (f := 51) rfl ?_); refine goesL_ (some 4) rfl rfl Try.func51 (by kernel_rfl) rfl #[.int .i64 a0, .int .i64 1009] rfl (by (try simp only [List.map_toArray, List.map_cons, List.map_nil]); first | done | rfl | (simp only [List.length_drop, List.length_take]; rfl)) ?_; (with_reducible refine (impl_remainder.calls a0 1009 t329 _ A2.out).mono ?_); rintro e w' ⟨rfl, ⟨nd, rfl⟩⟩; refine ⟨_, rfl, ?_⟩))
 go_ret
 exact ⟨by first | rfl | (simp; done) | (simp [*]; done), by repeat (first | exact Drawn0.refl _ | apply Drawn0.step)⟩
/-! ### impl_Base: function 53 -/
def impl_Base.f  : Option (Int × Int × Bool) := some (8445, 859, false)
set_option maxHeartbeats 8000000 in
set_option maxRecDepth 100000 in
theorem impl_Base.calls  (r1 : Int) (r2 : Int) (r3 : Bool) (w : World) (h : impl_Base.f  = some (r1, r2, r3)) :
  Calls Try.prog 53 #[] w fun e w' => e = .returned (.agg #[.int .i64 r1, .int .i64 r2, .bool r3]) ∧ Below w.heap.size w w' := by
 have hu48 := Try.underlying48
 have HB := Aside0.mk (Below.refl w.heap.size w)
 have H : (some (8445, 859, false)) = some (r1, r2, r3) := h
 clear h
 simp only [Option.some.injEq, Prod.mk.injEq] at H
 obtain ⟨rfl, rfl, rfl⟩ := H
 go_enter Try.func53, Try.ntmps53
 go_wp2_with (first | ((with_reducible refine gate_dst (N := 0) rfl ?_); refine box_event ?hg (N := 0) ?hd (cs := #[.int .i64 0, .int .i64 0, .bool false]) (t := 48) ?hr ?_; (case hd => rfl); (case hg => rfl); (case hr => first | (go_simp; done) | (go_simp; rfl)); intro gb330 hg w1 hbox hb; have BK330 := Aside0.mk (hbox); have GW330 := bG HB hg; have GE330 := bG HB hg; replace HB := bS HB hb; clear hb hbox hg; have hcz2_0 : w1.cell? ⟨gb330, 0, none⟩ = some (.int .i64 0) := bc BK330 0; have hcz2_1 : w1.cell? ⟨gb330, 1, none⟩ = some (.int .i64 0) := bc BK330 1; have hcz2_2 : w1.cell? ⟨gb330, 2, none⟩ = some (.bool false) := bc BK330 2; have hfz2_0 := blk_frozen BK330.out 0; have hfz2_1 := blk_frozen BK330.out 1; have hfz2_2 := blk_frozen BK330.out 2))
 refine bodyPost_ret (results_cell_row rfl _ _ gb330 48 #[.int .i64 8445, .int .i64 859, .bool false] (0, 0) _ rfl (by (with_reducible repeat (first | refine blk_drewN ?_ _ | refine blk_drew ?_ | refine blk_alloc ?_ _)); refine blk_put (cs := #[.int .i64 8445, .int .i64 859, .bool false]) ?_ 2 _ rfl; (with_reducible repeat (first | refine blk_drewN ?_ _ | refine blk_drew ?_ | refine blk_alloc ?_ _)); refine blk_put (cs := #[.int .i64 8445, .int .i64 0, .bool false]) ?_ 1 _ rfl; (with_reducible repeat (first | refine blk_drewN ?_ _ | refine blk_drew ?_ | refine blk_alloc ?_ _)); refine blk_put (cs := #[.int .i64 0, .int .i64 0, .bool false]) ?_ 0 _ rfl; (with_reducible repeat (first | refine blk_drewN ?_ _ | refine blk_drew ?_ | refine blk_alloc ?_ _)); exact BK330.out) Try.underlying48 rfl (by kernel_rfl)) rfl ?_
 exact ⟨by first | rfl | (simp [errW_none, errW_some] <;> rfl) | (simp [*, errW_none, errW_some] <;> rfl), bZ HB⟩
/-! ### impl_KeyOf: function 33 -/
def impl_KeyOf.f (k : Nat) (a0 : Int) : Option (Int × Int × Bool) := (impl_ScOf.f a0).bind fun t332 => ((impl_Base.f).bind fun bt333 => ((impl_PointTimes.f k t332 bt333.1 bt333.2.1 bt333.2.2).bind fun bt336 => (some (bt336.1, bt336.2.1, bt336.2.2))))
theorem impl_KeyOf.mono : ∀ a0 k, LeO (impl_KeyOf.f k a0) (impl_KeyOf.f (k + 1) a0) := by
 intro a0 k
 unfold impl_KeyOf.f
 repeat' first
   | (with_reducible exact impl_PointTimes.mono _ _ _ _ _)
   | (with_reducible exact LeO.refl _)
   | (with_reducible exact LeO.none _)
   | (with_reducible refine LeO.ite ?_ ?_)
   | (with_reducible refine LeO.bind ?_ (fun _ => ?_))
   | exact impl_PointTimes.mono _ _ _ _ _
   | exact LeO.none _
   | refine LeO.ite ?_ ?_
   | refine LeO.bind ?_ (fun _ => ?_)
set_option maxHeartbeats 8000000 in
set_option maxRecDepth 100000 in
theorem impl_KeyOf.calls (k : Nat) (a0 : Int) (r1 : Int) (r2 : Int) (r3 : Bool) (w : World) (h : impl_KeyOf.f k a0 = some (r1, r2, r3)) :
  Calls Try.prog 33 #[.int .i64 a0] w fun e w' => e = .returned (.agg #[.int .i64 r1, .int .i64 r2, .bool r3]) ∧ Below w.heap.size w w' := by
 have hu48 := Try.underlying48
 have HB := Aside0.mk (Below.refl w.heap.size w)
 have H : ((impl_ScOf.f a0).bind fun t332 => ((impl_Base.f).bind fun bt333 => ((impl_PointTimes.f k t332 bt333.1 bt333.2.1 bt333.2.2).bind fun bt336 => (some (bt336.1, bt336.2.1, bt336.2.2))))) = some (r1, r2, r3) := h
 clear h
 replace H := Option.bind_eq_some_iff.mp H
 obtain ⟨t332, A20, H⟩ := H
 replace H : ((impl_Base.f).bind fun bt333 => ((impl_PointTimes.f k t332 bt333.1 bt333.2.1 bt333.2.2).bind fun bt336 => (some (bt336.1, bt336.2.1, bt336.2.2)))) = some (r1, r2, r3) := H
 have A2 := Aside0.mk A20
 clear A20
 replace H := Option.bind_eq_some_iff.mp H
 obtain ⟨⟨t333, t334, t335⟩, A30, H⟩ := H
 replace H : ((impl_PointTimes.f k t332 t333 t334 t335).bind fun bt336 => (some (bt336.1, bt336.2.1, bt336.2.2))) = some (r1, r2, r3) := H
 have A3 := Aside0.mk A30
 clear A30
 replace H := Option.bind_eq_some_iff.mp H
 obtain ⟨⟨t336, t337, t338⟩, A40, H⟩ := H
 replace H : (some (t336, t337, t338)) = some (r1, r2, r3) := H
 have A4 := Aside0.mk A40
 clear A40
 simp only [Option.some.injEq, Prod.mk.injEq] at H
 obtain ⟨rfl, rfl, rfl⟩ := H
 go_enter Try.func33, Try.ntmps33
 go_wp2_with (first | ((with_reducible refine gate_dst (N := 2) rfl ?_); refine box_event ?hg (N := 2) ?hd (cs := #[.int .i64 0, .int .i64 0, .bool false]) (t := 48) ?hr ?_; (case hd => rfl); (case hg => rfl); (case hr => first | (go_simp; done) | (go_simp; rfl)); intro gb331 hg w5 hbox hb; have BK331 := Aside0.mk (hbox); have GW331 := bG HB hg; have GE331 := bG HB hg; replace HB := bS HB hb; clear hb hbox hg) | ((with_reducible refine gate_callee (f := 52) rfl ?_); refine goesL_ (some 4) rfl rfl Try.func52 (by kernel_rfl) rfl #[.int .i64 a0] rfl (by (try simp only [List.map_toArray, List.map_cons, List.map_nil]); first | done | rfl | (simp only [List.length_drop, List.length_take]; rfl)) ?_; (with_reducible refine (impl_ScOf.calls a0 t332 _ A2.out).mono ?_); rintro e w' ⟨rfl, ⟨nd, rfl⟩⟩; refine ⟨_, rfl, ?_⟩; (try simp only [World.drewN_drewN]); (try (rw [drewN_self w5]; generalize hq_ : World.drewN w5 _ = w5; replace BK331 : Aside0 (w5.heap[gb331]? = some (.cells #[.int .i64 0, .int .i64 0, .bool false] 48 (0, 0))) := ⟨by rw [← hq_]; exact (bP BK331)⟩; replace HB : Aside0 (Below w.heap.size w w5) := ⟨by rw [← hq_]; exact (bZ HB)⟩; clear hq_))) | ((with_reducible refine gate_callee (f := 53) rfl ?_); refine goesL_ (some 5) rfl rfl Try.func53 (by kernel_rfl) rfl #[] rfl (by (try simp only [List.map_toArray, List.map_cons, List.map_nil]); first | done | rfl | (simp only [List.length_drop, List.length_take]; rfl)) ?_; (with_reducible refine (impl_Base.calls  t333 t334 t335 _ A3.out).mono ?_); rintro e w6 ⟨rfl, hb⟩; refine ⟨_, rfl, ?_⟩; replace BK331 := bB BK331 hb; replace HB := bS HB hb; (try clear hb); (try clear hb2); (try clear hk); (try clear hi)) | ((with_reducible refine gate_callee (f := 48) rfl ?_); refine goesL_ (some 6) rfl rfl Try.func48 (by kernel_rfl) rfl #[.int .i64 t332, .agg #[.int .i64 t333, .int .i64 t334, .bool t335]] rfl (by (try simp only [List.map_toArray, List.map_cons, List.map_nil]); first | done | rfl | (simp only [List.length_drop, List.length_take]; rfl)) ?_; (with_reducible refine (impl_PointTimes.calls k t332 t333 t334 t335 t336 t337 t338 _ A4.out).mono ?_); rintro e w7 ⟨rfl, hb⟩; refine ⟨_, rfl, ?_⟩; replace BK331 := bB BK331 hb; replace HB := bS HB hb; (try clear hb); (try clear hb2); (try clear hk); (try clear hi); have hcz8_0 : w7.cell? ⟨gb331, 0, none⟩ = some (.int .i64 0) := bc BK331 0; have hcz8_1 : w7.cell? ⟨gb331, 1, none⟩ = some (.int .i64 0) := bc BK331 1; have hcz8_2 : w7.cell? ⟨gb331, 2, none⟩ = some (.bool false) := bc BK331 2; have hfz8_0 := blk_frozen BK331.out 0; have hfz8_1 := blk_frozen BK331.out 1; have hfz8_2 := blk_frozen BK331.out 2))
 refine bodyPost_ret (results_cell_row rfl _ _ gb331 48 #[.int .i64 t336, .int .i64 t337, .bool t338] (0, 0) _ rfl (by (with_reducible repeat (first | refine blk_drewN ?_ _ | refine blk_drew ?_ | refine blk_alloc ?_ _)); refine blk_put (cs := #[.int .i64 t336, .int .i64 t337, .bool false]) ?_ 2 _ rfl; (with_reducible repeat (first | refine blk_drewN ?_ _ | refine blk_drew ?_ | refine blk_alloc ?_ _)); refine blk_put (cs := #[.int .i64 t336, .int .i64 0, .bool false]) ?_ 1 _ rfl; (with_reducible repeat (first | refine blk_drewN ?_ _ | refine blk_drew ?_ | refine blk_alloc ?_ _)); refine blk_put (cs := #[.int .i64 0, .int .i64 0, .bool false]) ?_ 0 _ rfl; (with_reducible repeat (first | refine blk_drewN ?_ _ | refine blk_drew ?_ | refine blk_alloc ?_ _)); exact BK331.out) Try.underlying48 rfl (by kernel_rfl)) rfl ?_
 exact ⟨by first | rfl | (simp [errW_none, errW_some] <;> rfl) | (simp [*, errW_none, errW_some] <;> rfl), bZ HB⟩
/-! ### impl_CommitteeOf: function 14 -/
def impl_CommitteeOf.l0 : Nat → List Int → Int → Int → List (S48) → Option ((List (S48)))
 | 0, _, _, _, _ => none
 | k + 1, x7, x8, x9, x341000 => if x9 < x8 then (if 0 ≤ x9 then (if x9 < (x7.length : Int) then ((impl_KeyOf.f k (rd x7 x9)).bind fun bt345 => (if x341000.length < 5864062014805 then (impl_CommitteeOf.l0 k x7 x8 (wrap64 (x9 + 1)) (x341000 ++ [(⟨bt345.1, bt345.2.1, bt345.2.2⟩ : S48)])) else (none))) else (none)) else (none)) else (some x341000)
def impl_CommitteeOf.f (k : Nat) (a0 : Int) : Option ((List (S48))) := (impl_SecretsOf.f k a0).bind fun t341 => (impl_CommitteeOf.l0 k t341 (t341.length : Int) 0 ([] : List (S48)))
theorem impl_CommitteeOf.mono_l : ∀ k, (∀ y0 y1 y2 y3, LeO (impl_CommitteeOf.l0 k y0 y1 y2 y3) (impl_CommitteeOf.l0 (k + 1) y0 y1 y2 y3))
 | 0 => fun _ _ _ _ r h => by simp [impl_CommitteeOf.l0] at h
 | k + 1 => by
  have ih0 := impl_CommitteeOf.mono_l k
  ·intro y0 y1 y2 y3
   unfold impl_CommitteeOf.l0
   repeat' first
   | (with_reducible exact ih0 _ _ _ _)
   | (with_reducible exact impl_KeyOf.mono _ _)
   | (with_reducible exact impl_SecretsOf.mono _ _)
   | (with_reducible exact LeO.refl _)
   | (with_reducible exact LeO.none _)
   | (with_reducible refine LeO.ite ?_ ?_)
   | (with_reducible refine LeO.bind ?_ (fun _ => ?_))
   | exact ih0 _ _ _ _
   | exact impl_KeyOf.mono _ _
   | exact impl_SecretsOf.mono _ _
   | exact LeO.none _
   | refine LeO.ite ?_ ?_
   | refine LeO.bind ?_ (fun _ => ?_)
theorem impl_CommitteeOf.mono : ∀ a0 k, LeO (impl_CommitteeOf.f k a0) (impl_CommitteeOf.f (k + 1) a0) := by
 intro a0 k
 have ih0 := impl_CommitteeOf.mono_l k
 unfold impl_CommitteeOf.f
 repeat' first
   | (with_reducible exact ih0 _ _ _ _)
   | (with_reducible exact impl_KeyOf.mono _ _)
   | (with_reducible exact impl_SecretsOf.mono _ _)
   | (with_reducible exact LeO.refl _)
   | (with_reducible exact LeO.none _)
   | (with_reducible refine LeO.ite ?_ ?_)
   | (with_reducible refine LeO.bind ?_ (fun _ => ?_))
   | exact ih0 _ _ _ _
   | exact impl_KeyOf.mono _ _
   | exact impl_SecretsOf.mono _ _
   | exact LeO.none _
   | refine LeO.ite ?_ ?_
   | refine LeO.bind ?_ (fun _ => ?_)
def impl_CommitteeOf.T5 : Bool × List (List Nat × List Nat) := (true, [([], []), ([0], [0]), ([], []), ([2], [2]), ([3], [3]), ([1, 4, 3], [1, 4]), ([0, 1, 2, 3, 4, 5], []), ([6, 5, 5, 0, 1, 2, 3, 4, 5], [5, 6])])
def impl_CommitteeOf.B5 : List Nat := [0, 1, 0, 4, 12, 31, 63, 127]
theorem impl_CommitteeOf.tab5 : rtab .any (opsOf Try.f14 5) = impl_CommitteeOf.T5 := by kernel_rfl
theorem impl_CommitteeOf.bits5 : waitsOk impl_CommitteeOf.T5.2 impl_CommitteeOf.B5 = true := by kernel_rfl
set_option maxHeartbeats 8000000 in
set_option maxRecDepth 100000 in
theorem impl_CommitteeOf.calls (k : Nat) (a0 : Int) (r : List (S48)) (w : World) (h : impl_CommitteeOf.f k a0 = some r) :
  Calls Try.prog 14 #[.int .i64 a0] w fun e w' => ∃ v0_ : Value, e = .returned (.agg #[v0_]) ∧ Kd.R k48 48 w' w.heap.size (fun _ => True) v0_ r ∧ Below w.heap.size w w' := by
 have hu29 := Try.underlying29
 have HB := Aside0.mk (Below.refl w.heap.size w)
 have H : ((impl_SecretsOf.f k a0).bind fun t341 => (impl_CommitteeOf.l0 k t341 (t341.length : Int) 0 ([] : List (S48)))) = some r := h
 clear h
 replace H := Option.bind_eq_some_iff.mp H
 obtain ⟨t341, A20, H⟩ := H
 replace H : (impl_CommitteeOf.l0 k t341 (t341.length : Int) 0 ([] : List (S48))) = some r := H
 have A2 := Aside0.mk A20
 clear A20
 have H' := Aside0.mk H
 clear H
 go_enter Try.func14, Try.ntmps14
 go_wp2_with (first | ((with_reducible refine gate_dst (N := 2) rfl ?_); refine box_event ?hg (N := 2) ?hd (cs := #[.slice none 0 0]) (t := 29) ?hr ?_; (case hd => rfl); (case hg => rfl); (case hr => first | (go_simp; done) | (go_simp; rfl)); intro gb339 hg w3 hbox hb; have BK339 := Aside0.mk (hbox); have GW339 := bG HB hg; have GE339 := bG HB hg; replace HB := bS HB hb; clear hb hbox hg) | ((with_reducible refine gate_dst (N := 3) rfl ?_); refine box_event ?hg (N := 3) ?hd (cs := #[.slice none 0 0]) (t := 29) ?hr ?_; (case hd => rfl); (case hg => rfl); (case hr => first | (go_simp; done) | (go_simp; rfl)); intro gb340 hg w4 hbox hb; have BK340 := Aside0.mk (hbox); have GW340 := bG HB hg; have GE340 := bG HB hg; replace HB := bS HB hb; have NB339_340 := bL BK339 hg; have NB340_339 := bR BK339 hg; replace BK339 := bB BK339 hb; clear hb hbox hg) | ((with_reducible refine gate_callee (f := 32) rfl ?_); refine goesL_ (some 7) rfl rfl Try.func32 (by kernel_rfl) rfl #[.int .i64 a0] rfl (by (try simp only [List.map_toArray, List.map_cons, List.map_nil]); first | done | rfl | (simp only [List.length_drop, List.length_take]; rfl)) ?_; (with_reducible refine (impl_SecretsOf.calls k a0 t341 _ A2.out).mono ?_); rintro e w5 ⟨v342, rfl, ho0, hb⟩; refine ⟨_, rfl, ?_⟩; have HO343 := Aside0.mk (Kd.R_lower ho0 (below_size (bZ HB))); replace BK339 := bB BK339 hb; replace BK340 := bB BK340 hb; replace HB := bS HB hb; (try clear hb); (try clear hb2); (try clear hk); (try clear hi); (try clear ho0); obtain ⟨Ao6, co6, eo6⟩ := Kd.R_slice HO343.out; subst eo6))
 go_loopg [9] k (fun kq v9 w' => ∃ (x9_1 : Int) (x341000_1 : List (S48)) (u341000 : Value), v9 = .int .i64 x9_1 ∧ Aside0 (impl_CommitteeOf.l0 kq t341 (t341.length : Int) x9_1 x341000_1 = some r) ∧ Aside0 (kq ≤ k) ∧ Aside0 (Kd.R (Kd.int .i64) 3 w' w.heap.size (fun _ => True) (.slice Ao6 t341.length co6) t341) ∧ Aside0 (Kd.R k48 48 w' w.heap.size (fun _ => True) u341000 x341000_1) ∧ Aside0 (w'.heap[gb339]? = some (.cells #[(.slice none 0 0)] 29 (0, 0))) ∧ Aside0 (w'.heap[gb340]? = some (.cells #[u341000] 29 (0, 0))) ∧ Aside0 (Below w.heap.size w w'))
 case atStart => exact ⟨(0), (([] : List (S48))), (.slice none 0 0), (by first | rfl | (simp; done) | (simp [*]; done)), H', ⟨Nat.le_refl _⟩, ⟨by (with_reducible repeat (first | apply Kd.R_alloc | apply Kd.R_drewN | apply Kd.R_drew)); exact HO343.out⟩, ⟨by first | exact Kd.R_nil _ _ _ _ _ | exact Kd.N_nil _ _ _ _ _ | exact Kd.V_nil _ _ _ _ _ | exact Kd.Q_nil _ _ _ _ _ | exact Kd.S_nil _ _ _ _ _⟩, ⟨bP BK339⟩, ⟨bP BK340⟩, ⟨bZ HB⟩⟩
 case round =>
  clear H'
  try clear c1
  try clear p2
  try clear c3
  obtain ⟨x9_1, x341000_1, u341000, rfl, HA, HK1, HO_7, HO_341000, BK339, BK340, HB⟩ := hrel
  cases gk with
  | zero => exact absurd HA.out (by simp [impl_CommitteeOf.l0])
  | succ k1 =>
   have H := HA.out
   clear HA
   simp only [impl_CommitteeOf.l0] at H
   by_cases c7 : x9_1 < (t341.length : Int)
   ·rw [if_pos c7] at H
    have c7b0 : decide (x9_1 < (t341.length : Int)) = true := decide_eq_true c7
    clear c7
    by_cases c8 : 0 ≤ x9_1
    ·rw [if_pos c8] at H
     have c8b0 : decide (0 ≤ x9_1) = true := decide_eq_true c8
     clear c8
     by_cases c9 : x9_1 < (t341.length : Int)
     ·rw [if_pos c9] at H
      have c9b0 : decide (x9_1 < (t341.length : Int)) = true := decide_eq_true c9
      clear c9
      replace H := Option.bind_eq_some_iff.mp H
      obtain ⟨⟨t345, t346, t347⟩, A100, H⟩ := H
      replace H : (if x341000_1.length < 5864062014805 then (impl_CommitteeOf.l0 k1 t341 (t341.length : Int) (wrap64 (x9_1 + 1)) (x341000_1 ++ [(⟨t345, t346, t347⟩ : S48)])) else (none)) = some r := H
      have A10 := Aside0.mk A100
      clear A100
      by_cases c11 : x341000_1.length < 5864062014805
      ·rw [if_pos c11] at H
       have LMc11 := Aside0.mk c11
       clear c11
       obtain ⟨y348, hy348⟩ : ∃ y_ : List (S48), y_ = (x341000_1 ++ [(⟨t345, t346, t347⟩ : S48)]) := ⟨_, rfl⟩
       replace H : (impl_CommitteeOf.l0 k1 t341 (t341.length : Int) (wrap64 (x9_1 + 1)) y348) = some r := by first | (rw [hy348]; with_reducible exact H) | (have H2_ := (Option.bind_some _ _).symm.trans H; rw [hy348]; with_reducible exact H2_) | (have H2_ := (Option.bind_some _ _).symm.trans H; with_reducible exact H2_) | with_reducible exact H | (rw [hy348]; exact H) | exact H
       have Ny348 := Aside0.mk hy348
       clear hy348
       have H' := Aside0.mk H
       clear H
       have p344 : 0 ≤ (x9_1 : Int) := of_decide_eq_true (by first | (with_reducible assumption) | assumption)
       have q344 : x9_1 < (t341.length : Int) := of_decide_eq_true (by first | (with_reducible assumption) | assumption)
       obtain ⟨ad344, e344, hx344_0⟩ := Kd.at_int (Kd.R_reads' HO_7.out).2.2 x9_1 p344 q344
       cases e344
       replace p344 := eq_true p344
       replace q344 := eq_true q344
       try go_wp2
       replace HO_7 := Aside0.mk (Kd.R_drew HO_7.out)
       replace HO_341000 := Aside0.mk (Kd.R_drew HO_341000.out)
       replace BK339 := Aside0.mk (blk_drew BK339.out)
       replace BK340 := Aside0.mk (blk_drew BK340.out)
       replace HB := Aside0.mk (below_drew1 HB.out)
       refine start_ (n := 8) (S := fun w' => w'.cell? ⟨gb340, 0, none⟩ = some (u341000)) (ds := [7]) #[false, false, false, false, false, false, false, false] (by kernel_rfl) rfl rfl (bc BK340 0) (fun hHeld => ?_); refine with_tabW impl_CommitteeOf.tab5 impl_CommitteeOf.bits5 (fun HT_ HW_ => ?_)
       generalize wr.drew = w12 at HO_7 HO_341000 BK339 BK340 HB hHeld ⊢
       refine pure_ (i := 0) (N := some 13) (v := ?_) (a' := ?_) #[true, false, false, false, false, false, false, false] rfl rfl (any_of HT_.out (by kernel_rfl)) (fun _ _ _ h => h) (Or.inl ⟨by rfl, ?_⟩) ?_ ?_
       rotate_left
       ·intro w'
        go_simp
        with_reducible rfl
       rotate_left
       ·simp only [Act.put, List.setIfInBounds_toArray, List.set_cons_zero, List.set_cons_succ, i64_w, i32_w]
        rfl
       refine pure_ (i := 2) (N := some 15) (v := ?_) (a' := ?_) #[true, false, true, false, false, false, false, false] rfl rfl (any_of HT_.out (by kernel_rfl)) (fun _ _ _ h => h) (Or.inl ⟨by rfl, ?_⟩) ?_ ?_
       rotate_left
       ·intro w'
        go_simp
        with_reducible rfl
       rotate_left
       ·simp only [Act.put, List.setIfInBounds_toArray, List.set_cons_zero, List.set_cons_succ, i64_w, i32_w]
        rfl
       refine take_ (i := 1) (N := some 14) (v := ?_) (a' := ?_) #[true, true, true, false, false, false, false, false] rfl rfl (take_ofW HT_.out HW_.out (by kernel_rfl)) (fun _ _ _ h => h) (Or.inl ⟨by rfl, ?_⟩) hHeld ?_ ?_
       rotate_left
       ·intro w' s0
        go_simp
        with_reducible rfl
       rotate_left
       ·simp only [Act.put, List.setIfInBounds_toArray, List.set_cons_zero, List.set_cons_succ, i64_w, i32_w]
        rfl
       refine one_ (i := 3) (N := some 16) #[true, true, true, true, false, false, false, false] rfl rfl (one_of HT_.out (by kernel_rfl)) (by decide) (fun K hK => ?_)
       refine goes_ Try.func33 (by kernel_rfl) rfl #[.int .i64 (rd t341 x9_1)] (by rfl) rfl rfl (by (try simp only [List.map_toArray, List.map_cons, List.map_nil]); first | done | rfl | (simp only [List.length_drop, List.length_take]; rfl)) ?_
       with_reducible refine (impl_KeyOf.calls k1 (rd t341 x9_1) t345 t346 t347 _ A10.out).mono ?_
       rintro e w13 ⟨rfl, hb⟩
       refine ⟨_, rfl, ?_⟩
       replace HO_7 := Aside0.mk (Kd.R_below (by (with_reducible repeat (first | apply Kd.R_alloc | apply Kd.R_drewN | apply Kd.R_drew)); exact HO_7.out) hb)
       replace HO_341000 := Aside0.mk (Kd.R_below (by (with_reducible repeat (first | apply Kd.R_alloc | apply Kd.R_drewN | apply Kd.R_drew)); exact HO_341000.out) hb)
       replace BK339 := bB BK339 hb
       replace BK340 := bB BK340 hb
       replace HB := bS HB hb
       (try clear hb)
       (try clear hb2)
       (try clear hk)
       (try clear hi)
       refine hK.out _ _ (bc BK340 0) (fun hHeld => ?_)
       clear hK K
       refine norm_ (a' := ?_) ?_ ?_
       rotate_left
       ·show Act.put _ (some 16) _ = _
        simp only [Act.put, List.setIfInBounds_toArray, List.set_cons_zero, List.set_cons_succ, i64_w, i32_w]
        rfl
       refine one_ (i := 4) (N := some 17) #[true, true, true, true, true, false, false, false] rfl rfl (one_of HT_.out (by kernel_rfl)) (by decide) (fun K hK => ?_)
       refine value_ (w1 := ?_) (v := ?_) (by rfl) rfl ?_ ?_
       rotate_left 2
       ·go_simp
        constructor
        ·rfl
        ·rfl
       refine hK.out _ _ ((blk_cell (blk_alloc BK340.out _) 0).trans rfl) (fun hHeld => ?_)
       clear hK K
       refine norm_ (a' := ?_) ?_ ?_
       rotate_left
       ·show Act.put _ (some 17) _ = _
        simp only [Act.put, List.setIfInBounds_toArray, List.set_cons_zero, List.set_cons_succ, i64_w, i32_w]
        rfl
       refine one_ (i := 5) (N := some 18) #[true, true, true, true, true, true, false, false] rfl rfl (one_of HT_.out (by kernel_rfl)) (by decide) (fun K hK => ?_)
       refine Kd.R_append_step k48 (w0 := w) w.heap.size (by rfl) (.tmp 14) (.tmp 17) 27 48 (.agg #[(.int .i64 0), (.int .i64 0), (.bool false)]) 24 rfl Try.underlying27 info48 rfl (by decide) (by omega) u341000 x341000_1 (⟨t345, t346, t347⟩ : S48) [.int .i64 t345, .int .i64 t346, .bool t347] (fun _ => True) (fun _ => False) rfl rfl ?aP (fun _ hk => hk.elim) ?aF ?aO ?aB ?aS ?aL ?_
       (case aP => exact k48_mkM _ _ _ (⟨t345, t346, t347⟩ : S48))
       (case aB => exact (bZ HB))
       (case aF => exact (fun _ _ => trivial))
       (case aO => exact (by (with_reducible repeat (first | apply Kd.R_alloc | apply Kd.R_drewN | apply Kd.R_drew)); exact HO_341000.out))
       (case aS => exact (below_size (bZ HB)))
       (case aL => have := LMc11.out; omega)
       intro v349 w14 ho hb hg hat
       rw [← Ny348.out] at ho
       replace HO_7 := Aside0.mk (Kd.R_over' (by (with_reducible repeat (first | apply Kd.R_alloc | apply Kd.R_drewN | apply Kd.R_drew)); exact HO_7.out) (Kd.R_typed (by (with_reducible repeat (first | apply Kd.R_alloc | apply Kd.R_drewN | apply Kd.R_drew)); exact HO_341000.out)) (by decide) hg)
       replace BK339 := Aside0.mk (blk_grown (bP BK339) hg (Kd.R_ne HO_341000.out BK339.out (by decide)))
       replace BK340 := Aside0.mk (blk_grown (bP BK340) hg (Kd.R_ne HO_341000.out BK340.out (by decide)))
       replace HB := Aside0.mk (hb)
       have HO350 := Aside0.mk (ho)
       clear HO_341000
       clear ho hb hg hat
       obtain ⟨Ao15, co15, eo15⟩ := Kd.R_slice HO350.out
       (first | subst eo15 | (injection eo15 with f1_ f2_ f3_; have f4_ := f1_.symm; have f5_ := f3_.symm; clear f1_ f2_ f3_; subst f4_; subst f5_))
       refine hK.out _ _ (bc BK340 0) (fun hHeld => ?_)
       clear hK K
       refine norm_ (a' := ?_) ?_ ?_
       rotate_left
       ·show Act.put _ (some 18) _ = _
        simp only [Act.put, List.setIfInBounds_toArray, List.set_cons_zero, List.set_cons_succ, i64_w, i32_w]
        rfl
       refine pure_ (i := 6) (N := some 19) (v := ?_) (a' := ?_) #[true, true, true, true, true, true, true, false] rfl rfl (any_of HT_.out (by kernel_rfl)) (fun _ _ _ h => h) (Or.inl ⟨by rfl, ?_⟩) ?_ ?_
       rotate_left
       ·intro w'
        go_simp
        with_reducible rfl
       rotate_left
       ·simp only [Act.put, List.setIfInBounds_toArray, List.set_cons_zero, List.set_cons_succ, i64_w, i32_w]
        rfl
       refine last_ (i := 7) (N := none) #[true, true, true, true, true, true, true, true] rfl rfl (one_of HT_.out (by kernel_rfl)) (by decide) (fun K hK => ?_)
       have hs16 : w14.cell? ⟨gb340, 0, none⟩ = some (u341000) := bc BK340 0
       have hfs16 := blk_frozen BK340.out 0
       have hns16_0 := NB339_340.out
       have hms16_0 := NB340_339.out
       refine skip_ (w1 := ?_) (by rfl) rfl ?_ ?_
       rotate_left
       ·go_simp
        rfl
       refine hK.out _ _ ?_
       clear hK K
       refine done_ (done_of HT_.out (by kernel_rfl)) ?_
       try go_wp2
       go_roundg k1
       case measure => have := HK1.out; omega
       case rel => exact ⟨(wrap64 (x9_1 + 1)), (y348), (.slice Ao15 y348.length co15), (by first | rfl | (simp; done) | (simp [*]; done)), H', ⟨by have := HK1.out; omega⟩, ⟨by (with_reducible repeat (first | apply Kd.R_alloc | apply Kd.R_drewN | apply Kd.R_drew)); exact Kd.R_mono (Kd.R_far (p := ⟨gb340, 0, none⟩) (Kd.R_types HO_7.out BK340.out (by decide)) (fun _ hk => hk.2) (.slice Ao15 y348.length co15)) (fun _ hk => trivial)⟩, ⟨by (with_reducible repeat (first | apply Kd.R_alloc | apply Kd.R_drewN | apply Kd.R_drew)); exact Kd.R_mono (Kd.R_far (p := ⟨gb340, 0, none⟩) (Kd.R_types HO350.out BK340.out (by decide)) (fun _ hk => hk.2) (.slice Ao15 y348.length co15)) (fun _ hk => trivial)⟩, ⟨bP BK339⟩, ⟨by (with_reducible repeat (first | refine blk_drewN ?_ _ | refine blk_drew ?_ | refine blk_alloc ?_ _)); refine blk_put (cs := #[u341000]) ?_ 0 _ rfl; (with_reducible repeat (first | refine blk_drewN ?_ _ | refine blk_drew ?_ | refine blk_alloc ?_ _)); exact BK340.out⟩, ⟨bZ HB⟩⟩
      ·rw [if_neg c11] at H
       exact absurd H (by simp)
     ·rw [if_neg c9] at H
      exact absurd H (by simp)
    ·rw [if_neg c8] at H
     exact absurd H (by simp)
   ·rw [if_neg c7] at H
    have c7b0 : decide (x9_1 < (t341.length : Int)) = false := decide_eq_false c7
    clear c7
    obtain rfl := Option.some.inj H
    have hnb17 := NB340_339.out
    have hnc17 := NB339_340.out
    have hcz18_0 : wr.cell? ⟨gb340, 0, none⟩ = some (u341000) := bc BK340 0
    have hfz18_0 := blk_frozen BK340.out 0
    obtain ⟨Ao19, co19, eo19⟩ := Kd.R_slice HO_341000.out
    subst eo19
    have hcz20_0 : wr.cell? ⟨gb339, 0, none⟩ = some (.slice none 0 0) := bc BK339 0
    have hfz20_0 := blk_frozen BK339.out 0
    go_wp2
    refine bodyPost_ret (results_cell_row rfl _ _ gb339 29 #[.slice Ao19 x341000_1.length co19] (0, 0) _ rfl (by (with_reducible repeat (first | refine blk_drewN ?_ _ | refine blk_drew ?_ | refine blk_alloc ?_ _)); refine blk_put (cs := #[.slice none 0 0]) ?_ 0 _ rfl; (with_reducible repeat (first | refine blk_drewN ?_ _ | refine blk_drew ?_ | refine blk_alloc ?_ _)); exact BK339.out) Try.underlying29 rfl (by kernel_rfl)) rfl ?_
    exact ⟨_, by first | rfl | (simp [errW_none, errW_some] <;> rfl) | (simp [*, errW_none, errW_some] <;> rfl), by (with_reducible repeat (first | apply Kd.R_alloc | apply Kd.R_drewN | apply Kd.R_drew)); exact Kd.R_mono (Kd.R_far (p := ⟨gb339, 0, none⟩) (Kd.R_types HO_341000.out BK339.out (by decide)) (fun _ hk => hk.2) (.slice Ao19 x341000_1.length co19)) (fun _ hk => trivial), bZ HB⟩
/-! ### laws_markPointS: function 20 -/
def laws_markPointS.l0 : Nat → List (S48) → Int → Int → Option (Int × (List (S48)))
 | 0, _, _, _ => none
 | k + 1, x0, x1, x5 => if x5 < (x0.length : Int) then (if 0 ≤ x5 then ((some (x0.set (x5 : Int).toNat (⟨x1, (rd_T48 x0 x5).f1, (rd_T48 x0 x5).f2⟩ : S48) : List (S48))).bind fun y351 => ((some (y351.set (x5 : Int).toNat (⟨(rd_T48 y351 x5).f0, wrap64 (x1 + 1), (rd_T48 y351 x5).f2⟩ : S48) : List (S48))).bind fun y352 => (laws_markPointS.l0 k (y352.set (x5 : Int).toNat (⟨(rd_T48 y352 x5).f0, (rd_T48 y352 x5).f1, ((Int.tmod (wrap64 ((wrap64 (x1 + 1)) + 1)) 3) == 0)⟩ : S48)) (wrap64 ((wrap64 ((wrap64 (x1 + 1)) + 1)) + 1)) (wrap64 (x5 + 1))))) else (none)) else (some (x1, x0))
def laws_markPointS.f (k : Nat) (l0 : List (S48)) (a1 : Int) : Option (Int × (List (S48))) := laws_markPointS.l0 k l0 a1 0
theorem laws_markPointS.mono_l : ∀ k, (∀ y0 y1 y2, LeO (laws_markPointS.l0 k y0 y1 y2) (laws_markPointS.l0 (k + 1) y0 y1 y2))
 | 0 => fun _ _ _ r h => by simp [laws_markPointS.l0] at h
 | k + 1 => by
  have ih0 := laws_markPointS.mono_l k
  ·intro y0 y1 y2
   unfold laws_markPointS.l0
   repeat' first
   | (with_reducible exact ih0 _ _ _)
   | (with_reducible exact LeO.refl _)
   | (with_reducible exact LeO.none _)
   | (with_reducible refine LeO.ite ?_ ?_)
   | (with_reducible refine LeO.bind ?_ (fun _ => ?_))
   | exact ih0 _ _ _
   | exact LeO.none _
   | refine LeO.ite ?_ ?_
   | refine LeO.bind ?_ (fun _ => ?_)
theorem laws_markPointS.mono : ∀ a0 a1 k, LeO (laws_markPointS.f k a0 a1) (laws_markPointS.f (k + 1) a0 a1) := by
 intro a0 a1 k
 have ih0 := laws_markPointS.mono_l k
 unfold laws_markPointS.f
 repeat' first
   | (with_reducible exact ih0 _ _ _)
   | (with_reducible exact LeO.refl _)
   | (with_reducible exact LeO.none _)
   | (with_reducible refine LeO.ite ?_ ?_)
   | (with_reducible refine LeO.bind ?_ (fun _ => ?_))
   | exact ih0 _ _ _
   | exact LeO.none _
   | refine LeO.ite ?_ ?_
   | refine LeO.bind ?_ (fun _ => ?_)
set_option maxHeartbeats 8000000 in
set_option maxRecDepth 100000 in
theorem laws_markPointS.calls (k : Nat) (P0_ : Nat → Prop) (u9000_ : Value) (l0 : List (S48)) (a1 : Int) (r1 : Int) (r2 : List (S48)) (w0 w : World) (hB : Below w0.heap.size w0 w) (ho0 : Kd.R k48 48 w w0.heap.size P0_ u9000_ l0) (h : laws_markPointS.f k l0 a1 = some (r1, r2)) :
  Calls Try.prog 20 #[u9000_, .int .i64 a1] w fun e w' => e = .returned (.int .i64 r1) ∧ Kd.R k48 48 w' w0.heap.size (fun k_ => (P0_ k_ ∨ w.heap.size ≤ k_)) u9000_ r2 ∧ Below w0.heap.size w0 w' ∧ Kept w w' (fun k_ => P0_ k_) := by
 have HO0 := Aside0.mk (show Kd.R k48 48 w w0.heap.size (fun k_ => (P0_ k_ ∨ w.heap.size ≤ k_)) u9000_ l0 from Kd.R_mono ho0 (fun k_ hk => (.inl hk)))
 have HK := Aside0.mk (Kept.refl w (fun k_ => P0_ k_))
 have HW0 := Aside0.mk hB.size
 have HB := Aside0.mk hB
 clear hB
 have H : (laws_markPointS.l0 k l0 a1 0) = some (r1, r2) := h
 clear h
 have H' := Aside0.mk H
 clear H
 go_enter Try.func20, Try.ntmps20
 go_wp2
 go_loopg [1, 5] k (fun kq v1 v5 w' => ∃ (x0_1 : List (S48)) (x1_1 : Int) (x5_1 : Int), v1 = .int .i64 x1_1 ∧ v5 = .int .i64 x5_1 ∧ Aside0 (laws_markPointS.l0 kq x0_1 x1_1 x5_1 = some (r1, r2)) ∧ Aside0 (kq ≤ k) ∧ Aside0 (Kd.R k48 48 w' w0.heap.size (fun k_ => (P0_ k_ ∨ w.heap.size ≤ k_)) u9000_ x0_1) ∧ Aside0 (Kept w w' (fun k_ => P0_ k_)) ∧ Aside0 (Below w0.heap.size w0 w'))
 case atStart => exact ⟨(l0), (a1), (0), (by first | rfl | (simp; done) | (simp [*]; done)), (by first | rfl | (simp; done) | (simp [*]; done)), H', ⟨Nat.le_refl _⟩, ⟨by (with_reducible repeat (first | apply Kd.R_alloc | apply Kd.R_drewN | apply Kd.R_drew)); exact HO0.out⟩, ⟨by repeat (first | (with_reducible first | exact HK.out | apply Kept.alloc | apply Kept.drewN | apply Kept.drew) | exact HK.out)⟩, ⟨bZ HB⟩⟩
 case round =>
  clear H'
  try clear c2
  try clear p2
  obtain ⟨x0_1, x1_1, x5_1, rfl, rfl, HA, HK1, HO_0, HK, HB⟩ := hrel
  cases gk with
  | zero => exact absurd HA.out (by simp [laws_markPointS.l0])
  | succ k1 =>
   have H := HA.out
   clear HA
   simp only [laws_markPointS.l0] at H
   by_cases c3 : x5_1 < (x0_1.length : Int)
   ·rw [if_pos c3] at H
    have c3b0 : decide (x5_1 < (x0_1.length : Int)) = true := decide_eq_true c3
    clear c3
    by_cases c4 : 0 ≤ x5_1
    ·rw [if_pos c4] at H
     have c4b0 : decide (0 ≤ x5_1) = true := decide_eq_true c4
     clear c4
     obtain ⟨y351, hy351⟩ : ∃ y_ : List (S48), y_ = (x0_1.set (x5_1 : Int).toNat (⟨x1_1, (rd_T48 x0_1 x5_1).f1, (rd_T48 x0_1 x5_1).f2⟩ : S48)) := ⟨_, rfl⟩
     replace H : ((some (y351.set (x5_1 : Int).toNat (⟨(rd_T48 y351 x5_1).f0, wrap64 (x1_1 + 1), (rd_T48 y351 x5_1).f2⟩ : S48) : List (S48))).bind fun y352 => (laws_markPointS.l0 k1 (y352.set (x5_1 : Int).toNat (⟨(rd_T48 y352 x5_1).f0, (rd_T48 y352 x5_1).f1, ((Int.tmod (wrap64 ((wrap64 (x1_1 + 1)) + 1)) 3) == 0)⟩ : S48)) (wrap64 ((wrap64 ((wrap64 (x1_1 + 1)) + 1)) + 1)) (wrap64 (x5_1 + 1)))) = some (r1, r2) := by first | (rw [hy351]; with_reducible exact H) | (have H2_ := (Option.bind_some _ _).symm.trans H; rw [hy351]; with_reducible exact H2_) | (have H2_ := (Option.bind_some _ _).symm.trans H; with_reducible exact H2_) | with_reducible exact H | (rw [hy351]; exact H) | exact H
     have Ny351 := Aside0.mk hy351
     clear hy351
     obtain ⟨y352, hy352⟩ : ∃ y_ : List (S48), y_ = (y351.set (x5_1 : Int).toNat (⟨(rd_T48 y351 x5_1).f0, wrap64 (x1_1 + 1), (rd_T48 y351 x5_1).f2⟩ : S48)) := ⟨_, rfl⟩
     replace H : (laws_markPointS.l0 k1 (y352.set (x5_1 : Int).toNat (⟨(rd_T48 y352 x5_1).f0, (rd_T48 y352 x5_1).f1, ((Int.tmod (wrap64 ((wrap64 (x1_1 + 1)) + 1)) 3) == 0)⟩ : S48)) (wrap64 ((wrap64 ((wrap64 (x1_1 + 1)) + 1)) + 1)) (wrap64 (x5_1 + 1))) = some (r1, r2) := by first | (rw [hy352]; with_reducible exact H) | (have H2_ := (Option.bind_some _ _).symm.trans H; rw [hy352]; with_reducible exact H2_) | (have H2_ := (Option.bind_some _ _).symm.trans H; with_reducible exact H2_) | with_reducible exact H | (rw [hy352]; exact H) | exact H
     have Ny352 := Aside0.mk hy352
     clear hy352
     obtain ⟨y353, hy353⟩ : ∃ y_ : List (S48), y_ = (y352.set (x5_1 : Int).toNat (⟨(rd_T48 y352 x5_1).f0, (rd_T48 y352 x5_1).f1, ((Int.tmod (wrap64 ((wrap64 (x1_1 + 1)) + 1)) 3) == 0)⟩ : S48)) := ⟨_, rfl⟩
     replace H : (laws_markPointS.l0 k1 y353 (wrap64 ((wrap64 ((wrap64 (x1_1 + 1)) + 1)) + 1)) (wrap64 (x5_1 + 1))) = some (r1, r2) := by first | (rw [hy353]; with_reducible exact H) | (have H2_ := (Option.bind_some _ _).symm.trans H; rw [hy353]; with_reducible exact H2_) | (have H2_ := (Option.bind_some _ _).symm.trans H; with_reducible exact H2_) | with_reducible exact H | (rw [hy353]; exact H) | exact H
     have Ny353 := Aside0.mk hy353
     clear hy353
     have H' := Aside0.mk H
     clear H
     obtain ⟨Ao8, co8, eo8⟩ := Kd.R_slice HO_0.out
     subst eo8
     have p5 : 0 ≤ (x5_1 : Int) := of_decide_eq_true (by first | (with_reducible assumption) | assumption)
     have q5 : (x5_1 : Int) < ((x0_1.length : Int) : Int) := of_decide_eq_true (by first | (with_reducible assumption) | assumption)
     obtain ⟨go5, co5, eo5, gb5, gl5, cl5, HG5⟩ := Kd.R_form HO_0.out (by omega)
     (first | cases eo5 | (injection eo5 with ea_ en_ ec_; (first | subst ea_ | (injection ea_ with ea_; subst ea_)); subst ec_; clear en_))
     have GB5 := Aside0.mk gb5
     have GG5 := Aside0.mk HG5
     clear gb5 gl5 HG5
     have HMgo5 := Aside0.mk (show (P0_ go5 ∨ w.heap.size ≤ go5) from (HO_0.out.1 _ rfl))
     obtain ⟨ce5, hcl5, hM5, hcc5, hfr5⟩ := Kd.R_elem HO_0.out z48 (x5_1 : Int) p5 q5
     obtain rfl := k48_openM hM5
     have hx5_0 : wr.cell? ⟨go5, (x5_1 : Int).toNat * 3, none⟩ = some (.int .i64 ((rd_T48 x0_1 x5_1).f0)) := hcc5 0 _ rfl
     have hx5_1 : wr.cell? ⟨go5, (x5_1 : Int).toNat * 3 + 1, none⟩ = some (.int .i64 ((rd_T48 x0_1 x5_1).f1)) := hcc5 1 _ rfl
     have hx5_2 : wr.cell? ⟨go5, (x5_1 : Int).toNat * 3 + 2, none⟩ = some (.bool ((rd_T48 x0_1 x5_1).f2)) := hcc5 2 _ rfl
     have hf5_0 : wr.frozen? ⟨go5, (x5_1 : Int).toNat * 3, none⟩ = false := hfr5 0
     have hf5_1 : wr.frozen? ⟨go5, (x5_1 : Int).toNat * 3 + 1, none⟩ = false := hfr5 1
     have hf5_2 : wr.frozen? ⟨go5, (x5_1 : Int).toNat * 3 + 2, none⟩ = false := hfr5 2
     clear hcl5 hcc5 hfr5; (try clear hM5)
     replace p5 := eq_true p5
     replace q5 := eq_true q5
     have HX9 := Aside0.mk (show Kd.R k48 48 wr w0.heap.size (fun k_ => (P0_ k_ ∨ w.heap.size ≤ k_)) (.slice (some ⟨go5, 0, none⟩) x0_1.length co8) x0_1 from (by (with_reducible repeat (first | apply Kd.R_alloc | apply Kd.R_drewN | apply Kd.R_drew)); exact HO_0.out))
     obtain ⟨ce9, hcl9, hM9, hcc9, hfr9⟩ := Kd.R_elem HX9.out z48 (x5_1 : Int) (of_decide_eq_true (by first | (with_reducible assumption) | assumption)) (by have h_ : (x5_1 : Int) < ((x0_1.length : Int) : Int) := of_decide_eq_true (by first | (with_reducible assumption) | assumption); first | exact h_ | (have e_ := (Kd.R_reads' HO_0.out).1; omega) | simpa using h_)
     obtain rfl := k48_openM hM9
     have HP9 := Kd.R_seg HX9.out (x5_1 : Int) (of_decide_eq_true (by first | (with_reducible assumption) | assumption)) (by have h_ : (x5_1 : Int) < ((x0_1.length : Int) : Int) := of_decide_eq_true (by first | (with_reducible assumption) | assumption); first | exact h_ | (have e_ := (Kd.R_reads' HO_0.out).1; omega) | simpa using h_) (seg := [.int .i64 x1_1]) (j := 0) hcl9 hcc9 (show 1 ≤ 3 from by decide) (x' := (⟨x1_1, (rd_T48 x0_1 x5_1).f1, (rd_T48 x0_1 x5_1).f2⟩ : S48)) (k48_mkM _ _ _ (⟨x1_1, (rd_T48 x0_1 x5_1).f1, (rd_T48 x0_1 x5_1).f2⟩ : S48) ) (fun _ hk => hk)
     have hx9_0 := hcc9 0 _ rfl
     (try simp only [show (k48).sz = 3 from rfl, Nat.mul_one, Nat.add_zero] at hx9_0)
     have hf9_0 := hfr9 0
     (try simp only [show (k48).sz = 3 from rfl, Nat.mul_one, Nat.add_zero] at hf9_0)
     clear hcl9 hcc9 hfr9; (try clear hM9)
     go_wp2_with (first | ((with_reducible refine gate_store (t := 3) (p := 16) rfl ?_); refine store_event (t := 3) (p := 16) (v := ?vo_w10) (w1 := (wr.setCell ⟨go5, (x5_1 : Int).toNat * 3, none⟩ (.int .i64 x1_1))) ?hg ?ho ?hn ?hr ?_; (case ho => rfl); (case hg => rfl); (case hn => rfl); (case hr => first | (go_simp; done) | (go_simp; rfl)); intro w10 hw; have hg : wr.grownBy w10 (some go5) := (by rw [hw]; exact HP9.2); have hp_ : Kd.R k48 48 w10 w0.heap.size (fun k_ => (P0_ k_ ∨ w.heap.size ≤ k_)) (.slice (some ⟨go5, 0, none⟩) x0_1.length co8) y351 := (by rw [hw, Ny351.out]; exact HP9.1); clear HP9; replace HB := Aside0.mk ((by rw [hw]; exact below_set (HB.out) GB5.out : Below w0.heap.size w0 w10)); replace HK := Aside0.mk (Kept.of_grown (S := (fun k_ => P0_ k_)) hg (by repeat (first | (with_reducible first | exact HK.out | apply Kept.alloc | apply Kept.drewN | apply Kept.drew) | exact HK.out)) (fun k_ e_ => (HO_0.out.1 k_ e_))); replace HO_0 := Aside0.mk (hp_); clear hg hw hp_; have p6 : 0 ≤ (x5_1 : Int) := of_decide_eq_true (by first | (with_reducible assumption) | assumption); have q6 : (x5_1 : Int) < ((x0_1.length : Int) : Int) := of_decide_eq_true (by first | (with_reducible assumption) | assumption); obtain ⟨ce6, hcl6, hM6, hcc6, hfr6⟩ := Kd.R_elem HO_0.out z48 (x5_1 : Int) p6 q6; obtain rfl := k48_openM hM6; have hx6_0 : w10.cell? ⟨go5, (x5_1 : Int).toNat * 3, none⟩ = some (.int .i64 ((rd_T48 y351 x5_1).f0)) := hcc6 0 _ rfl; have hx6_1 : w10.cell? ⟨go5, (x5_1 : Int).toNat * 3 + 1, none⟩ = some (.int .i64 ((rd_T48 y351 x5_1).f1)) := hcc6 1 _ rfl; have hx6_2 : w10.cell? ⟨go5, (x5_1 : Int).toNat * 3 + 2, none⟩ = some (.bool ((rd_T48 y351 x5_1).f2)) := hcc6 2 _ rfl; have hf6_0 : w10.frozen? ⟨go5, (x5_1 : Int).toNat * 3, none⟩ = false := hfr6 0; have hf6_1 : w10.frozen? ⟨go5, (x5_1 : Int).toNat * 3 + 1, none⟩ = false := hfr6 1; have hf6_2 : w10.frozen? ⟨go5, (x5_1 : Int).toNat * 3 + 2, none⟩ = false := hfr6 2; clear hcl6 hcc6 hfr6; (try clear hM6); replace p6 := eq_true p6; replace q6 := eq_true q6; have HX11 := Aside0.mk (show Kd.R k48 48 w10 w0.heap.size (fun k_ => (P0_ k_ ∨ w.heap.size ≤ k_)) (.slice (some ⟨go5, 0, none⟩) x0_1.length co8) y351 from (by (with_reducible repeat (first | apply Kd.R_alloc | apply Kd.R_drewN | apply Kd.R_drew)); exact HO_0.out)); obtain ⟨ce11, hcl11, hM11, hcc11, hfr11⟩ := Kd.R_elem HX11.out z48 (x5_1 : Int) (of_decide_eq_true (by first | (with_reducible assumption) | assumption)) (by have h_ : (x5_1 : Int) < ((x0_1.length : Int) : Int) := of_decide_eq_true (by first | (with_reducible assumption) | assumption); first | exact h_ | (have e_ := (Kd.R_reads' HO_0.out).1; omega) | simpa using h_); obtain rfl := k48_openM hM11; have HP11 := Kd.R_seg HX11.out (x5_1 : Int) (of_decide_eq_true (by first | (with_reducible assumption) | assumption)) (by have h_ : (x5_1 : Int) < ((x0_1.length : Int) : Int) := of_decide_eq_true (by first | (with_reducible assumption) | assumption); first | exact h_ | (have e_ := (Kd.R_reads' HO_0.out).1; omega) | simpa using h_) (seg := [.int .i64 (wrap64 (x1_1 + 1))]) (j := 1) hcl11 hcc11 (show 2 ≤ 3 from by decide) (x' := (⟨(rd_T48 y351 x5_1).f0, wrap64 (x1_1 + 1), (rd_T48 y351 x5_1).f2⟩ : S48)) (k48_mkM _ _ _ (⟨(rd_T48 y351 x5_1).f0, wrap64 (x1_1 + 1), (rd_T48 y351 x5_1).f2⟩ : S48) ) (fun _ hk => hk); have hx11_1 := hcc11 1 _ rfl; (try simp only [show (k48).sz = 3 from rfl, Nat.mul_one, Nat.add_zero] at hx11_1); have hf11_1 := hfr11 1; (try simp only [show (k48).sz = 3 from rfl, Nat.mul_one, Nat.add_zero] at hf11_1); clear hcl11 hcc11 hfr11; (try clear hM11)) | ((with_reducible refine gate_store (t := 3) (p := 23) rfl ?_); refine store_event (t := 3) (p := 23) (v := ?vo_w12) (w1 := (w10.setCell ⟨go5, (x5_1 : Int).toNat * 3 + 1, none⟩ (.int .i64 (wrap64 (x1_1 + 1))))) ?hg ?ho ?hn ?hr ?_; (case ho => rfl); (case hg => rfl); (case hn => rfl); (case hr => first | (go_simp; done) | (go_simp; rfl)); intro w12 hw; have hg : w10.grownBy w12 (some go5) := (by rw [hw]; exact HP11.2); have hp_ : Kd.R k48 48 w12 w0.heap.size (fun k_ => (P0_ k_ ∨ w.heap.size ≤ k_)) (.slice (some ⟨go5, 0, none⟩) x0_1.length co8) y352 := (by rw [hw, Ny352.out]; exact HP11.1); clear HP11; replace HB := Aside0.mk ((by rw [hw]; exact below_set (HB.out) GB5.out : Below w0.heap.size w0 w12)); replace HK := Aside0.mk (Kept.of_grown (S := (fun k_ => P0_ k_)) hg (by repeat (first | (with_reducible first | exact HK.out | apply Kept.alloc | apply Kept.drewN | apply Kept.drew) | exact HK.out)) (fun k_ e_ => (HO_0.out.1 k_ e_))); replace HO_0 := Aside0.mk (hp_); clear hg hw hp_; have p7 : 0 ≤ (x5_1 : Int) := of_decide_eq_true (by first | (with_reducible assumption) | assumption); have q7 : (x5_1 : Int) < ((x0_1.length : Int) : Int) := of_decide_eq_true (by first | (with_reducible assumption) | assumption); obtain ⟨ce7, hcl7, hM7, hcc7, hfr7⟩ := Kd.R_elem HO_0.out z48 (x5_1 : Int) p7 q7; obtain rfl := k48_openM hM7; have hx7_0 : w12.cell? ⟨go5, (x5_1 : Int).toNat * 3, none⟩ = some (.int .i64 ((rd_T48 y352 x5_1).f0)) := hcc7 0 _ rfl; have hx7_1 : w12.cell? ⟨go5, (x5_1 : Int).toNat * 3 + 1, none⟩ = some (.int .i64 ((rd_T48 y352 x5_1).f1)) := hcc7 1 _ rfl; have hx7_2 : w12.cell? ⟨go5, (x5_1 : Int).toNat * 3 + 2, none⟩ = some (.bool ((rd_T48 y352 x5_1).f2)) := hcc7 2 _ rfl; have hf7_0 : w12.frozen? ⟨go5, (x5_1 : Int).toNat * 3, none⟩ = false := hfr7 0; have hf7_1 : w12.frozen? ⟨go5, (x5_1 : Int).toNat * 3 + 1, none⟩ = false := hfr7 1; have hf7_2 : w12.frozen? ⟨go5, (x5_1 : Int).toNat * 3 + 2, none⟩ = false := hfr7 2; clear hcl7 hcc7 hfr7; (try clear hM7); replace p7 := eq_true p7; replace q7 := eq_true q7; have HX13 := Aside0.mk (show Kd.R k48 48 w12 w0.heap.size (fun k_ => (P0_ k_ ∨ w.heap.size ≤ k_)) (.slice (some ⟨go5, 0, none⟩) x0_1.length co8) y352 from (by (with_reducible repeat (first | apply Kd.R_alloc | apply Kd.R_drewN | apply Kd.R_drew)); exact HO_0.out)); obtain ⟨ce13, hcl13, hM13, hcc13, hfr13⟩ := Kd.R_elem HX13.out z48 (x5_1 : Int) (of_decide_eq_true (by first | (with_reducible assumption) | assumption)) (by have h_ : (x5_1 : Int) < ((x0_1.length : Int) : Int) := of_decide_eq_true (by first | (with_reducible assumption) | assumption); first | exact h_ | (have e_ := (Kd.R_reads' HO_0.out).1; omega) | simpa using h_); obtain rfl := k48_openM hM13; have HP13 := Kd.R_seg HX13.out (x5_1 : Int) (of_decide_eq_true (by first | (with_reducible assumption) | assumption)) (by have h_ : (x5_1 : Int) < ((x0_1.length : Int) : Int) := of_decide_eq_true (by first | (with_reducible assumption) | assumption); first | exact h_ | (have e_ := (Kd.R_reads' HO_0.out).1; omega) | simpa using h_) (seg := [.bool ((Int.tmod (wrap64 ((wrap64 (x1_1 + 1)) + 1)) 3) == 0)]) (j := 2) hcl13 hcc13 (show 3 ≤ 3 from by decide) (x' := (⟨(rd_T48 y352 x5_1).f0, (rd_T48 y352 x5_1).f1, ((Int.tmod (wrap64 ((wrap64 (x1_1 + 1)) + 1)) 3) == 0)⟩ : S48)) (k48_mkM _ _ _ (⟨(rd_T48 y352 x5_1).f0, (rd_T48 y352 x5_1).f1, ((Int.tmod (wrap64 ((wrap64 (x1_1 + 1)) + 1)) 3) == 0)⟩ : S48) ) (fun _ hk => hk); have hx13_2 := hcc13 2 _ rfl; (try simp only [show (k48).sz = 3 from rfl, Nat.mul_one, Nat.add_zero] at hx13_2); have hf13_2 := hfr13 2; (try simp only [show (k48).sz = 3 from rfl, Nat.mul_one, Nat.add_zero] at hf13_2); clear hcl13 hcc13 hfr13; (try clear hM13)) | ((with_reducible refine gate_store (t := 4) (p := 32) rfl ?_); refine store_event (t := 4) (p := 32) (v := ?vo_w14) (w1 := (w12.setCell ⟨go5, (x5_1 : Int).toNat * 3 + 2, none⟩ (.bool ((Int.tmod (wrap64 ((wrap64 (x1_1 + 1)) + 1)) 3) == 0)))) ?hg ?ho ?hn ?hr ?_; (case ho => rfl); (case hg => rfl); (case hn => rfl); (case hr => first | (go_simp; done) | (go_simp; rfl)); intro w14 hw; have hg : w12.grownBy w14 (some go5) := (by rw [hw]; exact HP13.2); have hp_ : Kd.R k48 48 w14 w0.heap.size (fun k_ => (P0_ k_ ∨ w.heap.size ≤ k_)) (.slice (some ⟨go5, 0, none⟩) x0_1.length co8) y353 := (by rw [hw, Ny353.out]; exact HP13.1); clear HP13; replace HB := Aside0.mk ((by rw [hw]; exact below_set (HB.out) GB5.out : Below w0.heap.size w0 w14)); replace HK := Aside0.mk (Kept.of_grown (S := (fun k_ => P0_ k_)) hg (by repeat (first | (with_reducible first | exact HK.out | apply Kept.alloc | apply Kept.drewN | apply Kept.drew) | exact HK.out)) (fun k_ e_ => (HO_0.out.1 k_ e_))); replace HO_0 := Aside0.mk (hp_); clear hg hw hp_))
     go_roundg k1
     case measure => have := HK1.out; omega
     case rel => exact ⟨(y353), (wrap64 ((wrap64 ((wrap64 (x1_1 + 1)) + 1)) + 1)), (wrap64 (x5_1 + 1)), (by first | rfl | (simp; done) | (simp [*]; done)), (by first | rfl | (simp; done) | (simp [*]; done)), H', ⟨by have := HK1.out; omega⟩, ⟨by (with_reducible repeat (first | apply Kd.R_alloc | apply Kd.R_drewN | apply Kd.R_drew)); exact HO_0.out⟩, ⟨by repeat (first | (with_reducible first | exact HK.out | apply Kept.alloc | apply Kept.drewN | apply Kept.drew) | exact HK.out)⟩, ⟨bZ HB⟩⟩
    ·rw [if_neg c4] at H
     exact absurd H (by simp)
   ·rw [if_neg c3] at H
    have c3b0 : decide (x5_1 < (x0_1.length : Int)) = false := decide_eq_false c3
    clear c3
    simp only [Option.some.injEq, Prod.mk.injEq] at H
    obtain ⟨rfl, rfl⟩ := H
    obtain ⟨Ao15, co15, eo15⟩ := Kd.R_slice HO_0.out
    subst eo15
    go_wp2
    go_ret
    exact ⟨by first | rfl | (simp [errW_none, errW_some] <;> rfl) | (simp [*, errW_none, errW_some] <;> rfl), by (with_reducible repeat (first | apply Kd.R_alloc | apply Kd.R_drewN | apply Kd.R_drew)); exact HO_0.out, bZ HB, by repeat (first | (with_reducible first | exact HK.out | apply Kept.alloc | apply Kept.drewN | apply Kept.drew) | exact HK.out)⟩
/-! ### laws_markCommittee: function 15 -/
def laws_markCommittee.f (k : Nat) (l0_0 : List (S48)) (a1 : Int) : Option (Int × (List (S48))) := (laws_markPointS.f k l0_0 a1).bind fun bt355 => (some (bt355.1, bt355.2))
theorem laws_markCommittee.mono : ∀ a0 a1 k, LeO (laws_markCommittee.f k a0 a1) (laws_markCommittee.f (k + 1) a0 a1) := by
 intro a0 a1 k
 unfold laws_markCommittee.f
 repeat' first
   | (with_reducible exact laws_markPointS.mono _ _ _)
   | (with_reducible exact LeO.refl _)
   | (with_reducible exact LeO.none _)
   | (with_reducible refine LeO.ite ?_ ?_)
   | (with_reducible refine LeO.bind ?_ (fun _ => ?_))
   | exact laws_markPointS.mono _ _ _
   | exact LeO.none _
   | refine LeO.ite ?_ ?_
   | refine LeO.bind ?_ (fun _ => ?_)
set_option maxHeartbeats 8000000 in
set_option maxRecDepth 100000 in
theorem laws_markCommittee.calls (k : Nat) (P0_0_ : Nat → Prop) (u9000_ : Value) (l0_0 : List (S48)) (a1 : Int) (r1 : Int) (r2 : List (S48)) (w0 w : World) (hB : Below w0.heap.size w0 w) (ho0_0 : Kd.R k48 48 w w0.heap.size P0_0_ u9000_ l0_0) (h : laws_markCommittee.f k l0_0 a1 = some (r1, r2)) :
  Calls Try.prog 15 #[.agg #[u9000_], .int .i64 a1] w fun e w' => e = .returned (.int .i64 r1) ∧ Kd.R k48 48 w' w0.heap.size (fun k_ => (P0_0_ k_ ∨ w.heap.size ≤ k_)) u9000_ r2 ∧ Below w0.heap.size w0 w' ∧ Kept w w' (fun k_ => P0_0_ k_) := by
 have hu29 := Try.underlying29
 have HO0_0 := Aside0.mk (show Kd.R k48 48 w w0.heap.size (fun k_ => (P0_0_ k_ ∨ w.heap.size ≤ k_)) u9000_ l0_0 from Kd.R_mono ho0_0 (fun k_ hk => (.inl hk)))
 have HK := Aside0.mk (Kept.refl w (fun k_ => P0_0_ k_))
 have HW0 := Aside0.mk hB.size
 have HB := Aside0.mk hB
 clear hB
 have H : ((laws_markPointS.f k l0_0 a1).bind fun bt355 => (some (bt355.1, bt355.2))) = some (r1, r2) := h
 clear h
 replace H := Option.bind_eq_some_iff.mp H
 obtain ⟨⟨t355, t356⟩, A30, H⟩ := H
 replace H : (some (t355, t356)) = some (r1, r2) := H
 have A3 := Aside0.mk A30
 clear A30
 simp only [Option.some.injEq, Prod.mk.injEq] at H
 obtain ⟨rfl, rfl⟩ := H
 obtain ⟨Ao4, co4, eo4⟩ := Kd.R_slice HO0_0.out
 subst eo4
 go_enter Try.func15, Try.ntmps15
 go_wp2_with (first | ((with_reducible refine gate_dst (N := 2) rfl ?_); refine box_event ?hg (N := 2) ?hd (cs := #[.slice Ao4 l0_0.length co4]) (t := 29) ?hr ?_; (case hd => rfl); (case hg => rfl); (case hr => first | (go_simp; done) | (go_simp; rfl)); intro gb354 hg w5 hbox hb; replace HO0_0 := Aside0.mk (Kd.R_below (by (with_reducible repeat (first | apply Kd.R_alloc | apply Kd.R_drewN | apply Kd.R_drew)); exact HO0_0.out) hb); have BK354 := Aside0.mk (hbox); have GW354 := Aside0.mk ((by rw [hg]; exact (by first | exact HK.out.1 | exact (show Kept w _ (fun k_ => P0_0_ k_) from by repeat (first | (with_reducible first | exact HK.out | apply Kept.alloc | apply Kept.drewN | apply Kept.drew) | exact HK.out)).1) : w.heap.size ≤ gb354)); replace HK := Aside0.mk (Kept.below (S := (fun k_ => P0_0_ k_)) (by repeat (first | (with_reducible first | exact HK.out | apply Kept.alloc | apply Kept.drewN | apply Kept.drew) | exact HK.out)) hb); have GE354 := bG HB hg; replace HB := bS HB hb; clear hb hbox hg; have hcz6_0 : w5.cell? ⟨gb354, 0, none⟩ = some (.slice Ao4 l0_0.length co4) := bc BK354 0; have hfz6_0 := blk_frozen BK354.out 0) | ((with_reducible refine gate_callee (f := 20) rfl ?_); refine goesL_ (some 8) rfl rfl Try.func20 (by kernel_rfl) rfl #[.slice Ao4 l0_0.length co4, .int .i64 a1] rfl (by (try simp only [List.map_toArray, List.map_cons, List.map_nil]); first | done | rfl | (simp only [List.length_drop, List.length_take]; rfl)) ?_; (with_reducible refine (laws_markPointS.calls k (fun k_ => some k_ = (.slice Ao4 l0_0.length co4 : Value).ownBlock) (.slice Ao4 l0_0.length co4) l0_0 a1 t355 t356 w0 _ ?side1 ?side2 A3.out).mono ?_); (case side1 => repeat (first | (with_reducible first | exact HB.out | apply below_alloc | apply pw_below_drewN | apply below_drew1 | refine below_set ?_ GE354.out) | exact HB.out)); (case side2 => exact Kd.R_tight rfl HO0_0.out); rintro e w7 ⟨rfl, hy0, hb, hkp⟩; refine ⟨_, rfl, ?_⟩; replace BK354 := Aside0.mk (blk_kept (bP BK354) hkp (fun hs_ => (fun e_ => (Kd.R_ne HO0_0.out BK354.out (by decide)) e_) hs_)); replace HK := Aside0.mk (Kept.then_ (S := (fun k_ => P0_0_ k_)) (by repeat (first | (with_reducible first | exact HK.out | apply Kept.alloc | apply Kept.drewN | apply Kept.drew | refine Kept.setCell ?_ (.inr GW354.out) _) | exact HK.out)) hkp (fun k_ hs_ => (fun e_ => (HO0_0.out.1 k_ e_.symm)) hs_)); replace HO0_0 := Aside0.mk (Kd.R_reok rfl hy0 (fun k_ e_ => HO0_0.out.1 k_ e_)); replace HB := Aside0.mk (hb); (try clear hb); (try clear hkp); (try clear hy0)))
 go_ret
 exact ⟨by first | rfl | (simp [errW_none, errW_some] <;> rfl) | (simp [*, errW_none, errW_some] <;> rfl), by (with_reducible repeat (first | apply Kd.R_alloc | apply Kd.R_drewN | apply Kd.R_drew)); exact HO0_0.out, bZ HB, by repeat (first | (with_reducible first | exact HK.out | apply Kept.alloc | apply Kept.drewN | apply Kept.drew | refine Kept.setCell ?_ (.inr GW354.out) _) | exact HK.out)⟩
/-! ### laws_heldPointS: function 21 -/
def laws_heldPointS.l0 : Nat → List (S48) → Int → Int → Option (Int)
 | 0, _, _, _ => none
 | k + 1, x0, x1, x5 => if x5 < (x0.length : Int) then (if 0 ≤ x5 then (if ((rd_T48 x0 x5).f0) = x1 then (if ((rd_T48 x0 x5).f1) = (wrap64 (x1 + 1)) then (if (((rd_T48 x0 x5).f2) != ((Int.tmod (wrap64 ((wrap64 (x1 + 1)) + 1)) 3) == 0)) = true then (some (-1)) else (laws_heldPointS.l0 k x0 (wrap64 ((wrap64 ((wrap64 (x1 + 1)) + 1)) + 1)) (wrap64 (x5 + 1)))) else (some (-1))) else (some (-1))) else (none)) else (some x1)
def laws_heldPointS.f (k : Nat) (l0 : List (S48)) (a1 : Int) : Option (Int) := laws_heldPointS.l0 k l0 a1 0
theorem laws_heldPointS.mono_l : ∀ k, (∀ y0 y1 y2, LeO (laws_heldPointS.l0 k y0 y1 y2) (laws_heldPointS.l0 (k + 1) y0 y1 y2))
 | 0 => fun _ _ _ r h => by simp [laws_heldPointS.l0] at h
 | k + 1 => by
  have ih0 := laws_heldPointS.mono_l k
  ·intro y0 y1 y2
   unfold laws_heldPointS.l0
   repeat' first
   | (with_reducible exact ih0 _ _ _)
   | (with_reducible exact LeO.refl _)
   | (with_reducible exact LeO.none _)
   | (with_reducible refine LeO.ite ?_ ?_)
   | (with_reducible refine LeO.bind ?_ (fun _ => ?_))
   | exact ih0 _ _ _
   | exact LeO.none _
   | refine LeO.ite ?_ ?_
   | refine LeO.bind ?_ (fun _ => ?_)
theorem laws_heldPointS.mono : ∀ a0 a1 k, LeO (laws_heldPointS.f k a0 a1) (laws_heldPointS.f (k + 1) a0 a1) := by
 intro a0 a1 k
 have ih0 := laws_heldPointS.mono_l k
 unfold laws_heldPointS.f
 repeat' first
   | (with_reducible exact ih0 _ _ _)
   | (with_reducible exact LeO.refl _)
   | (with_reducible exact LeO.none _)
   | (with_reducible refine LeO.ite ?_ ?_)
   | (with_reducible refine LeO.bind ?_ (fun _ => ?_))
   | exact ih0 _ _ _
   | exact LeO.none _
   | refine LeO.ite ?_ ?_
   | refine LeO.bind ?_ (fun _ => ?_)
set_option maxHeartbeats 8000000 in
set_option maxRecDepth 100000 in
theorem laws_heldPointS.calls (k : Nat) (A0 : Option Addr) (c0 : Nat) (l0 : List (S48)) (a1 : Int) (r : Int) (w : World) (hr0 : Kd.C k48 w A0 l0.length l0) (hc0 : l0.length ≤ c0) (h : laws_heldPointS.f k l0 a1 = some r) :
  Calls Try.prog 21 #[.slice A0 l0.length c0, .int .i64 a1] w fun e w' => e = .returned (.int .i64 r) ∧ Drawn0 w w' := by
 have HR0 := Aside0.mk hr0
 have HC0 := Aside0.mk hc0
 clear hr0 hc0
 have H : (laws_heldPointS.l0 k l0 a1 0) = some r := h
 clear h
 have H' := Aside0.mk H
 clear H
 go_enter Try.func21, Try.ntmps21
 go_wp2
 go_loopg [1, 5] k (fun kq v1 v5 w' => ∃ (x1_1 : Int) (x5_1 : Int), v1 = .int .i64 x1_1 ∧ v5 = .int .i64 x5_1 ∧ Aside0 (laws_heldPointS.l0 kq l0 x1_1 x5_1 = some r) ∧ Aside0 (kq ≤ k) ∧ Drawn0 w w')
 case atStart => exact ⟨(a1), (0), (by first | rfl | (simp; done) | (simp [*]; done)), (by first | rfl | (simp; done) | (simp [*]; done)), H', ⟨Nat.le_refl _⟩, by repeat (first | exact Drawn0.refl _ | apply Drawn0.step)⟩
 case round =>
  clear H'
  try clear c2
  try clear p2
  obtain ⟨x1_1, x5_1, rfl, rfl, HA, HK1, ⟨m1, rfl⟩⟩ := hrel
  cases gk with
  | zero => exact absurd HA.out (by simp [laws_heldPointS.l0])
  | succ k1 =>
   have H := HA.out
   clear HA
   simp only [laws_heldPointS.l0] at H
   by_cases c3 : x5_1 < (l0.length : Int)
   ·rw [if_pos c3] at H
    have c3b0 : decide (x5_1 < (l0.length : Int)) = true := decide_eq_true c3
    clear c3
    by_cases c4 : 0 ≤ x5_1
    ·rw [if_pos c4] at H
     have c4b0 : decide (0 ≤ x5_1) = true := decide_eq_true c4
     clear c4
     by_cases c5 : ((rd_T48 l0 x5_1).f0) = x1_1
     ·rw [if_pos c5] at H
      have c5b0 : (((rd_T48 l0 x5_1).f0) == x1_1) = true := beq_iff_eq.mpr c5
      have c5b1 : (((rd_T48 l0 x5_1).f0) != x1_1) = false := bne_eq_false_iff_eq.mpr c5
      clear c5
      by_cases c6 : ((rd_T48 l0 x5_1).f1) = (wrap64 (x1_1 + 1))
      ·rw [if_pos c6] at H
       have c6b0 : (((rd_T48 l0 x5_1).f1) == (wrap64 (x1_1 + 1))) = true := beq_iff_eq.mpr c6
       have c6b1 : (((rd_T48 l0 x5_1).f1) != (wrap64 (x1_1 + 1))) = false := bne_eq_false_iff_eq.mpr c6
       clear c6
       by_cases c7 : (((rd_T48 l0 x5_1).f2) != ((Int.tmod (wrap64 ((wrap64 (x1_1 + 1)) + 1)) 3) == 0)) = true
       ·rw [if_pos c7] at H
        have c7b0 : (((rd_T48 l0 x5_1).f2) != ((Int.tmod (wrap64 ((wrap64 (x1_1 + 1)) + 1)) 3) == 0)) = true := c7
        (try (have c7b1 : decide (((rd_T48 l0 x5_1).f2) = ((Int.tmod (wrap64 ((wrap64 (x1_1 + 1)) + 1)) 3) == 0)) = false := by simpa using c7))
        (try (have c7b2 : (((rd_T48 l0 x5_1).f2) == ((Int.tmod (wrap64 ((wrap64 (x1_1 + 1)) + 1)) 3) == 0)) = false := by simpa using c7))
        (try (have c7b3 : ¬ (((rd_T48 l0 x5_1).f2) = ((Int.tmod (wrap64 ((wrap64 (x1_1 + 1)) + 1)) 3) == 0)) := by simpa using c7))
        clear c7
        obtain rfl := Option.some.inj H
        have p357 : 0 ≤ (x5_1 : Int) := of_decide_eq_true (by first | (with_reducible assumption) | assumption)
        have q357 : x5_1 < (l0.length : Int) := of_decide_eq_true (by first | (with_reducible assumption) | assumption)
        obtain ⟨ad357, e357, hx357_0, hx357_1, hx357_2⟩ := at_T48 HR0.out x5_1 p357 q357
        cases e357
        replace p357 := eq_true p357
        replace q357 := eq_true q357
        have p358 : 0 ≤ (x5_1 : Int) := of_decide_eq_true (by first | (with_reducible assumption) | assumption)
        have q358 : x5_1 < (l0.length : Int) := of_decide_eq_true (by first | (with_reducible assumption) | assumption)
        obtain ⟨ad358, e358, hx358_0, hx358_1, hx358_2⟩ := at_T48 HR0.out x5_1 p358 q358
        obtain rfl : ad357 = ad358 := (by injection e358)
        replace p358 := eq_true p358
        replace q358 := eq_true q358
        have p359 : 0 ≤ (x5_1 : Int) := of_decide_eq_true (by first | (with_reducible assumption) | assumption)
        have q359 : x5_1 < (l0.length : Int) := of_decide_eq_true (by first | (with_reducible assumption) | assumption)
        obtain ⟨ad359, e359, hx359_0, hx359_1, hx359_2⟩ := at_T48 HR0.out x5_1 p359 q359
        obtain rfl : ad357 = ad359 := (by injection e359)
        replace p359 := eq_true p359
        replace q359 := eq_true q359
        go_wp2
        go_ret
        exact ⟨by first | rfl | (simp; done) | (simp [*]; done), by repeat (first | exact Drawn0.refl _ | apply Drawn0.step)⟩
       ·rw [if_neg c7] at H
        have c7b0 : (((rd_T48 l0 x5_1).f2) != ((Int.tmod (wrap64 ((wrap64 (x1_1 + 1)) + 1)) 3) == 0)) = false := by simpa using c7
        (try (have c7b1 : decide (((rd_T48 l0 x5_1).f2) = ((Int.tmod (wrap64 ((wrap64 (x1_1 + 1)) + 1)) 3) == 0)) = true := by simpa using c7))
        (try (have c7b2 : (((rd_T48 l0 x5_1).f2) == ((Int.tmod (wrap64 ((wrap64 (x1_1 + 1)) + 1)) 3) == 0)) = true := by simpa using c7))
        clear c7
        have H' := Aside0.mk H
        clear H
        have p357 : 0 ≤ (x5_1 : Int) := of_decide_eq_true (by first | (with_reducible assumption) | assumption)
        have q357 : x5_1 < (l0.length : Int) := of_decide_eq_true (by first | (with_reducible assumption) | assumption)
        obtain ⟨ad357, e357, hx357_0, hx357_1, hx357_2⟩ := at_T48 HR0.out x5_1 p357 q357
        cases e357
        replace p357 := eq_true p357
        replace q357 := eq_true q357
        have p358 : 0 ≤ (x5_1 : Int) := of_decide_eq_true (by first | (with_reducible assumption) | assumption)
        have q358 : x5_1 < (l0.length : Int) := of_decide_eq_true (by first | (with_reducible assumption) | assumption)
        obtain ⟨ad358, e358, hx358_0, hx358_1, hx358_2⟩ := at_T48 HR0.out x5_1 p358 q358
        obtain rfl : ad357 = ad358 := (by injection e358)
        replace p358 := eq_true p358
        replace q358 := eq_true q358
        have p359 : 0 ≤ (x5_1 : Int) := of_decide_eq_true (by first | (with_reducible assumption) | assumption)
        have q359 : x5_1 < (l0.length : Int) := of_decide_eq_true (by first | (with_reducible assumption) | assumption)
        obtain ⟨ad359, e359, hx359_0, hx359_1, hx359_2⟩ := at_T48 HR0.out x5_1 p359 q359
        obtain rfl : ad357 = ad359 := (by injection e359)
        replace p359 := eq_true p359
        replace q359 := eq_true q359
        go_wp2
        go_roundg k1
        case measure => have := HK1.out; omega
        case rel => exact ⟨(wrap64 ((wrap64 ((wrap64 (x1_1 + 1)) + 1)) + 1)), (wrap64 (x5_1 + 1)), (by first | rfl | (simp; done) | (simp [*]; done)), (by first | rfl | (simp; done) | (simp [*]; done)), H', ⟨by have := HK1.out; omega⟩, by repeat (first | exact Drawn0.refl _ | apply Drawn0.step)⟩
      ·rw [if_neg c6] at H
       have c6b0 : (((rd_T48 l0 x5_1).f1) == (wrap64 (x1_1 + 1))) = false := beq_eq_false_iff_ne.mpr c6
       have c6b1 : (((rd_T48 l0 x5_1).f1) != (wrap64 (x1_1 + 1))) = true := bne_iff_ne.mpr c6
       obtain rfl := Option.some.inj H
       have p357 : 0 ≤ (x5_1 : Int) := of_decide_eq_true (by first | (with_reducible assumption) | assumption)
       have q357 : x5_1 < (l0.length : Int) := of_decide_eq_true (by first | (with_reducible assumption) | assumption)
       obtain ⟨ad357, e357, hx357_0, hx357_1, hx357_2⟩ := at_T48 HR0.out x5_1 p357 q357
       cases e357
       replace p357 := eq_true p357
       replace q357 := eq_true q357
       have p358 : 0 ≤ (x5_1 : Int) := of_decide_eq_true (by first | (with_reducible assumption) | assumption)
       have q358 : x5_1 < (l0.length : Int) := of_decide_eq_true (by first | (with_reducible assumption) | assumption)
       obtain ⟨ad358, e358, hx358_0, hx358_1, hx358_2⟩ := at_T48 HR0.out x5_1 p358 q358
       obtain rfl : ad357 = ad358 := (by injection e358)
       replace p358 := eq_true p358
       replace q358 := eq_true q358
       go_wp2
       go_ret
       exact ⟨by first | rfl | (simp; done) | (simp [*]; done), by repeat (first | exact Drawn0.refl _ | apply Drawn0.step)⟩
     ·rw [if_neg c5] at H
      have c5b0 : (((rd_T48 l0 x5_1).f0) == x1_1) = false := beq_eq_false_iff_ne.mpr c5
      have c5b1 : (((rd_T48 l0 x5_1).f0) != x1_1) = true := bne_iff_ne.mpr c5
      obtain rfl := Option.some.inj H
      have p357 : 0 ≤ (x5_1 : Int) := of_decide_eq_true (by first | (with_reducible assumption) | assumption)
      have q357 : x5_1 < (l0.length : Int) := of_decide_eq_true (by first | (with_reducible assumption) | assumption)
      obtain ⟨ad357, e357, hx357_0, hx357_1, hx357_2⟩ := at_T48 HR0.out x5_1 p357 q357
      cases e357
      replace p357 := eq_true p357
      replace q357 := eq_true q357
      go_wp2
      go_ret
      exact ⟨by first | rfl | (simp; done) | (simp [*]; done), by repeat (first | exact Drawn0.refl _ | apply Drawn0.step)⟩
    ·rw [if_neg c4] at H
     exact absurd H (by simp)
   ·rw [if_neg c3] at H
    have c3b0 : decide (x5_1 < (l0.length : Int)) = false := decide_eq_false c3
    clear c3
    obtain rfl := Option.some.inj H
    go_wp2
    go_ret
    exact ⟨by first | rfl | (simp; done) | (simp [*]; done), by repeat (first | exact Drawn0.refl _ | apply Drawn0.step)⟩
/-! ### laws_heldCommittee: function 16 -/
def laws_heldCommittee.f (k : Nat) (l0_0 : List (S48)) (a1 : Int) : Option (Int) := (laws_heldPointS.f k l0_0 a1).bind fun t361 => (if t361 < 0 then (some (-1)) else (some t361))
theorem laws_heldCommittee.mono : ∀ a0 a1 k, LeO (laws_heldCommittee.f k a0 a1) (laws_heldCommittee.f (k + 1) a0 a1) := by
 intro a0 a1 k
 unfold laws_heldCommittee.f
 repeat' first
   | (with_reducible exact laws_heldPointS.mono _ _ _)
   | (with_reducible exact LeO.refl _)
   | (with_reducible exact LeO.none _)
   | (with_reducible refine LeO.ite ?_ ?_)
   | (with_reducible refine LeO.bind ?_ (fun _ => ?_))
   | exact laws_heldPointS.mono _ _ _
   | exact LeO.none _
   | refine LeO.ite ?_ ?_
   | refine LeO.bind ?_ (fun _ => ?_)
set_option maxHeartbeats 8000000 in
set_option maxRecDepth 100000 in
theorem laws_heldCommittee.calls (k : Nat) (A0_0 : Option Addr) (c0_0 : Nat) (l0_0 : List (S48)) (a1 : Int) (r : Int) (w : World) (hr0_0 : Kd.C k48 w A0_0 l0_0.length l0_0) (hc0_0 : l0_0.length ≤ c0_0) (h : laws_heldCommittee.f k l0_0 a1 = some r) :
  Calls Try.prog 16 #[.agg #[.slice A0_0 l0_0.length c0_0], .int .i64 a1] w fun e w' => e = .returned (.int .i64 r) ∧ Below w.heap.size w w' := by
 have hu29 := Try.underlying29
 have HR0_0 := Aside0.mk hr0_0
 have HC0_0 := Aside0.mk hc0_0
 clear hr0_0 hc0_0
 have HB := Aside0.mk (Below.refl w.heap.size w)
 have H : ((laws_heldPointS.f k l0_0 a1).bind fun t361 => (if t361 < 0 then (some (-1)) else (some t361))) = some r := h
 clear h
 replace H := Option.bind_eq_some_iff.mp H
 obtain ⟨t361, A30, H⟩ := H
 replace H : (if t361 < 0 then (some (-1)) else (some t361)) = some r := H
 have A3 := Aside0.mk A30
 clear A30
 by_cases c4 : t361 < 0
 ·rw [if_pos c4] at H
  have c4b0 : decide (t361 < 0) = true := decide_eq_true c4
  clear c4
  obtain rfl := Option.some.inj H
  go_enter Try.func16, Try.ntmps16
  go_wp2_with (first | ((with_reducible refine gate_dst (N := 2) rfl ?_); refine box_event ?hg (N := 2) ?hd (cs := #[.slice A0_0 l0_0.length c0_0]) (t := 29) ?hr ?_; (case hd => rfl); (case hg => rfl); (case hr => first | (go_simp; done) | (go_simp; rfl)); intro gb360 hg w5 hbox hb; have BK360 := Aside0.mk (hbox); have GW360 := bG HB hg; have GE360 := bG HB hg; replace HB := bS HB hb; clear hb hbox hg; have hcz6_0 : w5.cell? ⟨gb360, 0, none⟩ = some (.slice A0_0 l0_0.length c0_0) := bc BK360 0; have hfz6_0 := blk_frozen BK360.out 0) | ((with_reducible refine gate_callee (f := 21) rfl ?_); refine goesL_ (some 8) rfl rfl Try.func21 (by kernel_rfl) rfl #[.slice A0_0 l0_0.length c0_0, .int .i64 a1] rfl (by (try simp only [List.map_toArray, List.map_cons, List.map_nil]); first | done | rfl | (simp only [List.length_drop, List.length_take]; rfl)) ?_; (with_reducible refine (laws_heldPointS.calls k _ _ l0_0 a1 t361 _ ?side1 ?side2 A3.out).mono ?_); (case side1 => repeat (first | exact (Kd.C_below HR0_0.out HB.out) | (with_reducible refine Kd.C_alloc ?_ _) | (with_reducible refine Kd.C_drewN ?_ _) | (with_reducible refine Kd.C_drew ?_))); (case side2 => exact HC0_0.out); rintro e w' ⟨rfl, ⟨nd, rfl⟩⟩; refine ⟨_, rfl, ?_⟩))
  go_ret
  exact ⟨by first | rfl | (simp [errW_none, errW_some] <;> rfl) | (simp [*, errW_none, errW_some] <;> rfl), bZ HB⟩
 ·rw [if_neg c4] at H
  have c4b0 : decide (t361 < 0) = false := decide_eq_false c4
  clear c4
  obtain rfl := Option.some.inj H
  go_enter Try.func16, Try.ntmps16
  go_wp2_with (first | ((with_reducible refine gate_dst (N := 2) rfl ?_); refine box_event ?hg (N := 2) ?hd (cs := #[.slice A0_0 l0_0.length c0_0]) (t := 29) ?hr ?_; (case hd => rfl); (case hg => rfl); (case hr => first | (go_simp; done) | (go_simp; rfl)); intro gb360 hg w7 hbox hb; have BK360 := Aside0.mk (hbox); have GW360 := bG HB hg; have GE360 := bG HB hg; replace HB := bS HB hb; clear hb hbox hg; have hcz8_0 : w7.cell? ⟨gb360, 0, none⟩ = some (.slice A0_0 l0_0.length c0_0) := bc BK360 0; have hfz8_0 := blk_frozen BK360.out 0) | ((with_reducible refine gate_callee (f := 21) rfl ?_); refine goesL_ (some 8) rfl rfl Try.func21 (by kernel_rfl) rfl #[.slice A0_0 l0_0.length c0_0, .int .i64 a1] rfl (by (try simp only [List.map_toArray, List.map_cons, List.map_nil]); first | done | rfl | (simp only [List.length_drop, List.length_take]; rfl)) ?_; (with_reducible refine (laws_heldPointS.calls k _ _ l0_0 a1 t361 _ ?side1 ?side2 A3.out).mono ?_); (case side1 => repeat (first | exact (Kd.C_below HR0_0.out HB.out) | (with_reducible refine Kd.C_alloc ?_ _) | (with_reducible refine Kd.C_drewN ?_ _) | (with_reducible refine Kd.C_drew ?_))); (case side2 => exact HC0_0.out); rintro e w' ⟨rfl, ⟨nd, rfl⟩⟩; refine ⟨_, rfl, ?_⟩))
  go_ret
  exact ⟨by first | rfl | (simp [errW_none, errW_some] <;> rfl) | (simp [*, errW_none, errW_some] <;> rfl), bZ HB⟩
/-! ### laws_FnExactCommitteeOf: function 4 -/
def laws_FnExactCommitteeOf.f (k : Nat) (a0 : Int) : Option (Bool) := (spec_CommitteeOf.f k a0).bind fun t362 => ((impl_CommitteeOf.f k a0).bind fun t366 => ((laws_eqCommittee.f k t366 t362).bind fun t370 => (if t370 = true then ((laws_markCommittee.f k t366 1).bind fun bt371 => ((laws_heldCommittee.f k bt371.2 1).bind fun t373 => (if t373 < 0 then (some false) else (if t373 = bt371.1 then ((impl_CommitteeOf.f k a0).bind fun t374 => ((laws_eqCommittee.f k t374 t362).bind fun t378 => (if t378 = true then ((laws_heldCommittee.f k bt371.2 1).bind fun t379 => (if t379 < 0 then (some false) else (if t379 = bt371.1 then (some true) else (some false)))) else (some false)))) else (some false))))) else (some false))))
theorem laws_FnExactCommitteeOf.mono : ∀ a0 k, LeO (laws_FnExactCommitteeOf.f k a0) (laws_FnExactCommitteeOf.f (k + 1) a0) := by
 intro a0 k
 unfold laws_FnExactCommitteeOf.f
 repeat' first
   | (with_reducible exact impl_CommitteeOf.mono _ _)
   | (with_reducible exact laws_eqCommittee.mono _ _ _)
   | (with_reducible exact laws_heldCommittee.mono _ _ _)
   | (with_reducible exact laws_markCommittee.mono _ _ _)
   | (with_reducible exact spec_CommitteeOf.mono _ _)
   | (with_reducible exact LeO.refl _)
   | (with_reducible exact LeO.none _)
   | (with_reducible refine LeO.ite ?_ ?_)
   | (with_reducible refine LeO.bind ?_ (fun _ => ?_))
   | exact impl_CommitteeOf.mono _ _
   | exact laws_eqCommittee.mono _ _ _
   | exact laws_heldCommittee.mono _ _ _
   | exact laws_markCommittee.mono _ _ _
   | exact spec_CommitteeOf.mono _ _
   | exact LeO.none _
   | refine LeO.ite ?_ ?_
   | refine LeO.bind ?_ (fun _ => ?_)
set_option maxHeartbeats 8000000 in
set_option maxRecDepth 100000 in
theorem laws_FnExactCommitteeOf.calls (k : Nat) (a0 : Int) (r : Bool) (w : World) (htrue : Aside0 (r = true)) (h : laws_FnExactCommitteeOf.f k a0 = some r) :
  Calls Try.prog 4 #[.int .i64 a0] w fun e w' => e = .returned (.bool r) ∧ Below w.heap.size w w' := by
 have hu29 := Try.underlying29
 have HB := Aside0.mk (Below.refl w.heap.size w)
 have H : ((spec_CommitteeOf.f k a0).bind fun t362 => ((impl_CommitteeOf.f k a0).bind fun t366 => ((laws_eqCommittee.f k t366 t362).bind fun t370 => (if t370 = true then ((laws_markCommittee.f k t366 1).bind fun bt371 => ((laws_heldCommittee.f k bt371.2 1).bind fun t373 => (if t373 < 0 then (some false) else (if t373 = bt371.1 then ((impl_CommitteeOf.f k a0).bind fun t374 => ((laws_eqCommittee.f k t374 t362).bind fun t378 => (if t378 = true then ((laws_heldCommittee.f k bt371.2 1).bind fun t379 => (if t379 < 0 then (some false) else (if t379 = bt371.1 then (some true) else (some false)))) else (some false)))) else (some false))))) else (some false))))) = some r := h
 clear h
 replace H := Option.bind_eq_some_iff.mp H
 obtain ⟨t362, A20, H⟩ := H
 replace H : ((impl_CommitteeOf.f k a0).bind fun t366 => ((laws_eqCommittee.f k t366 t362).bind fun t370 => (if t370 = true then ((laws_markCommittee.f k t366 1).bind fun bt371 => ((laws_heldCommittee.f k bt371.2 1).bind fun t373 => (if t373 < 0 then (some false) else (if t373 = bt371.1 then ((impl_CommitteeOf.f k a0).bind fun t374 => ((laws_eqCommittee.f k t374 t362).bind fun t378 => (if t378 = true then ((laws_heldCommittee.f k bt371.2 1).bind fun t379 => (if t379 < 0 then (some false) else (if t379 = bt371.1 then (some true) else (some false)))) else (some false)))) else (some false))))) else (some false)))) = some r := H
 have A2 := Aside0.mk A20
 clear A20
 replace H := Option.bind_eq_some_iff.mp H
 obtain ⟨t366, A30, H⟩ := H
 replace H : ((laws_eqCommittee.f k t366 t362).bind fun t370 => (if t370 = true then ((laws_markCommittee.f k t366 1).bind fun bt371 => ((laws_heldCommittee.f k bt371.2 1).bind fun t373 => (if t373 < 0 then (some false) else (if t373 = bt371.1 then ((impl_CommitteeOf.f k a0).bind fun t374 => ((laws_eqCommittee.f k t374 t362).bind fun t378 => (if t378 = true then ((laws_heldCommittee.f k bt371.2 1).bind fun t379 => (if t379 < 0 then (some false) else (if t379 = bt371.1 then (some true) else (some false)))) else (some false)))) else (some false))))) else (some false))) = some r := H
 have A3 := Aside0.mk A30
 clear A30
 replace H := Option.bind_eq_some_iff.mp H
 obtain ⟨t370, A40, H⟩ := H
 replace H : (if t370 = true then ((laws_markCommittee.f k t366 1).bind fun bt371 => ((laws_heldCommittee.f k bt371.2 1).bind fun t373 => (if t373 < 0 then (some false) else (if t373 = bt371.1 then ((impl_CommitteeOf.f k a0).bind fun t374 => ((laws_eqCommittee.f k t374 t362).bind fun t378 => (if t378 = true then ((laws_heldCommittee.f k bt371.2 1).bind fun t379 => (if t379 < 0 then (some false) else (if t379 = bt371.1 then (some true) else (some false)))) else (some false)))) else (some false))))) else (some false)) = some r := H
 have A4 := Aside0.mk A40
 clear A40
 by_cases c5 : t370 = true
 ·subst c5
  have H1 : ((laws_markCommittee.f k t366 1).bind fun bt371 => ((laws_heldCommittee.f k bt371.2 1).bind fun t373 => (if t373 < 0 then (some false) else (if t373 = bt371.1 then ((impl_CommitteeOf.f k a0).bind fun t374 => ((laws_eqCommittee.f k t374 t362).bind fun t378 => (if t378 = true then ((laws_heldCommittee.f k bt371.2 1).bind fun t379 => (if t379 < 0 then (some false) else (if t379 = bt371.1 then (some true) else (some false)))) else (some false)))) else (some false))))) = some r := by rw [if_pos rfl] at H; exact H
  clear H
  have H := H1
  clear H1
  replace H := Option.bind_eq_some_iff.mp H
  obtain ⟨⟨t371, t372⟩, A60, H⟩ := H
  replace H : ((laws_heldCommittee.f k t372 1).bind fun t373 => (if t373 < 0 then (some false) else (if t373 = t371 then ((impl_CommitteeOf.f k a0).bind fun t374 => ((laws_eqCommittee.f k t374 t362).bind fun t378 => (if t378 = true then ((laws_heldCommittee.f k t372 1).bind fun t379 => (if t379 < 0 then (some false) else (if t379 = t371 then (some true) else (some false)))) else (some false)))) else (some false)))) = some r := H
  have A6 := Aside0.mk A60
  clear A60
  replace H := Option.bind_eq_some_iff.mp H
  obtain ⟨t373, A70, H⟩ := H
  replace H : (if t373 < 0 then (some false) else (if t373 = t371 then ((impl_CommitteeOf.f k a0).bind fun t374 => ((laws_eqCommittee.f k t374 t362).bind fun t378 => (if t378 = true then ((laws_heldCommittee.f k t372 1).bind fun t379 => (if t379 < 0 then (some false) else (if t379 = t371 then (some true) else (some false)))) else (some false)))) else (some false))) = some r := H
  have A7 := Aside0.mk A70
  clear A70
  by_cases c8 : t373 < 0
  ·rw [if_pos c8] at H
   have c8b0 : decide (t373 < 0) = true := decide_eq_true c8
   clear c8
   exact absurd (Option.some.inj H) (by rw [htrue.out]; exact Bool.false_ne_true)
  ·rw [if_neg c8] at H
   have c8b0 : decide (t373 < 0) = false := decide_eq_false c8
   clear c8
   by_cases c9 : t373 = t371
   ·rw [if_pos c9] at H
    have c9b0 : (t373 == t371) = true := beq_iff_eq.mpr c9
    have c9b1 : (t373 != t371) = false := bne_eq_false_iff_eq.mpr c9
    clear c9
    replace H := Option.bind_eq_some_iff.mp H
    obtain ⟨t374, A100, H⟩ := H
    replace H : ((laws_eqCommittee.f k t374 t362).bind fun t378 => (if t378 = true then ((laws_heldCommittee.f k t372 1).bind fun t379 => (if t379 < 0 then (some false) else (if t379 = t371 then (some true) else (some false)))) else (some false))) = some r := H
    have A10 := Aside0.mk A100
    clear A100
    have et374_ : t366 = t374 := Option.some.inj (A3.out.symm.trans A10.out)
    subst et374_
    replace H := Option.bind_eq_some_iff.mp H
    obtain ⟨t378, A110, H⟩ := H
    replace H : (if t378 = true then ((laws_heldCommittee.f k t372 1).bind fun t379 => (if t379 < 0 then (some false) else (if t379 = t371 then (some true) else (some false)))) else (some false)) = some r := H
    have A11 := Aside0.mk A110
    clear A110
    by_cases c12 : t378 = true
    ·subst c12
     have H1 : ((laws_heldCommittee.f k t372 1).bind fun t379 => (if t379 < 0 then (some false) else (if t379 = t371 then (some true) else (some false)))) = some r := by rw [if_pos rfl] at H; exact H
     clear H
     have H := H1
     clear H1
     replace H := Option.bind_eq_some_iff.mp H
     obtain ⟨t379, A130, H⟩ := H
     replace H : (if t379 < 0 then (some false) else (if t379 = t371 then (some true) else (some false))) = some r := H
     have A13 := Aside0.mk A130
     clear A130
     have et379_ : t373 = t379 := Option.some.inj (A7.out.symm.trans A13.out)
     subst et379_
     by_cases c14 : t373 < 0
     ·rw [if_pos c14] at H
      have c14b0 : decide (t373 < 0) = true := decide_eq_true c14
      clear c14
      exact absurd (Option.some.inj H) (by rw [htrue.out]; exact Bool.false_ne_true)
     ·rw [if_neg c14] at H
      have c14b0 : decide (t373 < 0) = false := decide_eq_false c14
      clear c14
      by_cases c15 : t373 = t371
      ·rw [if_pos c15] at H
       have c15b0 : (t373 == t371) = true := beq_iff_eq.mpr c15
       have c15b1 : (t373 != t371) = false := bne_eq_false_iff_eq.mpr c15
       clear c15
       obtain rfl := Option.some.inj H
       go_enter Try.func4, Try.ntmps4
       go_wp2_with (first | ((with_reducible refine gate_callee (f := 13) rfl ?_); refine goesL_ (some 9) rfl rfl Try.func13 (by kernel_rfl) rfl #[.int .i64 a0] rfl (by (try simp only [List.map_toArray, List.map_cons, List.map_nil]); first | done | rfl | (simp only [List.length_drop, List.length_take]; rfl)) ?_; (with_reducible refine (spec_CommitteeOf.calls k a0 t362 _ A2.out).mono ?_); rintro e w16 ⟨v363, rfl, ho0, hb⟩; refine ⟨_, rfl, ?_⟩; have HO364 := Aside0.mk (Kd.R_lower ho0 (below_size (bZ HB))); replace HB := bS HB hb; (try clear hb); (try clear hb2); (try clear hk); (try clear hi); (try clear ho0)) | ((with_reducible refine gate_dst (N := 3) rfl ?_); refine box_event ?hg (N := 3) ?hd (cs := #[.slice none 0 0]) (t := 29) ?hr ?_; (case hd => rfl); (case hg => rfl); (case hr => first | (go_simp; done) | (go_simp; rfl)); intro gb365 hg w17 hbox hb; replace HO364 := Aside0.mk (Kd.R_below (by (with_reducible repeat (first | apply Kd.R_alloc | apply Kd.R_drewN | apply Kd.R_drew)); exact HO364.out) hb); have BK365 := Aside0.mk (hbox); have GW365 := bG HB hg; have GE365 := bG HB hg; replace HB := bS HB hb; clear hb hbox hg; obtain ⟨Ao18, co18, eo18⟩ := Kd.R_slice HO364.out; subst eo18; have hcz19_0 : w17.cell? ⟨gb365, 0, none⟩ = some (.slice none 0 0) := bc BK365 0; have hfz19_0 := blk_frozen BK365.out 0) | ((with_reducible refine gate_callee (f := 14) rfl ?_); refine goesL_ (some 11) rfl rfl Try.func14 (by kernel_rfl) rfl #[.int .i64 a0] rfl (by (try simp only [List.map_toArray, List.map_cons, List.map_nil]); first | done | rfl | (simp only [List.length_drop, List.length_take]; rfl)) ?_; (with_reducible refine (impl_CommitteeOf.calls k a0 t366 _ A3.out).mono ?_); rintro e w20 ⟨v367, rfl, ho0, hb⟩; refine ⟨_, rfl, ?_⟩; have HO368 := Aside0.mk (Kd.R_lower (Kd.R_new' ho0 (Kd.R_lt (by (with_reducible repeat (first | apply Kd.R_alloc | apply Kd.R_drewN | apply Kd.R_drew)); exact (Kd.R_mono (Kd.R_far (p := ⟨gb365, 0, none⟩) (Kd.R_types HO364.out BK365.out (by decide)) (fun _ hk => hk.2) (.slice Ao18 t362.length co18)) (fun _ h_ => h_.1))))) (below_size (bZ HB))); replace HO364 := Aside0.mk (Kd.R_elder' (by (with_reducible repeat (first | apply Kd.R_alloc | apply Kd.R_drewN | apply Kd.R_drew)); exact (Kd.R_mono (Kd.R_far (p := ⟨gb365, 0, none⟩) (Kd.R_types HO364.out BK365.out (by decide)) (fun _ hk => hk.2) (.slice Ao18 t362.length co18)) (fun _ h_ => h_.1))) (Kd.R_base ho0) hb); replace BK365 := Aside0.mk (blk_below (g := gb365) (o := .cells #[.slice Ao18 t362.length co18] 29 (0, 0)) (by (with_reducible repeat (first | refine blk_drewN ?_ _ | refine blk_drew ?_ | refine blk_alloc ?_ _)); refine blk_put (cs := #[.slice none 0 0]) ?_ 0 _ rfl; (with_reducible repeat (first | refine blk_drewN ?_ _ | refine blk_drew ?_ | refine blk_alloc ?_ _)); exact BK365.out) hb); replace HB := bS HB hb; (try clear hb); (try clear hb2); (try clear hk); (try clear hi); (try clear ho0)) | ((with_reducible refine gate_dst (N := 4) rfl ?_); refine box_event ?hg (N := 4) ?hd (cs := #[.slice none 0 0]) (t := 29) ?hr ?_; (case hd => rfl); (case hg => rfl); (case hr => first | (go_simp; done) | (go_simp; rfl)); intro gb369 hg w21 hbox hb; replace HO364 := Aside0.mk (Kd.R_below (by (with_reducible repeat (first | apply Kd.R_alloc | apply Kd.R_drewN | apply Kd.R_drew)); exact HO364.out) hb); replace HO368 := Aside0.mk (Kd.R_below (by (with_reducible repeat (first | apply Kd.R_alloc | apply Kd.R_drewN | apply Kd.R_drew)); exact HO368.out) hb); have BK369 := Aside0.mk (hbox); have GW369 := bG HB hg; have GE369 := bG HB hg; replace HB := bS HB hb; have NB365_369 := bL BK365 hg; have NB369_365 := bR BK365 hg; replace BK365 := bB BK365 hb; clear hb hbox hg; obtain ⟨Ao22, co22, eo22⟩ := Kd.R_slice HO368.out; subst eo22; have hnb23 := NB369_365.out; have hnc23 := NB365_369.out; have hcz24_0 : w21.cell? ⟨gb369, 0, none⟩ = some (.slice none 0 0) := bc BK369 0; have hfz24_0 := blk_frozen BK369.out 0; have hcz25_0 : w21.cell? ⟨gb365, 0, none⟩ = some (.slice Ao18 t362.length co18) := bc BK365 0; have hfz25_0 := blk_frozen BK365.out 0) | ((with_reducible refine gate_callee (f := 12) rfl ?_); refine goesL_ (some 14) rfl rfl Try.func12 (by kernel_rfl) rfl #[.agg #[.slice Ao22 t366.length co22], .agg #[.slice Ao18 t362.length co18]] rfl (by (try simp only [List.map_toArray, List.map_cons, List.map_nil]); first | done | rfl | (simp only [List.length_drop, List.length_take]; rfl)) ?_; (with_reducible refine (laws_eqCommittee.calls k _ _ t366 _ _ t362 true _ ?side1 ?side2 ?side3 ?side4 A4.out).mono ?_); (case side1 => refine (Kd.R_reads' (e := 48) (base := w.heap.size) (ok := fun k_ => (True ∧ some k_ ≠ (.slice Ao18 t362.length co18 : Value).ownBlock)) (n := t366.length) (c := co22) ?_).2.2; exact (by (with_reducible repeat (first | apply Kd.R_alloc | apply Kd.R_drewN | apply Kd.R_drew)); exact (Kd.R_mono (Kd.R_far (p := ⟨gb369, 0, none⟩) (Kd.R_types HO368.out BK369.out (by decide)) (fun _ hk => hk.2) (.slice Ao22 t366.length co22)) (fun _ h_ => h_.1)))); (case side2 => exact (Kd.R_reads' HO368.out).2.1); (case side3 => refine (Kd.R_reads' (e := 48) (base := w.heap.size) (ok := fun k_ => (True ∧ some k_ ≠ (.slice Ao22 t366.length co22 : Value).ownBlock)) (n := t362.length) (c := co18) ?_).2.2; exact (by (with_reducible repeat (first | apply Kd.R_alloc | apply Kd.R_drewN | apply Kd.R_drew)); exact (Kd.R_mono (Kd.R_far (p := ⟨gb369, 0, none⟩) (Kd.R_types HO364.out BK369.out (by decide)) (fun _ hk => hk.2) (.slice Ao22 t366.length co22)) (fun _ h_ => h_.1)))); (case side4 => exact (Kd.R_reads' HO364.out).2.1); rintro e w26 ⟨rfl, hb⟩; refine ⟨_, rfl, ?_⟩; replace HO364 := Aside0.mk (Kd.R_below (by (with_reducible repeat (first | apply Kd.R_alloc | apply Kd.R_drewN | apply Kd.R_drew)); exact (Kd.R_mono (Kd.R_far (p := ⟨gb369, 0, none⟩) (Kd.R_types HO364.out BK369.out (by decide)) (fun _ hk => hk.2) (.slice Ao22 t366.length co22)) (fun _ h_ => h_.1))) hb); replace HO368 := Aside0.mk (Kd.R_below (by (with_reducible repeat (first | apply Kd.R_alloc | apply Kd.R_drewN | apply Kd.R_drew)); exact (Kd.R_mono (Kd.R_far (p := ⟨gb369, 0, none⟩) (Kd.R_types HO368.out BK369.out (by decide)) (fun _ hk => hk.2) (.slice Ao22 t366.length co22)) (fun _ h_ => h_.1))) hb); replace BK365 := bB BK365 hb; replace BK369 := Aside0.mk (blk_below (g := gb369) (o := .cells #[.slice Ao22 t366.length co22] 29 (0, 0)) (by (with_reducible repeat (first | refine blk_drewN ?_ _ | refine blk_drew ?_ | refine blk_alloc ?_ _)); refine blk_put (cs := #[.slice none 0 0]) ?_ 0 _ rfl; (with_reducible repeat (first | refine blk_drewN ?_ _ | refine blk_drew ?_ | refine blk_alloc ?_ _)); exact BK369.out) hb); replace HB := bS HB hb; (try clear hb); (try clear hb2); (try clear hk); (try clear hi); have hcz27_0 : w26.cell? ⟨gb369, 0, none⟩ = some (.slice Ao22 t366.length co22) := bc BK369 0; have hfz27_0 := blk_frozen BK369.out 0) | ((with_reducible refine gate_callee (f := 15) rfl ?_); refine goesL_ (some 18) rfl rfl Try.func15 (by kernel_rfl) rfl #[.agg #[.slice Ao22 t366.length co22], .int .i64 1] rfl (by (try simp only [List.map_toArray, List.map_cons, List.map_nil]); first | done | rfl | (simp only [List.length_drop, List.length_take]; rfl)) ?_; (with_reducible refine (laws_markCommittee.calls k (fun k_ => some k_ = (.slice Ao22 t366.length co22 : Value).ownBlock) (.slice Ao22 t366.length co22) t366 1 t371 t372 w _ ?side1 ?side2 A6.out).mono ?_); (case side1 => repeat (first | (with_reducible first | exact HB.out | apply below_alloc | apply pw_below_drewN | apply below_drew1 | refine below_set ?_ GE365.out | refine below_set ?_ GE369.out) | exact HB.out)); (case side2 => exact Kd.R_tight rfl HO368.out); rintro e w28 ⟨rfl, hy0, hb, hkp⟩; refine ⟨_, rfl, ?_⟩; replace HO364 := Aside0.mk (Kd.R_mono (ok' := fun k_ => some k_ ≠ (.slice Ao22 t366.length co22 : Value).ownBlock) (Kd.R_keptB (HO364.out) hkp (fun k_ hk_ hs_ => (hk_.2) hs_)) (fun k_ hk_ => hk_.1.2)); replace BK365 := Aside0.mk (blk_kept (bP BK365) hkp (fun hs_ => (fun e_ => (Kd.R_ne HO368.out BK365.out (by decide)) e_) hs_)); replace BK369 := Aside0.mk (blk_kept (bP BK369) hkp (fun hs_ => (fun e_ => (Kd.R_ne HO368.out BK369.out (by decide)) e_) hs_)); replace HO368 := Aside0.mk (Kd.R_reok rfl hy0 (fun k_ e_ => HO368.out.1 k_ e_)); replace HB := Aside0.mk (hb); (try clear hb); (try clear hkp); (try clear hy0); have hcz29_0 : w28.cell? ⟨gb369, 0, none⟩ = some (.slice Ao22 t366.length co22) := bc BK369 0; have hfz29_0 := blk_frozen BK369.out 0) | ((with_reducible refine gate_callee (f := 16) rfl ?_); refine goesL_ (some 21) rfl rfl Try.func16 (by kernel_rfl) rfl #[.agg #[.slice Ao22 t372.length co22], .int .i64 1] rfl (by (try simp only [List.map_toArray, List.map_cons, List.map_nil]); first | done | (rw [show t372.length = t366.length from (Kd.R_reads' HO368.out).1.symm] <;> rfl) | rfl | (simp only [List.length_drop, List.length_take]; rfl)) ?_; (with_reducible refine (laws_heldCommittee.calls k _ _ t372 1 t373 _ ?side1 ?side2 A7.out).mono ?_); (case side1 => repeat (first | exact (Kd.R_reads' HO368.out).2.2 | (with_reducible refine Kd.C_alloc ?_ _) | (with_reducible refine Kd.C_drewN ?_ _) | (with_reducible refine Kd.C_drew ?_))); (case side2 => rw [show t372.length = t366.length from (Kd.R_reads' HO368.out).1.symm]; exact (Kd.R_reads' HO368.out).2.1); rintro e w30 ⟨rfl, hb⟩; refine ⟨_, rfl, ?_⟩; replace HO364 := Aside0.mk (Kd.R_below (by (with_reducible repeat (first | apply Kd.R_alloc | apply Kd.R_drewN | apply Kd.R_drew)); exact HO364.out) hb); replace HO368 := Aside0.mk (Kd.R_below (by (with_reducible repeat (first | apply Kd.R_alloc | apply Kd.R_drewN | apply Kd.R_drew)); exact HO368.out) hb); replace BK365 := bB BK365 hb; replace BK369 := bB BK369 hb; replace HB := bS HB hb; (try clear hb); (try clear hb2); (try clear hk); (try clear hi)) | ((with_reducible refine gate_callee (f := 14) rfl ?_); refine goesL_ (some 28) rfl rfl Try.func14 (by kernel_rfl) rfl #[.int .i64 a0] rfl (by (try simp only [List.map_toArray, List.map_cons, List.map_nil]); first | done | rfl | (simp only [List.length_drop, List.length_take]; rfl)) ?_; (with_reducible refine (impl_CommitteeOf.calls k a0 t366 _ A10.out).mono ?_); rintro e w31 ⟨v375, rfl, ho0, hb⟩; refine ⟨_, rfl, ?_⟩; have HO376 := Aside0.mk (Kd.R_lower (Kd.R_new' (Kd.R_new' ho0 (Kd.R_lt (by (with_reducible repeat (first | apply Kd.R_alloc | apply Kd.R_drewN | apply Kd.R_drew)); exact HO364.out))) (Kd.R_lt (by (with_reducible repeat (first | apply Kd.R_alloc | apply Kd.R_drewN | apply Kd.R_drew)); exact HO368.out))) (below_size (bZ HB))); replace HO364 := Aside0.mk (Kd.R_elder' (by (with_reducible repeat (first | apply Kd.R_alloc | apply Kd.R_drewN | apply Kd.R_drew)); exact HO364.out) (Kd.R_base ho0) hb); replace HO368 := Aside0.mk (Kd.R_elder' (by (with_reducible repeat (first | apply Kd.R_alloc | apply Kd.R_drewN | apply Kd.R_drew)); exact HO368.out) (Kd.R_base ho0) hb); replace BK365 := bB BK365 hb; replace BK369 := bB BK369 hb; replace HB := bS HB hb; (try clear hb); (try clear hb2); (try clear hk); (try clear hi); (try clear ho0)) | ((with_reducible refine gate_dst (N := 7) rfl ?_); refine box_event ?hg (N := 7) ?hd (cs := #[.slice none 0 0]) (t := 29) ?hr ?_; (case hd => rfl); (case hg => rfl); (case hr => first | (go_simp; done) | (go_simp; rfl)); intro gb377 hg w32 hbox hb; replace HO364 := Aside0.mk (Kd.R_below (by (with_reducible repeat (first | apply Kd.R_alloc | apply Kd.R_drewN | apply Kd.R_drew)); exact HO364.out) hb); replace HO368 := Aside0.mk (Kd.R_below (by (with_reducible repeat (first | apply Kd.R_alloc | apply Kd.R_drewN | apply Kd.R_drew)); exact HO368.out) hb); replace HO376 := Aside0.mk (Kd.R_below (by (with_reducible repeat (first | apply Kd.R_alloc | apply Kd.R_drewN | apply Kd.R_drew)); exact HO376.out) hb); have BK377 := Aside0.mk (hbox); have GW377 := bG HB hg; have GE377 := bG HB hg; replace HB := bS HB hb; have NB365_377 := bL BK365 hg; have NB377_365 := bR BK365 hg; replace BK365 := bB BK365 hb; have NB369_377 := bL BK369 hg; have NB377_369 := bR BK369 hg; replace BK369 := bB BK369 hb; clear hb hbox hg; obtain ⟨Ao33, co33, eo33⟩ := Kd.R_slice HO376.out; subst eo33; have hnb34 := NB377_365.out; have hnc34 := NB365_377.out; have hnb35 := NB377_369.out; have hnc35 := NB369_377.out; have hcz36_0 : w32.cell? ⟨gb377, 0, none⟩ = some (.slice none 0 0) := bc BK377 0; have hfz36_0 := blk_frozen BK377.out 0; have hcz37_0 : w32.cell? ⟨gb365, 0, none⟩ = some (.slice Ao18 t362.length co18) := bc BK365 0; have hfz37_0 := blk_frozen BK365.out 0) | ((with_reducible refine gate_callee (f := 12) rfl ?_); refine goesL_ (some 31) rfl rfl Try.func12 (by kernel_rfl) rfl #[.agg #[.slice Ao33 t366.length co33], .agg #[.slice Ao18 t362.length co18]] rfl (by (try simp only [List.map_toArray, List.map_cons, List.map_nil]); first | done | rfl | (simp only [List.length_drop, List.length_take]; rfl)) ?_; (with_reducible refine (laws_eqCommittee.calls k _ _ t366 _ _ t362 true _ ?side1 ?side2 ?side3 ?side4 A11.out).mono ?_); (case side1 => refine (Kd.R_reads' (e := 48) (base := w.heap.size) (ok := fun k_ => ((True ∧ some k_ ≠ (.slice Ao18 t362.length co18 : Value).ownBlock) ∧ some k_ ≠ (.slice Ao22 t366.length co22 : Value).ownBlock)) (n := t366.length) (c := co33) ?_).2.2; exact (by (with_reducible repeat (first | apply Kd.R_alloc | apply Kd.R_drewN | apply Kd.R_drew)); exact (Kd.R_mono (Kd.R_far (p := ⟨gb377, 0, none⟩) (Kd.R_types HO376.out BK377.out (by decide)) (fun _ hk => hk.2) (.slice Ao33 t366.length co33)) (fun _ h_ => h_.1)))); (case side2 => exact (Kd.R_reads' HO376.out).2.1); (case side3 => refine (Kd.R_reads' (e := 48) (base := w.heap.size) (ok := fun k_ => (some k_ ≠ (.slice Ao22 t366.length co22 : Value).ownBlock ∧ some k_ ≠ (.slice Ao33 t366.length co33 : Value).ownBlock)) (n := t362.length) (c := co18) ?_).2.2; exact (by (with_reducible repeat (first | apply Kd.R_alloc | apply Kd.R_drewN | apply Kd.R_drew)); exact (Kd.R_mono (Kd.R_far (p := ⟨gb377, 0, none⟩) (Kd.R_types HO364.out BK377.out (by decide)) (fun _ hk => hk.2) (.slice Ao33 t366.length co33)) (fun _ h_ => h_.1)))); (case side4 => exact (Kd.R_reads' HO364.out).2.1); rintro e w38 ⟨rfl, hb⟩; refine ⟨_, rfl, ?_⟩; replace HO364 := Aside0.mk (Kd.R_below (by (with_reducible repeat (first | apply Kd.R_alloc | apply Kd.R_drewN | apply Kd.R_drew)); exact (Kd.R_mono (Kd.R_far (p := ⟨gb377, 0, none⟩) (Kd.R_types HO364.out BK377.out (by decide)) (fun _ hk => hk.2) (.slice Ao33 t366.length co33)) (fun _ h_ => h_.1))) hb); replace HO368 := Aside0.mk (Kd.R_below (by (with_reducible repeat (first | apply Kd.R_alloc | apply Kd.R_drewN | apply Kd.R_drew)); exact (Kd.R_mono (Kd.R_far (p := ⟨gb377, 0, none⟩) (Kd.R_types HO368.out BK377.out (by decide)) (fun _ hk => hk.2) (.slice Ao33 t366.length co33)) (fun _ h_ => h_.1))) hb); replace HO376 := Aside0.mk (Kd.R_below (by (with_reducible repeat (first | apply Kd.R_alloc | apply Kd.R_drewN | apply Kd.R_drew)); exact (Kd.R_mono (Kd.R_far (p := ⟨gb377, 0, none⟩) (Kd.R_types HO376.out BK377.out (by decide)) (fun _ hk => hk.2) (.slice Ao33 t366.length co33)) (fun _ h_ => h_.1))) hb); replace BK365 := bB BK365 hb; replace BK369 := bB BK369 hb; replace BK377 := Aside0.mk (blk_below (g := gb377) (o := .cells #[.slice Ao33 t366.length co33] 29 (0, 0)) (by (with_reducible repeat (first | refine blk_drewN ?_ _ | refine blk_drew ?_ | refine blk_alloc ?_ _)); refine blk_put (cs := #[.slice none 0 0]) ?_ 0 _ rfl; (with_reducible repeat (first | refine blk_drewN ?_ _ | refine blk_drew ?_ | refine blk_alloc ?_ _)); exact BK377.out) hb); replace HB := bS HB hb; (try clear hb); (try clear hb2); (try clear hk); (try clear hi); have hcz39_0 : w38.cell? ⟨gb369, 0, none⟩ = some (.slice Ao22 t366.length co22) := bc BK369 0; have hfz39_0 := blk_frozen BK369.out 0) | ((with_reducible refine gate_callee (f := 16) rfl ?_); refine goesL_ (some 35) rfl rfl Try.func16 (by kernel_rfl) rfl #[.agg #[.slice Ao22 t372.length co22], .int .i64 1] rfl (by (try simp only [List.map_toArray, List.map_cons, List.map_nil]); first | done | (rw [show t372.length = t366.length from (Kd.R_reads' HO368.out).1.symm] <;> rfl) | rfl | (simp only [List.length_drop, List.length_take]; rfl)) ?_; (with_reducible refine (laws_heldCommittee.calls k _ _ t372 1 t373 _ ?side1 ?side2 A13.out).mono ?_); (case side1 => repeat (first | exact (Kd.R_reads' HO368.out).2.2 | (with_reducible refine Kd.C_alloc ?_ _) | (with_reducible refine Kd.C_drewN ?_ _) | (with_reducible refine Kd.C_drew ?_))); (case side2 => rw [show t372.length = t366.length from (Kd.R_reads' HO368.out).1.symm]; exact (Kd.R_reads' HO368.out).2.1); rintro e w40 ⟨rfl, hb⟩; refine ⟨_, rfl, ?_⟩; replace HO364 := Aside0.mk (Kd.R_below (by (with_reducible repeat (first | apply Kd.R_alloc | apply Kd.R_drewN | apply Kd.R_drew)); exact HO364.out) hb); replace HO368 := Aside0.mk (Kd.R_below (by (with_reducible repeat (first | apply Kd.R_alloc | apply Kd.R_drewN | apply Kd.R_drew)); exact HO368.out) hb); replace HO376 := Aside0.mk (Kd.R_below (by (with_reducible repeat (first | apply Kd.R_alloc | apply Kd.R_drewN | apply Kd.R_drew)); exact HO376.out) hb); replace BK365 := bB BK365 hb; replace BK369 := bB BK369 hb; replace BK377 := bB BK377 hb; replace HB := bS HB hb; (try clear hb); (try clear hb2); (try clear hk); (try clear hi)))
       go_ret
       exact ⟨by first | rfl | (simp [errW_none, errW_some] <;> rfl) | (simp [*, errW_none, errW_some] <;> rfl), bZ HB⟩
      ·rw [if_neg c15] at H
       have c15b0 : (t373 == t371) = false := beq_eq_false_iff_ne.mpr c15
       have c15b1 : (t373 != t371) = true := bne_iff_ne.mpr c15
       exact absurd (Option.some.inj H) (by rw [htrue.out]; exact Bool.false_ne_true)
    ·replace c12 := Bool.eq_false_iff.mpr c12
     subst c12
     have H1 : (some false) = some r := by rw [if_neg (show ¬ (false = true) by decide)] at H; exact H
     clear H
     have H := H1
     clear H1
     exact absurd (Option.some.inj H) (by rw [htrue.out]; exact Bool.false_ne_true)
   ·rw [if_neg c9] at H
    have c9b0 : (t373 == t371) = false := beq_eq_false_iff_ne.mpr c9
    have c9b1 : (t373 != t371) = true := bne_iff_ne.mpr c9
    exact absurd (Option.some.inj H) (by rw [htrue.out]; exact Bool.false_ne_true)
 ·replace c5 := Bool.eq_false_iff.mpr c5
  subst c5
  have H1 : (some false) = some r := by rw [if_neg (show ¬ (false = true) by decide)] at H; exact H
  clear H
  have H := H1
  clear H1
  exact absurd (Option.some.inj H) (by rw [htrue.out]; exact Bool.false_ne_true)

/-- THE ONE PURE STATEMENT of laws_FnExactCommitteeOf: yours. -/
def laws_FnExactCommitteeOf.Pure : Prop := ∀ (a0 : Int), (Lit.int .i64 a0).wf = true → ∃ k, laws_FnExactCommitteeOf.f k a0 = some true
theorem laws_FnExactCommitteeOf.walk (P : laws_FnExactCommitteeOf.Pure) (a0 : Int) (w : World) (w0 : (Lit.int .i64 a0).wf = true) :
  Calls Try.prog 4 #[.int .i64 a0] w fun e w' => e = .returned (.bool true) ∧ Below w.heap.size w w' := by
 obtain ⟨k, h⟩ := P a0 w0
 refine (laws_FnExactCommitteeOf.calls k a0 true w ⟨rfl⟩ h).mono ?_
 rintro e w' ⟨rfl, hd⟩
 exact ⟨rfl, hd⟩
/-! ### impl_InGroup: function 29 -/
def impl_InGroup.f (k : Nat) (a0_0 : Int) (a0_1 : Int) (a0_2 : Bool) : Option (Bool) := (impl_PointOk.f a0_0 a0_1 a0_2).bind fun t267 => (if t267 = true then ((impl_PointTimes.f k 1009 a0_0 a0_1 a0_2).bind fun bt268 => (some bt268.2.2)) else (some false))
theorem impl_InGroup.mono : ∀ a0 a1 a2 k, LeO (impl_InGroup.f k a0 a1 a2) (impl_InGroup.f (k + 1) a0 a1 a2) := by
 intro a0 a1 a2 k
 unfold impl_InGroup.f
 repeat' first
   | (with_reducible exact impl_PointTimes.mono _ _ _ _ _)
   | (with_reducible exact LeO.refl _)
   | (with_reducible exact LeO.none _)
   | (with_reducible refine LeO.ite ?_ ?_)
   | (with_reducible refine LeO.bind ?_ (fun _ => ?_))
   | exact impl_PointTimes.mono _ _ _ _ _
   | exact LeO.none _
   | refine LeO.ite ?_ ?_
   | refine LeO.bind ?_ (fun _ => ?_)
set_option maxHeartbeats 8000000 in
set_option maxRecDepth 100000 in
theorem impl_InGroup.calls (k : Nat) (a0_0 : Int) (a0_1 : Int) (a0_2 : Bool) (r : Bool) (w : World) (h : impl_InGroup.f k a0_0 a0_1 a0_2 = some r) :
  Calls Try.prog 29 #[.agg #[.int .i64 a0_0, .int .i64 a0_1, .bool a0_2]] w fun e w' => e = .returned (.bool r) ∧ Below w.heap.size w w' := by
 have hu48 := Try.underlying48
 have hfd48_0 : ∀ (x0 : Int) (x1 : Int) (x2 : Bool) (w_ : World), (Instr.field 48 (.agg #[.int .i64 x0, .int .i64 x1, .bool x2]) 0).run Try.prog w_ = .ok (.int .i64 x0) w_ := fun _ _ _ _ => by kernel_rfl
 have hfd48_1 : ∀ (x0 : Int) (x1 : Int) (x2 : Bool) (w_ : World), (Instr.field 48 (.agg #[.int .i64 x0, .int .i64 x1, .bool x2]) 1).run Try.prog w_ = .ok (.int .i64 x1) w_ := fun _ _ _ _ => by kernel_rfl
 have hfd48_2 : ∀ (x0 : Int) (x1 : Int) (x2 : Bool) (w_ : World), (Instr.field 48 (.agg #[.int .i64 x0, .int .i64 x1, .bool x2]) 2).run Try.prog w_ = .ok (.bool x2) w_ := fun _ _ _ _ => by kernel_rfl
 have HB := Aside0.mk (Below.refl w.heap.size w)
 have H : ((impl_PointOk.f a0_0 a0_1 a0_2).bind fun t267 => (if t267 = true then ((impl_PointTimes.f k 1009 a0_0 a0_1 a0_2).bind fun bt268 => (some bt268.2.2)) else (some false))) = some r := h
 clear h
 replace H := Option.bind_eq_some_iff.mp H
 obtain ⟨t267, A20, H⟩ := H
 replace H : (if t267 = true then ((impl_PointTimes.f k 1009 a0_0 a0_1 a0_2).bind fun bt268 => (some bt268.2.2)) else (some false)) = some r := H
 have A2 := Aside0.mk A20
 clear A20
 by_cases c3 : t267 = true
 ·subst c3
  have H1 : ((impl_PointTimes.f k 1009 a0_0 a0_1 a0_2).bind fun bt268 => (some bt268.2.2)) = some r := by rw [if_pos rfl] at H; exact H
  clear H
  have H := H1
  clear H1
  replace H := Option.bind_eq_some_iff.mp H
  obtain ⟨⟨t268, t269, t270⟩, A40, H⟩ := H
  replace H : (some t270) = some r := H
  have A4 := Aside0.mk A40
  clear A40
  obtain rfl := Option.some.inj H
  go_enter Try.func29, Try.ntmps29
  go_wp2_with (first | ((with_reducible refine gate_dst (N := 1) rfl ?_); refine box_event ?hg (N := 1) ?hd (cs := #[.int .i64 a0_0, .int .i64 a0_1, .bool a0_2]) (t := 48) ?hr ?_; (case hd => rfl); (case hg => rfl); (case hr => first | (go_simp; done) | (go_simp; rfl)); intro gb266 hg w5 hbox hb; have BK266 := Aside0.mk (hbox); have GW266 := bG HB hg; have GE266 := bG HB hg; replace HB := bS HB hb; clear hb hbox hg; have hcz6_0 : w5.cell? ⟨gb266, 0, none⟩ = some (.int .i64 a0_0) := bc BK266 0; have hcz6_1 : w5.cell? ⟨gb266, 1, none⟩ = some (.int .i64 a0_1) := bc BK266 1; have hcz6_2 : w5.cell? ⟨gb266, 2, none⟩ = some (.bool a0_2) := bc BK266 2; have hfz6_0 := blk_frozen BK266.out 0; have hfz6_1 := blk_frozen BK266.out 1; have hfz6_2 := blk_frozen BK266.out 2) | ((with_reducible refine gate_callee (f := 47) rfl ?_); refine goesL_ (some 4) rfl rfl Try.func47 (by kernel_rfl) rfl #[.agg #[.int .i64 a0_0, .int .i64 a0_1, .bool a0_2]] rfl (by (try simp only [List.map_toArray, List.map_cons, List.map_nil]); first | done | rfl | (simp only [List.length_drop, List.length_take]; rfl)) ?_; (with_reducible refine (impl_PointOk.calls a0_0 a0_1 a0_2 true _ A2.out).mono ?_); rintro e w7 ⟨rfl, hb⟩; refine ⟨_, rfl, ?_⟩; replace BK266 := bB BK266 hb; replace HB := bS HB hb; (try clear hb); (try clear hb2); (try clear hk); (try clear hi); have hcz8_0 : w7.cell? ⟨gb266, 0, none⟩ = some (.int .i64 a0_0) := bc BK266 0; have hcz8_1 : w7.cell? ⟨gb266, 1, none⟩ = some (.int .i64 a0_1) := bc BK266 1; have hcz8_2 : w7.cell? ⟨gb266, 2, none⟩ = some (.bool a0_2) := bc BK266 2; have hfz8_0 := blk_frozen BK266.out 0; have hfz8_1 := blk_frozen BK266.out 1; have hfz8_2 := blk_frozen BK266.out 2) | (go_at_call 48; (with_reducible refine (impl_PointTimes.calls k 1009 a0_0 a0_1 a0_2 t268 t269 t270 _ A4.out).mono ?_); rintro e w9 ⟨rfl, hb⟩; replace BK266 := bB BK266 hb; replace HB := bS HB hb; (try clear hb); (try clear hb2); (try clear hk); (try clear hi)))
  go_ret
  exact ⟨by first | rfl | (simp [errW_none, errW_some] <;> rfl) | (simp [*, errW_none, errW_some] <;> rfl), bZ HB⟩
 ·replace c3 := Bool.eq_false_iff.mpr c3
  subst c3
  have H1 : (some false) = some r := by rw [if_neg (show ¬ (false = true) by decide)] at H; exact H
  clear H
  have H := H1
  clear H1
  obtain rfl := Option.some.inj H
  go_enter Try.func29, Try.ntmps29
  go_wp2_with (first | ((with_reducible refine gate_dst (N := 1) rfl ?_); refine box_event ?hg (N := 1) ?hd (cs := #[.int .i64 a0_0, .int .i64 a0_1, .bool a0_2]) (t := 48) ?hr ?_; (case hd => rfl); (case hg => rfl); (case hr => first | (go_simp; done) | (go_simp; rfl)); intro gb266 hg w10 hbox hb; have BK266 := Aside0.mk (hbox); have GW266 := bG HB hg; have GE266 := bG HB hg; replace HB := bS HB hb; clear hb hbox hg; have hcz11_0 : w10.cell? ⟨gb266, 0, none⟩ = some (.int .i64 a0_0) := bc BK266 0; have hcz11_1 : w10.cell? ⟨gb266, 1, none⟩ = some (.int .i64 a0_1) := bc BK266 1; have hcz11_2 : w10.cell? ⟨gb266, 2, none⟩ = some (.bool a0_2) := bc BK266 2; have hfz11_0 := blk_frozen BK266.out 0; have hfz11_1 := blk_frozen BK266.out 1; have hfz11_2 := blk_frozen BK266.out 2) | ((with_reducible refine gate_callee (f := 47) rfl ?_); refine goesL_ (some 4) rfl rfl Try.func47 (by kernel_rfl) rfl #[.agg #[.int .i64 a0_0, .int .i64 a0_1, .bool a0_2]] rfl (by (try simp only [List.map_toArray, List.map_cons, List.map_nil]); first | done | rfl | (simp only [List.length_drop, List.length_take]; rfl)) ?_; (with_reducible refine (impl_PointOk.calls a0_0 a0_1 a0_2 false _ A2.out).mono ?_); rintro e w12 ⟨rfl, hb⟩; refine ⟨_, rfl, ?_⟩; replace BK266 := bB BK266 hb; replace HB := bS HB hb; (try clear hb); (try clear hb2); (try clear hk); (try clear hi)))
  go_ret
  exact ⟨by first | rfl | (simp [errW_none, errW_some] <;> rfl) | (simp [*, errW_none, errW_some] <;> rfl), bZ HB⟩
end Go.Proofs.Ytogcobdgnkiopaa.Pf
end
