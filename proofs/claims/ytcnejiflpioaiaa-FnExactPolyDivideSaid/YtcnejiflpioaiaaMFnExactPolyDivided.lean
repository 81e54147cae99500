/- What is proved here: part 4 of 4 of the proof of the given statement FnExactPolyDivide: the contracts of the Go functions that it reaches, the plain facts on lists and numbers, and (in the last part) the statement itself. No conditions beyond the given ones. -/
import Derived.Test.YtcnejiflpioaiaaMFnExactPolyDividea
import Derived.Test.YtcnejiflpioaiaaMFnExactPolyDividec
import Derived.Test.YtcnejiflpioaiaaMFnExactPolyDivideb
import Derived.Test.YtcnejiflpioaiaaRows
import Derived.WalkKit
import Derived.ProofKit
import Derived.OpenShut
import Derived.ShutString
import Derived.ChangeOld
import Derived.Below
import Derived.SizedLaws
import Derived.Test.YtcnejiflpioaiaaWSized

section
namespace Go.Proofs.Ytcnejiflpioaiaa.Pf
open Go.RowKit Go.Proofs.YtcnejiflpioaiaaW.PrintWords Go.Proofs.YtcnejiflpioaiaaW.PrintLast Go.Proofs.YtcnejiflpioaiaaW.PrintMore
attribute [local go_sem] max2_int min2_int max_two min_two max_three min_three max_four min_four   -- for this text's walks alone
set_option linter.unusedVariables false
set_option linter.unusedSimpArgs false

/-! ### spec_PolyAt: function 15 -/
def spec_PolyAt.l0 : Nat → List Int → Int → Int → Int → Option (Int)
  | 0, _, _, _, _ => none
  | k + 1, x0, x1, x5, x6 => if x6 ≥ 0 then ((spec_ScMul.f x5 x1).bind fun t107 => (if 0 ≤ x6 then (if x6 < (x0.length : Int) then ((spec_ScAdd.f t107 (rd x0 x6)).bind fun t109 => (spec_PolyAt.l0 k x0 x1 t109 (wrap64 (x6 - 1)))) else (none)) else (none))) else (some x5)
def spec_PolyAt.f (k : Nat) (l0 : List Int) (a1 : Int) : Option (Int) := spec_PolyAt.l0 k l0 a1 0 (wrap64 ((l0.length : Int) - 1))
theorem spec_PolyAt.mono_l : ∀ k, (∀ y0 y1 y2 y3, LeO (spec_PolyAt.l0 k y0 y1 y2 y3) (spec_PolyAt.l0 (k + 1) y0 y1 y2 y3))
  | 0 => fun _ _ _ _ r h => by simp [spec_PolyAt.l0] at h
  | k + 1 => by
    have ih0 := spec_PolyAt.mono_l k
    · intro y0 y1 y2 y3
      unfold spec_PolyAt.l0
      repeat' first
      | (with_reducible exact ih0 _ _ _ _)
      | (with_reducible exact LeO.refl _)
      | (with_reducible exact LeO.none _)
      | (with_reducible refine LeO.ite ?_ ?_)
      | (with_reducible refine LeO.bind ?_ (fun _ => ?_))
      | exact ih0 _ _ _ _
      | exact LeO.none _
      | refine LeO.ite ?_ ?_
      | refine LeO.bind ?_ (fun _ => ?_)
theorem spec_PolyAt.mono : ∀ a0 a1 k, LeO (spec_PolyAt.f k a0 a1) (spec_PolyAt.f (k + 1) a0 a1) := by
  intro a0 a1 k
  have ih0 := spec_PolyAt.mono_l k
  unfold spec_PolyAt.f
  repeat' first
      | (with_reducible exact ih0 _ _ _ _)
      | (with_reducible exact LeO.refl _)
      | (with_reducible exact LeO.none _)
      | (with_reducible refine LeO.ite ?_ ?_)
      | (with_reducible refine LeO.bind ?_ (fun _ => ?_))
      | exact ih0 _ _ _ _
      | exact LeO.none _
      | refine LeO.ite ?_ ?_
      | refine LeO.bind ?_ (fun _ => ?_)
set_option maxHeartbeats 8000000 in
set_option maxRecDepth 100000 in
theorem spec_PolyAt.calls (k : Nat) (A0 : Option Addr) (c0 : Nat) (l0 : List Int) (a1 : Int) (r : Int) (w : World) (hr0 : Kd.C (Kd.int .i64) w A0 l0.length l0) (hc0 : l0.length ≤ c0) (h : spec_PolyAt.f k l0 a1 = some r) :
    Calls Try.prog 15 #[.slice A0 l0.length c0, .int .i64 a1] w fun e w' => e = .returned (.int .i64 r) ∧ Drawn0 w w' := by
  have HR0 := Aside0.mk hr0
  have HC0 := Aside0.mk hc0
  clear hr0 hc0
  have H : (spec_PolyAt.l0 k l0 a1 0 (wrap64 ((l0.length : Int) - 1))) = some r := h
  clear h
  have H' := Aside0.mk H
  clear H
  go_enter Try.func15, Try.ntmps15
  go_wp2
  repeat (go_quiet (fail); try go_wp2)
  go_loopg [5, 6] k (fun kq v5 v6 w' => ∃ (x5_1 : Int) (x6_1 : Int), v5 = .int .i64 x5_1 ∧ v6 = .int .i64 x6_1 ∧ Aside0 (spec_PolyAt.l0 kq l0 a1 x5_1 x6_1 = some r) ∧ Aside0 (kq ≤ k) ∧ Drawn0 w w')
  case atStart => exact ⟨(0), (wrap64 ((l0.length : Int) - 1)), (by first | rfl | (simp; done) | (simp [*]; done)), (by first | rfl | (simp; done) | (simp [*]; done)), H', ⟨Nat.le_refl _⟩, by repeat (first | exact Drawn0.refl _ | apply Drawn0.step)⟩
  case round =>
    clear H'
    try clear c1
    try clear p2
    obtain ⟨x5_1, x6_1, rfl, rfl, HA, HK1, ⟨m1, rfl⟩⟩ := hrel
    cases gk with
    | zero => exact absurd HA.out (by simp [spec_PolyAt.l0])
    | succ k1 =>
      have H := HA.out
      clear HA
      simp only [spec_PolyAt.l0] at H
      by_cases c3 : x6_1 ≥ 0
      · rw [if_pos c3] at H
        have c3b0 : decide (0 ≤ x6_1) = true := decide_eq_true c3
        clear c3
        replace H := Option.bind_eq_some_iff.mp H
        obtain ⟨t107, A40, H⟩ := H
        replace H : (if 0 ≤ x6_1 then (if x6_1 < (l0.length : Int) then ((spec_ScAdd.f t107 (rd l0 x6_1)).bind fun t109 => (spec_PolyAt.l0 k1 l0 a1 t109 (wrap64 (x6_1 - 1)))) else (none)) else (none)) = some r := H
        have A4 := Aside0.mk A40
        clear A40
        by_cases c5 : 0 ≤ x6_1
        · rw [if_pos c5] at H
          have c5b0 : decide (0 ≤ x6_1) = true := decide_eq_true c5
          clear c5
          by_cases c6 : x6_1 < (l0.length : Int)
          · rw [if_pos c6] at H
            have c6b0 : decide (x6_1 < (l0.length : Int)) = true := decide_eq_true c6
            clear c6
            replace H := Option.bind_eq_some_iff.mp H
            obtain ⟨t109, A70, H⟩ := H
            replace H : (spec_PolyAt.l0 k1 l0 a1 t109 (wrap64 (x6_1 - 1))) = some r := H
            have A7 := Aside0.mk A70
            clear A70
            have H' := Aside0.mk H
            clear H
            go_wp2_with (first | (go_at_call 28; (with_reducible refine (spec_ScMul.calls x5_1 a1 t107 _ A4.out).mono ?_); rintro e w' ⟨rfl, ⟨nd, rfl⟩⟩; (try first | exact ⟨rfl, _, World.drewN_drewN _ _ _⟩ | exact ⟨rfl, _, Eq.trans (World.drewN_drewN _ _ _) (congrArg (World.drewN _) (Nat.add_assoc _ _ _))⟩); have p108 : 0 ≤ (x6_1 : Int) := of_decide_eq_true (by first | (with_reducible assumption) | assumption); have q108 : x6_1 < (l0.length : Int) := of_decide_eq_true (by first | (with_reducible assumption) | assumption); obtain ⟨ad108, e108, hx108_0⟩ := Kd.at_int HR0.out x6_1 p108 q108; cases e108; replace p108 := eq_true p108; replace q108 := eq_true q108) | (go_at_call 27; (with_reducible refine (spec_ScAdd.calls t107 (rd l0 x6_1) t109 _ A7.out).mono ?_); rintro e w' ⟨rfl, ⟨nd, rfl⟩⟩; (try first | exact ⟨rfl, _, World.drewN_drewN _ _ _⟩ | exact ⟨rfl, _, Eq.trans (World.drewN_drewN _ _ _) (congrArg (World.drewN _) (Nat.add_assoc _ _ _))⟩)))
            repeat (go_quiet (first | (go_at_call 28; (with_reducible refine (spec_ScMul.calls x5_1 a1 t107 _ A4.out).mono ?_); rintro e w' ⟨rfl, ⟨nd, rfl⟩⟩; (try first | exact ⟨rfl, _, World.drewN_drewN _ _ _⟩ | exact ⟨rfl, _, Eq.trans (World.drewN_drewN _ _ _) (congrArg (World.drewN _) (Nat.add_assoc _ _ _))⟩); have p108 : 0 ≤ (x6_1 : Int) := of_decide_eq_true (by first | (with_reducible assumption) | assumption); have q108 : x6_1 < (l0.length : Int) := of_decide_eq_true (by first | (with_reducible assumption) | assumption); obtain ⟨ad108, e108, hx108_0⟩ := Kd.at_int HR0.out x6_1 p108 q108; cases e108; replace p108 := eq_true p108; replace q108 := eq_true q108) | (go_at_call 27; (with_reducible refine (spec_ScAdd.calls t107 (rd l0 x6_1) t109 _ A7.out).mono ?_); rintro e w' ⟨rfl, ⟨nd, rfl⟩⟩; (try first | exact ⟨rfl, _, World.drewN_drewN _ _ _⟩ | exact ⟨rfl, _, Eq.trans (World.drewN_drewN _ _ _) (congrArg (World.drewN _) (Nat.add_assoc _ _ _))⟩))); try go_wp2_with (first | (go_at_call 28; (with_reducible refine (spec_ScMul.calls x5_1 a1 t107 _ A4.out).mono ?_); rintro e w' ⟨rfl, ⟨nd, rfl⟩⟩; (try first | exact ⟨rfl, _, World.drewN_drewN _ _ _⟩ | exact ⟨rfl, _, Eq.trans (World.drewN_drewN _ _ _) (congrArg (World.drewN _) (Nat.add_assoc _ _ _))⟩); have p108 : 0 ≤ (x6_1 : Int) := of_decide_eq_true (by first | (with_reducible assumption) | assumption); have q108 : x6_1 < (l0.length : Int) := of_decide_eq_true (by first | (with_reducible assumption) | assumption); obtain ⟨ad108, e108, hx108_0⟩ := Kd.at_int HR0.out x6_1 p108 q108; cases e108; replace p108 := eq_true p108; replace q108 := eq_true q108) | (go_at_call 27; (with_reducible refine (spec_ScAdd.calls t107 (rd l0 x6_1) t109 _ A7.out).mono ?_); rintro e w' ⟨rfl, ⟨nd, rfl⟩⟩; (try first | exact ⟨rfl, _, World.drewN_drewN _ _ _⟩ | exact ⟨rfl, _, Eq.trans (World.drewN_drewN _ _ _) (congrArg (World.drewN _) (Nat.add_assoc _ _ _))⟩))))
            go_roundg k1
            case measure => have := HK1.out; omega
            case rel => exact ⟨(t109), (wrap64 (x6_1 - 1)), (by first | rfl | (simp; done) | (simp [*]; done)), (by first | rfl | (simp; done) | (simp [*]; done)), H', ⟨by have := HK1.out; omega⟩, by repeat (first | exact Drawn0.refl _ | apply Drawn0.step)⟩
          · rw [if_neg c6] at H
            exact absurd H (by simp)
        · rw [if_neg c5] at H
          exact absurd H (by simp)
      · rw [if_neg c3] at H
        have c3b0 : decide (0 ≤ x6_1) = false := decide_eq_false c3
        clear c3
        obtain rfl := Option.some.inj H
        go_wp2
        repeat (go_quiet (fail); try go_wp2)
        go_ret
        exact ⟨by first | rfl | (simp; done) | (simp [*]; done), by repeat (first | exact Drawn0.refl _ | apply Drawn0.step)⟩

end Go.Proofs.Ytcnejiflpioaiaa.Pf
end

section
/- What is proved here: what the laws' own helpers over lists of whole numbers answer (equal lists are equal, a marked list holds its marks, a copy is the list). No conditions but that a list is no longer than a Go slice can be. -/
namespace Go.Proofs.Ytcnejiflpioaiaa.Ints
open Go.RowKit Go.Proofs.Ytcnejiflpioaiaa.Pf Go.Proofs.YtcnejiflpioaiaaW.PrintWords

theorem wrap_in {i : Int} (h0 : -9223372036854775808 ≤ i) (h : i ≤ 9223372036854775807) : wrap64 i = i := by
  unfold wrap64; omega

theorem eqIntS_l0 (xs : List Int) (hn : xs.length ≤ 9223372036854775807) (d : Nat) : ∀ (i : Int) (k : Nat), 0 ≤ i → (xs.length : Int) - i = d → d < k → laws_eqIntS.l0 k xs xs i = some true := by
  induction d with
  | zero =>
    intro i k h0 hd hk
    obtain ⟨k, rfl⟩ : ∃ m, k = m + 1 := ⟨k - 1, by omega⟩
    simp only [laws_eqIntS.l0]
    rw [if_neg (by omega)]
  | succ d ih =>
    intro i k h0 hd hk
    obtain ⟨k, rfl⟩ : ∃ m, k = m + 1 := ⟨k - 1, by omega⟩
    simp only [laws_eqIntS.l0]
    rw [if_pos (by omega), if_pos h0, if_pos (by omega), wrap_in (by omega) (by omega), if_pos trivial]
    exact ih (i + 1) k (by omega) (by omega) (by omega)

theorem eqIntS_same (xs : List Int) (hn : xs.length ≤ 9223372036854775807) (k : Nat) (hk : xs.length < k) : laws_eqIntS.f k xs xs = some true := by
  unfold laws_eqIntS.f
  rw [if_pos rfl]
  exact eqIntS_l0 xs hn xs.length 0 k (by omega) (by omega) hk

def marks (m : Int) (n : Nat) : List Int := (List.range n).map fun j : Nat => m + (j : Int)
theorem marks_length (m : Int) (n : Nat) : (marks m n).length = n := by simp [marks]
theorem marks_succ (m : Int) (n : Nat) : marks m (n + 1) = marks m n ++ [m + (n : Int)] := by simp [marks, List.range_succ]
theorem marks_get (m : Int) (n i : Nat) (h : i < n) : rd (marks m n) (i : Int) = m + (i : Int) := by
  unfold rd
  rw [Int.toNat_natCast, List.getD_eq_getElem?_getD, List.getElem?_eq_getElem (by rw [marks_length]; exact h)]
  simp [marks]

theorem markIntS_l0 (m : Int) (hm : 0 ≤ m) (hm2 : m ≤ 4611686018427387903) (ys : List Int) : ∀ (i k : Nat), i + ys.length ≤ 4611686018427387904 → ys.length < k →
    laws_markIntS.l0 k (marks m i ++ ys) (m + (i : Int)) (i : Int) = some (m + ((i + ys.length : Nat) : Int), marks m (i + ys.length)) := by
  induction ys with
  | nil =>
    intro i k hi hk
    obtain ⟨k, rfl⟩ : ∃ m, k = m + 1 := ⟨k - 1, by omega⟩
    simp only [laws_markIntS.l0]
    rw [if_neg (by simp [marks_length])]
    simp
  | cons y ys ih =>
    intro i k hi hk
    simp only [List.length_cons] at hi hk
    obtain ⟨k, rfl⟩ : ∃ m, k = m + 1 := ⟨k - 1, by omega⟩
    simp only [laws_markIntS.l0]
    rw [if_pos (by simp [marks_length]; omega), if_pos (by omega), Int.toNat_natCast, wrap_in (by omega) (by omega), wrap_in (by omega) (by omega)]
    have hs : (marks m i ++ y :: ys).set i (m + (i : Int)) = marks m (i + 1) ++ ys := by
      rw [List.set_append_right _ _ (by simp [marks_length])]
      simp [marks_length, marks_succ]
    rw [hs]
    have h := ih (i + 1) k (by omega) (by omega)
    rw [show m + (i : Int) + 1 = m + ((i + 1 : Nat) : Int) by omega, show (i : Int) + 1 = ((i + 1 : Nat) : Int) by omega, h]
    simp only [List.length_cons, Option.some.injEq, Prod.mk.injEq]
    rw [show i + 1 + ys.length = i + (ys.length + 1) by omega]
    exact ⟨rfl, rfl⟩

theorem markIntS_f (m : Int) (hm : 0 ≤ m) (hm2 : m ≤ 4611686018427387903) (ys : List Int) (hn : ys.length ≤ 4611686018427387904) (k : Nat) (hk : ys.length < k) :
    laws_markIntS.f k ys m = some (m + (ys.length : Int), marks m ys.length) := by
  unfold laws_markIntS.f
  have h := markIntS_l0 m hm hm2 ys 0 k (by omega) hk
  simpa [marks] using h

theorem heldIntS_l0 (m : Int) (hm : 0 ≤ m) (hm2 : m ≤ 4611686018427387903) (n : Nat) (hn : n ≤ 4611686018427387904) (d : Nat) : ∀ (i k : Nat), i + d = n → d < k →
    laws_heldIntS.l0 k (marks m n) (m + (i : Int)) (i : Int) = some (m + (n : Int)) := by
  induction d with
  | zero =>
    intro i k hi hk
    obtain ⟨k, rfl⟩ : ∃ m, k = m + 1 := ⟨k - 1, by omega⟩
    simp only [laws_heldIntS.l0]
    rw [if_neg (by rw [marks_length]; omega)]
    rw [show i = n by omega]
  | succ d ih =>
    intro i k hi hk
    obtain ⟨k, rfl⟩ : ∃ m, k = m + 1 := ⟨k - 1, by omega⟩
    simp only [laws_heldIntS.l0]
    rw [if_pos (by rw [marks_length]; omega), if_pos (by omega), if_pos (marks_get m n i (by omega)), wrap_in (by omega) (by omega), wrap_in (by omega) (by omega)]
    have h := ih (i + 1) k (by omega) (by omega)
    rw [show m + (i : Int) + 1 = m + ((i + 1 : Nat) : Int) by omega, show (i : Int) + 1 = ((i + 1 : Nat) : Int) by omega, h]

theorem heldIntS_f (m : Int) (hm : 0 ≤ m) (hm2 : m ≤ 4611686018427387903) (n : Nat) (hn : n ≤ 4611686018427387904) (k : Nat) (hk : n < k) :
    laws_heldIntS.f k (marks m n) m = some (m + (n : Int)) := by
  unfold laws_heldIntS.f
  have h := heldIntS_l0 m hm hm2 n hn n 0 k (by omega) hk
  simpa using h
theorem toIntS_l0 (xs : List Int) (hn : xs.length ≤ 9223372036854775807) (d : Nat) : ∀ (i k : Nat), i + d = xs.length → d < k →
    laws_toIntS.l0 k xs (xs.take i ++ List.replicate d 0) (i : Int) = some xs := by
  induction d with
  | zero =>
    intro i k hi hk
    obtain ⟨k, rfl⟩ : ∃ m, k = m + 1 := ⟨k - 1, by omega⟩
    simp only [laws_toIntS.l0]
    rw [if_neg (by omega)]
    rw [List.take_of_length_le (by omega)]
    simp
  | succ d ih =>
    intro i k hi hk
    obtain ⟨k, rfl⟩ : ∃ m, k = m + 1 := ⟨k - 1, by omega⟩
    simp only [laws_toIntS.l0]
    rw [if_pos (by omega), if_pos (by omega), if_pos (by simp; omega), Int.toNat_natCast, wrap_in (by omega) (by omega)]
    have hs : (xs.take i ++ List.replicate (d + 1) 0).set i (rd xs (i : Int)) = xs.take (i + 1) ++ List.replicate d 0 := by
      rw [List.set_append_right _ _ (by simp; omega)]
      have h1 : i < xs.length := by omega
      rw [List.take_succ_eq_append_getElem h1, List.length_take, Nat.min_eq_left (by omega), Nat.sub_self, List.replicate_succ, List.set_cons_zero]
      unfold rd
      rw [Int.toNat_natCast, List.getD_eq_getElem?_getD, List.getElem?_eq_getElem h1, Option.getD_some, List.append_assoc, List.singleton_append]
    rw [hs, show (i : Int) + 1 = ((i + 1 : Nat) : Int) by omega]
    exact ih (i + 1) k (by omega) (by omega)

theorem toIntS_f (xs : List Int) (hn : xs.length ≤ 35184372088832) (k : Nat) (hk : xs.length < k) : laws_toIntS.f k xs = some xs := by
  unfold laws_toIntS.f
  rw [if_pos (by omega), Int.toNat_natCast, if_pos hn]
  have h := toIntS_l0 xs (by omega) xs.length 0 k (by omega) hk
  simpa using h
end Go.Proofs.Ytcnejiflpioaiaa.Ints
end

section
/- What is proved here: what scalars and PolyAt and PolyTrim answer, of the program and of the reference alike, as plain functions on lists. No conditions but that a list fits into memory. -/
namespace Go.Proofs.Ytcnejiflpioaiaa.Poly
open Go.RowKit Go.Proofs.Ytcnejiflpioaiaa.Pf Go.Proofs.YtcnejiflpioaiaaW.PrintWords Go.Proofs.Ytcnejiflpioaiaa.Ints

theorem tmod_two (n : Int) (m : Int) (hm : 0 < m) : Int.tmod n m = n % m ∨ (Int.tmod n m = n % m - m ∧ n % m ≠ 0) := by
  rw [Int.tmod_eq_emod]
  split
  · left; omega
  · rename_i h
    right
    refine ⟨by omega, fun e => h (Or.inr (Int.dvd_of_emod_eq_zero e))⟩

theorem Ev.one {α : Type} {g : Nat → Option α} {r : α} (h : ∀ k, g (k + 1) = some r) : Ev g r :=
  ⟨1, fun k hk => by obtain ⟨k, rfl⟩ : ∃ m, k = m + 1 := ⟨k - 1, by omega⟩; exact h k⟩

theorem mul_bound (a b : Int) : 0 ≤ (a % 1009) * (b % 1009) ∧ (a % 1009) * (b % 1009) ≤ 1016064 := by
  have h1 : 0 ≤ a % 1009 := Int.emod_nonneg _ (by decide)
  have h2 : 0 ≤ b % 1009 := Int.emod_nonneg _ (by decide)
  have h3 : a % 1009 ≤ 1008 := by omega
  have h4 : b % 1009 ≤ 1008 := by omega
  refine ⟨Int.mul_nonneg h1 h2, ?_⟩
  have := Int.mul_le_mul h3 h4 h2 (by decide)
  omega

theorem rd_nat (xs : List Int) (n : Nat) (h : n < xs.length) : rd xs (n : Int) = xs[n] := by
  unfold rd
  rw [Int.toNat_natCast, List.getD_eq_getElem?_getD, List.getElem?_eq_getElem h, Option.getD_some]

/-- the value of a polynomial, from the last number on -/
def pat (xs : List Int) (x : Int) : Int := xs.foldr (fun c acc => (acc * x + c) % 1009) 0
/-- without noughts at its end -/
def cut (xs : List Int) : List Int := (xs.reverse.dropWhile (fun c => decide (c = 0))).reverse
def trim (xs : List Int) : List Int := cut (xs.map (· % 1009))
theorem cut_nil : cut [] = [] := rfl
theorem cut_zero (xs : List Int) : cut (xs ++ [0]) = cut xs := by simp [cut]
theorem cut_other (xs : List Int) (c : Int) (h : c ≠ 0) : cut (xs ++ [c]) = xs ++ [c] := by simp [cut, h]
theorem cut_length (xs : List Int) : (cut xs).length ≤ xs.length := by
  unfold cut
  rw [List.length_reverse]
  have := (List.dropWhile_suffix (fun c : Int => decide (c = 0)) (l := xs.reverse)).length_le
  simpa using this
theorem trim_length (xs : List Int) : (trim xs).length ≤ xs.length := by
  have := cut_length (xs.map (· % 1009))
  simpa [trim] using this

theorem impl_ScOf_eq (n : Int) : impl_ScOf.f n = some (n % 1009) := by
  unfold impl_ScOf.f impl_remainder.f
  rw [if_neg (by decide)]
  rcases tmod_two n 1009 (by decide) with h | ⟨h, h2⟩
  · rw [h, if_neg (by omega)]; rfl
  · rw [h, if_pos (by omega), wrap_in (by omega) (by omega)]
    simp
theorem impl_ScAdd_eq (a b : Int) : impl_ScAdd.f a b = some ((a + b) % 1009) := by
  simp only [impl_ScAdd.f, impl_ScOf_eq, Option.bind_some]
  rw [wrap_in (by omega) (by omega)]
  simp only [Option.some.injEq]
  omega
theorem impl_ScMul_eq (a b : Int) : impl_ScMul.f a b = some ((a * b) % 1009) := by
  have h := mul_bound a b
  simp only [impl_ScMul.f, impl_ScOf_eq, Option.bind_some]
  rw [wrap_in (by omega) (by omega), ← Int.mul_emod]

theorem impl_PolyAt_l0 (xs : List Int) (x : Int) (hl : xs.length ≤ 9223372036854775807) : ∀ n, n ≤ xs.length → Ev (fun k => impl_PolyAt.l0 k xs x (pat (xs.drop n) x) ((n : Int) - 1)) (pat xs x)
  | 0, _ => Ev.one fun k => by
    simp only [impl_PolyAt.l0]
    rw [if_neg (by omega)]
    simp
  | n + 1, hn => by
    refine Ev.step (fun k => ?_) (impl_PolyAt_l0 xs x hl n (by omega))
    have h1 : n < xs.length := by omega
    simp only [impl_PolyAt.l0]
    rw [show ((n + 1 : Nat) : Int) - 1 = (n : Int) by omega, if_pos (by omega), impl_ScMul_eq, Option.bind_some, if_pos (by omega), if_pos (by omega), impl_ScAdd_eq, Option.bind_some, wrap_in (by omega) (by omega), rd_nat xs n h1]
    congr 1
    rw [List.drop_eq_getElem_cons h1]
    simp only [pat, List.foldr_cons]
    omega
theorem impl_PolyAt_ev (xs : List Int) (x : Int) (hl : xs.length ≤ 9223372036854775807) : Ev (fun k => impl_PolyAt.f k xs x) (pat xs x) := by
  have h := impl_PolyAt_l0 xs x hl xs.length (Nat.le_refl _)
  rw [List.drop_length] at h
  simp only [impl_PolyAt.f]
  rw [wrap_in (by omega) (by omega)]
  exact h

theorem impl_PolyTrim_l1 : ∀ (n : Nat) (xs : List Int), xs.length = n → n ≤ 9223372036854775807 → Ev (fun k => impl_PolyTrim.l1 k xs) (cut xs)
  | 0, xs, h, _ => Ev.one fun k => by
    obtain rfl : xs = [] := List.eq_nil_of_length_eq_zero h
    simp only [impl_PolyTrim.l1]
    rw [if_neg (by simp)]
    rfl
  | n + 1, xs, h, hn => by
    obtain ⟨ys, c, rfl⟩ : ∃ ys c, xs = ys ++ [c] := ⟨xs.dropLast, xs.getLast (by intro e; simp [e] at h), (List.dropLast_concat_getLast _).symm⟩
    rw [List.length_append, List.length_singleton] at h
    have hy : ys.length = n := by omega
    have hr : rd (ys ++ [c]) (n : Int) = c := by rw [rd_nat _ n (by simp <;> omega)]; simp [← hy]
    have hw : wrap64 ((((ys ++ [c]).length : Nat) : Int) - 1) = (n : Int) := by rw [wrap_in (by simp <;> omega) (by simp <;> omega)]; simp; omega
    by_cases hc : c = 0
    · subst hc
      rw [cut_zero]
      refine Ev.step (fun k => ?_) (impl_PolyTrim_l1 n ys hy (by omega))
      simp only [impl_PolyTrim.l1]
      rw [hw, if_pos (by simp <;> omega), if_pos (by omega), if_pos (by simp <;> omega), hr, if_pos rfl, if_pos (by simp <;> omega), Int.toNat_natCast, ← hy, List.take_left]
    · rw [cut_other ys c hc]
      refine Ev.one fun k => ?_
      simp only [impl_PolyTrim.l1]
      rw [hw, if_pos (by simp <;> omega), if_pos (by omega), if_pos (by simp <;> omega), hr, if_neg hc]

theorem impl_PolyTrim_l0 (xs : List Int) (hl : xs.length ≤ 17592186044416) (d : Nat) : ∀ i, i + d = xs.length → Ev (fun k => impl_PolyTrim.l0 k ((xs.take i).map (· % 1009)) xs (xs.length : Int) (i : Int)) (trim xs) := by
  induction d with
  | zero =>
    intro i hi
    refine Ev.step (fun k => ?_) (impl_PolyTrim_l1 _ (xs.map (· % 1009)) rfl (by simp <;> omega))
    simp only [impl_PolyTrim.l0]
    rw [if_neg (by omega), List.take_of_length_le (by omega)]
  | succ d ih =>
    intro i hi
    have h1 : i < xs.length := by omega
    refine Ev.step (fun k => ?_) (ih (i + 1) (by omega))
    simp only [impl_PolyTrim.l0]
    rw [if_pos (by omega), if_pos (by omega), if_pos (by omega), impl_ScOf_eq, Option.bind_some, if_pos (by simp <;> omega), wrap_in (by omega) (by omega), rd_nat xs i h1, List.take_succ_eq_append_getElem h1, List.map_append]
    rfl
theorem impl_PolyTrim_ev (xs : List Int) (hl : xs.length ≤ 17592186044416) : Ev (fun k => impl_PolyTrim.f k xs) (trim xs) := impl_PolyTrim_l0 xs hl xs.length 0 (by omega)

theorem spec_ScOf_eq (n : Int) : spec_ScOf.f n = some (n % 1009) := by
  unfold spec_ScOf.f
  rcases tmod_two n 1009 (by decide) with h | ⟨h, h2⟩
  · rw [h, if_neg (by omega)]
  · rw [h, if_pos (by omega), wrap_in (by omega) (by omega)]
    simp
theorem spec_ScAdd_eq (a b : Int) : spec_ScAdd.f a b = some ((a + b) % 1009) := by
  simp only [spec_ScAdd.f, spec_ScOf_eq, Option.bind_some]
  rw [wrap_in (by omega) (by omega)]
  simp only [Option.some.injEq]
  omega
theorem spec_ScMul_eq (a b : Int) : spec_ScMul.f a b = some ((a * b) % 1009) := by
  have h := mul_bound a b
  simp only [spec_ScMul.f, spec_ScOf_eq, Option.bind_some]
  rw [wrap_in (by omega) (by omega), ← Int.mul_emod]

theorem spec_PolyAt_l0 (xs : List Int) (x : Int) (hl : xs.length ≤ 9223372036854775807) : ∀ n, n ≤ xs.length → Ev (fun k => spec_PolyAt.l0 k xs x (pat (xs.drop n) x) ((n : Int) - 1)) (pat xs x)
  | 0, _ => Ev.one fun k => by
    simp only [spec_PolyAt.l0]
    rw [if_neg (by omega)]
    simp
  | n + 1, hn => by
    refine Ev.step (fun k => ?_) (spec_PolyAt_l0 xs x hl n (by omega))
    have h1 : n < xs.length := by omega
    simp only [spec_PolyAt.l0]
    rw [show ((n + 1 : Nat) : Int) - 1 = (n : Int) by omega, if_pos (by omega), spec_ScMul_eq, Option.bind_some, if_pos (by omega), if_pos (by omega), spec_ScAdd_eq, Option.bind_some, wrap_in (by omega) (by omega), rd_nat xs n h1]
    congr 1
    rw [List.drop_eq_getElem_cons h1]
    simp only [pat, List.foldr_cons]
    omega
theorem spec_PolyAt_ev (xs : List Int) (x : Int) (hl : xs.length ≤ 9223372036854775807) : Ev (fun k => spec_PolyAt.f k xs x) (pat xs x) := by
  have h := spec_PolyAt_l0 xs x hl xs.length (Nat.le_refl _)
  rw [List.drop_length] at h
  simp only [spec_PolyAt.f]
  rw [wrap_in (by omega) (by omega)]
  exact h

theorem spec_PolyTrim_l1 : ∀ (n : Nat) (xs : List Int), xs.length = n → n ≤ 9223372036854775807 → Ev (fun k => spec_PolyTrim.l1 k xs) (cut xs)
  | 0, xs, h, _ => Ev.one fun k => by
    obtain rfl : xs = [] := List.eq_nil_of_length_eq_zero h
    simp only [spec_PolyTrim.l1]
    rw [if_neg (by simp)]
    rfl
  | n + 1, xs, h, hn => by
    obtain ⟨ys, c, rfl⟩ : ∃ ys c, xs = ys ++ [c] := ⟨xs.dropLast, xs.getLast (by intro e; simp [e] at h), (List.dropLast_concat_getLast _).symm⟩
    rw [List.length_append, List.length_singleton] at h
    have hy : ys.length = n := by omega
    have hr : rd (ys ++ [c]) (n : Int) = c := by rw [rd_nat _ n (by simp <;> omega)]; simp [← hy]
    have hw : wrap64 ((((ys ++ [c]).length : Nat) : Int) - 1) = (n : Int) := by rw [wrap_in (by simp <;> omega) (by simp <;> omega)]; simp; omega
    by_cases hc : c = 0
    · subst hc
      rw [cut_zero]
      refine Ev.step (fun k => ?_) (spec_PolyTrim_l1 n ys hy (by omega))
      simp only [spec_PolyTrim.l1]
      rw [hw, if_pos (by simp <;> omega), if_pos (by omega), if_pos (by simp <;> omega), hr, if_pos rfl, if_pos (by simp <;> omega), Int.toNat_natCast, ← hy, List.take_left]
    · rw [cut_other ys c hc]
      refine Ev.one fun k => ?_
      simp only [spec_PolyTrim.l1]
      rw [hw, if_pos (by simp <;> omega), if_pos (by omega), if_pos (by simp <;> omega), hr, if_neg hc]

theorem spec_PolyTrim_l0 (xs : List Int) (hl : xs.length ≤ 17592186044416) (d : Nat) : ∀ i, i + d = xs.length → Ev (fun k => spec_PolyTrim.l0 k xs ((xs.take i).map (· % 1009)) (i : Int)) (trim xs) := by
  induction d with
  | zero =>
    intro i hi
    refine Ev.step (fun k => ?_) (spec_PolyTrim_l1 _ (xs.map (· % 1009)) rfl (by simp <;> omega))
    simp only [spec_PolyTrim.l0]
    rw [if_neg (by omega), List.take_of_length_le (by omega)]
  | succ d ih =>
    intro i hi
    have h1 : i < xs.length := by omega
    refine Ev.step (fun k => ?_) (ih (i + 1) (by omega))
    simp only [spec_PolyTrim.l0]
    rw [if_pos (by omega), if_pos (by omega), spec_ScOf_eq, Option.bind_some, if_pos (by simp <;> omega), wrap_in (by omega) (by omega), rd_nat xs i h1, List.take_succ_eq_append_getElem h1, List.map_append]
    rfl
theorem spec_PolyTrim_ev (xs : List Int) (hl : xs.length ≤ 17592186044416) : Ev (fun k => spec_PolyTrim.f k xs) (trim xs) := spec_PolyTrim_l0 xs hl xs.length 0 (by omega)
end Go.Proofs.Ytcnejiflpioaiaa.Poly
end

section
/- What is proved here: what PolyAdd answers, of the program and of the reference alike: the sums place by place, trimmed. No conditions but that a list fits into memory. -/
namespace Go.Proofs.Ytcnejiflpioaiaa.Poly
open Go.RowKit Go.Proofs.Ytcnejiflpioaiaa.Pf Go.Proofs.YtcnejiflpioaiaaW.PrintWords Go.Proofs.Ytcnejiflpioaiaa.Ints

/-- the number at a place, 0 behind the end -/
def at_ (xs : List Int) (i : Nat) : Int := xs.getD i 0
theorem at_lt {xs : List Int} {i : Nat} (h : i < xs.length) : at_ xs i = xs[i] := by simp [at_, h]
theorem at_ge {xs : List Int} {i : Nat} (h : xs.length ≤ i) : at_ xs i = 0 := by simp [at_, h]
theorem rd_at (xs : List Int) (i : Nat) : rd xs (i : Int) = at_ xs i := by simp [rd, at_]
theorem ext_at {xs ys : List Int} (hl : xs.length = ys.length) (h : ∀ i, i < xs.length → at_ xs i = at_ ys i) : xs = ys := by
  apply List.ext_getElem hl
  intro i h1 h2
  have := h i h1
  rwa [at_lt h1, at_lt h2] at this
theorem at_set (xs : List Int) (i j : Nat) (x : Int) (h : i < xs.length) : at_ (xs.set i x) j = if j = i then x else at_ xs j := by
  unfold at_
  rw [List.getD_eq_getElem?_getD, List.getD_eq_getElem?_getD, List.getElem?_set]
  by_cases hj : i = j
  · subst hj; simp [h]
  · simp [hj, show ¬ j = i from fun e => hj e.symm]
/-- a list by its numbers -/
def tab (n : Nat) (f : Nat → Int) : List Int := (List.range n).map f
theorem tab_length (n : Nat) (f : Nat → Int) : (tab n f).length = n := by simp [tab]
theorem tab_at (n : Nat) (f : Nat → Int) (i : Nat) (h : i < n) : at_ (tab n f) i = f i := by simp [at_, tab, h]
theorem eq_tab {xs : List Int} {n : Nat} {f : Nat → Int} (hl : xs.length = n) (h : ∀ i, i < n → at_ xs i = f i) : xs = tab n f :=
  ext_at (by rw [hl, tab_length]) (fun i hi => by rw [h i (by omega), tab_at n f i (by omega)])
theorem tab_congr {n : Nat} {f g : Nat → Int} (h : ∀ i, i < n → f i = g i) : tab n f = tab n g := eq_tab (tab_length _ _) (fun i hi => by rw [tab_at n f i hi, h i hi])
theorem tab_set (n : Nat) (f : Nat → Int) (i : Nat) (x : Int) (h : i < n) : (tab n f).set i x = tab n (fun j => if j = i then x else f j) :=
  eq_tab (by simp [tab_length]) (fun j hj => by rw [at_set _ _ _ _ (by rw [tab_length]; exact h), tab_at n f j hj])
theorem replicate_tab (n : Nat) : List.replicate n (0 : Int) = tab n (fun _ => 0) := eq_tab (by simp) (fun i hi => by simp [at_, hi])
def padd (xs ys : List Int) : List Int := trim (tab (max xs.length ys.length) (fun i => (at_ xs i + at_ ys i) % 1009))
theorem map_tab (n : Nat) (f : Nat → Int) (g : Int → Int) : (tab n f).map g = tab n (fun i => g (f i)) := by simp [tab, Function.comp_def]
theorem at_emod (xs : List Int) (i : Nat) : at_ (xs.map (· % 1009)) i = at_ xs i % 1009 := by
  by_cases h : i < xs.length
  · rw [at_lt (by simpa using h), at_lt h]; simp
  · rw [at_ge (by simp; omega), at_ge (by omega)]; rfl

theorem impl_PolyAdd_l1 (xs ys : List Int) (n : Nat) (hn : n = max xs.length ys.length) (hl : n ≤ 17592186044416) (d : Nat) : ∀ i, i + d = ys.length →
    Ev (fun k => impl_PolyAdd.l1 k (tab n (fun j => (at_ xs j + if j < i then at_ ys j else 0) % 1009)) ys (ys.length : Int) (i : Int)) (padd xs ys) := by
  induction d with
  | zero =>
    intro i hi
    obtain rfl : i = ys.length := by omega
    have e : tab n (fun j => (at_ xs j + if j < ys.length then at_ ys j else 0) % 1009) = tab n (fun j => (at_ xs j + at_ ys j) % 1009) :=
      tab_congr (fun j _ => by
        by_cases h : j < ys.length
        · rw [if_pos h]
        · rw [if_neg h, at_ge (xs := ys) (by omega)])
    refine Ev.step (fun k => ?_) (impl_PolyTrim_ev (tab n (fun j => (at_ xs j + at_ ys j) % 1009)) (by rw [tab_length]; exact hl) |> fun h => by rw [hn] at h; exact h)
    simp only [impl_PolyAdd.l1]
    rw [if_neg (by omega), e, hn]
    cases impl_PolyTrim.f k (tab (max xs.length ys.length) fun j => (at_ xs j + at_ ys j) % 1009) <;> rfl
  | succ d ih =>
    intro i hi
    have h1 : i < ys.length := by omega
    have h2 : i < n := by omega
    refine Ev.step (fun k => ?_) (ih (i + 1) (by omega))
    simp only [impl_PolyAdd.l1]
    rw [if_pos (by omega), if_pos (by omega), if_pos (by omega), if_pos (by rw [tab_length]; omega), impl_ScAdd_eq, Option.bind_some, Int.toNat_natCast, wrap_in (by omega) (by omega), rd_at, rd_at, tab_at _ _ _ h2, tab_set _ _ _ _ h2, if_neg (Nat.lt_irrefl i)]
    congr 1
    refine tab_congr (fun j hj => ?_)
    by_cases e : j = i
    · subst e; rw [if_pos rfl, if_pos (by omega)]; omega
    · rw [if_neg e]
      by_cases e2 : j < i
      · rw [if_pos e2, if_pos (by omega)]
      · rw [if_neg e2, if_neg (by omega)]
theorem impl_PolyAdd_l0 (xs ys : List Int) (n : Nat) (hn : n = max xs.length ys.length) (hl : n ≤ 17592186044416) (d : Nat) : ∀ i, i + d = xs.length →
    Ev (fun k => impl_PolyAdd.l0 k ys (tab n (fun j => if j < i then at_ xs j % 1009 else 0)) xs (xs.length : Int) (i : Int)) (padd xs ys) := by
  induction d with
  | zero =>
    intro i hi
    obtain rfl : i = xs.length := by omega
    have e : tab n (fun j => if j < xs.length then at_ xs j % 1009 else 0) = tab n (fun j => (at_ xs j + if j < 0 then at_ ys j else 0) % 1009) :=
      tab_congr (fun j _ => by
        by_cases h : j < xs.length
        · rw [if_pos h, if_neg (by omega)]; simp
        · rw [if_neg h, at_ge (by omega)]; rfl)
    refine Ev.step (fun k => ?_) (impl_PolyAdd_l1 xs ys n hn hl ys.length 0 (by omega))
    simp only [impl_PolyAdd.l0]
    rw [if_neg (by omega), e]
    rfl
  | succ d ih =>
    intro i hi
    have h1 : i < xs.length := by omega
    have h2 : i < n := by omega
    refine Ev.step (fun k => ?_) (ih (i + 1) (by omega))
    simp only [impl_PolyAdd.l0]
    rw [if_pos (by omega), if_pos (by omega), if_pos (by omega), impl_ScOf_eq, Option.bind_some, if_pos (by rw [tab_length]; omega), Int.toNat_natCast, wrap_in (by omega) (by omega), rd_at, tab_set _ _ _ _ h2]
    congr 1
    refine tab_congr (fun j hj => ?_)
    by_cases e : j = i
    · subst e; rw [if_pos rfl, if_pos (by omega)]
    · rw [if_neg e]
      by_cases e2 : j < i
      · rw [if_pos e2, if_pos (by omega)]
      · rw [if_neg e2, if_neg (by omega)]
theorem mx_nat (a b : Nat) : mx (a : Int) (b : Int) = ((max a b : Nat) : Int) := by unfold mx; split <;> omega
theorem impl_PolyAdd_ev (xs ys : List Int) (hx : xs.length ≤ 17592186044416) (hy : ys.length ≤ 17592186044416) : Ev (fun k => impl_PolyAdd.f k xs ys) (padd xs ys) := by
  have h := impl_PolyAdd_l0 xs ys _ rfl (by omega) xs.length 0 (by omega)
  refine Ev.congr (fun k => ?_) h
  simp only [impl_PolyAdd.f]
  rw [mx_nat, if_pos (by omega), Int.toNat_natCast, if_pos (by omega), replicate_tab]
  simp

theorem spec_PolyAdd_l0 (xs ys : List Int) (n : Nat) (hn : n = max xs.length ys.length) (hl : n ≤ 17592186044416) (d : Nat) : ∀ i, i + d = n →
    Ev (fun k => spec_PolyAdd.l0 k xs ys (n : Int) (tab n (fun j => if j < i then (at_ xs j + at_ ys j) % 1009 else 0)) (i : Int)) (padd xs ys) := by
  induction d with
  | zero =>
    intro i hi
    obtain rfl : i = n := by omega
    have e : tab i (fun j => if j < i then (at_ xs j + at_ ys j) % 1009 else 0) = tab i (fun j => (at_ xs j + at_ ys j) % 1009) := tab_congr (fun j hj => by rw [if_pos hj])
    refine Ev.step (fun k => ?_) (spec_PolyTrim_ev (tab i (fun j => (at_ xs j + at_ ys j) % 1009)) (by rw [tab_length]; exact hl) |> fun h => by rw [hn] at h; exact h)
    simp only [spec_PolyAdd.l0]
    rw [if_neg (by omega), e, hn]
    cases spec_PolyTrim.f k (tab (max xs.length ys.length) fun j => (at_ xs j + at_ ys j) % 1009) <;> rfl
  | succ d ih =>
    intro i hi
    have h2 : i < n := by omega
    have key : ∀ x, x = (at_ xs i + at_ ys i) % 1009 → (tab n (fun j => if j < i then (at_ xs j + at_ ys j) % 1009 else 0)).set i x = tab n (fun j => if j < i + 1 then (at_ xs j + at_ ys j) % 1009 else 0) := by
      intro x hx
      rw [tab_set _ _ _ _ h2]
      refine tab_congr (fun j hj => ?_)
      by_cases e : j = i
      · subst e; rw [if_pos rfl, if_pos (by omega), hx]
      · rw [if_neg e]
        by_cases e2 : j < i
        · rw [if_pos e2, if_pos (by omega)]
        · rw [if_neg e2, if_neg (by omega)]
    have z : at_ (tab n (fun j => if j < i then (at_ xs j + at_ ys j) % 1009 else 0)) i = 0 := by rw [tab_at _ _ _ h2, if_neg (Nat.lt_irrefl i)]
    have zl : (tab n (fun j => if j < i then (at_ xs j + at_ ys j) % 1009 else 0)).length = n := tab_length _ _
    generalize tab n (fun j => if j < i then (at_ xs j + at_ ys j) % 1009 else 0) = t at *
    refine Ev.step (fun k => ?_) (ih (i + 1) (by omega))
    simp only [spec_PolyAdd.l0]
    rw [if_pos (by omega)]
    by_cases hx : i < xs.length
    · rw [if_pos (by omega), if_pos (by omega), if_pos (by omega), spec_ScAdd_eq, Option.bind_some, Option.bind_some, Int.toNat_natCast]
      simp only [rd_at, z]
      by_cases hy : i < ys.length
      · rw [if_pos (by omega), spec_ScAdd_eq, Option.bind_some, at_set _ _ _ _ (by omega), if_pos rfl, List.set_set, wrap_in (by omega) (by omega), key]
        · rfl
        · omega
      · rw [if_neg (by omega), wrap_in (by omega) (by omega), key]
        · rfl
        · rw [at_ge (xs := ys) (by omega)]; omega
    · rw [if_neg (by omega)]
      have hy : i < ys.length := by omega
      rw [if_pos (by omega), if_pos (by omega), if_pos (by omega), spec_ScAdd_eq, Option.bind_some, Int.toNat_natCast, rd_at, rd_at, z, wrap_in (by omega) (by omega), key]
      · rfl
      · rw [at_ge (xs := xs) (by omega)]
theorem spec_PolyAdd_ev (xs ys : List Int) (hx : xs.length ≤ 17592186044416) (hy : ys.length ≤ 17592186044416) : Ev (fun k => spec_PolyAdd.f k xs ys) (padd xs ys) := by
  have h := spec_PolyAdd_l0 xs ys _ rfl (by omega) (max xs.length ys.length) 0 (by omega)
  have h2 : Ev (fun k => spec_PolyAdd.j0 k xs ys ((max xs.length ys.length : Nat) : Int)) (padd xs ys) := by
    refine Ev.step (fun k => ?_) h
    simp only [spec_PolyAdd.j0]
    rw [if_pos (by omega), Int.toNat_natCast, if_pos (by omega), replicate_tab]
    simp
  refine Ev.congr (fun k => ?_) h2
  simp only [spec_PolyAdd.f]
  by_cases h3 : (ys.length : Int) > (xs.length : Int)
  · rw [if_pos h3, show max xs.length ys.length = ys.length by omega]
  · rw [if_neg h3, show max xs.length ys.length = xs.length by omega]
end Go.Proofs.Ytcnejiflpioaiaa.Poly
end

section
/- What is proved here: what PolyMul and PolyZero answer, of the program and of the reference alike. No conditions. -/
namespace Go.Proofs.Ytcnejiflpioaiaa.Poly
open Go.RowKit Go.Proofs.Ytcnejiflpioaiaa.Pf Go.Proofs.YtcnejiflpioaiaaW.PrintWords Go.Proofs.Ytcnejiflpioaiaa.Ints

/-- the products whose places come to n, of the first i numbers of xs -/
def conv (xs ys : List Int) : Nat → Nat → Int
  | 0, _ => 0
  | i + 1, n => conv xs ys i n + if i ≤ n then at_ xs i * at_ ys (n - i) else 0
def rowp (xs ys : List Int) (i j n : Nat) : Int := if i ≤ n ∧ n - i < j then at_ xs i * at_ ys (n - i) else 0
theorem row_none (xs ys : List Int) (i n : Nat) : rowp xs ys i 0 n = 0 := by unfold rowp; rw [if_neg (by omega)]
theorem row_all (xs ys : List Int) (i n : Nat) : rowp xs ys i ys.length n = if i ≤ n then at_ xs i * at_ ys (n - i) else 0 := by
  unfold rowp
  by_cases h : i ≤ n
  · by_cases h2 : n - i < ys.length
    · rw [if_pos ⟨h, h2⟩, if_pos h]
    · rw [if_neg (by omega), if_pos h, at_ge (xs := ys) (by omega)]; simp
  · rw [if_neg (by omega), if_neg h]
theorem conv_end (xs ys : List Int) (n : Nat) : ∀ i, i ≤ xs.length → xs.length + ys.length ≤ n + 1 → conv xs ys i n = 0
  | 0, _, _ => rfl
  | i + 1, h, h2 => by
    rw [conv, conv_end xs ys n i (by omega) h2, if_pos (by omega), at_ge (xs := ys) (by omega)]
    simp
def pmul (xs ys : List Int) : List Int := if xs.length > 64 ∨ ys.length > 64 then [] else trim (tab (xs.length + ys.length) (conv xs ys xs.length))
theorem cut_replicate : ∀ n, cut (tab n (fun _ => 0)) = []
  | 0 => rfl
  | n + 1 => by
    have : tab (n + 1) (fun _ => 0) = tab n (fun _ => 0) ++ [0] := by simp [tab, List.range_succ]
    rw [this, cut_zero, cut_replicate n]
theorem tab_succ (n : Nat) (f : Nat → Int) : tab (n + 1) f = tab n f ++ [f n] := by simp [tab, List.range_succ]
theorem trim_idem (n : Nat) (f : Nat → Int) : trim (tab n (fun i => f i % 1009)) = trim (tab n f) := by
  unfold trim
  rw [map_tab, map_tab]
  congr 1
  exact tab_congr (fun i _ => by omega)
theorem trim_short (xs ys : List Int) (h : 0 < xs.length + ys.length) : trim (tab (xs.length + ys.length) (conv xs ys xs.length)) = trim (tab (xs.length + ys.length - 1) (conv xs ys xs.length)) := by
  obtain ⟨N, hN⟩ : ∃ N, xs.length + ys.length = N + 1 := ⟨xs.length + ys.length - 1, by omega⟩
  rw [hN, Nat.add_sub_cancel]
  unfold trim
  rw [tab_succ, conv_end xs ys N xs.length (Nat.le_refl _) (by omega), List.map_append]
  exact cut_zero _
theorem step_row (xs ys : List Int) (N i j : Nat) (h : i + j < N) :
    (tab N (fun n => (conv xs ys i n + rowp xs ys i j n) % 1009)).set (i + j) ((at_ (tab N (fun n => (conv xs ys i n + rowp xs ys i j n) % 1009)) (i + j) + at_ xs i * at_ ys j % 1009) % 1009) = tab N (fun n => (conv xs ys i n + rowp xs ys i (j + 1) n) % 1009) := by
  rw [tab_set _ _ _ _ h, tab_at _ _ _ h]
  refine tab_congr (fun n _ => ?_)
  by_cases e : n = i + j
  · subst e
    rw [if_pos rfl]
    have e1 : rowp xs ys i j (i + j) = 0 := by unfold rowp; rw [if_neg (by omega)]
    have e2 : rowp xs ys i (j + 1) (i + j) = at_ xs i * at_ ys j := by unfold rowp; rw [if_pos (by omega), show i + j - i = j by omega]
    rw [e1, e2]
    omega
  · rw [if_neg e]
    have e1 : rowp xs ys i j n = rowp xs ys i (j + 1) n := by
      unfold rowp
      by_cases h1 : i ≤ n ∧ n - i < j
      · rw [if_pos h1, if_pos (by omega)]
      · rw [if_neg h1, if_neg (by omega)]
    rw [e1]
theorem row_done (xs ys : List Int) (N i : Nat) : tab N (fun n => (conv xs ys i n + rowp xs ys i ys.length n) % 1009) = tab N (fun n => conv xs ys (i + 1) n % 1009) :=
  tab_congr (fun n _ => by rw [row_all, conv])
theorem row_start (xs ys : List Int) (N i : Nat) : tab N (fun n => conv xs ys i n % 1009) = tab N (fun n => (conv xs ys i n + rowp xs ys i 0 n) % 1009) :=
  tab_congr (fun n _ => by rw [row_none, Int.add_zero])

theorem impl_PolyMul_l1 (xs ys : List Int) (hx : xs.length ≤ 64) (hy : ys.length ≤ 64) (N : Nat) (hN : xs.length + ys.length ≤ N + 1) (i : Nat) (hi : i < xs.length) (r : List Int)
    (next : Ev (fun k => impl_PolyMul.l0 k ys (tab N (fun n => conv xs ys (i + 1) n % 1009)) xs (xs.length : Int) ((i + 1 : Nat) : Int)) r) (d : Nat) : ∀ j, j + d = ys.length →
    Ev (fun k => impl_PolyMul.l1 k ys (tab N (fun n => (conv xs ys i n + rowp xs ys i j n) % 1009)) (i : Int) (at_ xs i) xs (xs.length : Int) (i : Int) ys (ys.length : Int) (j : Int)) r := by
  induction d with
  | zero =>
    intro j hj
    obtain rfl : j = ys.length := by omega
    refine Ev.step (fun k => ?_) next
    simp only [impl_PolyMul.l1]
    rw [if_neg (by omega), wrap_in (by omega) (by omega), row_done]
    rfl
  | succ d ih =>
    intro j hj
    refine Ev.step (fun k => ?_) (ih (j + 1) (by omega))
    simp only [impl_PolyMul.l1]
    rw [if_pos (by omega), if_pos (by omega), if_pos (by omega), wrap_in (i := (i : Int) + (j : Int)) (by omega) (by omega), if_pos (by omega), if_pos (by rw [tab_length]; omega), impl_ScMul_eq, Option.bind_some, impl_ScAdd_eq, Option.bind_some, wrap_in (by omega) (by omega),
      show (i : Int) + (j : Int) = ((i + j : Nat) : Int) by omega, Int.toNat_natCast, rd_at, rd_at, step_row xs ys N i j (by omega)]
    rfl
theorem impl_PolyMul_l0 (xs ys : List Int) (hx : xs.length ≤ 64) (hy : ys.length ≤ 64) (N : Nat) (hN : xs.length + ys.length ≤ N + 1) (hN2 : N ≤ 128) (d : Nat) : ∀ i, i + d = xs.length →
    Ev (fun k => impl_PolyMul.l0 k ys (tab N (fun n => conv xs ys i n % 1009)) xs (xs.length : Int) (i : Int)) (trim (tab N (conv xs ys xs.length))) := by
  induction d with
  | zero =>
    intro i hi
    obtain rfl : i = xs.length := by omega
    refine Ev.step (fun k => ?_) (impl_PolyTrim_ev (tab N (fun n => conv xs ys xs.length n % 1009)) (by rw [tab_length]; omega) |> fun h => by rw [trim_idem] at h; exact h)
    simp only [impl_PolyMul.l0]
    rw [if_neg (by omega)]
    cases impl_PolyTrim.f k (tab N fun n => conv xs ys xs.length n % 1009) <;> rfl
  | succ d ih =>
    intro i hi
    refine Ev.step (fun k => ?_) (impl_PolyMul_l1 xs ys hx hy N hN i (by omega) _ (ih (i + 1) (by omega)) ys.length 0 (by omega))
    simp only [impl_PolyMul.l0]
    rw [if_pos (by omega), if_pos (by omega), if_pos (by omega), rd_at, row_start]
    rfl
theorem impl_PolyMul_ev (xs ys : List Int) : Ev (fun k => impl_PolyMul.f k xs ys) (pmul xs ys) := by
  by_cases h1 : xs.length > 64
  · rw [pmul, if_pos (.inl h1)]
    exact Ev.one fun k => by simp only [impl_PolyMul.f, impl_PolyMul.j0]; rw [if_pos (by omega), if_pos trivial]
  · by_cases h2 : ys.length > 64
    · rw [pmul, if_pos (.inr h2)]
      exact Ev.one fun k => by simp only [impl_PolyMul.f, impl_PolyMul.j0]; rw [if_neg (by omega), if_pos (decide_eq_true (by omega))]
    · rw [pmul, if_neg (by omega)]
      refine Ev.step (fun k => ?_) (impl_PolyMul_l0 xs ys (by omega) (by omega) (xs.length + ys.length) (by omega) (by omega) xs.length 0 (by omega))
      simp only [impl_PolyMul.f, impl_PolyMul.j0]
      rw [if_neg (by omega), if_neg (by simp; omega), wrap_in (by omega) (by omega), if_pos (by omega), show (xs.length : Int) + (ys.length : Int) = ((xs.length + ys.length : Nat) : Int) by omega, Int.toNat_natCast, if_pos (by omega), replicate_tab]
      rfl
theorem spec_PolyMul_l1 (xs ys : List Int) (hx : xs.length ≤ 64) (hy : ys.length ≤ 64) (N : Nat) (hN : xs.length + ys.length ≤ N + 1) (i : Nat) (hi : i < xs.length) (r : List Int)
    (next : Ev (fun k => spec_PolyMul.l0 k xs ys (tab N (fun n => conv xs ys (i + 1) n % 1009)) ((i + 1 : Nat) : Int)) r) (d : Nat) : ∀ j, j + d = ys.length →
    Ev (fun k => spec_PolyMul.l1 k xs ys (tab N (fun n => (conv xs ys i n + rowp xs ys i j n) % 1009)) (i : Int) (j : Int)) r := by
  induction d with
  | zero =>
    intro j hj
    obtain rfl : j = ys.length := by omega
    refine Ev.step (fun k => ?_) next
    simp only [spec_PolyMul.l1]
    rw [if_neg (by omega), wrap_in (by omega) (by omega), row_done]
    rfl
  | succ d ih =>
    intro j hj
    refine Ev.step (fun k => ?_) (ih (j + 1) (by omega))
    simp only [spec_PolyMul.l1]
    rw [if_pos (by omega), wrap_in (i := (i : Int) + (j : Int)) (by omega) (by omega), if_pos (by omega), if_pos (by rw [tab_length]; omega), if_pos (by omega), if_pos (by omega), if_pos (by omega), spec_ScMul_eq, Option.bind_some, spec_ScAdd_eq, Option.bind_some, wrap_in (by omega) (by omega),
      show (i : Int) + (j : Int) = ((i + j : Nat) : Int) by omega, Int.toNat_natCast, rd_at, rd_at, rd_at, step_row xs ys N i j (by omega)]
    rfl
theorem spec_PolyMul_l0 (xs ys : List Int) (hx : xs.length ≤ 64) (hy : ys.length ≤ 64) (N : Nat) (hN : xs.length + ys.length ≤ N + 1) (hN2 : N ≤ 128) (d : Nat) : ∀ i, i + d = xs.length →
    Ev (fun k => spec_PolyMul.l0 k xs ys (tab N (fun n => conv xs ys i n % 1009)) (i : Int)) (trim (tab N (conv xs ys xs.length))) := by
  induction d with
  | zero =>
    intro i hi
    obtain rfl : i = xs.length := by omega
    refine Ev.step (fun k => ?_) (spec_PolyTrim_ev (tab N (fun n => conv xs ys xs.length n % 1009)) (by rw [tab_length]; omega) |> fun h => by rw [trim_idem] at h; exact h)
    simp only [spec_PolyMul.l0]
    rw [if_neg (by omega)]
    cases spec_PolyTrim.f k (tab N fun n => conv xs ys xs.length n % 1009) <;> rfl
  | succ d ih =>
    intro i hi
    refine Ev.step (fun k => ?_) (spec_PolyMul_l1 xs ys hx hy N hN i (by omega) _ (ih (i + 1) (by omega)) ys.length 0 (by omega))
    simp only [spec_PolyMul.l0]
    rw [if_pos (by omega), row_start]
    rfl
theorem pmul_nil_l (ys : List Int) : pmul [] ys = [] := by
  unfold pmul
  split
  · rfl
  · unfold trim
    rw [map_tab]
    exact cut_replicate _
theorem conv_nil_r (xs : List Int) (n : Nat) : ∀ i, conv xs [] i n = 0
  | 0 => rfl
  | i + 1 => by rw [conv, conv_nil_r xs n i, at_ge (xs := []) (by simp)]; simp
theorem pmul_nil_r (xs : List Int) : pmul xs [] = [] := by
  unfold pmul
  split
  · rfl
  · unfold trim
    rw [map_tab, tab_congr (g := fun _ => 0) (fun i _ => by rw [conv_nil_r]; rfl)]
    exact cut_replicate _
theorem spec_PolyMul_ev (xs ys : List Int) : Ev (fun k => spec_PolyMul.f k xs ys) (pmul xs ys) := by
  by_cases hx : xs.length = 0
  · obtain rfl := List.eq_nil_of_length_eq_zero hx
    rw [pmul_nil_l]
    exact Ev.one fun k => by simp only [spec_PolyMul.f, spec_PolyMul.j0]; rw [if_pos (by simp), if_pos trivial]
  by_cases hy : ys.length = 0
  · obtain rfl := List.eq_nil_of_length_eq_zero hy
    rw [pmul_nil_r]
    exact Ev.one fun k => by simp only [spec_PolyMul.f, spec_PolyMul.j0]; rw [if_neg (by omega), if_pos (by simp), if_pos trivial]
  by_cases h1 : xs.length > 64
  · rw [pmul, if_pos (.inl h1)]
    exact Ev.one fun k => by simp only [spec_PolyMul.f, spec_PolyMul.j0]; rw [if_neg (by omega), if_neg (by omega), if_pos (by omega), if_pos trivial]
  · by_cases h2 : ys.length > 64
    · rw [pmul, if_pos (.inr h2)]
      exact Ev.one fun k => by simp only [spec_PolyMul.f, spec_PolyMul.j0]; rw [if_neg (by omega), if_neg (by omega), if_neg (by omega), if_pos (decide_eq_true (by omega))]
    · rw [pmul, if_neg (by omega), trim_short xs ys (by omega)]
      refine Ev.step (fun k => ?_) (spec_PolyMul_l0 xs ys (by omega) (by omega) (xs.length + ys.length - 1) (by omega) (by omega) xs.length 0 (by omega))
      simp only [spec_PolyMul.f, spec_PolyMul.j0]
      rw [if_neg (by omega), if_neg (by omega), if_neg (by omega), if_neg (by simp; omega), wrap_in (i := (xs.length : Int) + (ys.length : Int)) (by omega) (by omega), wrap_in (by omega) (by omega), if_pos (by omega), show (xs.length : Int) + (ys.length : Int) - 1 = ((xs.length + ys.length - 1 : Nat) : Int) by omega, Int.toNat_natCast, if_pos (by omega), replicate_tab]
      rfl
theorem pmul_length (xs ys : List Int) : (pmul xs ys).length ≤ 128 := by
  unfold pmul
  split
  · simp
  · have := trim_length (tab (xs.length + ys.length) (conv xs ys xs.length))
    rw [tab_length] at this
    omega
theorem padd_length (xs ys : List Int) : (padd xs ys).length ≤ max xs.length ys.length := by
  have := trim_length (tab (max xs.length ys.length) (fun i => (at_ xs i + at_ ys i) % 1009))
  rwa [tab_length] at this
end Go.Proofs.Ytcnejiflpioaiaa.Poly
end

section
/- What is proved here: what PolyZero, ScInv, the scaling of a list and PolyThrough answer, of the program and of the reference alike. No conditions but on lengths. -/
set_option linter.unusedVariables false
set_option linter.unusedSimpArgs false
namespace Go.Proofs.Ytcnejiflpioaiaa.Poly
open Go.RowKit Go.Proofs.Ytcnejiflpioaiaa.Pf Go.Proofs.YtcnejiflpioaiaaW.PrintWords Go.Proofs.Ytcnejiflpioaiaa.Ints

def pz : Nat → Int → List Int → List Int
  | 0, _, acc => acc
  | d + 1, i, acc => pz d (i + 1) (pmul acc [-i, 1])
def pzero (n : Int) : List Int := if 0 ≤ n ∧ n ≤ 16 then pz n.toNat 1 [1] else []
theorem pz_length : ∀ d i acc, acc.length ≤ 128 → (pz d i acc).length ≤ 128
  | 0, _, _, h => h
  | d + 1, i, acc, _ => pz_length d (i + 1) _ (pmul_length _ _)
theorem pzero_length (n : Int) : (pzero n).length ≤ 128 := by
  unfold pzero
  split
  · exact pz_length _ _ _ (by simp)
  · simp

theorem impl_PolyZero_l0 (n : Int) (hn : n ≤ 16) : ∀ (d : Nat) (i : Int) (acc : List Int), 1 ≤ i → i + (d : Int) = n + 1 → Ev (fun k => impl_PolyZero.l0 k n acc i) (pz d i acc)
  | 0, i, acc, h0, h => Ev.one fun k => by
    simp only [impl_PolyZero.l0]
    rw [if_neg (by omega)]
    rfl
  | d + 1, i, acc, h0, h => by
    obtain ⟨K1, h1⟩ := impl_PolyMul_ev acc [-i, 1]
    obtain ⟨K2, h2⟩ := impl_PolyZero_l0 n hn d (i + 1) (pmul acc [-i, 1]) (by omega) (by omega)
    refine ⟨K1 + K2 + 1, fun k hk => ?_⟩
    obtain ⟨k, rfl⟩ : ∃ m, k = m + 1 := ⟨k - 1, by omega⟩
    have e1 := h1 k (by omega)
    have e2 := h2 k (by omega)
    dsimp only at e1 e2
    simp only [impl_PolyZero.l0]
    rw [if_pos (by omega), wrap_in (i := -i) (by omega) (by omega), e1, Option.bind_some, wrap_in (by omega) (by omega)]
    exact e2

theorem spec_PolyZero_l0 (n : Int) (hn : n ≤ 16) : ∀ (d : Nat) (i : Int) (acc : List Int), 1 ≤ i → i + (d : Int) = n + 1 → Ev (fun k => spec_PolyZero.l0 k n acc i) (pz d i acc)
  | 0, i, acc, h0, h => Ev.one fun k => by
    simp only [spec_PolyZero.l0]
    rw [if_neg (by omega)]
    rfl
  | d + 1, i, acc, h0, h => by
    obtain ⟨K1, h1⟩ := spec_PolyMul_ev acc [-i, 1]
    obtain ⟨K2, h2⟩ := spec_PolyZero_l0 n hn d (i + 1) (pmul acc [-i, 1]) (by omega) (by omega)
    refine ⟨K1 + K2 + 1, fun k hk => ?_⟩
    obtain ⟨k, rfl⟩ : ∃ m, k = m + 1 := ⟨k - 1, by omega⟩
    have e1 := h1 k (by omega)
    have e2 := h2 k (by omega)
    dsimp only at e1 e2
    simp only [spec_PolyZero.l0]
    rw [if_pos (by omega), wrap_in (i := -i) (by omega) (by omega), e1, Option.bind_some, wrap_in (by omega) (by omega)]
    exact e2

theorem impl_PolyZero_ev (n : Int) : Ev (fun k => impl_PolyZero.f k n) (pzero n) := by
  by_cases h1 : n < 0
  · rw [pzero, if_neg (by omega)]
    exact Ev.one fun k => by simp only [impl_PolyZero.f, impl_PolyZero.j0]; rw [if_pos h1, if_pos trivial]
  · by_cases h2 : n > 16
    · rw [pzero, if_neg (by omega)]
      exact Ev.one fun k => by simp only [impl_PolyZero.f, impl_PolyZero.j0]; rw [if_neg h1, if_pos (decide_eq_true h2)]
    · rw [pzero, if_pos (by omega)]
      refine Ev.step (fun k => ?_) (impl_PolyZero_l0 n (by omega) n.toNat 1 [1] (by omega) (by omega))
      simp only [impl_PolyZero.f, impl_PolyZero.j0]
      rw [if_neg h1, if_neg (by simpa using h2)]
theorem spec_PolyZero_ev (n : Int) : Ev (fun k => spec_PolyZero.f k n) (pzero n) := by
  by_cases h1 : n < 0
  · rw [pzero, if_neg (by omega)]
    exact Ev.one fun k => by simp [spec_PolyZero.f, spec_l01In.f, show ¬ (0 ≤ n) by omega]
  · by_cases h2 : n > 16
    · rw [pzero, if_neg (by omega)]
      exact Ev.one fun k => by simp [spec_PolyZero.f, spec_l01In.f, show 0 ≤ n by omega, show ¬ (n ≤ 16) by omega]
    · rw [pzero, if_pos (by omega)]
      refine Ev.congr (fun k => ?_) (spec_PolyZero_l0 n (by omega) n.toNat 1 [1] (by omega) (by omega))
      simp [spec_PolyZero.f, spec_l01In.f, show 0 ≤ n by omega, show n ≤ 16 by omega]

/-! ### what makes 1 -/
theorem inv_ends : ∀ (k : Nat) (n : Int), 0 ≤ n → n < 2 ^ k → n ≤ 1007 → ∀ o b, ∃ r, spec_ScInv.l0 (k + 1) o b n = some r
  | 0, n, h0, h1, h2, o, b => by
    refine ⟨o, ?_⟩
    simp only [spec_ScInv.l0]
    rw [if_neg (by simp at h1; omega)]
  | k + 1, n, h0, h1, h2, o, b => by
    rw [spec_ScInv.l0]
    by_cases hn : n > 0
    · have hd : Int.tdiv n 2 = n / 2 := Int.tdiv_eq_ediv_of_nonneg h0
      have hp : (2 : Int) ^ (k + 1) = 2 * 2 ^ k := by rw [Int.pow_succ, Int.mul_comm]
      rw [if_pos hn, hd, wrap_in (by omega) (by omega), spec_ScMul_eq, spec_ScMul_eq]
      simp only [Option.bind_some]
      by_cases hm : Int.tmod n 2 = 1
      · rw [if_pos hm]
        exact inv_ends k (n / 2) (by omega) (by omega) (by omega) _ _
      · rw [if_neg hm]
        exact inv_ends k (n / 2) (by omega) (by omega) (by omega) _ _
    · exact ⟨o, by rw [if_neg hn]⟩
theorem inv_at (K k : Nat) (h : K = k + 1) (n : Int) (h0 : 0 ≤ n) (h1 : n < 2 ^ k) (h2 : n ≤ 1007) (o b : Int) : ∃ r, spec_ScInv.l0 K o b n = some r := by
  rw [h]
  exact inv_ends k n h0 h1 h2 o b
theorem inv_from (a : Int) : ∃ r, spec_ScInv.l0 11 1 (a % 1009) 1007 = some r := by
  obtain ⟨r, hr⟩ := inv_at 11 10 rfl 1007 (by decide) (by decide) (by decide) 1 (a % 1009)
  exact ⟨r, hr⟩
theorem inv_is (a : Int) (r : Int) (hr : spec_ScInv.l0 11 1 (a % 1009) 1007 = some r) : spec_ScInv.f 11 a = some r := by
  rw [spec_ScInv.f, spec_ScOf_eq, Option.bind_some]; exact hr
theorem inv_some (a : Int) : ∃ r, spec_ScInv.f 11 a = some r := by
  obtain ⟨r, hr⟩ := inv_from a
  exact ⟨r, inv_is a r hr⟩
def sinv (a : Int) : Int := (spec_ScInv.f 11 a).getD 0
theorem spec_ScInv_ev (a : Int) : Ev (fun k => spec_ScInv.f k a) (sinv a) := by
  obtain ⟨r, hr⟩ := inv_some a
  have e : sinv a = r := by unfold sinv; rw [hr]; rfl
  rw [e]
  exact Ev.of (fun k => spec_ScInv.mono a k) hr
theorem tmod_nat (a : Int) (h0 : 0 ≤ a) (h1 : a ≤ 9223372036854775807) : Int.tmod (wrap64 a) 1009 = a % 1009 := by
  rw [wrap_in (by omega) h1]
  exact Int.tmod_eq_emod_of_nonneg h0
theorem inv_loop (k : Nat) : ∀ o a n, 0 ≤ a → a ≤ 1008 → 0 ≤ o → o ≤ 1008 → impl_powerMod.l0 k a n 1009 o = spec_ScInv.l0 k o a n := by
  induction k with
  | zero => intros; rfl
  | succ k ih =>
    intro o a n h0 h1 h2 h3
    have b1 : 0 ≤ a * a ∧ a * a ≤ 1016064 := ⟨Int.mul_nonneg h0 h0, by have := Int.mul_le_mul h1 h1 h0 (by decide); omega⟩
    have b2 : 0 ≤ o * a ∧ o * a ≤ 1016064 := ⟨Int.mul_nonneg h2 h0, by have := Int.mul_le_mul h3 h1 h0 (by decide); omega⟩
    simp only [impl_powerMod.l0, spec_ScInv.l0, spec_ScMul_eq, Option.bind_some]
    have z : ¬ ((1009 : Int) = 0) := by decide
    by_cases hn : n > 0
    · rw [if_pos hn, if_pos hn]
      by_cases hm : Int.tmod n 2 = 1
      · rw [if_pos hm, if_pos hm, if_neg z, tmod_nat _ b1.1 (by omega), tmod_nat _ b2.1 (by omega), ih _ _ _ (by omega) (by omega) (by omega) (by omega)]
      · rw [if_neg hm, if_neg hm, if_neg z, tmod_nat _ b1.1 (by omega), ih _ _ _ (by omega) (by omega) h2 h3]
    · rw [if_neg hn, if_neg hn]
theorem impl_ScInv_ev (a : Int) : Ev (fun k => impl_ScInv.f k a) (sinv a) := by
  refine Ev.congr (fun k => ?_) (spec_ScInv_ev a)
  have e := impl_ScOf_eq a
  unfold impl_ScOf.f at e
  have e2 : impl_remainder.f a 1009 = some (a % 1009) := by
    cases h : impl_remainder.f a 1009 with
    | none => rw [h] at e; cases e
    | some v => rw [h] at e; exact e
  simp only [impl_ScInv.f, impl_powerMod.f, spec_ScInv.f, spec_ScOf_eq, e2, Option.bind_some]
  rw [inv_loop k 1 (a % 1009) 1007 (by omega) (by omega) (by omega) (by omega)]
  cases spec_ScInv.l0 k 1 (a % 1009) 1007 <;> rfl

/-! ### a list times a number -/
def scale (xs : List Int) (c : Int) : List Int := xs.map (fun a => (a * c) % 1009)
theorem scale_length (xs : List Int) (c : Int) : (scale xs c).length = xs.length := by simp [scale]
theorem scale_tab (xs : List Int) (c : Int) : scale xs c = tab xs.length (fun i => (at_ xs i * c) % 1009) :=
  eq_tab (scale_length xs c) (fun i hi => by rw [at_lt (by rw [scale_length]; exact hi), at_lt hi]; simp [scale])
theorem impl_scaled_l0 (xs : List Int) (c : Int) (hl : xs.length ≤ 17592186044416) (d : Nat) : ∀ i, i + d = xs.length →
    Ev (fun k => impl_scaled.l0 k c (tab xs.length (fun j => if j < i then (at_ xs j * c) % 1009 else 0)) xs (xs.length : Int) (i : Int)) (scale xs c) := by
  induction d with
  | zero =>
    intro i hi
    obtain rfl : i = xs.length := by omega
    refine Ev.one fun k => ?_
    simp only [impl_scaled.l0]
    rw [if_neg (by omega), scale_tab]
    congr 1
    exact tab_congr (fun j hj => by rw [if_pos hj])
  | succ d ih =>
    intro i hi
    have h1 : i < xs.length := by omega
    refine Ev.step (fun k => ?_) (ih (i + 1) (by omega))
    simp only [impl_scaled.l0]
    rw [if_pos (by omega), if_pos (by omega), if_pos (by omega), impl_ScMul_eq, Option.bind_some, if_pos (by rw [tab_length]; omega), Int.toNat_natCast, wrap_in (by omega) (by omega), rd_at, tab_set _ _ _ _ h1]
    congr 1
    refine tab_congr (fun j hj => ?_)
    by_cases e : j = i
    · subst e; rw [if_pos rfl, if_pos (by omega)]
    · rw [if_neg e]
      by_cases e2 : j < i
      · rw [if_pos e2, if_pos (by omega)]
      · rw [if_neg e2, if_neg (by omega)]
theorem impl_scaled_ev (xs : List Int) (c : Int) (hl : xs.length ≤ 17592186044416) : Ev (fun k => impl_scaled.f k xs c) (scale xs c) := by
  refine Ev.congr (fun k => ?_) (impl_scaled_l0 xs c hl xs.length 0 (by omega))
  simp only [impl_scaled.f]
  rw [if_pos (by omega), Int.toNat_natCast, if_pos (by omega), replicate_tab]
  simp
theorem spec_l14Scale_l0 (xs : List Int) (c : Int) (hl : xs.length ≤ 17592186044416) (d : Nat) : ∀ i, i + d = xs.length → Ev (fun k => spec_l14Scale.l0 k xs c (scale (xs.take i) c) (i : Int)) (scale xs c) := by
  induction d with
  | zero =>
    intro i hi
    refine Ev.one fun k => ?_
    simp only [spec_l14Scale.l0]
    rw [if_neg (by omega), List.take_of_length_le (by omega)]
  | succ d ih =>
    intro i hi
    have h1 : i < xs.length := by omega
    refine Ev.step (fun k => ?_) (ih (i + 1) (by omega))
    simp only [spec_l14Scale.l0]
    rw [if_pos (by omega), if_pos (by omega), spec_ScMul_eq, Option.bind_some, if_pos (by rw [scale_length, List.length_take]; omega), wrap_in (by omega) (by omega), rd_nat xs i h1, List.take_succ_eq_append_getElem h1]
    rw [scale, scale, List.map_append]
    rfl
theorem spec_l14Scale_ev (xs : List Int) (c : Int) (hl : xs.length ≤ 17592186044416) : Ev (fun k => spec_l14Scale.f k xs c) (scale xs c) := spec_l14Scale_l0 xs c hl xs.length 0 (by omega)

/-! ### through all -/
def tb (i : Int) : Nat → Int → List Int → Int → List Int × Int
  | 0, _, t, b => (t, b)
  | d + 1, j, t, b => if j = i then tb i d (j + 1) t b else tb i d (j + 1) (pmul t [-(j + 1), 1]) ((b * (i - j)) % 1009)
def thr (xs : List Int) : Nat → Nat → List Int → List Int
  | 0, _, out => out
  | d + 1, i, out => thr xs d (i + 1) (padd out (scale (tb (i : Int) xs.length 0 [1] 1).1 ((at_ xs i * sinv (tb (i : Int) xs.length 0 [1] 1).2) % 1009)))
def pthrough (xs : List Int) : List Int := if xs.length > 16 then [] else thr xs xs.length 0 []
theorem tb_length (i : Int) : ∀ d j t b, t.length ≤ 128 → (tb i d j t b).1.length ≤ 128
  | 0, _, _, _, h => h
  | d + 1, j, t, b, h => by
    rw [tb]
    split
    · exact tb_length i d (j + 1) t b h
    · exact tb_length i d (j + 1) _ _ (pmul_length _ _)
theorem thr_length (xs : List Int) : ∀ d i out, out.length ≤ 128 → (thr xs d i out).length ≤ 128
  | 0, _, _, h => h
  | d + 1, i, out, h => by
    rw [thr]
    refine thr_length xs d (i + 1) _ ?_
    have h1 := tb_length (i : Int) xs.length 0 [1] 1 (by simp)
    have h2 := padd_length out (scale (tb (i : Int) xs.length 0 [1] 1).1 ((at_ xs i * sinv (tb (i : Int) xs.length 0 [1] 1).2) % 1009))
    rw [scale_length] at h2
    omega
theorem pthrough_length (xs : List Int) : (pthrough xs).length ≤ 128 := by
  unfold pthrough
  split
  · simp
  · exact thr_length xs _ _ _ (by simp)

theorem impl_PolyThrough_l1 (xs out : List Int) (hl : xs.length ≤ 16) (ho : out.length ≤ 128) (i : Nat) (hi : i < xs.length) (t1 : List Int) (b1 : Int) (ht1 : t1.length ≤ 128) (r : List Int)
    (next : Ev (fun k => impl_PolyThrough.l0 k xs (padd out (scale t1 ((at_ xs i * sinv b1) % 1009))) xs (xs.length : Int) ((i + 1 : Nat) : Int)) r) : ∀ (d : Nat) (j : Int) (t : List Int) (b : Int), 0 ≤ j → j + (d : Int) = (xs.length : Int) → tb (i : Int) d j t b = (t1, b1) → Ev (fun k => impl_PolyThrough.l1 k xs out (i : Int) (at_ xs i) t b xs (xs.length : Int) (i : Int) (xs.length : Int) j) r
  | 0, j, t, b, h0, hj, ht => by
    obtain ⟨rfl, rfl⟩ : t = t1 ∧ b = b1 := by simpa [tb] using ht
    obtain ⟨K1, h1⟩ := impl_ScInv_ev b
    obtain ⟨K2, h2⟩ := impl_scaled_ev t ((at_ xs i * sinv b) % 1009) (by omega)
    obtain ⟨K3, h3⟩ := impl_PolyAdd_ev out (scale t ((at_ xs i * sinv b) % 1009)) (by omega) (by rw [scale_length]; omega)
    obtain ⟨K4, h4⟩ := next
    refine ⟨K1 + K2 + K3 + K4 + 1, fun k hk => ?_⟩
    obtain ⟨k, rfl⟩ : ∃ m, k = m + 1 := ⟨k - 1, by omega⟩
    have e1 := h1 k (by omega)
    have e2 := h2 k (by omega)
    have e3 := h3 k (by omega)
    have e4 := h4 k (by omega)
    dsimp only at e1 e2 e3 e4
    simp only [impl_PolyThrough.l1]
    rw [if_neg (by omega), e1, Option.bind_some, impl_ScMul_eq, Option.bind_some, e2, Option.bind_some, e3, Option.bind_some, wrap_in (by omega) (by omega)]
    exact e4
  | d + 1, j, t, b, h0, hj, ht => by
    rw [tb] at ht
    by_cases e : j = (i : Int)
    · rw [if_pos e] at ht
      refine Ev.step (fun k => ?_) (impl_PolyThrough_l1 xs out hl ho i hi t1 b1 ht1 r next d (j + 1) t b (by omega) (by omega) ht)
      simp only [impl_PolyThrough.l1]
      rw [if_pos (by omega), if_pos e, wrap_in (by omega) (by omega)]
    · rw [if_neg e] at ht
      obtain ⟨K1, h1⟩ := impl_PolyMul_ev t [-(j + 1), 1]
      obtain ⟨K2, h2⟩ := impl_PolyThrough_l1 xs out hl ho i hi t1 b1 ht1 r next d (j + 1) _ _ (by omega) (by omega) ht
      refine ⟨K1 + K2 + 1, fun k hk => ?_⟩
      obtain ⟨k, rfl⟩ : ∃ m, k = m + 1 := ⟨k - 1, by omega⟩
      have e1 := h1 k (by omega)
      have e2 := h2 k (by omega)
      dsimp only at e1 e2
      simp only [impl_PolyThrough.l1]
      rw [if_pos (by omega), if_neg e, wrap_in (i := j + 1) (by omega) (by omega), wrap_in (i := -(j + 1)) (by omega) (by omega), e1, Option.bind_some, wrap_in (by omega) (by omega), impl_ScMul_eq, Option.bind_some]
      exact e2
theorem impl_PolyThrough_l0 (xs : List Int) (hl : xs.length ≤ 16) : ∀ (d i : Nat) (out : List Int), out.length ≤ 128 → i + d = xs.length → Ev (fun k => impl_PolyThrough.l0 k xs out xs (xs.length : Int) (i : Int)) (thr xs d i out)
  | 0, i, out, ho, hi => Ev.one fun k => by
    simp only [impl_PolyThrough.l0]
    rw [if_neg (by omega)]
    rfl
  | d + 1, i, out, ho, hi => by
    have h1 := tb_length (i : Int) xs.length 0 [1] 1 (by simp)
    have h2 := padd_length out (scale (tb (i : Int) xs.length 0 [1] 1).1 ((at_ xs i * sinv (tb (i : Int) xs.length 0 [1] 1).2) % 1009))
    rw [scale_length] at h2
    rw [thr]
    refine Ev.step (fun k => ?_) (impl_PolyThrough_l1 xs out hl ho i (by omega) _ _ h1 _ (impl_PolyThrough_l0 xs hl d (i + 1) _ (by omega) (by omega)) xs.length 0 [1] 1 (by omega) (by omega) rfl)
    simp only [impl_PolyThrough.l0]
    rw [if_pos (by omega), if_pos (by omega), if_pos (by omega), rd_at]
theorem impl_PolyThrough_ev (xs : List Int) : Ev (fun k => impl_PolyThrough.f k xs) (pthrough xs) := by
  unfold pthrough
  by_cases h : xs.length > 16
  · rw [if_pos h]
    exact Ev.one fun k => by simp only [impl_PolyThrough.f]; rw [if_pos (by omega)]
  · rw [if_neg h]
    refine Ev.congr (fun k => ?_) (impl_PolyThrough_l0 xs (by omega) xs.length 0 [] (by simp) (by omega))
    simp only [impl_PolyThrough.f]
    rw [if_neg (by omega)]
    rfl

theorem spec_PolyThrough_l1 (xs out : List Int) (hl : xs.length ≤ 16) (ho : out.length ≤ 128) (i : Nat) (hi : i < xs.length) (t1 : List Int) (b1 : Int) (ht1 : t1.length ≤ 128) (r : List Int)
    (next : Ev (fun k => spec_PolyThrough.l0 k xs (padd out (scale t1 ((at_ xs i * sinv b1) % 1009))) ((i + 1 : Nat) : Int)) r) : ∀ (d : Nat) (j : Int) (t : List Int) (b : Int), 0 ≤ j → j + (d : Int) = (xs.length : Int) → tb (i : Int) d j t b = (t1, b1) → Ev (fun k => spec_PolyThrough.l1 k xs out (i : Int) t b j) r
  | 0, j, t, b, h0, hj, ht => by
    obtain ⟨rfl, rfl⟩ : t = t1 ∧ b = b1 := by simpa [tb] using ht
    obtain ⟨K1, h1⟩ := spec_ScInv_ev b
    obtain ⟨K2, h2⟩ := spec_l14Scale_ev t ((at_ xs i * sinv b) % 1009) (by omega)
    obtain ⟨K3, h3⟩ := spec_PolyAdd_ev out (scale t ((at_ xs i * sinv b) % 1009)) (by omega) (by rw [scale_length]; omega)
    obtain ⟨K4, h4⟩ := next
    refine ⟨K1 + K2 + K3 + K4 + 1, fun k hk => ?_⟩
    obtain ⟨k, rfl⟩ : ∃ m, k = m + 1 := ⟨k - 1, by omega⟩
    have e1 := h1 k (by omega)
    have e2 := h2 k (by omega)
    have e3 := h3 k (by omega)
    have e4 := h4 k (by omega)
    dsimp only at e1 e2 e3 e4
    simp only [spec_PolyThrough.l1]
    rw [if_neg (by omega), if_pos (by omega), if_pos (by omega), e1, Option.bind_some, spec_ScMul_eq, Option.bind_some, rd_at, e2, Option.bind_some, e3, Option.bind_some, wrap_in (by omega) (by omega)]
    exact e4
  | d + 1, j, t, b, h0, hj, ht => by
    rw [tb] at ht
    by_cases e : j = (i : Int)
    · rw [if_pos e] at ht
      refine Ev.step (fun k => ?_) (spec_PolyThrough_l1 xs out hl ho i hi t1 b1 ht1 r next d (j + 1) t b (by omega) (by omega) ht)
      simp only [spec_PolyThrough.l1]
      rw [if_pos (by omega), if_pos e, wrap_in (by omega) (by omega)]
    · rw [if_neg e] at ht
      obtain ⟨K1, h1⟩ := spec_PolyMul_ev t [-(j + 1), 1]
      obtain ⟨K2, h2⟩ := spec_PolyThrough_l1 xs out hl ho i hi t1 b1 ht1 r next d (j + 1) _ _ (by omega) (by omega) ht
      refine ⟨K1 + K2 + 1, fun k hk => ?_⟩
      obtain ⟨k, rfl⟩ : ∃ m, k = m + 1 := ⟨k - 1, by omega⟩
      have e1 := h1 k (by omega)
      have e2 := h2 k (by omega)
      dsimp only at e1 e2
      simp only [spec_PolyThrough.l1]
      rw [if_pos (by omega), if_neg e, wrap_in (i := j + 1) (by omega) (by omega), wrap_in (i := -(j + 1)) (by omega) (by omega), e1, Option.bind_some, wrap_in (by omega) (by omega), spec_ScMul_eq, Option.bind_some]
      exact e2
theorem spec_PolyThrough_l0 (xs : List Int) (hl : xs.length ≤ 16) : ∀ (d i : Nat) (out : List Int), out.length ≤ 128 → i + d = xs.length → Ev (fun k => spec_PolyThrough.l0 k xs out (i : Int)) (thr xs d i out)
  | 0, i, out, ho, hi => Ev.one fun k => by
    simp only [spec_PolyThrough.l0]
    rw [if_neg (by omega)]
    rfl
  | d + 1, i, out, ho, hi => by
    have h1 := tb_length (i : Int) xs.length 0 [1] 1 (by simp)
    have h2 := padd_length out (scale (tb (i : Int) xs.length 0 [1] 1).1 ((at_ xs i * sinv (tb (i : Int) xs.length 0 [1] 1).2) % 1009))
    rw [scale_length] at h2
    rw [thr]
    refine Ev.step (fun k => ?_) (spec_PolyThrough_l1 xs out hl ho i (by omega) _ _ h1 _ (spec_PolyThrough_l0 xs hl d (i + 1) _ (by omega) (by omega)) xs.length 0 [1] 1 (by omega) (by omega) rfl)
    simp only [spec_PolyThrough.l0]
    rw [if_pos (by omega)]
theorem spec_PolyThrough_ev (xs : List Int) : Ev (fun k => spec_PolyThrough.f k xs) (pthrough xs) := by
  unfold pthrough
  by_cases h : xs.length > 16
  · rw [if_pos h]
    exact Ev.one fun k => by simp only [spec_PolyThrough.f]; rw [if_pos (by omega)]
  · rw [if_neg h]
    refine Ev.congr (fun k => ?_) (spec_PolyThrough_l0 xs (by omega) xs.length 0 [] (by simp) (by omega))
    simp only [spec_PolyThrough.f]
    rw [if_neg (by omega)]
    rfl
end Go.Proofs.Ytcnejiflpioaiaa.Poly
end

section
/- What is proved here: what PolyDivide answers, of the program and of the reference alike. No conditions but on lengths. -/
set_option linter.unusedVariables false
set_option linter.unusedSimpArgs false
namespace Go.Proofs.Ytcnejiflpioaiaa.Poly
open Go.RowKit Go.Proofs.Ytcnejiflpioaiaa.Pf Go.Proofs.YtcnejiflpioaiaaW.PrintWords Go.Proofs.Ytcnejiflpioaiaa.Ints

theorem cut_zeros (xs : List Int) : ∀ n, cut (xs ++ List.replicate n 0) = cut xs
  | 0 => by simp
  | n + 1 => by rw [List.replicate_succ', ← List.append_assoc, cut_zero, cut_zeros xs n]
theorem at_append_zeros (xs : List Int) (n i : Nat) : at_ (xs ++ List.replicate n 0) i = at_ xs i := by
  by_cases h : i < xs.length
  · rw [at_lt (by simp; omega), at_lt h, List.getElem_append_left h]
  · rw [at_ge (xs := xs) (by omega)]
    by_cases h2 : i < (xs ++ List.replicate n 0).length
    · rw [at_lt h2, List.getElem_append_right (by omega)]
      simp
    · rw [at_ge (by omega)]
theorem cut_same_le {xs ys : List Int} (hl : xs.length ≤ ys.length) (h : ∀ i, at_ xs i = at_ ys i) : cut xs = cut ys := by
  have e : ys = xs ++ List.replicate (ys.length - xs.length) 0 := ext_at (by simp; omega) (fun i _ => by rw [at_append_zeros, h])
  rw [e, cut_zeros]
theorem cut_same {xs ys : List Int} (h : ∀ i, at_ xs i = at_ ys i) : cut xs = cut ys := by
  rcases Nat.le_total xs.length ys.length with hl | hl
  · exact cut_same_le hl h
  · exact (cut_same_le hl (fun i => (h i).symm)).symm
theorem take_at (xs : List Int) (q i : Nat) : at_ (xs.take q) i = if i < q then at_ xs i else 0 := by
  by_cases h : i < q
  · rw [if_pos h]
    by_cases h2 : i < xs.length
    · rw [at_lt (by simp; omega), at_lt h2]; simp
    · rw [at_ge (by simp; omega), at_ge (by omega)]
  · rw [if_neg h, at_ge (by simp; omega)]
theorem cut_take (xs : List Int) (q : Nat) (hz : ∀ i, q ≤ i → at_ xs i = 0) : cut xs = cut (xs.take q) :=
  cut_same (fun i => by
    rw [take_at]
    by_cases h : i < q
    · rw [if_pos h]
    · rw [if_neg h, hz i (by omega)])
theorem cut_full (xs : List Int) (h : xs = [] ∨ at_ xs (xs.length - 1) ≠ 0) : cut xs = xs := by
  rcases h with rfl | h
  · rfl
  · rcases List.eq_nil_or_concat xs with rfl | ⟨ys, c, rfl⟩
    · rfl
    · rw [List.concat_eq_append] at h ⊢
      refine cut_other ys c (fun e => h ?_)
      rw [at_lt (by simp)]
      simpa using e
theorem cut_top (xs : List Int) (q : Nat) (hz : ∀ i, q + 1 ≤ i → at_ xs i = 0) (h : at_ xs q ≠ 0) : cut xs = xs.take (q + 1) := by
  have hq : q < xs.length := by
    rcases Nat.lt_or_ge q xs.length with h1 | h1
    · exact h1
    · exact absurd (at_ge h1) h
  rw [cut_take xs (q + 1) hz]
  refine cut_full _ (.inr ?_)
  rw [take_at, List.length_take, Nat.min_eq_left (by omega), if_pos (by omega), Nat.add_sub_cancel]
  exact h
/-- every number is one of 0 .. 1008 -/
def Red (xs : List Int) : Prop := ∀ i, 0 ≤ at_ xs i ∧ at_ xs i ≤ 1008
theorem red_trim {xs : List Int} (h : Red xs) : trim xs = cut xs := by
  unfold trim
  exact cut_same (fun i => by rw [at_emod]; have := h i; omega)
/-- the cut list has the same numbers -/
theorem at_cut (xs : List Int) : ∀ i, at_ (cut xs) i = at_ xs i := by
  intro i
  induction h : xs.length generalizing xs with
  | zero =>
    obtain rfl := List.eq_nil_of_length_eq_zero h
    rfl
  | succ n ih =>
    rcases List.eq_nil_or_concat xs with rfl | ⟨ys, c, rfl⟩
    · rfl
    · rw [List.concat_eq_append] at h ⊢
      by_cases hc : c = 0
      · subst hc
        rw [cut_zero, ih ys (by simpa using h)]
        have := at_append_zeros ys 1 i
        simpa using this.symm
      · rw [cut_other ys c hc]
theorem at_trim (xs : List Int) (i : Nat) : at_ (trim xs) i = at_ xs i % 1009 := by unfold trim; rw [at_cut, at_emod]
theorem trim_red (xs : List Int) : Red (trim xs) := fun i => by rw [at_trim]; omega
theorem cut_last (xs : List Int) : cut xs = [] ∨ at_ (cut xs) ((cut xs).length - 1) ≠ 0 := by
  induction h : xs.length generalizing xs with
  | zero =>
    obtain rfl := List.eq_nil_of_length_eq_zero h
    exact .inl rfl
  | succ n ih =>
    rcases List.eq_nil_or_concat xs with rfl | ⟨ys, c, rfl⟩
    · exact .inl rfl
    · rw [List.concat_eq_append] at h ⊢
      by_cases hc : c = 0
      · subst hc
        rw [cut_zero]
        exact ih ys (by simpa using h)
      · rw [cut_other ys c hc]
        refine .inr ?_
        rw [at_lt (by simp)]
        simpa using hc
theorem cut_cut (xs : List Int) : cut (cut xs) = cut xs := cut_full _ (cut_last xs)

/-- ys, c times, taken away from place s on, for the first j numbers -/
def take_away (xs ys : List Int) (s : Nat) (c : Int) (j : Nat) : List Int := tab xs.length (fun n => if s ≤ n ∧ n - s < j then (at_ xs n - at_ ys (n - s) * c) % 1009 else at_ xs n)
theorem away_length (xs ys : List Int) (s : Nat) (c : Int) (j : Nat) : (take_away xs ys s c j).length = xs.length := tab_length _ _
theorem away_none (xs ys : List Int) (s : Nat) (c : Int) : take_away xs ys s c 0 = xs := by
  refine (eq_tab rfl (fun i hi => ?_)).symm
  rw [if_neg (by omega)]
theorem away_at (xs ys : List Int) (s : Nat) (c : Int) (j i : Nat) (h : i < xs.length) : at_ (take_away xs ys s c j) i = if s ≤ i ∧ i - s < j then (at_ xs i - at_ ys (i - s) * c) % 1009 else at_ xs i := tab_at _ _ _ h
theorem away_step (xs ys : List Int) (s : Nat) (c : Int) (j : Nat) (h : s + j < xs.length) (v : Int) (hv : v = (at_ xs (s + j) - at_ ys j * c) % 1009) :
    (take_away xs ys s c j).set (s + j) v = take_away xs ys s c (j + 1) := by
  unfold take_away
  rw [tab_set _ _ _ _ h]
  refine tab_congr (fun n hn => ?_)
  by_cases e : n = s + j
  · subst e
    rw [if_pos rfl, if_pos (by omega), hv, show s + j - s = j by omega]
  · rw [if_neg e]
    by_cases h1 : s ≤ n ∧ n - s < j
    · rw [if_pos h1, if_pos (by omega)]
    · rw [if_neg h1, if_neg (by omega)]
def away (xs ys : List Int) (s : Nat) (c : Int) : List Int := take_away xs ys s c ys.length
/-- the steps of a division, from the highest place down: what is left, how often -/
def elim (ys : List Int) (top : Int) : Nat → List Int → List Int → List Int × List Int
  | 0, xs, out => (xs, out)
  | n + 1, xs, out => elim ys top n (away xs ys n ((at_ xs (n + ys.length - 1) * top) % 1009)) (out.set n ((at_ xs (n + ys.length - 1) * top) % 1009))
theorem elim_length (ys : List Int) (top : Int) : ∀ n xs out, (elim ys top n xs out).1.length = xs.length ∧ (elim ys top n xs out).2.length = out.length
  | 0, _, _ => ⟨rfl, rfl⟩
  | n + 1, xs, out => by
    have h := elim_length ys top n (away xs ys n ((at_ xs (n + ys.length - 1) * top) % 1009)) (out.set n ((at_ xs (n + ys.length - 1) * top) % 1009))
    exact ⟨h.1.trans (away_length _ _ _ _ _), h.2.trans (by simp)⟩
theorem impl_ScNeg_eq (a : Int) : impl_ScNeg.f a = some ((-a) % 1009) := by
  simp only [impl_ScNeg.f, impl_ScOf_eq, Option.bind_some]
  rw [wrap_in (by omega) (by omega)]
  simp only [Option.some.injEq]
  omega
theorem spec_ScNeg_eq (a : Int) : spec_ScNeg.f a = some ((-a) % 1009) := by
  simp only [spec_ScNeg.f, spec_ScOf_eq, Option.bind_some]
  rw [wrap_in (by omega) (by omega)]
  simp only [Option.some.injEq]
  omega

theorem spec_Divide_l1 (xs ys out : List Int) (top : Int) (hx : xs.length ≤ 64) (n : Nat) (c : Int) (hn : n + ys.length ≤ xs.length) (r : List Int × List Int)
    (next : Ev (fun k => spec_PolyDivide.l0 k (away xs ys n c) ys out top ((n : Int) - 1)) r) (d : Nat) : ∀ j, j + d = ys.length →
    Ev (fun k => spec_PolyDivide.l1 k (take_away xs ys n c j) ys out top (n : Int) c (j : Int)) r := by
  induction d with
  | zero =>
    intro j hj
    obtain rfl : j = ys.length := by omega
    refine Ev.step (fun k => ?_) next
    simp only [spec_PolyDivide.l1]
    rw [if_neg (by omega), wrap_in (by omega) (by omega)]
    rfl
  | succ d ih =>
    intro j hj
    refine Ev.step (fun k => ?_) (ih (j + 1) (by omega))
    simp only [spec_PolyDivide.l1]
    rw [if_pos (by omega), wrap_in (i := (n : Int) + (j : Int)) (by omega) (by omega), if_pos (by omega), if_pos (by rw [away_length]; omega), if_pos (by omega), spec_ScMul_eq, Option.bind_some, spec_ScNeg_eq, Option.bind_some, spec_ScAdd_eq, Option.bind_some, wrap_in (by omega) (by omega),
      show (n : Int) + (j : Int) = ((n + j : Nat) : Int) by omega, Int.toNat_natCast, rd_at, rd_at, away_at _ _ _ _ _ _ (by omega), if_neg (by omega), away_step xs ys n c j (by omega) _ (by rw [Int.mul_comm c]; omega)]
    rfl
theorem spec_Divide_l0 (ys : List Int) (top : Int) (hy : 0 < ys.length) : ∀ (n : Nat) (xs out : List Int), xs.length ≤ 64 → out.length ≤ 64 → n ≤ out.length → (n = 0 ∨ n - 1 + ys.length ≤ xs.length) →
    Ev (fun k => spec_PolyDivide.l0 k xs ys out top ((n : Int) - 1)) (trim (elim ys top n xs out).2, trim (elim ys top n xs out).1)
  | 0, xs, out, hx, ho, hn, hm => by
    obtain ⟨K1, h1⟩ := spec_PolyTrim_ev out (by omega)
    obtain ⟨K2, h2⟩ := spec_PolyTrim_ev xs (by omega)
    refine ⟨K1 + K2 + 1, fun k hk => ?_⟩
    obtain ⟨k, rfl⟩ : ∃ m, k = m + 1 := ⟨k - 1, by omega⟩
    have e1 := h1 k (by omega)
    have e2 := h2 k (by omega)
    dsimp only at e1 e2
    simp only [spec_PolyDivide.l0]
    rw [if_neg (by omega), e1, Option.bind_some, e2]
    rfl
  | n + 1, xs, out, hx, ho, hn, hm => by
    have h := spec_Divide_l0 ys top hy n (away xs ys n ((at_ xs (n + ys.length - 1) * top) % 1009)) (out.set n ((at_ xs (n + ys.length - 1) * top) % 1009)) (by rw [away, away_length]; exact hx) (by simpa using ho) (by simp; omega) (by rw [away, away_length]; omega)
    have h2 := spec_Divide_l1 xs ys _ top hx n _ (by omega) _ h ys.length 0 (by omega)
    rw [away_none] at h2
    refine Ev.step (fun k => ?_) h2
    simp only [spec_PolyDivide.l0]
    rw [show ((n + 1 : Nat) : Int) - 1 = (n : Int) by omega, if_pos (by omega), wrap_in (i := (n : Int) + (ys.length : Int)) (by omega) (by omega), wrap_in (by omega) (by omega), if_pos (by omega), if_pos (by omega), spec_ScMul_eq, Option.bind_some, if_pos (by omega), if_pos (by omega),
      show (n : Int) + (ys.length : Int) - 1 = ((n + ys.length - 1 : Nat) : Int) by omega, rd_at, Int.toNat_natCast]
    rfl
end Go.Proofs.Ytcnejiflpioaiaa.Poly
end

section
/- What is proved here: what PolyDivide answers, of the program and of the reference alike (second part). No conditions but on lengths. -/
set_option linter.unusedVariables false
set_option linter.unusedSimpArgs false
namespace Go.Proofs.Ytcnejiflpioaiaa.Poly
open Go.RowKit Go.Proofs.Ytcnejiflpioaiaa.Pf Go.Proofs.YtcnejiflpioaiaaW.PrintWords Go.Proofs.Ytcnejiflpioaiaa.Ints

theorem sinv_all : ∀ b : Fin 1009, b.val ≠ 0 → ((b.val : Int) * sinv (b.val : Int)) % 1009 = 1 := by decide +kernel
theorem sinv_right (b : Int) (h0 : 0 < b) (h1 : b ≤ 1008) : (b * sinv b) % 1009 = 1 := by
  have h := sinv_all ⟨b.toNat, by omega⟩ (by simp; omega)
  rwa [show (((⟨b.toNat, by omega⟩ : Fin 1009)).val : Int) = b by simp; omega] at h
theorem cancel (P y top : Int) (h : (y * top) % 1009 = 1) : (P - y * ((P * top) % 1009)) % 1009 = 0 := by
  have h1 : (y * ((P * top) % 1009)) % 1009 = P % 1009 := by
    rw [Int.mul_emod, Int.emod_emod, ← Int.mul_emod, Int.mul_left_comm, Int.mul_emod, h]
    omega
  omega
theorem away_red {xs ys : List Int} (s : Nat) (c : Int) (h : Red xs) : Red (away xs ys s c) := by
  intro i
  by_cases hi : i < xs.length
  · rw [away, away_at _ _ _ _ _ _ hi]
    split
    · omega
    · exact h i
  · rw [at_ge (by rw [away, away_length]; omega)]
    omega
theorem elim_red (ys : List Int) (top : Int) : ∀ n xs out, Red xs → Red (elim ys top n xs out).1
  | 0, _, _, h => h
  | n + 1, xs, out, h => elim_red ys top n _ _ (away_red _ _ h)
theorem away_zero {xs : List Int} (ys : List Int) (s : Nat) (h : Red xs) : away xs ys s 0 = xs := by
  refine (eq_tab rfl (fun i hi => ?_)).symm
  have := h i
  split
  · simp only [Int.mul_zero, Int.sub_zero]; omega
  · rfl
theorem set_zero (out : List Int) (n : Nat) (h : at_ out n = 0) : out.set n 0 = out := by
  refine ext_at (by simp) (fun i hi => ?_)
  have hl : i < out.length := by simpa using hi
  by_cases hn : n < out.length
  · rw [at_set _ _ _ _ hn]
    split
    · rename_i e; rw [e, h]
    · rfl
  · rw [List.set_eq_of_length_le (by omega)]
theorem impl_Divide_l1 (xs ys out : List Int) (top : Int) (hx : xs.length ≤ 64) (n : Nat) (c : Int) (hn : n + ys.length ≤ xs.length) (r : List Int × List Int)
    (next : Ev (fun k => impl_PolyDivide.l0 k (trim (away xs ys n c)) ys top out) r) (d : Nat) : ∀ j, j + d = ys.length →
    Ev (fun k => impl_PolyDivide.l1 k (take_away xs ys n c j) ys top out (n : Int) c ys (ys.length : Int) (j : Int)) r := by
  induction d with
  | zero =>
    intro j hj
    obtain rfl : j = ys.length := by omega
    obtain ⟨K1, h1⟩ := impl_PolyTrim_ev (away xs ys n c) (by rw [away, away_length]; omega)
    obtain ⟨K2, h2⟩ := next
    refine ⟨K1 + K2 + 1, fun k hk => ?_⟩
    obtain ⟨k, rfl⟩ : ∃ m, k = m + 1 := ⟨k - 1, by omega⟩
    have e1 := h1 k (by omega)
    have e2 := h2 k (by omega)
    dsimp only at e1 e2
    simp only [impl_PolyDivide.l1]
    rw [if_neg (by omega)]
    rw [away] at e1
    rw [e1, Option.bind_some]
    exact e2
  | succ d ih =>
    intro j hj
    refine Ev.step (fun k => ?_) (ih (j + 1) (by omega))
    simp only [impl_PolyDivide.l1]
    rw [if_pos (by omega), if_pos (by omega), if_pos (by omega), wrap_in (i := (n : Int) + (j : Int)) (by omega) (by omega), if_pos (by omega), if_pos (by rw [away_length]; omega), impl_ScMul_eq, Option.bind_some, impl_ScNeg_eq, Option.bind_some, impl_ScAdd_eq, Option.bind_some, wrap_in (by omega) (by omega),
      show (n : Int) + (j : Int) = ((n + j : Nat) : Int) by omega, Int.toNat_natCast, rd_at, rd_at, away_at _ _ _ _ _ _ (by omega), if_neg (by omega), away_step xs ys n c j (by omega) _ (by omega)]
    rfl
theorem impl_Divide_l0 (ys : List Int) (top : Int) (hy : 0 < ys.length) (hy2 : ys.length ≤ 64) (ht : (at_ ys (ys.length - 1) * top) % 1009 = 1) : ∀ (n : Nat) (xs out : List Int), Red xs → xs.length ≤ 64 → out.length ≤ 64 → n ≤ out.length →
    (∀ i, n + ys.length - 1 ≤ i → at_ xs i = 0) → (∀ i, i < n → at_ out i = 0) →
    Ev (fun k => impl_PolyDivide.l0 k (cut xs) ys top out) (trim (elim ys top n xs out).2, cut (elim ys top n xs out).1)
  | 0, xs, out, hr, hx, ho, hn, hz, hoz => by
    obtain ⟨K1, h1⟩ := impl_PolyTrim_ev out (by omega)
    refine ⟨K1 + 1, fun k hk => ?_⟩
    obtain ⟨k, rfl⟩ : ∃ m, k = m + 1 := ⟨k - 1, by omega⟩
    have e1 := h1 k (by omega)
    dsimp only at e1
    have hc : (cut xs).length < ys.length := by
      rw [cut_take xs (ys.length - 1) (fun i hi => hz i (by omega))]
      have := cut_length (xs.take (ys.length - 1))
      rw [List.length_take] at this
      omega
    simp only [impl_PolyDivide.l0]
    rw [if_neg (by omega), e1, Option.bind_some]
    rfl
  | n + 1, xs, out, hr, hx, ho, hn, hz, hoz => by
    by_cases h0 : at_ xs (n + ys.length - 1) = 0
    · have e : elim ys top (n + 1) xs out = elim ys top n xs out := by
        rw [elim, h0, Int.zero_mul, show (0 : Int) % 1009 = 0 from rfl, away_zero ys n hr, set_zero out n (hoz n (by omega))]
      rw [e]
      refine impl_Divide_l0 ys top hy hy2 ht n xs out hr hx ho (by omega) (fun i hi => ?_) (fun i hi => hoz i (by omega))
      by_cases hi2 : i = n + ys.length - 1
      · rw [hi2, h0]
      · exact hz i (by omega)
    · have hlen : n + ys.length ≤ xs.length := by
        rcases Nat.lt_or_ge (n + ys.length - 1) xs.length with h1 | h1
        · omega
        · exact absurd (at_ge h1) h0
      have hcut : cut xs = xs.take (n + ys.length) := by
        have := cut_top xs (n + ys.length - 1) (fun i hi => hz i (by omega)) h0
        rwa [show n + ys.length - 1 + 1 = n + ys.length by omega] at this
      have hl : (xs.take (n + ys.length)).length = n + ys.length := by rw [List.length_take]; omega
      have hp : at_ (xs.take (n + ys.length)) (n + ys.length - 1) = at_ xs (n + ys.length - 1) := by rw [take_at, if_pos (by omega)]
      rw [elim]
      generalize hc : (at_ xs (n + ys.length - 1) * top) % 1009 = c
      have htr : trim (away (xs.take (n + ys.length)) ys n c) = cut (away xs ys n c) := by
        rw [red_trim (away_red n c (fun i => by rw [take_at]; split; exact hr i; omega))]
        refine cut_same (fun i => ?_)
        by_cases hi : i < n + ys.length
        · rw [away, away, away_at _ _ _ _ _ _ (by omega), away_at _ _ _ _ _ _ (by omega), take_at, if_pos hi]
        · rw [at_ge (by rw [away, away_length]; omega)]
          by_cases hi2 : i < xs.length
          · rw [away, away_at _ _ _ _ _ _ hi2, if_neg (by omega), hz i (by omega)]
          · rw [at_ge (by rw [away, away_length]; omega)]
      have next := impl_Divide_l0 ys top hy hy2 ht n (away xs ys n c) (out.set n c) (away_red _ _ hr) (by rw [away, away_length]; exact hx) (by simpa using ho) (by simp; omega)
        (fun i hi => by
          by_cases hi2 : i < xs.length
          · rw [away, away_at _ _ _ _ _ _ hi2]
            by_cases hi3 : i = n + ys.length - 1
            · subst hi3
              rw [if_pos (by omega), show n + ys.length - 1 - n = ys.length - 1 by omega, ← hc]
              exact cancel _ _ _ ht
            · rw [if_neg (by omega), hz i (by omega)]
          · exact at_ge (by rw [away, away_length]; omega))
        (fun i hi => by rw [at_set _ _ _ _ (by omega), if_neg (by omega), hoz i (by omega)])
      rw [← htr] at next
      have h2 := impl_Divide_l1 (xs.take (n + ys.length)) ys (out.set n c) top (by omega) n c (by omega) _ next ys.length 0 (by omega)
      rw [away_none] at h2
      refine Ev.step (fun k => ?_) h2
      simp only [impl_PolyDivide.l0]
      rw [hcut, hl, if_pos (by omega), wrap_in (i := ((n + ys.length : Nat) : Int) - 1) (by omega) (by omega), if_pos (by omega), if_pos (by omega), impl_ScMul_eq, Option.bind_some, wrap_in (by omega) (by omega), show ((n + ys.length : Nat) : Int) - (ys.length : Int) = (n : Int) by omega, if_pos (by omega), if_pos (by omega),
        show ((n + ys.length : Nat) : Int) - 1 = ((n + ys.length - 1 : Nat) : Int) by omega, rd_at, hp, hc, Int.toNat_natCast]
      rfl

def pdivide (xs ys : List Int) : List Int × List Int :=
  if xs.length > 64 ∨ ys.length > 64 then ([], []) else
  if (trim ys).length = 0 ∨ (trim xs).length < (trim ys).length then ([], trim xs) else
  (trim (elim (trim ys) (sinv (at_ (trim ys) ((trim ys).length - 1))) ((trim xs).length - (trim ys).length + 1) (trim xs) (tab ((trim xs).length - (trim ys).length + 1) (fun _ => 0))).2,
   cut (elim (trim ys) (sinv (at_ (trim ys) ((trim ys).length - 1))) ((trim xs).length - (trim ys).length + 1) (trim xs) (tab ((trim xs).length - (trim ys).length + 1) (fun _ => 0))).1)
theorem cut_trim (xs : List Int) : cut (trim xs) = trim xs := cut_cut _
theorem last_inv (ys : List Int) (h : (trim ys).length ≠ 0) : (at_ (trim ys) ((trim ys).length - 1) * sinv (at_ (trim ys) ((trim ys).length - 1))) % 1009 = 1 := by
  have h1 := trim_red ys ((trim ys).length - 1)
  have h2 : at_ (trim ys) ((trim ys).length - 1) ≠ 0 := by
    rcases cut_last (ys.map (· % 1009)) with h3 | h3
    · exact absurd (by rw [trim, h3]; rfl) h
    · exact h3
  exact sinv_right _ (by omega) (by omega)
theorem impl_PolyDivide_ev (xs ys : List Int) : Ev (fun k => impl_PolyDivide.f k xs ys) (pdivide xs ys) := by
  by_cases h1 : xs.length > 64
  · rw [pdivide, if_pos (.inl h1)]
    exact Ev.one fun k => by simp only [impl_PolyDivide.f, impl_PolyDivide.j0]; rw [if_pos (by omega), if_pos trivial]
  by_cases h2 : ys.length > 64
  · rw [pdivide, if_pos (.inr h2)]
    exact Ev.one fun k => by simp only [impl_PolyDivide.f, impl_PolyDivide.j0]; rw [if_neg (by omega), if_pos (decide_eq_true (by omega))]
  have l1 := trim_length xs
  have l2 := trim_length ys
  have hf : ∀ k, impl_PolyDivide.f (k + 1) xs ys = impl_PolyDivide.j0 (k + 1) xs ys false := by
    intro k
    simp only [impl_PolyDivide.f]
    rw [if_neg (by omega), decide_eq_false (by omega)]
  obtain ⟨K1, e1⟩ := impl_PolyTrim_ev xs (by omega)
  obtain ⟨K2, e2⟩ := impl_PolyTrim_ev ys (by omega)
  obtain ⟨K3, e3⟩ := impl_ScInv_ev (at_ (trim ys) ((trim ys).length - 1))
  rw [pdivide, if_neg (by omega)]
  by_cases h3 : (trim ys).length = 0
  · rw [if_pos (.inl h3)]
    refine ⟨K1 + K2 + 1, fun k hk => ?_⟩
    obtain ⟨k, rfl⟩ : ∃ m, k = m + 1 := ⟨k - 1, by omega⟩
    have g1 := e1 k (by omega)
    have g2 := e2 k (by omega)
    dsimp only at g1 g2 ⊢
    rw [hf]
    simp only [impl_PolyDivide.j0, g1, g2, Option.bind_some]
    rw [if_neg (by simp), if_pos (by omega)]
  · have hfin : ∀ r, (∃ K, ∀ k, K ≤ k → impl_PolyDivide.l0 k (trim xs) (trim ys) (sinv (at_ (trim ys) ((trim ys).length - 1))) (tab ((trim xs).length + 1 - (trim ys).length) (fun _ => 0)) = some r) → Ev (fun k => impl_PolyDivide.f k xs ys) r := by
      rintro r ⟨K4, e4⟩
      refine ⟨K1 + K2 + K3 + K4 + 1, fun k hk => ?_⟩
      obtain ⟨k, rfl⟩ : ∃ m, k = m + 1 := ⟨k - 1, by omega⟩
      have g1 := e1 k (by omega)
      have g2 := e2 k (by omega)
      have g3 := e3 k (by omega)
      have g4 := e4 k (by omega)
      dsimp only at g1 g2 g3 ⊢
      rw [hf]
      simp only [impl_PolyDivide.j0, g1, g2, Option.bind_some]
      have hm : mx (wrap64 (wrap64 (((trim xs).length : Int) - ((trim ys).length : Int)) + 1)) 0 = (((trim xs).length + 1 - (trim ys).length : Nat) : Int) := by
        rw [wrap_in (i := ((trim xs).length : Int) - ((trim ys).length : Int)) (by omega) (by omega), wrap_in (by omega) (by omega)]
        unfold mx
        split <;> omega
      rw [if_neg (by simp), if_neg (by omega), wrap_in (i := ((trim ys).length : Int) - 1) (by omega) (by omega), if_pos (by omega), if_pos (by omega), show ((trim ys).length : Int) - 1 = (((trim ys).length - 1 : Nat) : Int) by omega, rd_at, g3, Option.bind_some, hm, if_pos (by omega), Int.toNat_natCast, if_pos (by omega), replicate_tab]
      exact g4
    by_cases h4 : (trim xs).length < (trim ys).length
    · rw [if_pos (.inr h4)]
      refine hfin _ ?_
      rw [show (trim xs).length + 1 - (trim ys).length = 0 by omega]
      obtain ⟨K5, e5⟩ := impl_PolyTrim_ev [] (by simp)
      refine ⟨K5 + 1, fun k hk => ?_⟩
      obtain ⟨k, rfl⟩ : ∃ m, k = m + 1 := ⟨k - 1, by omega⟩
      have g5 := e5 k (by omega)
      dsimp only at g5
      simp only [impl_PolyDivide.l0]
      rw [if_neg (by omega), show tab 0 (fun _ => 0) = [] from rfl, g5]
      rfl
    · rw [if_neg (by omega)]
      refine hfin _ ?_
      rw [show (trim xs).length + 1 - (trim ys).length = (trim xs).length - (trim ys).length + 1 by omega]
      have h := impl_Divide_l0 (trim ys) (sinv (at_ (trim ys) ((trim ys).length - 1))) (by omega) (by omega) (last_inv ys h3) ((trim xs).length - (trim ys).length + 1) (trim xs) (tab ((trim xs).length - (trim ys).length + 1) (fun _ => 0))
        (trim_red xs) (by omega) (by rw [tab_length]; omega) (by rw [tab_length]; omega) (fun i hi => at_ge (by omega)) (fun i hi => by rw [tab_at _ _ _ hi])
      rw [cut_trim] at h
      exact h
theorem spec_PolyDivide_ev (xs ys : List Int) : Ev (fun k => spec_PolyDivide.f k xs ys) (pdivide xs ys) := by
  by_cases h1 : xs.length > 64
  · rw [pdivide, if_pos (.inl h1)]
    exact Ev.one fun k => by simp only [spec_PolyDivide.f, spec_PolyDivide.j0]; rw [if_pos (by omega), if_pos trivial]
  by_cases h2 : ys.length > 64
  · rw [pdivide, if_pos (.inr h2)]
    exact Ev.one fun k => by simp only [spec_PolyDivide.f, spec_PolyDivide.j0]; rw [if_neg (by omega), if_pos (decide_eq_true (by omega))]
  have l1 := trim_length xs
  have l2 := trim_length ys
  have hf : ∀ k, spec_PolyDivide.f (k + 1) xs ys = spec_PolyDivide.j0 (k + 1) xs ys false := by
    intro k
    simp only [spec_PolyDivide.f]
    rw [if_neg (by omega), decide_eq_false (by omega)]
  obtain ⟨K1, e1⟩ := spec_PolyTrim_ev xs (by omega)
  obtain ⟨K2, e2⟩ := spec_PolyTrim_ev ys (by omega)
  obtain ⟨K3, e3⟩ := spec_ScInv_ev (at_ (trim ys) ((trim ys).length - 1))
  rw [pdivide, if_neg (by omega)]
  by_cases h3 : (trim ys).length = 0 ∨ (trim xs).length < (trim ys).length
  · rw [if_pos h3]
    refine ⟨K1 + K2 + 2, fun k hk => ?_⟩
    obtain ⟨k, rfl⟩ : ∃ m, k = m + 2 := ⟨k - 2, by omega⟩
    have g1 := e1 (k + 1) (by omega)
    have g2 := e2 (k + 1) (by omega)
    dsimp only at g1 g2 ⊢
    rw [hf]
    simp only [spec_PolyDivide.j0, g1, g2, Option.bind_some]
    rw [if_neg (by simp)]
    by_cases h4 : (trim ys).length = 0
    · rw [if_pos (by omega)]
      simp only [spec_PolyDivide.j1]
      rw [if_pos trivial]
    · rw [if_neg (by omega)]
      simp only [spec_PolyDivide.j1]
      rw [if_pos (decide_eq_true (by omega))]
  · rw [if_neg h3]
    obtain ⟨K4, e4⟩ := spec_Divide_l0 (trim ys) (sinv (at_ (trim ys) ((trim ys).length - 1))) (by omega) ((trim xs).length - (trim ys).length + 1) (trim xs) (tab ((trim xs).length - (trim ys).length + 1) (fun _ => 0)) (by omega) (by rw [tab_length]; omega) (by rw [tab_length]; omega) (.inr (by omega))
    refine ⟨K1 + K2 + K3 + K4 + 2, fun k hk => ?_⟩
    obtain ⟨k, rfl⟩ : ∃ m, k = m + 2 := ⟨k - 2, by omega⟩
    have g1 := e1 (k + 1) (by omega)
    have g2 := e2 (k + 1) (by omega)
    have g3 := e3 k (by omega)
    have g4 := e4 k (by omega)
    dsimp only at g1 g2 g3 g4 ⊢
    rw [hf]
    simp only [spec_PolyDivide.j0, g1, g2, Option.bind_some]
    rw [if_neg (by simp), if_neg (by omega), decide_eq_false (by omega)]
    simp only [spec_PolyDivide.j1]
    rw [if_neg (by simp), wrap_in (i := ((trim xs).length : Int) - ((trim ys).length : Int)) (by omega) (by omega), wrap_in (by omega) (by omega), if_pos (by omega), show ((trim xs).length : Int) - ((trim ys).length : Int) + 1 = (((trim xs).length - (trim ys).length + 1 : Nat) : Int) by omega, Int.toNat_natCast, if_pos (by omega), Option.bind_some, replicate_tab, tab_length,
      wrap_in (i := ((trim ys).length : Int) - 1) (by omega) (by omega), if_pos (by omega), if_pos (by omega), show ((trim ys).length : Int) - 1 = (((trim ys).length - 1 : Nat) : Int) by omega, rd_at, g3, Option.bind_some, wrap_in (by omega) (by omega), g4]
    congr 2
    exact red_trim (elim_red _ _ _ _ _ (trim_red xs))
theorem pdivide_length (xs ys : List Int) : (pdivide xs ys).1.length ≤ 65 ∧ (pdivide xs ys).2.length ≤ 64 := by
  have l1 := trim_length xs
  unfold pdivide
  split
  · simp
  · split
    · simp; omega
    · have h := elim_length (trim ys) (sinv (at_ (trim ys) ((trim ys).length - 1))) ((trim xs).length - (trim ys).length + 1) (trim xs) (tab ((trim xs).length - (trim ys).length + 1) (fun _ => 0))
      rw [tab_length] at h
      have t1 := trim_length (elim (trim ys) (sinv (at_ (trim ys) ((trim ys).length - 1))) ((trim xs).length - (trim ys).length + 1) (trim xs) (tab ((trim xs).length - (trim ys).length + 1) (fun _ => 0))).2
      have t2 := cut_length (elim (trim ys) (sinv (at_ (trim ys) ((trim ys).length - 1))) ((trim xs).length - (trim ys).length + 1) (trim xs) (tab ((trim xs).length - (trim ys).length + 1) (fun _ => 0))).1
      refine ⟨?_, ?_⟩
      · dsimp only; omega
      · dsimp only; omega
end Go.Proofs.Ytcnejiflpioaiaa.Poly
end

section
/- What is proved here: for every two lists the program's PolyDivide and the reference's answer the same two lists, new each time, and the arguments stay as they were. No conditions. -/
set_option linter.unusedVariables false
set_option linter.unusedSimpArgs false
namespace Go.Proofs.Ytcnejiflpioaiaa.Pure
open Go.RowKit Go.Proofs.Ytcnejiflpioaiaa.Pf Go.Proofs.YtcnejiflpioaiaaW.PrintWords Go.Proofs.Ytcnejiflpioaiaa.Ints Go.Proofs.Ytcnejiflpioaiaa.Poly

theorem FnExactPolyDivide : laws_FnExactPolyDivide.Pure := by
  intro xs ys hl _ _ hl2 _ _
  unfold maxLen at hl hl2
  by_cases h : (xs.length : Int) > 1048576
  · exact ⟨0, by simp only [laws_FnExactPolyDivide.f]; rw [if_pos h]⟩
  by_cases h' : (ys.length : Int) > 1048576
  · exact ⟨0, by simp only [laws_FnExactPolyDivide.f]; rw [if_neg h, if_pos h']⟩
  obtain ⟨K1, h1⟩ := spec_PolyDivide_ev xs ys
  obtain ⟨K2, h2⟩ := impl_PolyDivide_ev xs ys
  have hn := pdivide_length xs ys
  generalize pdivide xs ys = zr at *
  obtain ⟨zs, rs⟩ := zr
  dsimp only at h1 h2 hn
  have b1 : zs.length ≤ 65 := hn.1
  have b2 : rs.length ≤ 64 := hn.2
  have hk : ∀ k, K1 + K2 + xs.length + ys.length + 128 < k → laws_FnExactPolyDivide.f (k + 3) xs ys = some true := by
    intro k hk
    have t3 := toIntS_f xs (by omega) (k + 3) (by omega)
    have u3 := toIntS_f ys (by omega) (k + 3) (by omega)
    have a3 := eqIntS_same zs (by omega) (k + 3) (by omega)
    have c3 := eqIntS_same rs (by omega) (k + 3) (by omega)
    simp only [laws_FnExactPolyDivide.f]
    rw [if_neg h, if_neg h']
    simp only [t3, u3, Option.bind_some, h1 _ (show K1 ≤ k + 3 by omega), h2 _ (show K2 ≤ k + 3 by omega), a3, c3, if_true, Bool.not_true]
    have t2 := toIntS_f xs (by omega) (k + 2) (by omega)
    have u2 := toIntS_f ys (by omega) (k + 2) (by omega)
    have e2 := eqIntS_same xs (by omega) (k + 2) (by omega)
    have f2 := eqIntS_same ys (by omega) (k + 2) (by omega)
    have a2 := eqIntS_same zs (by omega) (k + 2) (by omega)
    have c2 := eqIntS_same rs (by omega) (k + 2) (by omega)
    have m2 := markIntS_f 1 (by omega) (by omega) xs (by omega) (k + 2) (by omega)
    have n2 := markIntS_f (1 + (xs.length : Int)) (by omega) (by omega) ys (by omega) (k + 2) (by omega)
    rw [laws_FnExactPolyDivide.j0, if_neg (by simp)]
    simp only [t2, u2, e2, f2, m2, n2, Option.bind_some, if_true]
    rw [if_neg (by omega)]
    simp only [a2, c2, Option.bind_some, if_true, Bool.not_true]
    have t1 := toIntS_f xs (by omega) (k + 1) (by omega)
    have u1 := toIntS_f ys (by omega) (k + 1) (by omega)
    have a1 := eqIntS_same zs (by omega) (k + 1) (by omega)
    have c1 := eqIntS_same rs (by omega) (k + 1) (by omega)
    have m1 := markIntS_f 1 (by omega) (by omega) zs (by omega) (k + 1) (by omega)
    have n1 := markIntS_f (1 + (zs.length : Int)) (by omega) (by omega) rs (by omega) (k + 1) (by omega)
    have p1 := heldIntS_f 1 (by omega) (by omega) zs.length (by omega) (k + 1) (by omega)
    have q1 := heldIntS_f (1 + (zs.length : Int)) (by omega) (by omega) rs.length (by omega) (k + 1) (by omega)
    rw [laws_FnExactPolyDivide.j1, if_neg (by simp)]
    simp only [m1, n1, p1, Option.bind_some]
    rw [if_neg (by omega)]
    simp only [q1, Option.bind_some]
    rw [if_neg (by omega), if_pos trivial]
    simp only [t1, u1, h2 _ (show K2 ≤ k + 1 by omega), a1, c1, Option.bind_some, if_true, Bool.not_true]
    have p0 := heldIntS_f 1 (by omega) (by omega) zs.length (by omega) k (by omega)
    have q0 := heldIntS_f (1 + (zs.length : Int)) (by omega) (by omega) rs.length (by omega) k (by omega)
    rw [laws_FnExactPolyDivide.j2, if_neg (by simp)]
    simp only [p0, Option.bind_some]
    rw [if_neg (by omega)]
    simp only [q0, Option.bind_some]
    rw [if_neg (by omega), if_pos trivial]
  exact ⟨_, hk (K1 + K2 + xs.length + ys.length + 129) (by omega)⟩
end Go.Proofs.Ytcnejiflpioaiaa.Pure
end

section
namespace Go.Proofs.Ytcnejiflpioaiaa.fnExactPolyDivide
open Go.ChangeShapes Go.WideShapes Go.ChangeAt Go.RowKit
open Go.ChangeMaps (open_string shut_string)
set_option linter.unusedVariables false
theorem own : ownKnob Try.prog.godebug = none := by kernel_rfl
theorem laidOut : laidOutB Try.prog = true := by kernel_rfl
def IsRow (k : IntKind) (w : World) (a : Option Addr) (len cap : Nat) (zs : List Int) : Prop :=
  (a = none ∧ len = 0 ∧ cap = 0 ∧ zs = []) ∨
  ∃ x, a = some x ∧ len ≤ cap ∧ cap ≤ maxLen ∧ zs.length = cap ∧ (∀ i, i < zs.length → w.cell? (x.add i) = some (.int k (zs.getD i 0))) ∧ ∀ n ∈ zs, (Lit.int k n).wf = true
set_option maxRecDepth 100000 in
theorem lifted (os : Os) (started : os.Started) (H : Type) (enc : TypeId × Value → H) :
    ReturnsInHanded {} Try.checked os 9 .any (Rows.fnExactPolyDivideSpec.pre6 enc Try.prog Try.f9 Rows.fnExactPolyDivideRow.domain false) (Rows.fnExactPolyDivideSpec.post enc Try.prog Try.f9 false true false false) := by
  refine returnsInHanded_of_change_sized (C := Try.checked) own started (by kernel_rfl) Try.func9
    (ChangeSpec.witness6 (enc := enc) (C := Try.checked) false ⟨#[], #[.slice none 0 0, .slice none 0 0], []⟩ 8 (by kernel_rfl) (by kernel_rfl) (by kernel_rfl) (by kernel_rfl)) ?_
  intro W base args ds gs before hval0 hW hcnd hsz0 _
  have hsz : (DataW.weightsEach Try.prog (Try.f9.params.toList ++ Rows.fnExactPolyDivideSpec.plain.varTypes Try.prog) (ds ++ gs)).all (· ≤ reachBytes) = true := hsz0
  have hval : ∀ (j : Nat) t v, Try.f9.params[j]? = some t → args[j]? = some v → Value.okWide Try.prog W .any base t v := hval0
  have hW' := hW
  obtain ⟨p, q, hA0, hV, rfl, hfz, hnd⟩ := hW
  have hA : DataW.TrodAll enc Try.prog W 0 (fun _ => true) true Try.f9.params.toList args.toList ds p := hA0
  rw [Try.params9] at hA hval hsz
  obtain ⟨v0, vs0, d0, ds0, p0, q0, hargs, rfl, rfl, h0, r0⟩ := trodAll_cons hA
  obtain ⟨v1, vs1, d1, ds1, p1, q1, rfl, rfl, rfl, h1, r1⟩ := trodAll_cons r0
  obtain ⟨rfl, rfl, rfl⟩ := trodAll_nil r1
  obtain rfl : args = #[v0, v1] := by cases args; simp_all
  obtain ⟨rfl, rfl⟩ := trodVars_none hV
  obtain ⟨a0, len0, cap0, rfl⟩ := okWide_slice Try.underlying22 (hval 0 22 v0 rfl rfl)
  have k0 := h0
  have lt0 : ∀ x ∈ p0, x.block < W.heap.size := by obtain ⟨m, hm⟩ := k0; exact DataW.trod_lt m _ _ _ hm
  obtain ⟨z0, w0⟩ : ∃ zs, IsRow .i64 W a0 len0 cap0 zs := by
    obtain ⟨fuel, hf⟩ := h0
    rcases open_ints Try.underlying22 Try.underlying3 (by kernel_rfl) hf with ⟨hcs, _⟩ | ⟨x, l, c, zs, hcs, _, hl, hm, hz, _, hcell, hwz⟩
    · simp [Value.cells] at hcs
      obtain ⟨rfl, rfl, rfl⟩ := hcs
      exact ⟨[], .inl ⟨rfl, rfl, rfl, rfl⟩⟩
    · simp [Value.cells] at hcs
      obtain ⟨rfl, rfl, rfl⟩ := hcs
      exact ⟨zs, .inr ⟨_, rfl, hl, hm, by simpa using hz, hcell, hwz⟩⟩
  have y0 : len0 * 8 ≤ 140737488351232 := Go.Proofs.YtcnejiflpioaiaaW.PrintWords.sized_ints hsz (j := 0) (t := 22) rfl rfl Try.underlying22 Try.underlying3 (by kernel_rfl) (by kernel_rfl) h0
  obtain ⟨a1, len1, cap1, rfl⟩ := okWide_slice Try.underlying22 (hval 1 22 v1 rfl rfl)
  have k1 := h1
  have lt1 : ∀ x ∈ p1, x.block < W.heap.size := by obtain ⟨m, hm⟩ := k1; exact DataW.trod_lt m _ _ _ hm
  obtain ⟨z1, w1⟩ : ∃ zs, IsRow .i64 W a1 len1 cap1 zs := by
    obtain ⟨fuel, hf⟩ := h1
    rcases open_ints Try.underlying22 Try.underlying3 (by kernel_rfl) hf with ⟨hcs, _⟩ | ⟨x, l, c, zs, hcs, _, hl, hm, hz, _, hcell, hwz⟩
    · simp [Value.cells] at hcs
      obtain ⟨rfl, rfl, rfl⟩ := hcs
      exact ⟨[], .inl ⟨rfl, rfl, rfl, rfl⟩⟩
    · simp [Value.cells] at hcs
      obtain ⟨rfl, rfl, rfl⟩ := hcs
      exact ⟨zs, .inr ⟨_, rfl, hl, hm, by simpa using hz, hcell, hwz⟩⟩
  have y1 : len1 * 8 ≤ 140737488351232 := Go.Proofs.YtcnejiflpioaiaaW.PrintWords.sized_ints hsz (j := 1) (t := 22) rfl rfl Try.underlying22 Try.underlying3 (by kernel_rfl) (by kernel_rfl) h1
  clear hA0 hval0 hsz0 hsz
  refine (Pf.laws_FnExactPolyDivide.walk Pure.FnExactPolyDivide a0 len0 cap0 z0 a1 len1 cap1 z1 W w0 y0 w1 y1).mono fun e W' ⟨he, bel⟩ => ?_
  subst he
  exact ⟨_, rfl, _, _, _, [], _, [], hW', trodAll_mk1 (shut_bool Try.underlying4 _), (trodAll_cons_mk (Below.trod laidOut (by kernel_rfl) (of_decide_eq_true (by kernel_rfl)) k0 bel lt0) (trodAll_cons_mk (Below.trod laidOut (by kernel_rfl) (of_decide_eq_true (by kernel_rfl)) k1 bel lt1) trodAll_mk0)), rfl, bel.frame _, fun h => by cases h⟩
theorem over : Rows.fnExactPolyDivideRow.holds Try.pinned (OpenSpec.ofChange Rows.fnExactPolyDivideSpec) :=
  OpenClaim.holds_of_wide 9 Try.f9 rfl rfl rfl rfl rfl rfl rfl ⟨rfl, rfl, rfl, rfl, rfl⟩ rfl rfl rfl rfl rfl (by kernel_rfl) Try.func9 (by kernel_rfl)
    (of_decide_eq_true (by kernel_rfl)) (by unfold Func.isWrapper; first | (rw [if_pos (by decide +kernel)]; kernel_rfl) | (rw [if_neg (by decide +kernel)]; exact ⟨rfl, rfl⟩))
    (fun os started H enc _ => lifted os started H enc)
theorem proved : Rows.FnExactPolyDivideSaid := over
#print axioms proved
end Go.Proofs.Ytcnejiflpioaiaa.fnExactPolyDivide
namespace Go.Proofs.Ytcnejiflpioaiaa
/-- The row, under a short name, for the claim. -/
theorem fnExactPolyDivide_holds : Rows.FnExactPolyDivideSaid := fnExactPolyDivide.proved
end Go.Proofs.Ytcnejiflpioaiaa
end
