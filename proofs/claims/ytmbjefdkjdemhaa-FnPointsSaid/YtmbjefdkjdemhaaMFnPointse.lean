/- What is proved here: part 5 of 5 of the proof of the given statement FnPoints: the contracts of the Go functions that it reaches, the plain facts on lists and numbers, and (in the last part) the statement itself. No conditions beyond the given ones. -/
import Derived.Test.YtmbjefdkjdemhaaMFnPointswSlim
import Derived.Test.YtmbjefdkjdemhaaMFnPointsa
import Derived.Test.YtmbjefdkjdemhaaMFnPointsd
import Derived.Test.YtmbjefdkjdemhaaMFnPointsc
import Derived.Test.YtmbjefdkjdemhaaMFnPointsb
import Derived.Laws.Strings
import Derived.Test.YtmbjefdkjdemhaaRows
import Derived.WalkKit
import Derived.ProofKit
import Derived.OpenShut
import Derived.ShutString
import Derived.ChangeOld
import Derived.Below
import Derived.SizedLaws
import Derived.Test.YtmbjefdkjdemhaaMFnPointswSized

section
namespace Go.Proofs.Ytmbjefdkjdemhaa.Pf
open Go.RowKit Go.Proofs.YtmbjefdkjdemhaaW.PrintWords Go.Proofs.YtmbjefdkjdemhaaW.PrintLast Go.Proofs.YtmbjefdkjdemhaaW.PrintMore
attribute [local go_sem] max2_int min2_int max_two min_two max_three min_three max_four min_four   -- for this text's walks alone
set_option linter.unusedVariables false
set_option linter.unusedSimpArgs false
/-! ### bits_Len64: function 106 -/
def bits_Len64.j0 : Nat → Int → Int → Option (Int)
 | 0, _, _ => none
 | k + 1, x0, x2 => if x0 ≥ 65536 then (if (x0 / 65536) ≥ 256 then (if 0 ≤ (((x0 / 65536) / 256) % 256) then (if (((x0 / 65536) / 256) % 256) < 256 then (some (wrap64 ((wrap64 ((wrap64 (x2 + 16)) + 8)) + (wrap64 (bt (⟨#[0, 1, 2, 2, 3, 3, 3, 3, 4, 4, 4, 4, 4, 4, 4, 4, 5, 5, 5, 5, 5, 5, 5, 5, 5, 5, 5, 5, 5, 5, 5, 5, 6, 6, 6, 6, 6, 6, 6, 6, 6, 6, 6, 6, 6, 6, 6, 6, 6, 6, 6, 6, 6, 6, 6, 6, 6, 6, 6, 6, 6, 6, 6, 6, 7, 7, 7, 7, 7, 7, 7, 7, 7, 7, 7, 7, 7, 7, 7, 7, 7, 7, 7, 7, 7, 7, 7, 7, 7, 7, 7, 7, 7, 7, 7, 7, 7, 7, 7, 7, 7, 7, 7, 7, 7, 7, 7, 7, 7, 7, 7, 7, 7, 7, 7, 7, 7, 7, 7, 7, 7, 7, 7, 7, 7, 7, 7, 7, 8, 8, 8, 8, 8, 8, 8, 8, 8, 8, 8, 8, 8, 8, 8, 8, 8, 8, 8, 8, 8, 8, 8, 8, 8, 8, 8, 8, 8, 8, 8, 8, 8, 8, 8, 8, 8, 8, 8, 8, 8, 8, 8, 8, 8, 8, 8, 8, 8, 8, 8, 8, 8, 8, 8, 8, 8, 8, 8, 8, 8, 8, 8, 8, 8, 8, 8, 8, 8, 8, 8, 8, 8, 8, 8, 8, 8, 8, 8, 8, 8, 8, 8, 8, 8, 8, 8, 8, 8, 8, 8, 8, 8, 8, 8, 8, 8, 8, 8, 8, 8, 8, 8, 8, 8, 8, 8, 8, 8, 8, 8, 8, 8, 8, 8, 8, 8, 8, 8, 8, 8, 8, 8, 8, 8, 8, 8, 8]⟩ : ByteArray) (((x0 / 65536) / 256) % 256)))))) else (none)) else (none)) else (if 0 ≤ ((x0 / 65536) % 256) then (if ((x0 / 65536) % 256) < 256 then (some (wrap64 ((wrap64 (x2 + 16)) + (wrap64 (bt (⟨#[0, 1, 2, 2, 3, 3, 3, 3, 4, 4, 4, 4, 4, 4, 4, 4, 5, 5, 5, 5, 5, 5, 5, 5, 5, 5, 5, 5, 5, 5, 5, 5, 6, 6, 6, 6, 6, 6, 6, 6, 6, 6, 6, 6, 6, 6, 6, 6, 6, 6, 6, 6, 6, 6, 6, 6, 6, 6, 6, 6, 6, 6, 6, 6, 7, 7, 7, 7, 7, 7, 7, 7, 7, 7, 7, 7, 7, 7, 7, 7, 7, 7, 7, 7, 7, 7, 7, 7, 7, 7, 7, 7, 7, 7, 7, 7, 7, 7, 7, 7, 7, 7, 7, 7, 7, 7, 7, 7, 7, 7, 7, 7, 7, 7, 7, 7, 7, 7, 7, 7, 7, 7, 7, 7, 7, 7, 7, 7, 8, 8, 8, 8, 8, 8, 8, 8, 8, 8, 8, 8, 8, 8, 8, 8, 8, 8, 8, 8, 8, 8, 8, 8, 8, 8, 8, 8, 8, 8, 8, 8, 8, 8, 8, 8, 8, 8, 8, 8, 8, 8, 8, 8, 8, 8, 8, 8, 8, 8, 8, 8, 8, 8, 8, 8, 8, 8, 8, 8, 8, 8, 8, 8, 8, 8, 8, 8, 8, 8, 8, 8, 8, 8, 8, 8, 8, 8, 8, 8, 8, 8, 8, 8, 8, 8, 8, 8, 8, 8, 8, 8, 8, 8, 8, 8, 8, 8, 8, 8, 8, 8, 8, 8, 8, 8, 8, 8, 8, 8, 8, 8, 8, 8, 8, 8, 8, 8, 8, 8, 8, 8, 8, 8, 8, 8, 8, 8]⟩ : ByteArray) ((x0 / 65536) % 256)))))) else (none)) else (none))) else (if x0 ≥ 256 then (if 0 ≤ ((x0 / 256) % 256) then (if ((x0 / 256) % 256) < 256 then (some (wrap64 ((wrap64 (x2 + 8)) + (wrap64 (bt (⟨#[0, 1, 2, 2, 3, 3, 3, 3, 4, 4, 4, 4, 4, 4, 4, 4, 5, 5, 5, 5, 5, 5, 5, 5, 5, 5, 5, 5, 5, 5, 5, 5, 6, 6, 6, 6, 6, 6, 6, 6, 6, 6, 6, 6, 6, 6, 6, 6, 6, 6, 6, 6, 6, 6, 6, 6, 6, 6, 6, 6, 6, 6, 6, 6, 7, 7, 7, 7, 7, 7, 7, 7, 7, 7, 7, 7, 7, 7, 7, 7, 7, 7, 7, 7, 7, 7, 7, 7, 7, 7, 7, 7, 7, 7, 7, 7, 7, 7, 7, 7, 7, 7, 7, 7, 7, 7, 7, 7, 7, 7, 7, 7, 7, 7, 7, 7, 7, 7, 7, 7, 7, 7, 7, 7, 7, 7, 7, 7, 8, 8, 8, 8, 8, 8, 8, 8, 8, 8, 8, 8, 8, 8, 8, 8, 8, 8, 8, 8, 8, 8, 8, 8, 8, 8, 8, 8, 8, 8, 8, 8, 8, 8, 8, 8, 8, 8, 8, 8, 8, 8, 8, 8, 8, 8, 8, 8, 8, 8, 8, 8, 8, 8, 8, 8, 8, 8, 8, 8, 8, 8, 8, 8, 8, 8, 8, 8, 8, 8, 8, 8, 8, 8, 8, 8, 8, 8, 8, 8, 8, 8, 8, 8, 8, 8, 8, 8, 8, 8, 8, 8, 8, 8, 8, 8, 8, 8, 8, 8, 8, 8, 8, 8, 8, 8, 8, 8, 8, 8, 8, 8, 8, 8, 8, 8, 8, 8, 8, 8, 8, 8, 8, 8, 8, 8, 8, 8]⟩ : ByteArray) ((x0 / 256) % 256)))))) else (none)) else (none)) else (if 0 ≤ ((x0) % 256) then (if ((x0) % 256) < 256 then (some (wrap64 (x2 + (wrap64 (bt (⟨#[0, 1, 2, 2, 3, 3, 3, 3, 4, 4, 4, 4, 4, 4, 4, 4, 5, 5, 5, 5, 5, 5, 5, 5, 5, 5, 5, 5, 5, 5, 5, 5, 6, 6, 6, 6, 6, 6, 6, 6, 6, 6, 6, 6, 6, 6, 6, 6, 6, 6, 6, 6, 6, 6, 6, 6, 6, 6, 6, 6, 6, 6, 6, 6, 7, 7, 7, 7, 7, 7, 7, 7, 7, 7, 7, 7, 7, 7, 7, 7, 7, 7, 7, 7, 7, 7, 7, 7, 7, 7, 7, 7, 7, 7, 7, 7, 7, 7, 7, 7, 7, 7, 7, 7, 7, 7, 7, 7, 7, 7, 7, 7, 7, 7, 7, 7, 7, 7, 7, 7, 7, 7, 7, 7, 7, 7, 7, 7, 8, 8, 8, 8, 8, 8, 8, 8, 8, 8, 8, 8, 8, 8, 8, 8, 8, 8, 8, 8, 8, 8, 8, 8, 8, 8, 8, 8, 8, 8, 8, 8, 8, 8, 8, 8, 8, 8, 8, 8, 8, 8, 8, 8, 8, 8, 8, 8, 8, 8, 8, 8, 8, 8, 8, 8, 8, 8, 8, 8, 8, 8, 8, 8, 8, 8, 8, 8, 8, 8, 8, 8, 8, 8, 8, 8, 8, 8, 8, 8, 8, 8, 8, 8, 8, 8, 8, 8, 8, 8, 8, 8, 8, 8, 8, 8, 8, 8, 8, 8, 8, 8, 8, 8, 8, 8, 8, 8, 8, 8, 8, 8, 8, 8, 8, 8, 8, 8, 8, 8, 8, 8, 8, 8, 8, 8, 8, 8]⟩ : ByteArray) ((x0) % 256)))))) else (none)) else (none)))
def bits_Len64.f (k : Nat) (a0 : Int) : Option (Int) := if a0 ≥ 4294967296 then (bits_Len64.j0 k (a0 / 4294967296) 32) else (bits_Len64.j0 k a0 0)
theorem bits_Len64.mono_l : ∀ k, (∀ y0 y1, LeO (bits_Len64.j0 k y0 y1) (bits_Len64.j0 (k + 1) y0 y1))
 | 0 => fun _ _ r h => by simp [bits_Len64.j0] at h
 | k + 1 => by
  have ih0 := bits_Len64.mono_l k
  ·intro y0 y1
   unfold bits_Len64.j0
   repeat' first
   | (with_reducible exact ih0 _ _)
   | (with_reducible exact LeO.refl _)
   | (with_reducible exact LeO.none _)
   | (with_reducible refine LeO.ite ?_ ?_)
   | (with_reducible refine LeO.bind ?_ (fun _ => ?_))
   | exact ih0 _ _
   | exact LeO.none _
   | refine LeO.ite ?_ ?_
   | refine LeO.bind ?_ (fun _ => ?_)
theorem bits_Len64.mono : ∀ a0 k, LeO (bits_Len64.f k a0) (bits_Len64.f (k + 1) a0) := by
 intro a0 k
 have ih0 := bits_Len64.mono_l k
 unfold bits_Len64.f
 repeat' first
   | (with_reducible exact ih0 _ _)
   | (with_reducible exact LeO.refl _)
   | (with_reducible exact LeO.none _)
   | (with_reducible refine LeO.ite ?_ ?_)
   | (with_reducible refine LeO.bind ?_ (fun _ => ?_))
   | exact ih0 _ _
   | exact LeO.none _
   | refine LeO.ite ?_ ?_
   | refine LeO.bind ?_ (fun _ => ?_)
set_option maxHeartbeats 8000000 in
set_option maxRecDepth 100000 in
theorem bits_Len64.calls (k : Nat) (a0 : Int) (r : Int) (w : World) (h : bits_Len64.f k a0 = some r) :
  Calls Try.prog 106 #[.int .u64 a0] w fun e w' => e = .returned (.int .i64 r) ∧ Drawn0 w w' := by
 have H : (if a0 ≥ 4294967296 then (bits_Len64.j0 k (a0 / 4294967296) 32) else (bits_Len64.j0 k a0 0)) = some r := h
 clear h
 have HC2 := Aside0.mk H
 clear H
 go_enter Try.func106, Try.ntmps106
 go_upto_if 4 with (fail)
 go_cut [0, 2] (fun v0 v2 wc => ∃ (kq : Nat) (x0_1 : Int) (x2_1 : Int), v0 = .int .u64 x0_1 ∧ v2 = .int .i64 x2_1 ∧ Aside0 (bits_Len64.j0 kq x0_1 x2_1 = some r) ∧ Aside0 (kq ≤ k) ∧ Drawn0 w wc)
 case first =>
  have H := HC2.out
  clear HC2
  by_cases c3 : a0 ≥ 4294967296
  ·rw [if_pos c3] at H
   have c3b0 : decide (4294967296 ≤ a0) = true := decide_eq_true c3
   clear c3
   (first | rw [c3b0] | (simp only [i64_w, i32_w]; rw [c3b0]) | rw [c3b1] | skip)
   have H' := Aside0.mk H
   clear H
   go_wp2
   go_meet
   case rel => exact ⟨_, (a0 / 4294967296), (32), rS, rS, H', ⟨by first | omega | exact Nat.le_refl _⟩, by repeat (first | exact Drawn0.refl _ | apply Drawn0.step)⟩
  ·rw [if_neg c3] at H
   have c3b0 : decide (4294967296 ≤ a0) = false := decide_eq_false c3
   clear c3
   (first | rw [c3b0] | (simp only [i64_w, i32_w]; rw [c3b0]) | rw [c3b1] | skip)
   have H' := Aside0.mk H
   clear H
   go_wp2
   go_meet
   case rel => exact ⟨_, (a0), (0), rS, rS, H', ⟨by first | omega | exact Nat.le_refl _⟩, by repeat (first | exact Drawn0.refl _ | apply Drawn0.step)⟩
 case rest =>
  clear HC2
  try clear c1
  try clear p2
  try clear c3
  try clear c3b0
  obtain ⟨kq, x0_1, x2_1, rfl, rfl, HA, HJ1, ⟨mc1, rfl⟩⟩ := hcut
  cases kq with
  | zero => exact absurd HA.out (by simp [bits_Len64.j0])
  | succ kj1 =>
   have H := HA.out
   clear HA
   simp only [bits_Len64.j0] at H
   by_cases c4 : x0_1 ≥ 65536
   ·rw [if_pos c4] at H
    have c4b0 : decide (65536 ≤ x0_1) = true := decide_eq_true c4
    clear c4
    by_cases c5 : (x0_1 / 65536) ≥ 256
    ·rw [if_pos c5] at H
     have c5b0 : decide (256 ≤ (x0_1 / 65536)) = true := decide_eq_true c5
     clear c5
     obtain ⟨ji6, hji6⟩ : ∃ j_ : Int, (((x0_1 / 65536) / 256) % 256) = j_ := ⟨_, rfl⟩
     replace H : (if 0 ≤ (ji6) then (if (ji6) < 256 then (some (wrap64 ((wrap64 ((wrap64 (x2_1 + 16)) + 8)) + (wrap64 (bt (⟨#[0, 1, 2, 2, 3, 3, 3, 3, 4, 4, 4, 4, 4, 4, 4, 4, 5, 5, 5, 5, 5, 5, 5, 5, 5, 5, 5, 5, 5, 5, 5, 5, 6, 6, 6, 6, 6, 6, 6, 6, 6, 6, 6, 6, 6, 6, 6, 6, 6, 6, 6, 6, 6, 6, 6, 6, 6, 6, 6, 6, 6, 6, 6, 6, 7, 7, 7, 7, 7, 7, 7, 7, 7, 7, 7, 7, 7, 7, 7, 7, 7, 7, 7, 7, 7, 7, 7, 7, 7, 7, 7, 7, 7, 7, 7, 7, 7, 7, 7, 7, 7, 7, 7, 7, 7, 7, 7, 7, 7, 7, 7, 7, 7, 7, 7, 7, 7, 7, 7, 7, 7, 7, 7, 7, 7, 7, 7, 7, 8, 8, 8, 8, 8, 8, 8, 8, 8, 8, 8, 8, 8, 8, 8, 8, 8, 8, 8, 8, 8, 8, 8, 8, 8, 8, 8, 8, 8, 8, 8, 8, 8, 8, 8, 8, 8, 8, 8, 8, 8, 8, 8, 8, 8, 8, 8, 8, 8, 8, 8, 8, 8, 8, 8, 8, 8, 8, 8, 8, 8, 8, 8, 8, 8, 8, 8, 8, 8, 8, 8, 8, 8, 8, 8, 8, 8, 8, 8, 8, 8, 8, 8, 8, 8, 8, 8, 8, 8, 8, 8, 8, 8, 8, 8, 8, 8, 8, 8, 8, 8, 8, 8, 8, 8, 8, 8, 8, 8, 8, 8, 8, 8, 8, 8, 8, 8, 8, 8, 8, 8, 8, 8, 8, 8, 8, 8, 8]⟩ : ByteArray) (ji6)))))) else (none)) else (none)) = some r := by first | (rw [hji6] at H; exact H) | (simp only [hji6] at H ⊢; exact H)
     by_cases c7 : 0 ≤ (ji6)
     ·rw [if_pos c7] at H
      have c7b0 : decide (0 ≤ (ji6)) = true := decide_eq_true c7
      clear c7
      by_cases c8 : (ji6) < 256
      ·rw [if_pos c8] at H
       have c8b0 : decide ((ji6) < 256) = true := decide_eq_true c8
       clear c8
       obtain rfl := Option.some.inj H
       have p9 : 0 ≤ ((ji6) : Int) := of_decide_eq_true (by first | (with_reducible assumption) | assumption)
       have q9 : (ji6) < (256 : Int) := of_decide_eq_true (by first | (with_reducible assumption) | assumption)
       have hx9 := bt_at (⟨#[0, 1, 2, 2, 3, 3, 3, 3, 4, 4, 4, 4, 4, 4, 4, 4, 5, 5, 5, 5, 5, 5, 5, 5, 5, 5, 5, 5, 5, 5, 5, 5, 6, 6, 6, 6, 6, 6, 6, 6, 6, 6, 6, 6, 6, 6, 6, 6, 6, 6, 6, 6, 6, 6, 6, 6, 6, 6, 6, 6, 6, 6, 6, 6, 7, 7, 7, 7, 7, 7, 7, 7, 7, 7, 7, 7, 7, 7, 7, 7, 7, 7, 7, 7, 7, 7, 7, 7, 7, 7, 7, 7, 7, 7, 7, 7, 7, 7, 7, 7, 7, 7, 7, 7, 7, 7, 7, 7, 7, 7, 7, 7, 7, 7, 7, 7, 7, 7, 7, 7, 7, 7, 7, 7, 7, 7, 7, 7, 8, 8, 8, 8, 8, 8, 8, 8, 8, 8, 8, 8, 8, 8, 8, 8, 8, 8, 8, 8, 8, 8, 8, 8, 8, 8, 8, 8, 8, 8, 8, 8, 8, 8, 8, 8, 8, 8, 8, 8, 8, 8, 8, 8, 8, 8, 8, 8, 8, 8, 8, 8, 8, 8, 8, 8, 8, 8, 8, 8, 8, 8, 8, 8, 8, 8, 8, 8, 8, 8, 8, 8, 8, 8, 8, 8, 8, 8, 8, 8, 8, 8, 8, 8, 8, 8, 8, 8, 8, 8, 8, 8, 8, 8, 8, 8, 8, 8, 8, 8, 8, 8, 8, 8, 8, 8, 8, 8, 8, 8, 8, 8, 8, 8, 8, 8, 8, 8, 8, 8, 8, 8, 8, 8, 8, 8, 8, 8]⟩ : ByteArray) (ji6)
       replace p9 := eq_true p9
       replace q9 := eq_true q9
       go_wp2
       go_ret
       exact ⟨by first | rfl | (simp; done) | (simp only [← hji6] <;> (first | rfl | simp)) | (simp [*]; done), by repeat (first | exact Drawn0.refl _ | apply Drawn0.step)⟩
      ·rw [if_neg c8] at H
       exact absurd H (by simp)
     ·rw [if_neg c7] at H
      exact absurd H (by simp)
    ·rw [if_neg c5] at H
     have c5b0 : decide (256 ≤ (x0_1 / 65536)) = false := decide_eq_false c5
     clear c5
     obtain ⟨ji10, hji10⟩ : ∃ j_ : Int, ((x0_1 / 65536) % 256) = j_ := ⟨_, rfl⟩
     replace H : (if 0 ≤ (ji10) then (if (ji10) < 256 then (some (wrap64 ((wrap64 (x2_1 + 16)) + (wrap64 (bt (⟨#[0, 1, 2, 2, 3, 3, 3, 3, 4, 4, 4, 4, 4, 4, 4, 4, 5, 5, 5, 5, 5, 5, 5, 5, 5, 5, 5, 5, 5, 5, 5, 5, 6, 6, 6, 6, 6, 6, 6, 6, 6, 6, 6, 6, 6, 6, 6, 6, 6, 6, 6, 6, 6, 6, 6, 6, 6, 6, 6, 6, 6, 6, 6, 6, 7, 7, 7, 7, 7, 7, 7, 7, 7, 7, 7, 7, 7, 7, 7, 7, 7, 7, 7, 7, 7, 7, 7, 7, 7, 7, 7, 7, 7, 7, 7, 7, 7, 7, 7, 7, 7, 7, 7, 7, 7, 7, 7, 7, 7, 7, 7, 7, 7, 7, 7, 7, 7, 7, 7, 7, 7, 7, 7, 7, 7, 7, 7, 7, 8, 8, 8, 8, 8, 8, 8, 8, 8, 8, 8, 8, 8, 8, 8, 8, 8, 8, 8, 8, 8, 8, 8, 8, 8, 8, 8, 8, 8, 8, 8, 8, 8, 8, 8, 8, 8, 8, 8, 8, 8, 8, 8, 8, 8, 8, 8, 8, 8, 8, 8, 8, 8, 8, 8, 8, 8, 8, 8, 8, 8, 8, 8, 8, 8, 8, 8, 8, 8, 8, 8, 8, 8, 8, 8, 8, 8, 8, 8, 8, 8, 8, 8, 8, 8, 8, 8, 8, 8, 8, 8, 8, 8, 8, 8, 8, 8, 8, 8, 8, 8, 8, 8, 8, 8, 8, 8, 8, 8, 8, 8, 8, 8, 8, 8, 8, 8, 8, 8, 8, 8, 8, 8, 8, 8, 8, 8, 8]⟩ : ByteArray) (ji10)))))) else (none)) else (none)) = some r := by first | (rw [hji10] at H; exact H) | (simp only [hji10] at H ⊢; exact H)
     by_cases c11 : 0 ≤ (ji10)
     ·rw [if_pos c11] at H
      have c11b0 : decide (0 ≤ (ji10)) = true := decide_eq_true c11
      clear c11
      by_cases c12 : (ji10) < 256
      ·rw [if_pos c12] at H
       have c12b0 : decide ((ji10) < 256) = true := decide_eq_true c12
       clear c12
       obtain rfl := Option.some.inj H
       have p13 : 0 ≤ ((ji10) : Int) := of_decide_eq_true (by first | (with_reducible assumption) | assumption)
       have q13 : (ji10) < (256 : Int) := of_decide_eq_true (by first | (with_reducible assumption) | assumption)
       have hx13 := bt_at (⟨#[0, 1, 2, 2, 3, 3, 3, 3, 4, 4, 4, 4, 4, 4, 4, 4, 5, 5, 5, 5, 5, 5, 5, 5, 5, 5, 5, 5, 5, 5, 5, 5, 6, 6, 6, 6, 6, 6, 6, 6, 6, 6, 6, 6, 6, 6, 6, 6, 6, 6, 6, 6, 6, 6, 6, 6, 6, 6, 6, 6, 6, 6, 6, 6, 7, 7, 7, 7, 7, 7, 7, 7, 7, 7, 7, 7, 7, 7, 7, 7, 7, 7, 7, 7, 7, 7, 7, 7, 7, 7, 7, 7, 7, 7, 7, 7, 7, 7, 7, 7, 7, 7, 7, 7, 7, 7, 7, 7, 7, 7, 7, 7, 7, 7, 7, 7, 7, 7, 7, 7, 7, 7, 7, 7, 7, 7, 7, 7, 8, 8, 8, 8, 8, 8, 8, 8, 8, 8, 8, 8, 8, 8, 8, 8, 8, 8, 8, 8, 8, 8, 8, 8, 8, 8, 8, 8, 8, 8, 8, 8, 8, 8, 8, 8, 8, 8, 8, 8, 8, 8, 8, 8, 8, 8, 8, 8, 8, 8, 8, 8, 8, 8, 8, 8, 8, 8, 8, 8, 8, 8, 8, 8, 8, 8, 8, 8, 8, 8, 8, 8, 8, 8, 8, 8, 8, 8, 8, 8, 8, 8, 8, 8, 8, 8, 8, 8, 8, 8, 8, 8, 8, 8, 8, 8, 8, 8, 8, 8, 8, 8, 8, 8, 8, 8, 8, 8, 8, 8, 8, 8, 8, 8, 8, 8, 8, 8, 8, 8, 8, 8, 8, 8, 8, 8, 8, 8]⟩ : ByteArray) (ji10)
       replace p13 := eq_true p13
       replace q13 := eq_true q13
       go_wp2
       go_ret
       exact ⟨by first | rfl | (simp; done) | (simp only [← hji10] <;> (first | rfl | simp)) | (simp [*]; done), by repeat (first | exact Drawn0.refl _ | apply Drawn0.step)⟩
      ·rw [if_neg c12] at H
       exact absurd H (by simp)
     ·rw [if_neg c11] at H
      exact absurd H (by simp)
   ·rw [if_neg c4] at H
    have c4b0 : decide (65536 ≤ x0_1) = false := decide_eq_false c4
    clear c4
    by_cases c14 : x0_1 ≥ 256
    ·rw [if_pos c14] at H
     have c14b0 : decide (256 ≤ x0_1) = true := decide_eq_true c14
     clear c14
     obtain ⟨ji15, hji15⟩ : ∃ j_ : Int, ((x0_1 / 256) % 256) = j_ := ⟨_, rfl⟩
     replace H : (if 0 ≤ (ji15) then (if (ji15) < 256 then (some (wrap64 ((wrap64 (x2_1 + 8)) + (wrap64 (bt (⟨#[0, 1, 2, 2, 3, 3, 3, 3, 4, 4, 4, 4, 4, 4, 4, 4, 5, 5, 5, 5, 5, 5, 5, 5, 5, 5, 5, 5, 5, 5, 5, 5, 6, 6, 6, 6, 6, 6, 6, 6, 6, 6, 6, 6, 6, 6, 6, 6, 6, 6, 6, 6, 6, 6, 6, 6, 6, 6, 6, 6, 6, 6, 6, 6, 7, 7, 7, 7, 7, 7, 7, 7, 7, 7, 7, 7, 7, 7, 7, 7, 7, 7, 7, 7, 7, 7, 7, 7, 7, 7, 7, 7, 7, 7, 7, 7, 7, 7, 7, 7, 7, 7, 7, 7, 7, 7, 7, 7, 7, 7, 7, 7, 7, 7, 7, 7, 7, 7, 7, 7, 7, 7, 7, 7, 7, 7, 7, 7, 8, 8, 8, 8, 8, 8, 8, 8, 8, 8, 8, 8, 8, 8, 8, 8, 8, 8, 8, 8, 8, 8, 8, 8, 8, 8, 8, 8, 8, 8, 8, 8, 8, 8, 8, 8, 8, 8, 8, 8, 8, 8, 8, 8, 8, 8, 8, 8, 8, 8, 8, 8, 8, 8, 8, 8, 8, 8, 8, 8, 8, 8, 8, 8, 8, 8, 8, 8, 8, 8, 8, 8, 8, 8, 8, 8, 8, 8, 8, 8, 8, 8, 8, 8, 8, 8, 8, 8, 8, 8, 8, 8, 8, 8, 8, 8, 8, 8, 8, 8, 8, 8, 8, 8, 8, 8, 8, 8, 8, 8, 8, 8, 8, 8, 8, 8, 8, 8, 8, 8, 8, 8, 8, 8, 8, 8, 8, 8]⟩ : ByteArray) (ji15)))))) else (none)) else (none)) = some r := by first | (rw [hji15] at H; exact H) | (simp only [hji15] at H ⊢; exact H)
     by_cases c16 : 0 ≤ (ji15)
     ·rw [if_pos c16] at H
      have c16b0 : decide (0 ≤ (ji15)) = true := decide_eq_true c16
      clear c16
      by_cases c17 : (ji15) < 256
      ·rw [if_pos c17] at H
       have c17b0 : decide ((ji15) < 256) = true := decide_eq_true c17
       clear c17
       obtain rfl := Option.some.inj H
       have p18 : 0 ≤ ((ji15) : Int) := of_decide_eq_true (by first | (with_reducible assumption) | assumption)
       have q18 : (ji15) < (256 : Int) := of_decide_eq_true (by first | (with_reducible assumption) | assumption)
       have hx18 := bt_at (⟨#[0, 1, 2, 2, 3, 3, 3, 3, 4, 4, 4, 4, 4, 4, 4, 4, 5, 5, 5, 5, 5, 5, 5, 5, 5, 5, 5, 5, 5, 5, 5, 5, 6, 6, 6, 6, 6, 6, 6, 6, 6, 6, 6, 6, 6, 6, 6, 6, 6, 6, 6, 6, 6, 6, 6, 6, 6, 6, 6, 6, 6, 6, 6, 6, 7, 7, 7, 7, 7, 7, 7, 7, 7, 7, 7, 7, 7, 7, 7, 7, 7, 7, 7, 7, 7, 7, 7, 7, 7, 7, 7, 7, 7, 7, 7, 7, 7, 7, 7, 7, 7, 7, 7, 7, 7, 7, 7, 7, 7, 7, 7, 7, 7, 7, 7, 7, 7, 7, 7, 7, 7, 7, 7, 7, 7, 7, 7, 7, 8, 8, 8, 8, 8, 8, 8, 8, 8, 8, 8, 8, 8, 8, 8, 8, 8, 8, 8, 8, 8, 8, 8, 8, 8, 8, 8, 8, 8, 8, 8, 8, 8, 8, 8, 8, 8, 8, 8, 8, 8, 8, 8, 8, 8, 8, 8, 8, 8, 8, 8, 8, 8, 8, 8, 8, 8, 8, 8, 8, 8, 8, 8, 8, 8, 8, 8, 8, 8, 8, 8, 8, 8, 8, 8, 8, 8, 8, 8, 8, 8, 8, 8, 8, 8, 8, 8, 8, 8, 8, 8, 8, 8, 8, 8, 8, 8, 8, 8, 8, 8, 8, 8, 8, 8, 8, 8, 8, 8, 8, 8, 8, 8, 8, 8, 8, 8, 8, 8, 8, 8, 8, 8, 8, 8, 8, 8, 8]⟩ : ByteArray) (ji15)
       replace p18 := eq_true p18
       replace q18 := eq_true q18
       go_wp2
       go_ret
       exact ⟨by first | rfl | (simp; done) | (simp only [← hji15] <;> (first | rfl | simp)) | (simp [*]; done), by repeat (first | exact Drawn0.refl _ | apply Drawn0.step)⟩
      ·rw [if_neg c17] at H
       exact absurd H (by simp)
     ·rw [if_neg c16] at H
      exact absurd H (by simp)
    ·rw [if_neg c14] at H
     have c14b0 : decide (256 ≤ x0_1) = false := decide_eq_false c14
     clear c14
     obtain ⟨ji19, hji19⟩ : ∃ j_ : Int, ((x0_1) % 256) = j_ := ⟨_, rfl⟩
     replace H : (if 0 ≤ (ji19) then (if (ji19) < 256 then (some (wrap64 (x2_1 + (wrap64 (bt (⟨#[0, 1, 2, 2, 3, 3, 3, 3, 4, 4, 4, 4, 4, 4, 4, 4, 5, 5, 5, 5, 5, 5, 5, 5, 5, 5, 5, 5, 5, 5, 5, 5, 6, 6, 6, 6, 6, 6, 6, 6, 6, 6, 6, 6, 6, 6, 6, 6, 6, 6, 6, 6, 6, 6, 6, 6, 6, 6, 6, 6, 6, 6, 6, 6, 7, 7, 7, 7, 7, 7, 7, 7, 7, 7, 7, 7, 7, 7, 7, 7, 7, 7, 7, 7, 7, 7, 7, 7, 7, 7, 7, 7, 7, 7, 7, 7, 7, 7, 7, 7, 7, 7, 7, 7, 7, 7, 7, 7, 7, 7, 7, 7, 7, 7, 7, 7, 7, 7, 7, 7, 7, 7, 7, 7, 7, 7, 7, 7, 8, 8, 8, 8, 8, 8, 8, 8, 8, 8, 8, 8, 8, 8, 8, 8, 8, 8, 8, 8, 8, 8, 8, 8, 8, 8, 8, 8, 8, 8, 8, 8, 8, 8, 8, 8, 8, 8, 8, 8, 8, 8, 8, 8, 8, 8, 8, 8, 8, 8, 8, 8, 8, 8, 8, 8, 8, 8, 8, 8, 8, 8, 8, 8, 8, 8, 8, 8, 8, 8, 8, 8, 8, 8, 8, 8, 8, 8, 8, 8, 8, 8, 8, 8, 8, 8, 8, 8, 8, 8, 8, 8, 8, 8, 8, 8, 8, 8, 8, 8, 8, 8, 8, 8, 8, 8, 8, 8, 8, 8, 8, 8, 8, 8, 8, 8, 8, 8, 8, 8, 8, 8, 8, 8, 8, 8, 8, 8]⟩ : ByteArray) (ji19)))))) else (none)) else (none)) = some r := by first | (rw [hji19] at H; exact H) | (simp only [hji19] at H ⊢; exact H)
     by_cases c20 : 0 ≤ (ji19)
     ·rw [if_pos c20] at H
      have c20b0 : decide (0 ≤ (ji19)) = true := decide_eq_true c20
      clear c20
      by_cases c21 : (ji19) < 256
      ·rw [if_pos c21] at H
       have c21b0 : decide ((ji19) < 256) = true := decide_eq_true c21
       clear c21
       obtain rfl := Option.some.inj H
       have p22 : 0 ≤ ((ji19) : Int) := of_decide_eq_true (by first | (with_reducible assumption) | assumption)
       have q22 : (ji19) < (256 : Int) := of_decide_eq_true (by first | (with_reducible assumption) | assumption)
       have hx22 := bt_at (⟨#[0, 1, 2, 2, 3, 3, 3, 3, 4, 4, 4, 4, 4, 4, 4, 4, 5, 5, 5, 5, 5, 5, 5, 5, 5, 5, 5, 5, 5, 5, 5, 5, 6, 6, 6, 6, 6, 6, 6, 6, 6, 6, 6, 6, 6, 6, 6, 6, 6, 6, 6, 6, 6, 6, 6, 6, 6, 6, 6, 6, 6, 6, 6, 6, 7, 7, 7, 7, 7, 7, 7, 7, 7, 7, 7, 7, 7, 7, 7, 7, 7, 7, 7, 7, 7, 7, 7, 7, 7, 7, 7, 7, 7, 7, 7, 7, 7, 7, 7, 7, 7, 7, 7, 7, 7, 7, 7, 7, 7, 7, 7, 7, 7, 7, 7, 7, 7, 7, 7, 7, 7, 7, 7, 7, 7, 7, 7, 7, 8, 8, 8, 8, 8, 8, 8, 8, 8, 8, 8, 8, 8, 8, 8, 8, 8, 8, 8, 8, 8, 8, 8, 8, 8, 8, 8, 8, 8, 8, 8, 8, 8, 8, 8, 8, 8, 8, 8, 8, 8, 8, 8, 8, 8, 8, 8, 8, 8, 8, 8, 8, 8, 8, 8, 8, 8, 8, 8, 8, 8, 8, 8, 8, 8, 8, 8, 8, 8, 8, 8, 8, 8, 8, 8, 8, 8, 8, 8, 8, 8, 8, 8, 8, 8, 8, 8, 8, 8, 8, 8, 8, 8, 8, 8, 8, 8, 8, 8, 8, 8, 8, 8, 8, 8, 8, 8, 8, 8, 8, 8, 8, 8, 8, 8, 8, 8, 8, 8, 8, 8, 8, 8, 8, 8, 8, 8, 8]⟩ : ByteArray) (ji19)
       replace p22 := eq_true p22
       replace q22 := eq_true q22
       go_wp2
       go_ret
       exact ⟨by first | rfl | (simp; done) | (simp only [← hji19] <;> (first | rfl | simp)) | (simp [*]; done), by repeat (first | exact Drawn0.refl _ | apply Drawn0.step)⟩
      ·rw [if_neg c21] at H
       exact absurd H (by simp)
     ·rw [if_neg c20] at H
      exact absurd H (by simp)
/-! ### bits_Len: function 87 -/
def bits_Len.f (k : Nat) (a0 : Int) : Option (Int) := (bits_Len64.f k a0).bind fun t744 => (some t744)
theorem bits_Len.mono : ∀ a0 k, LeO (bits_Len.f k a0) (bits_Len.f (k + 1) a0) := by
 intro a0 k
 unfold bits_Len.f
 repeat' first
   | (with_reducible exact bits_Len64.mono _ _)
   | (with_reducible exact LeO.refl _)
   | (with_reducible exact LeO.none _)
   | (with_reducible refine LeO.ite ?_ ?_)
   | (with_reducible refine LeO.bind ?_ (fun _ => ?_))
   | exact bits_Len64.mono _ _
   | exact LeO.none _
   | refine LeO.ite ?_ ?_
   | refine LeO.bind ?_ (fun _ => ?_)
set_option maxHeartbeats 8000000 in
set_option maxRecDepth 100000 in
theorem bits_Len.calls (k : Nat) (a0 : Int) (r : Int) (w : World) (h : bits_Len.f k a0 = some r) :
  Calls Try.prog 87 #[.int .u64 a0] w fun e w' => e = .returned (.int .i64 r) ∧ Drawn0 w w' := by
 have H : ((bits_Len64.f k a0).bind fun t744 => (some t744)) = some r := h
 clear h
 replace H := Option.bind_eq_some_iff.mp H
 obtain ⟨t744, A20, H⟩ := H
 have A2 := Aside0.mk A20
 clear A20
 obtain rfl := Option.some.inj H
 go_enter Try.func87, Try.ntmps87
 go_wp2_with (first | ((with_reducible refine gate_callee (f := 106) rfl ?_); refine gL (some 7) Try.func106 #[.int .u64 a0] ?_; (with_reducible refine (bits_Len64.calls k a0 t744 _ A2.out).mono ?_); rintro e w' ⟨rfl, ⟨nd, rfl⟩⟩; refine ⟨_, rfl, ?_⟩))
 go_ret
 exact ⟨rS, rD⟩
/-! ### impl_Miller: function 40 -/
def impl_Miller.l0 : Nat → Int → Int → Int → Bool → Int → Int → Bool → Int → Int → Int → Int → Bool → Option (Int × Int)
 | 0, _, _, _, _, _, _, _, _, _, _, _, _ => none
 | k + 1, x7, x746000, x746001, x746002, x747000, x747001, x747002, x749000, x749001, x750000, x750001, x750002 => if x7 ≥ 0 then ((impl_TwoMul.f x749000 x749001 x749000 x749001).bind fun bt751 => ((impl_PairLine.f k x750000 x750001 x750002 x750000 x750001 x750002 x747000 x747001 x747002).bind fun bt753 => ((impl_TwoMul.f bt751.1 bt751.2 bt753.1 bt753.2).bind fun bt755 => ((impl_PointAdd.f k x750000 x750001 x750002 x750000 x750001 x750002).bind fun bt757 => (if 0 ≤ (IntKind.u64.wrap (x7)) then (if (Go.bits .and .i64 (shr .i64 1009 (IntKind.u64.wrap (x7))) 1) = 1 then ((impl_PairLine.f k bt757.1 bt757.2.1 bt757.2.2 x746000 x746001 x746002 x747000 x747001 x747002).bind fun bt760 => ((impl_TwoMul.f bt755.1 bt755.2 bt760.1 bt760.2).bind fun bt762 => ((impl_PointAdd.f k bt757.1 bt757.2.1 bt757.2.2 x746000 x746001 x746002).bind fun bt764 => (impl_Miller.l0 k (wrap64 (x7 - 1)) x746000 x746001 x746002 x747000 x747001 x747002 bt762.1 bt762.2 bt764.1 bt764.2.1 bt764.2.2)))) else (impl_Miller.l0 k (wrap64 (x7 - 1)) x746000 x746001 x746002 x747000 x747001 x747002 bt755.1 bt755.2 bt757.1 bt757.2.1 bt757.2.2)) else (none)))))) else (some (x749000, x749001))
def impl_Miller.f (k : Nat) (a0_0 : Int) (a0_1 : Int) (a0_2 : Bool) (a1_0 : Int) (a1_1 : Int) (a1_2 : Bool) : Option (Int × Int) := (bits_Len.f k 1009).bind fun t750 => (impl_Miller.l0 k (wrap64 (t750 - 2)) a0_0 a0_1 a0_2 a1_0 a1_1 a1_2 1 0 a0_0 a0_1 a0_2)
theorem impl_Miller.mono_l : ∀ k, (∀ y0 y1 y2 y3 y4 y5 y6 y7 y8 y9 y10 y11, LeO (impl_Miller.l0 k y0 y1 y2 y3 y4 y5 y6 y7 y8 y9 y10 y11) (impl_Miller.l0 (k + 1) y0 y1 y2 y3 y4 y5 y6 y7 y8 y9 y10 y11))
 | 0 => fun _ _ _ _ _ _ _ _ _ _ _ _ r h => by simp [impl_Miller.l0] at h
 | k + 1 => by
  have ih0 := impl_Miller.mono_l k
  ·intro y0 y1 y2 y3 y4 y5 y6 y7 y8 y9 y10 y11
   unfold impl_Miller.l0
   repeat' first
   | (with_reducible exact ih0 _ _ _ _ _ _ _ _ _ _ _ _)
   | (with_reducible exact bits_Len.mono _ _)
   | (with_reducible exact impl_PairLine.mono _ _ _ _ _ _ _ _ _ _)
   | (with_reducible exact impl_PointAdd.mono _ _ _ _ _ _ _)
   | (with_reducible exact LeO.refl _)
   | (with_reducible exact LeO.none _)
   | (with_reducible refine LeO.ite ?_ ?_)
   | (with_reducible refine LeO.bind ?_ (fun _ => ?_))
   | exact ih0 _ _ _ _ _ _ _ _ _ _ _ _
   | exact bits_Len.mono _ _
   | exact impl_PairLine.mono _ _ _ _ _ _ _ _ _ _
   | exact impl_PointAdd.mono _ _ _ _ _ _ _
   | exact LeO.none _
   | refine LeO.ite ?_ ?_
   | refine LeO.bind ?_ (fun _ => ?_)
theorem impl_Miller.mono : ∀ a0 a1 a2 a3 a4 a5 k, LeO (impl_Miller.f k a0 a1 a2 a3 a4 a5) (impl_Miller.f (k + 1) a0 a1 a2 a3 a4 a5) := by
 intro a0 a1 a2 a3 a4 a5 k
 have ih0 := impl_Miller.mono_l k
 unfold impl_Miller.f
 repeat' first
   | (with_reducible exact ih0 _ _ _ _ _ _ _ _ _ _ _ _)
   | (with_reducible exact bits_Len.mono _ _)
   | (with_reducible exact impl_PairLine.mono _ _ _ _ _ _ _ _ _ _)
   | (with_reducible exact impl_PointAdd.mono _ _ _ _ _ _ _)
   | (with_reducible exact LeO.refl _)
   | (with_reducible exact LeO.none _)
   | (with_reducible refine LeO.ite ?_ ?_)
   | (with_reducible refine LeO.bind ?_ (fun _ => ?_))
   | exact ih0 _ _ _ _ _ _ _ _ _ _ _ _
   | exact bits_Len.mono _ _
   | exact impl_PairLine.mono _ _ _ _ _ _ _ _ _ _
   | exact impl_PointAdd.mono _ _ _ _ _ _ _
   | exact LeO.none _
   | refine LeO.ite ?_ ?_
   | refine LeO.bind ?_ (fun _ => ?_)
def impl_Miller.T6 : Bool × List (List Nat × List Nat) := (true, [([], []), ([], []), ([0, 1], [0, 1]), ([], []), ([], []), ([], []), ([3, 4, 5, 2], [3, 4, 5]), ([2, 6, 6], [2, 6]), ([7, 7, 0, 1, 2, 3, 4, 5, 6, 7], [7])])
def impl_Miller.B6 : List Nat := [0, 0, 3, 0, 0, 0, 63, 127, 255]
theorem impl_Miller.tab6 : rtab .any (opsOf Try.f40 6) = impl_Miller.T6 := by kernel_rfl
theorem impl_Miller.bits6 : waitsOk impl_Miller.T6.2 impl_Miller.B6 = true := by kernel_rfl
set_option maxHeartbeats 8000000 in
set_option maxRecDepth 100000 in
theorem impl_Miller.calls (k : Nat) (a0_0 : Int) (a0_1 : Int) (a0_2 : Bool) (a1_0 : Int) (a1_1 : Int) (a1_2 : Bool) (r1 : Int) (r2 : Int) (w : World) (h : impl_Miller.f k a0_0 a0_1 a0_2 a1_0 a1_1 a1_2 = some (r1, r2)) :
  Calls Try.prog 40 #[.agg #[.int .i64 a0_0, .int .i64 a0_1, .bool a0_2], .agg #[.int .i64 a1_0, .int .i64 a1_1, .bool a1_2]] w fun e w' => e = .returned (.agg #[.int .i64 r1, .int .i64 r2]) ∧ Below w.heap.size w w' := by
 have hu25 := Try.underlying25
 have hu31 := Try.underlying31
 have HB := Aside0.mk (Below.refl w.heap.size w)
 have H : ((bits_Len.f k 1009).bind fun t750 => (impl_Miller.l0 k (wrap64 (t750 - 2)) a0_0 a0_1 a0_2 a1_0 a1_1 a1_2 1 0 a0_0 a0_1 a0_2)) = some (r1, r2) := h
 clear h
 replace H := Option.bind_eq_some_iff.mp H
 obtain ⟨t750, A30, H⟩ := H
 have A3 := Aside0.mk A30
 clear A30
 have H' := Aside0.mk H
 clear H
 go_enter Try.func40, Try.ntmps40
 go_wp2_with (first | ((with_reducible refine gate_dst (N := 2) rfl ?_); refine bE 2 #[.int .i64 a0_0, .int .i64 a0_1, .bool a0_2] 25 ?_; intro gb745 hg w4 hbox hb; have BK745 := Aside0.mk (hbox); have GW745 := bG HB hg; have GE745 := bG HB hg; replace HB := bS HB hb; clear hb hbox hg) | ((with_reducible refine gate_dst (N := 3) rfl ?_); refine bE 3 #[.int .i64 a1_0, .int .i64 a1_1, .bool a1_2] 25 ?_; intro gb746 hg w5 hbox hb; have BK746 := Aside0.mk (hbox); have GW746 := bG HB hg; have GE746 := bG HB hg; replace HB := bS HB hb; have NB745_746 := bL BK745 hg; have NB746_745 := bR BK745 hg; replace BK745 := bB BK745 hb; clear hb hbox hg) | ((with_reducible refine gate_dst (N := 4) rfl ?_); refine bE 4 #[.int .i64 0, .int .i64 0] 31 ?_; intro gb747 hg w6 hbox hb; have BK747 := Aside0.mk (hbox); have GW747 := bG HB hg; have GE747 := bG HB hg; replace HB := bS HB hb; have NB745_747 := bL BK745 hg; have NB747_745 := bR BK745 hg; replace BK745 := bB BK745 hb; have NB746_747 := bL BK746 hg; have NB747_746 := bR BK746 hg; replace BK746 := bB BK746 hb; clear hb hbox hg) | ((with_reducible refine gate_dst (N := 5) rfl ?_); refine bE 5 #[.int .i64 0, .int .i64 0] 31 ?_; intro gb748 hg w7 hbox hb; have BK748 := Aside0.mk (hbox); have GW748 := bG HB hg; have GE748 := bG HB hg; replace HB := bS HB hb; have NB745_748 := bL BK745 hg; have NB748_745 := bR BK745 hg; replace BK745 := bB BK745 hb; have NB746_748 := bL BK746 hg; have NB748_746 := bR BK746 hg; replace BK746 := bB BK746 hb; have NB747_748 := bL BK747 hg; have NB748_747 := bR BK747 hg; replace BK747 := bB BK747 hb; clear hb hbox hg; obtain ⟨hnb8, hnc8⟩ := nB NB748_745; obtain ⟨hnb9, hnc9⟩ := nB NB748_746; obtain ⟨hnb10, hnc10⟩ := nB NB748_747; obtain ⟨hcz11_0, hcz11_1, hfz11_0, hfz11_1⟩ := bK2 (w := w7) BK748; obtain ⟨hnb12, hnc12⟩ := nB NB745_746; obtain ⟨hnb13, hnc13⟩ := nB NB745_747; obtain ⟨hcz14_0, hcz14_1, hcz14_2, hfz14_0, hfz14_1, hfz14_2⟩ := bK3 (w := w7) BK745) | ((with_reducible refine gate_dst (N := 6) rfl ?_); refine bE 6 #[.int .i64 0, .int .i64 0, .bool false] 25 ?_; intro gb749 hg w15 hbox hb; have BK749 := Aside0.mk (hbox); have GW749 := bG HB hg; have GE749 := bG HB hg; replace HB := bS HB hb; have NB745_749 := bL BK745 hg; have NB749_745 := bR BK745 hg; replace BK745 := bB BK745 hb; have NB746_749 := bL BK746 hg; have NB749_746 := bR BK746 hg; replace BK746 := bB BK746 hb; have NB747_749 := bL BK747 hg; have NB749_747 := bR BK747 hg; replace BK747 := bB BK747 hb; have NB748_749 := Aside0.mk ((by rw [hg]; exact Nat.ne_of_lt (blk_lt (g := gb748) (o := .cells #[.int .i64 1, .int .i64 0] 31 (0, 0)) (bU BK748)) : gb748 ≠ gb749)); have NB749_748 := Aside0.mk ((by rw [hg]; exact Nat.ne_of_gt (blk_lt (g := gb748) (o := .cells #[.int .i64 1, .int .i64 0] 31 (0, 0)) (bU BK748)) : gb749 ≠ gb748)); replace BK748 := bV 31 #[.int .i64 1, .int .i64 0] BK748 hb; clear hb hbox hg; obtain ⟨hnb16, hnc16⟩ := nB NB749_745; obtain ⟨hnb17, hnc17⟩ := nB NB749_746; obtain ⟨hnb18, hnc18⟩ := nB NB749_747; obtain ⟨hnb19, hnc19⟩ := nB NB749_748; obtain ⟨hcz20_0, hcz20_1, hcz20_2, hfz20_0, hfz20_1, hfz20_2⟩ := bK3 (w := w15) BK749) | ((with_reducible refine gate_callee (f := 87) rfl ?_); refine gL (some 10) Try.func87 #[.int .u64 1009] ?_; (with_reducible refine (bits_Len.calls k 1009 t750 _ A3.out).mono ?_); rintro e w' ⟨rfl, ⟨nd, rfl⟩⟩; refine ⟨_, rfl, ?_⟩))
 go_loopg [7] k (fun kq v7 w' => ∃ (x7_1 : Int) (x749000_1 : Int) (x749001_1 : Int) (x750000_1 : Int) (x750001_1 : Int) (x750002_1 : Bool), v7 = .int .i64 x7_1 ∧ Aside0 (impl_Miller.l0 kq x7_1 a0_0 a0_1 a0_2 a1_0 a1_1 a1_2 x749000_1 x749001_1 x750000_1 x750001_1 x750002_1 = some (r1, r2)) ∧ Aside0 (kq ≤ k) ∧ Aside0 (w'.heap[gb745]? = some (.cells #[.int .i64 a0_0, .int .i64 a0_1, .bool a0_2] 25 (0, 0))) ∧ Aside0 (w'.heap[gb746]? = some (.cells #[.int .i64 a1_0, .int .i64 a1_1, .bool a1_2] 25 (0, 0))) ∧ Aside0 (w'.heap[gb747]? = some (.cells #[.int .i64 0, .int .i64 0] 31 (0, 0))) ∧ Aside0 (w'.heap[gb748]? = some (.cells #[.int .i64 x749000_1, .int .i64 x749001_1] 31 (0, 0))) ∧ Aside0 (w'.heap[gb749]? = some (.cells #[.int .i64 x750000_1, .int .i64 x750001_1, .bool x750002_1] 25 (0, 0))) ∧ Aside0 (Below w.heap.size w w'))
 case atStart => exact ⟨(wrap64 (t750 - 2)), (1), (0), (a0_0), (a0_1), (a0_2), rS, H', ⟨Nat.le_refl _⟩, ⟨bP BK745⟩, ⟨bP BK746⟩, ⟨bP BK747⟩, ⟨bP BK748⟩, ⟨bU BK749⟩, ⟨bZ HB⟩⟩
 case round =>
  clear H'
  try clear c1
  try clear p2
  try clear c4
  try clear p6
  try clear c8
  try clear c9
  try clear c10
  try clear c12
  try clear c13
  try clear c16
  try clear c17
  try clear c18
  try clear c19
  try clear hcz11_0
  try clear hcz11_1
  try clear hcz14_0
  try clear hcz14_1
  try clear hcz14_2
  try clear hcz20_0
  try clear hcz20_1
  try clear hcz20_2
  try clear hfz11_0
  try clear hfz11_1
  try clear hfz14_0
  try clear hfz14_1
  try clear hfz14_2
  try clear hfz20_0
  try clear hfz20_1
  try clear hfz20_2
  obtain ⟨x7_1, x749000_1, x749001_1, x750000_1, x750001_1, x750002_1, rfl, HA, HK1, BK745, BK746, BK747, BK748, BK749, HB⟩ := hrel
  cases gk with
  | zero => exact absurd HA.out (by simp [impl_Miller.l0])
  | succ k1 =>
   have H := HA.out
   clear HA
   simp only [impl_Miller.l0] at H
   by_cases c21 : x7_1 ≥ 0
   ·rw [if_pos c21] at H
    have c21b0 : decide (0 ≤ x7_1) = true := decide_eq_true c21
    clear c21
    replace H := Option.bind_eq_some_iff.mp H
    obtain ⟨⟨t751, t752⟩, A220, H⟩ := H
    have A22 := Aside0.mk A220
    clear A220
    replace H := Option.bind_eq_some_iff.mp H
    obtain ⟨⟨t753, t754⟩, A230, H⟩ := H
    have A23 := Aside0.mk A230
    clear A230
    replace H := Option.bind_eq_some_iff.mp H
    obtain ⟨⟨t755, t756⟩, A240, H⟩ := H
    have A24 := Aside0.mk A240
    clear A240
    replace H := Option.bind_eq_some_iff.mp H
    obtain ⟨⟨t757, t758, t759⟩, A250, H⟩ := H
    have A25 := Aside0.mk A250
    clear A250
    obtain ⟨ji26, hji26⟩ : ∃ j_ : Int, (IntKind.u64.wrap (x7_1)) = j_ := ⟨_, rfl⟩
    replace H : (if 0 ≤ (ji26) then (if (Go.bits .and .i64 (shr .i64 1009 (ji26)) 1) = 1 then ((impl_PairLine.f k1 t757 t758 t759 a0_0 a0_1 a0_2 a1_0 a1_1 a1_2).bind fun bt760 => ((impl_TwoMul.f t755 t756 bt760.1 bt760.2).bind fun bt762 => ((impl_PointAdd.f k1 t757 t758 t759 a0_0 a0_1 a0_2).bind fun bt764 => (impl_Miller.l0 k1 (wrap64 (x7_1 - 1)) a0_0 a0_1 a0_2 a1_0 a1_1 a1_2 bt762.1 bt762.2 bt764.1 bt764.2.1 bt764.2.2)))) else (impl_Miller.l0 k1 (wrap64 (x7_1 - 1)) a0_0 a0_1 a0_2 a1_0 a1_1 a1_2 t755 t756 t757 t758 t759)) else (none)) = some (r1, r2) := by first | (rw [hji26] at H; exact H) | (simp only [hji26] at H ⊢; exact H)
    (try rw [hji26] at A22)
    (try rw [hji26] at A23)
    (try rw [hji26] at A24)
    (try rw [hji26] at A25)
    by_cases c27 : 0 ≤ (ji26)
    ·rw [if_pos c27] at H
     have c27b0 := eq_true c27
     have c27b1 : decide (0 ≤ (ji26)) = true := decide_eq_true c27
     clear c27
     obtain ⟨ji28, hji28⟩ : ∃ j_ : Int, (shr .i64 1009 (ji26)) = j_ := ⟨_, rfl⟩
     replace H : (if (Go.bits .and .i64 (ji28) 1) = 1 then ((impl_PairLine.f k1 t757 t758 t759 a0_0 a0_1 a0_2 a1_0 a1_1 a1_2).bind fun bt760 => ((impl_TwoMul.f t755 t756 bt760.1 bt760.2).bind fun bt762 => ((impl_PointAdd.f k1 t757 t758 t759 a0_0 a0_1 a0_2).bind fun bt764 => (impl_Miller.l0 k1 (wrap64 (x7_1 - 1)) a0_0 a0_1 a0_2 a1_0 a1_1 a1_2 bt762.1 bt762.2 bt764.1 bt764.2.1 bt764.2.2)))) else (impl_Miller.l0 k1 (wrap64 (x7_1 - 1)) a0_0 a0_1 a0_2 a1_0 a1_1 a1_2 t755 t756 t757 t758 t759)) = some (r1, r2) := by first | (rw [hji28] at H; exact H) | (simp only [hji28] at H ⊢; exact H)
     (try rw [hji28] at A22)
     (try rw [hji28] at A23)
     (try rw [hji28] at A24)
     (try rw [hji28] at A25)
     have hji28_ : (1009 / 2 ^ min (ji26).toNat 64) = ji28 := hji28
     have hji28z : (ji26) ≤ 64 → (1009 / 2 ^ (ji26).toNat) = ji28 := shr_small hji28
     have hji28t : ∀ m_ : Int, Int.tmod ji28 m_ = ji28 % m_ := fun m_ => Int.tmod_eq_emod_of_nonneg (by rw [← hji28_]; exact Int.ediv_nonneg (by decide) (Int.le_of_lt (Int.pow_pos (by decide))))
     by_cases c29 : (Go.bits .and .i64 (ji28) 1) = 1
     ·rw [if_pos c29] at H
      have c29b0 : ((Go.bits .and .i64 (ji28) 1) == 1) = true := beq_iff_eq.mpr c29
      have c29b1 : ((Go.bits .and .i64 (ji28) 1) != 1) = false := bne_eq_false_iff_eq.mpr c29
      clear c29
      replace H := Option.bind_eq_some_iff.mp H
      obtain ⟨⟨t760, t761⟩, A300, H⟩ := H
      have A30 := Aside0.mk A300
      clear A300
      replace H := Option.bind_eq_some_iff.mp H
      obtain ⟨⟨t762, t763⟩, A310, H⟩ := H
      have A31 := Aside0.mk A310
      clear A310
      replace H := Option.bind_eq_some_iff.mp H
      obtain ⟨⟨t764, t765, t766⟩, A320, H⟩ := H
      have A32 := Aside0.mk A320
      clear A320
      have H' := Aside0.mk H
      clear H
      try go_wp2
      replace BK745 := Aside0.mk (blk_drew BK745.out)
      replace BK746 := Aside0.mk (blk_drew BK746.out)
      replace BK747 := Aside0.mk (blk_drew BK747.out)
      replace BK748 := Aside0.mk (blk_drew BK748.out)
      replace BK749 := Aside0.mk (blk_drew BK749.out)
      replace HB := Aside0.mk (below_drew1 HB.out)
      refine start_ (n := 9) (S := fun w' => SP2 w' gb748 (.int .i64 x749000_1) (.int .i64 x749001_1) (SP3 w' gb749 (.int .i64 x750000_1) (.int .i64 x750001_1) (.bool x750002_1) (SQ3 w' gb746 (.int .i64 a1_0) (.int .i64 a1_1) (.bool a1_2)))) (ds := [8]) #[false, false, false, false, false, false, false, false, false] (by kernel_rfl) rfl rfl (bS2 BK748 (bS3 BK749 (bT3 BK746))) (fun hHeld => ?_); refine with_tabW impl_Miller.tab6 impl_Miller.bits6 (fun HT_ HW_ => ?_)
      generalize wr.drew = w33 at BK745 BK746 BK747 BK748 BK749 HB hHeld ⊢
      refine tI8 0 (some 16) HT_.out HW_.out hHeld ?_
      refine tI8 1 (some 17) HT_.out HW_.out hHeld ?_
      refine tI8 3 (some 19) HT_.out HW_.out hHeld ?_
      refine tI8 4 (some 20) HT_.out HW_.out hHeld ?_
      refine tI8 5 (some 21) HT_.out HW_.out hHeld ?_
      refine oI 2 (some 18) HT_.out (fun K hK => ?_)
      refine gO Try.func21 #[.agg #[.int .i64 x749000_1, .int .i64 x749001_1], .agg #[.int .i64 x749000_1, .int .i64 x749001_1]] ?_
      with_reducible refine (impl_TwoMul.calls x749000_1 x749001_1 x749000_1 x749001_1 t751 t752 _ A22.out).mono ?_
      rintro e w34 ⟨rfl, hb⟩
      refine ⟨_, rfl, ?_⟩
      replace BK745 := bB BK745 hb
      replace BK746 := bB BK746 hb
      replace BK747 := bB BK747 hb
      replace BK748 := bB BK748 hb
      replace BK749 := bB BK749 hb
      replace HB := bS HB hb
      (try clear hb)
      refine hK.out _ _ (bS2 BK748 (bS3 BK749 (bT3 BK746))) (fun hHeld => ?_)
      clear hK K
      refine nO (some 18) ?_
      refine oI 6 (some 22) HT_.out (fun K hK => ?_)
      refine gO Try.func25 #[.agg #[.int .i64 x750000_1, .int .i64 x750001_1, .bool x750002_1], .agg #[.int .i64 x750000_1, .int .i64 x750001_1, .bool x750002_1], .agg #[.int .i64 a1_0, .int .i64 a1_1, .bool a1_2]] ?_
      with_reducible refine (impl_PairLine.calls k1 x750000_1 x750001_1 x750002_1 x750000_1 x750001_1 x750002_1 a1_0 a1_1 a1_2 t753 t754 _ A23.out).mono ?_
      rintro e w35 ⟨rfl, hb⟩
      refine ⟨_, rfl, ?_⟩
      replace BK745 := bB BK745 hb
      replace BK746 := bB BK746 hb
      replace BK747 := bB BK747 hb
      replace BK748 := bB BK748 hb
      replace BK749 := bB BK749 hb
      replace HB := bS HB hb
      (try clear hb)
      refine hK.out _ _ (bS2 BK748 (bS3 BK749 (bT3 BK746))) (fun hHeld => ?_)
      clear hK K
      refine nO (some 22) ?_
      refine oI 7 (some 23) HT_.out (fun K hK => ?_)
      refine gO Try.func21 #[.agg #[.int .i64 t751, .int .i64 t752], .agg #[.int .i64 t753, .int .i64 t754]] ?_
      with_reducible refine (impl_TwoMul.calls t751 t752 t753 t754 t755 t756 _ A24.out).mono ?_
      rintro e w36 ⟨rfl, hb⟩
      refine ⟨_, rfl, ?_⟩
      replace BK745 := bB BK745 hb
      replace BK746 := bB BK746 hb
      replace BK747 := bB BK747 hb
      replace BK748 := bB BK748 hb
      replace BK749 := bB BK749 hb
      replace HB := bS HB hb
      (try clear hb)
      refine hK.out _ _ (bS2 BK748 (bS3 BK749 (bT3 BK746))) (fun hHeld => ?_)
      clear hK K
      refine nO (some 23) ?_
      refine last_ (i := 8) (N := none) #[true, true, true, true, true, true, true, true, true] rfl rfl (one_of HT_.out (by kernel_rfl)) (by decide) (fun K hK => ?_)
      have hs37 : w36.cell? ⟨gb748, 0, none⟩ = some (.int .i64 x749000_1) := bc BK748 0
      have hfs37 := blk_frozen BK748.out 0
      have hns37_0 := NB745_748.out
      have hns37_1 := NB746_748.out
      have hns37_2 := NB747_748.out
      have hns37_4 := NB749_748.out
      have hms37_0 := NB748_745.out
      have hms37_1 := NB748_746.out
      have hms37_2 := NB748_747.out
      have hms37_4 := NB748_749.out
      have hs38 : w36.cell? ⟨gb748, 1, none⟩ = some (.int .i64 x749001_1) := bc BK748 1
      have hfs38 := blk_frozen BK748.out 1
      have hns38_0 := NB745_748.out
      have hns38_1 := NB746_748.out
      have hns38_2 := NB747_748.out
      have hns38_4 := NB749_748.out
      have hms38_0 := NB748_745.out
      have hms38_1 := NB748_746.out
      have hms38_2 := NB748_747.out
      have hms38_4 := NB748_749.out
      refine skip_ (w1 := ?_) (by rfl) rfl ?_ ?_
      rotate_left
      ·go_simp
       rfl
      refine hK.out _ _ ?_
      clear hK K
      refine done_ (done_of HT_.out (by kernel_rfl)) ?_
      obtain ⟨hnb39, hnc39⟩ := nB NB749_745
      obtain ⟨hnb40, hnc40⟩ := nB NB749_746
      obtain ⟨hnb41, hnc41⟩ := nB NB749_747
      obtain ⟨hnb42, hnc42⟩ := nB NB749_748
      obtain ⟨hcz43_0, hcz43_1, hcz43_2, hfz43_0, hfz43_1, hfz43_2⟩ := bK3 (w := w36) BK749
      try go_wp2_with (first | ((with_reducible refine gate_callee (f := 19) rfl ?_); refine gL (some 26) Try.func19 #[.agg #[.int .i64 x750000_1, .int .i64 x750001_1, .bool x750002_1], .agg #[.int .i64 x750000_1, .int .i64 x750001_1, .bool x750002_1]] ?_; (with_reducible refine (impl_PointAdd.calls k1 x750000_1 x750001_1 x750002_1 x750000_1 x750001_1 x750002_1 t757 t758 t759 _ A25.out).mono ?_); rintro e w44 ⟨rfl, hb⟩; refine ⟨_, rfl, ?_⟩; replace BK745 := bB BK745 hb; replace BK746 := bB BK746 hb; replace BK747 := bB BK747 hb; replace BK748 := bV 31 #[.int .i64 t755, .int .i64 t756] BK748 hb; replace BK749 := bB BK749 hb; replace HB := bS HB hb; (try clear hb); obtain ⟨hcz45_0, hcz45_1, hcz45_2, hfz45_0, hfz45_1, hfz45_2⟩ := bK3 (w := w44) BK749))
      obtain ⟨w46, hW_⟩ : ∃ W_ : World, W_ = (((w44.setCell ⟨gb749, 0, none⟩ (.int .i64 t757)).setCell ⟨gb749, 1, none⟩ (.int .i64 t758)).setCell ⟨gb749, 2, none⟩ (.bool t759)) := ⟨_, rfl⟩
      replace BK745 := bW hW_ BK745
      replace BK746 := bW hW_ BK746
      replace BK747 := bW hW_ BK747
      replace BK748 := bW hW_ BK748
      replace BK749 := bX hW_ 25 #[.int .i64 t757, .int .i64 t758, .bool t759] BK749
      replace HB := zW hW_ HB
      rw [← hW_]
      clear hW_
      replace BK745 := Aside0.mk (blk_drew BK745.out)
      replace BK746 := Aside0.mk (blk_drew BK746.out)
      replace BK747 := Aside0.mk (blk_drew BK747.out)
      replace BK748 := Aside0.mk (blk_drew BK748.out)
      replace BK749 := Aside0.mk (blk_drew BK749.out)
      replace HB := Aside0.mk (below_drew1 HB.out)
      refine start_ (n := 7) (S := fun w' => SP2 w' gb748 (.int .i64 t755) (.int .i64 t756) (SP3 w' gb749 (.int .i64 t757) (.int .i64 t758) (.bool t759) (SP3 w' gb745 (.int .i64 a0_0) (.int .i64 a0_1) (.bool a0_2) (SQ3 w' gb746 (.int .i64 a1_0) (.int .i64 a1_1) (.bool a1_2))))) (ds := [6]) #[false, false, false, false, false, false, false] (by kernel_rfl) rfl rfl (bS2 BK748 (bS3 BK749 (bS3 BK745 (bT3 BK746)))) (fun hHeld => ?_)
      generalize w46.drew = w47 at BK745 BK746 BK747 BK748 BK749 HB hHeld ⊢
      refine take_ (i := 0) (N := some 32) (v := ?_) (a' := ?_) #[true, false, false, false, false, false, false] rfl rfl (by kernel_rfl) (fun _ _ _ h => h) (Or.inl ⟨by rfl, ?_⟩) hHeld ?_ ?_
      rotate_left
      ·rintro w' ⟨s0, s1, s2, s3, s4, s5, s6, s7, s8, s9, s10⟩
       go_simp
       with_reducible rfl
      rotate_left
      ·simp only [Act.put, List.setIfInBounds_toArray, List.set_cons_zero, List.set_cons_succ, i64_w, i32_w]
       rfl
      refine take_ (i := 1) (N := some 33) (v := ?_) (a' := ?_) #[true, true, false, false, false, false, false] rfl rfl (by kernel_rfl) (fun _ _ _ h => h) (Or.inl ⟨by rfl, ?_⟩) hHeld ?_ ?_
      rotate_left
      ·rintro w' ⟨s0, s1, s2, s3, s4, s5, s6, s7, s8, s9, s10⟩
       go_simp
       with_reducible rfl
      rotate_left
      ·simp only [Act.put, List.setIfInBounds_toArray, List.set_cons_zero, List.set_cons_succ, i64_w, i32_w]
       rfl
      refine take_ (i := 2) (N := some 34) (v := ?_) (a' := ?_) #[true, true, true, false, false, false, false] rfl rfl (by kernel_rfl) (fun _ _ _ h => h) (Or.inl ⟨by rfl, ?_⟩) hHeld ?_ ?_
      rotate_left
      ·rintro w' ⟨s0, s1, s2, s3, s4, s5, s6, s7, s8, s9, s10⟩
       go_simp
       with_reducible rfl
      rotate_left
      ·simp only [Act.put, List.setIfInBounds_toArray, List.set_cons_zero, List.set_cons_succ, i64_w, i32_w]
       rfl
      refine take_ (i := 3) (N := some 35) (v := ?_) (a' := ?_) #[true, true, true, true, false, false, false] rfl rfl (by kernel_rfl) (fun _ _ _ h => h) (Or.inl ⟨by rfl, ?_⟩) hHeld ?_ ?_
      rotate_left
      ·rintro w' ⟨s0, s1, s2, s3, s4, s5, s6, s7, s8, s9, s10⟩
       go_simp
       with_reducible rfl
      rotate_left
      ·simp only [Act.put, List.setIfInBounds_toArray, List.set_cons_zero, List.set_cons_succ, i64_w, i32_w]
       rfl
      refine one_ (i := 4) (N := some 36) #[true, true, true, true, true, false, false] rfl rfl (by kernel_rfl) (by decide) (fun K hK => ?_)
      refine gO Try.func25 #[.agg #[.int .i64 t757, .int .i64 t758, .bool t759], .agg #[.int .i64 a0_0, .int .i64 a0_1, .bool a0_2], .agg #[.int .i64 a1_0, .int .i64 a1_1, .bool a1_2]] ?_
      with_reducible refine (impl_PairLine.calls k1 t757 t758 t759 a0_0 a0_1 a0_2 a1_0 a1_1 a1_2 t760 t761 _ A30.out).mono ?_
      rintro e w48 ⟨rfl, hb⟩
      refine ⟨_, rfl, ?_⟩
      replace BK745 := bB BK745 hb
      replace BK746 := bB BK746 hb
      replace BK747 := bB BK747 hb
      replace BK748 := bB BK748 hb
      replace BK749 := bB BK749 hb
      replace HB := bS HB hb
      (try clear hb)
      refine hK.out _ _ (bS2 BK748 (bS3 BK749 (bS3 BK745 (bT3 BK746)))) (fun hHeld => ?_)
      clear hK K
      refine nO (some 36) ?_
      refine one_ (i := 5) (N := some 37) #[true, true, true, true, true, true, false] rfl rfl (by kernel_rfl) (by decide) (fun K hK => ?_)
      refine gO Try.func21 #[.agg #[.int .i64 t755, .int .i64 t756], .agg #[.int .i64 t760, .int .i64 t761]] ?_
      with_reducible refine (impl_TwoMul.calls t755 t756 t760 t761 t762 t763 _ A31.out).mono ?_
      rintro e w49 ⟨rfl, hb⟩
      refine ⟨_, rfl, ?_⟩
      replace BK745 := bB BK745 hb
      replace BK746 := bB BK746 hb
      replace BK747 := bB BK747 hb
      replace BK748 := bB BK748 hb
      replace BK749 := bB BK749 hb
      replace HB := bS HB hb
      (try clear hb)
      refine hK.out _ _ (bS2 BK748 (bS3 BK749 (bS3 BK745 (bT3 BK746)))) (fun hHeld => ?_)
      clear hK K
      refine nO (some 37) ?_
      refine last_ (i := 6) (N := none) #[true, true, true, true, true, true, true] rfl rfl (by kernel_rfl) (by decide) (fun K hK => ?_)
      have hs50 : w49.cell? ⟨gb748, 0, none⟩ = some (.int .i64 t755) := bc BK748 0
      have hfs50 := blk_frozen BK748.out 0
      have hns50_0 := NB745_748.out
      have hns50_1 := NB746_748.out
      have hns50_2 := NB747_748.out
      have hns50_4 := NB749_748.out
      have hms50_0 := NB748_745.out
      have hms50_1 := NB748_746.out
      have hms50_2 := NB748_747.out
      have hms50_4 := NB748_749.out
      have hs51 : w49.cell? ⟨gb748, 1, none⟩ = some (.int .i64 t756) := bc BK748 1
      have hfs51 := blk_frozen BK748.out 1
      have hns51_0 := NB745_748.out
      have hns51_1 := NB746_748.out
      have hns51_2 := NB747_748.out
      have hns51_4 := NB749_748.out
      have hms51_0 := NB748_745.out
      have hms51_1 := NB748_746.out
      have hms51_2 := NB748_747.out
      have hms51_4 := NB748_749.out
      refine skip_ (w1 := ?_) (by rfl) rfl ?_ ?_
      rotate_left
      ·go_simp
       rfl
      refine hK.out _ _ ?_
      clear hK K
      refine done_ (by kernel_rfl) ?_
      obtain ⟨hcz52_0, hcz52_1, hcz52_2, hfz52_0, hfz52_1, hfz52_2⟩ := bK3 (w := w49) BK749
      obtain ⟨hnb53, hnc53⟩ := nB NB745_746
      obtain ⟨hnb54, hnc54⟩ := nB NB745_747
      obtain ⟨hnb55, hnc55⟩ := nB NB745_748
      obtain ⟨hcz56_0, hcz56_1, hcz56_2, hfz56_0, hfz56_1, hfz56_2⟩ := bK3 (w := w49) BK745
      try go_wp2_with (first | ((with_reducible refine gate_callee (f := 19) rfl ?_); refine gL (some 40) Try.func19 #[.agg #[.int .i64 t757, .int .i64 t758, .bool t759], .agg #[.int .i64 a0_0, .int .i64 a0_1, .bool a0_2]] ?_; (with_reducible refine (impl_PointAdd.calls k1 t757 t758 t759 a0_0 a0_1 a0_2 t764 t765 t766 _ A32.out).mono ?_); rintro e w57 ⟨rfl, hb⟩; refine ⟨_, rfl, ?_⟩; replace BK745 := bB BK745 hb; replace BK746 := bB BK746 hb; replace BK747 := bB BK747 hb; replace BK748 := bV 31 #[.int .i64 t762, .int .i64 t763] BK748 hb; replace BK749 := bB BK749 hb; replace HB := bS HB hb; (try clear hb); obtain ⟨hcz58_0, hcz58_1, hcz58_2, hfz58_0, hfz58_1, hfz58_2⟩ := bK3 (w := w57) BK749))
      go_roundg k1
      case measure => have := HK1.out; omega
      case rel => exact ⟨(wrap64 (x7_1 - 1)), (t762), (t763), (t764), (t765), (t766), rS, H', ⟨by have := HK1.out; omega⟩, ⟨bP BK745⟩, ⟨bP BK746⟩, ⟨bP BK747⟩, ⟨bP BK748⟩, ⟨bU BK749⟩, ⟨bZ HB⟩⟩
     ·rw [if_neg c29] at H
      have c29b0 : ((Go.bits .and .i64 (ji28) 1) == 1) = false := beq_eq_false_iff_ne.mpr c29
      have c29b1 : ((Go.bits .and .i64 (ji28) 1) != 1) = true := bne_iff_ne.mpr c29
      have H' := Aside0.mk H
      clear H
      try go_wp2
      replace BK745 := Aside0.mk (blk_drew BK745.out)
      replace BK746 := Aside0.mk (blk_drew BK746.out)
      replace BK747 := Aside0.mk (blk_drew BK747.out)
      replace BK748 := Aside0.mk (blk_drew BK748.out)
      replace BK749 := Aside0.mk (blk_drew BK749.out)
      replace HB := Aside0.mk (below_drew1 HB.out)
      refine start_ (n := 9) (S := fun w' => SP2 w' gb748 (.int .i64 x749000_1) (.int .i64 x749001_1) (SP3 w' gb749 (.int .i64 x750000_1) (.int .i64 x750001_1) (.bool x750002_1) (SQ3 w' gb746 (.int .i64 a1_0) (.int .i64 a1_1) (.bool a1_2)))) (ds := [8]) #[false, false, false, false, false, false, false, false, false] (by kernel_rfl) rfl rfl (bS2 BK748 (bS3 BK749 (bT3 BK746))) (fun hHeld => ?_); refine with_tabW impl_Miller.tab6 impl_Miller.bits6 (fun HT_ HW_ => ?_)
      generalize wr.drew = w59 at BK745 BK746 BK747 BK748 BK749 HB hHeld ⊢
      refine tI8 0 (some 16) HT_.out HW_.out hHeld ?_
      refine tI8 1 (some 17) HT_.out HW_.out hHeld ?_
      refine tI8 3 (some 19) HT_.out HW_.out hHeld ?_
      refine tI8 4 (some 20) HT_.out HW_.out hHeld ?_
      refine tI8 5 (some 21) HT_.out HW_.out hHeld ?_
      refine oI 2 (some 18) HT_.out (fun K hK => ?_)
      refine gO Try.func21 #[.agg #[.int .i64 x749000_1, .int .i64 x749001_1], .agg #[.int .i64 x749000_1, .int .i64 x749001_1]] ?_
      with_reducible refine (impl_TwoMul.calls x749000_1 x749001_1 x749000_1 x749001_1 t751 t752 _ A22.out).mono ?_
      rintro e w60 ⟨rfl, hb⟩
      refine ⟨_, rfl, ?_⟩
      replace BK745 := bB BK745 hb
      replace BK746 := bB BK746 hb
      replace BK747 := bB BK747 hb
      replace BK748 := bB BK748 hb
      replace BK749 := bB BK749 hb
      replace HB := bS HB hb
      (try clear hb)
      refine hK.out _ _ (bS2 BK748 (bS3 BK749 (bT3 BK746))) (fun hHeld => ?_)
      clear hK K
      refine nO (some 18) ?_
      refine oI 6 (some 22) HT_.out (fun K hK => ?_)
      refine gO Try.func25 #[.agg #[.int .i64 x750000_1, .int .i64 x750001_1, .bool x750002_1], .agg #[.int .i64 x750000_1, .int .i64 x750001_1, .bool x750002_1], .agg #[.int .i64 a1_0, .int .i64 a1_1, .bool a1_2]] ?_
      with_reducible refine (impl_PairLine.calls k1 x750000_1 x750001_1 x750002_1 x750000_1 x750001_1 x750002_1 a1_0 a1_1 a1_2 t753 t754 _ A23.out).mono ?_
      rintro e w61 ⟨rfl, hb⟩
      refine ⟨_, rfl, ?_⟩
      replace BK745 := bB BK745 hb
      replace BK746 := bB BK746 hb
      replace BK747 := bB BK747 hb
      replace BK748 := bB BK748 hb
      replace BK749 := bB BK749 hb
      replace HB := bS HB hb
      (try clear hb)
      refine hK.out _ _ (bS2 BK748 (bS3 BK749 (bT3 BK746))) (fun hHeld => ?_)
      clear hK K
      refine nO (some 22) ?_
      refine oI 7 (some 23) HT_.out (fun K hK => ?_)
      refine gO Try.func21 #[.agg #[.int .i64 t751, .int .i64 t752], .agg #[.int .i64 t753, .int .i64 t754]] ?_
      with_reducible refine (impl_TwoMul.calls t751 t752 t753 t754 t755 t756 _ A24.out).mono ?_
      rintro e w62 ⟨rfl, hb⟩
      refine ⟨_, rfl, ?_⟩
      replace BK745 := bB BK745 hb
      replace BK746 := bB BK746 hb
      replace BK747 := bB BK747 hb
      replace BK748 := bB BK748 hb
      replace BK749 := bB BK749 hb
      replace HB := bS HB hb
      (try clear hb)
      refine hK.out _ _ (bS2 BK748 (bS3 BK749 (bT3 BK746))) (fun hHeld => ?_)
      clear hK K
      refine nO (some 23) ?_
      refine last_ (i := 8) (N := none) #[true, true, true, true, true, true, true, true, true] rfl rfl (one_of HT_.out (by kernel_rfl)) (by decide) (fun K hK => ?_)
      have hs63 : w62.cell? ⟨gb748, 0, none⟩ = some (.int .i64 x749000_1) := bc BK748 0
      have hfs63 := blk_frozen BK748.out 0
      have hns63_0 := NB745_748.out
      have hns63_1 := NB746_748.out
      have hns63_2 := NB747_748.out
      have hns63_4 := NB749_748.out
      have hms63_0 := NB748_745.out
      have hms63_1 := NB748_746.out
      have hms63_2 := NB748_747.out
      have hms63_4 := NB748_749.out
      have hs64 : w62.cell? ⟨gb748, 1, none⟩ = some (.int .i64 x749001_1) := bc BK748 1
      have hfs64 := blk_frozen BK748.out 1
      have hns64_0 := NB745_748.out
      have hns64_1 := NB746_748.out
      have hns64_2 := NB747_748.out
      have hns64_4 := NB749_748.out
      have hms64_0 := NB748_745.out
      have hms64_1 := NB748_746.out
      have hms64_2 := NB748_747.out
      have hms64_4 := NB748_749.out
      refine skip_ (w1 := ?_) (by rfl) rfl ?_ ?_
      rotate_left
      ·go_simp
       rfl
      refine hK.out _ _ ?_
      clear hK K
      refine done_ (done_of HT_.out (by kernel_rfl)) ?_
      obtain ⟨hnb65, hnc65⟩ := nB NB749_745
      obtain ⟨hnb66, hnc66⟩ := nB NB749_746
      obtain ⟨hnb67, hnc67⟩ := nB NB749_747
      obtain ⟨hnb68, hnc68⟩ := nB NB749_748
      obtain ⟨hcz69_0, hcz69_1, hcz69_2, hfz69_0, hfz69_1, hfz69_2⟩ := bK3 (w := w62) BK749
      try go_wp2_with (first | ((with_reducible refine gate_callee (f := 19) rfl ?_); refine gL (some 26) Try.func19 #[.agg #[.int .i64 x750000_1, .int .i64 x750001_1, .bool x750002_1], .agg #[.int .i64 x750000_1, .int .i64 x750001_1, .bool x750002_1]] ?_; (with_reducible refine (impl_PointAdd.calls k1 x750000_1 x750001_1 x750002_1 x750000_1 x750001_1 x750002_1 t757 t758 t759 _ A25.out).mono ?_); rintro e w70 ⟨rfl, hb⟩; refine ⟨_, rfl, ?_⟩; replace BK745 := bB BK745 hb; replace BK746 := bB BK746 hb; replace BK747 := bB BK747 hb; replace BK748 := bV 31 #[.int .i64 t755, .int .i64 t756] BK748 hb; replace BK749 := bB BK749 hb; replace HB := bS HB hb; (try clear hb); obtain ⟨hcz71_0, hcz71_1, hcz71_2, hfz71_0, hfz71_1, hfz71_2⟩ := bK3 (w := w70) BK749))
      go_roundg k1
      case measure => have := HK1.out; omega
      case rel => exact ⟨(wrap64 (x7_1 - 1)), (t755), (t756), (t757), (t758), (t759), rS, H', ⟨by have := HK1.out; omega⟩, ⟨bP BK745⟩, ⟨bP BK746⟩, ⟨bP BK747⟩, ⟨bP BK748⟩, ⟨bU BK749⟩, ⟨bZ HB⟩⟩
    ·rw [if_neg c27] at H
     exact absurd H (by simp)
   ·rw [if_neg c21] at H
    have c21b0 : decide (0 ≤ x7_1) = false := decide_eq_false c21
    clear c21
    simp only [Option.some.injEq, Prod.mk.injEq] at H
    obtain ⟨rfl, rfl⟩ := H
    obtain ⟨hnb72, hnc72⟩ := nB NB748_745
    obtain ⟨hnb73, hnc73⟩ := nB NB748_746
    obtain ⟨hnb74, hnc74⟩ := nB NB748_747
    obtain ⟨hnb75, hnc75⟩ := nB NB748_749
    obtain ⟨hcz76_0, hcz76_1, hfz76_0, hfz76_1⟩ := bK2 (w := wr) BK748
    obtain ⟨hnb77, hnc77⟩ := nB NB747_745
    obtain ⟨hnb78, hnc78⟩ := nB NB747_746
    obtain ⟨hnb79, hnc79⟩ := nB NB747_749
    obtain ⟨hcz80_0, hcz80_1, hfz80_0, hfz80_1⟩ := bK2 (w := wr) BK747
    go_wp2
    refine rC gb747 31 #[.int .i64 x749000_1, .int .i64 x749001_1] (bU BK747) Try.underlying31 ?_
    exact ⟨rR, bZ HB⟩
/-! ### impl_TwoTurn: function 63 -/
def impl_TwoTurn.f (a0_0 : Int) (a0_1 : Int) : Option (Int × Int) := (impl_FpOf.f a0_0).bind fun t769 => ((impl_FpSub.f 0 a0_1).bind fun t770 => (some (t769, t770)))
def impl_TwoTurn.T1 : Bool × List (List Nat × List Nat) := (true, [([], []), ([0], [0]), ([1], [1]), ([], []), ([3], [3]), ([4, 2], [4]), ([2, 5], [2, 5]), ([6, 5, 0, 1, 2, 3, 4, 5, 6], [6])])
def impl_TwoTurn.B1 : List Nat := [0, 1, 3, 0, 8, 31, 63, 127]
theorem impl_TwoTurn.tab1 : rtab .any (opsOf Try.f63 1) = impl_TwoTurn.T1 := by kernel_rfl
theorem impl_TwoTurn.bits1 : waitsOk impl_TwoTurn.T1.2 impl_TwoTurn.B1 = true := by kernel_rfl
set_option maxHeartbeats 8000000 in
set_option maxRecDepth 100000 in
theorem impl_TwoTurn.calls (a0_0 : Int) (a0_1 : Int) (r1 : Int) (r2 : Int) (w : World) (h : impl_TwoTurn.f a0_0 a0_1 = some (r1, r2)) :
  Calls Try.prog 63 #[.agg #[.int .i64 a0_0, .int .i64 a0_1]] w fun e w' => e = .returned (.agg #[.int .i64 r1, .int .i64 r2]) ∧ Below w.heap.size w w' := by
 have hu31 := Try.underlying31
 have HB := Aside0.mk (Below.refl w.heap.size w)
 have H : ((impl_FpOf.f a0_0).bind fun t769 => ((impl_FpSub.f 0 a0_1).bind fun t770 => (some (t769, t770)))) = some (r1, r2) := h
 clear h
 replace H := Option.bind_eq_some_iff.mp H
 obtain ⟨t769, A20, H⟩ := H
 have A2 := Aside0.mk A20
 clear A20
 replace H := Option.bind_eq_some_iff.mp H
 obtain ⟨t770, A30, H⟩ := H
 have A3 := Aside0.mk A30
 clear A30
 simp only [Option.some.injEq, Prod.mk.injEq] at H
 obtain ⟨rfl, rfl⟩ := H
 go_enter Try.func63, Try.ntmps63
 try go_wp2_with (first | ((with_reducible refine gate_dst (N := 1) rfl ?_); refine bE 1 #[.int .i64 a0_0, .int .i64 a0_1] 31 ?_; intro gb767 hg w4 hbox hb; have BK767 := Aside0.mk (hbox); have GW767 := bG HB hg; have GE767 := bG HB hg; replace HB := bS HB hb; clear hb hbox hg) | ((with_reducible refine gate_dst (N := 2) rfl ?_); refine bE 2 #[.int .i64 0, .int .i64 0] 31 ?_; intro gb768 hg w5 hbox hb; have BK768 := Aside0.mk (hbox); have GW768 := bG HB hg; have GE768 := bG HB hg; replace HB := bS HB hb; have NB767_768 := bL BK767 hg; have NB768_767 := bR BK767 hg; replace BK767 := bB BK767 hb; clear hb hbox hg))
 replace BK767 := Aside0.mk (blk_drew BK767.out)
 replace BK768 := Aside0.mk (blk_drew BK768.out)
 replace HB := Aside0.mk (below_drew1 HB.out)
 refine start_ (n := 8) (S := fun w' => SQ2 w' gb767 (.int .i64 a0_0) (.int .i64 a0_1)) (ds := []) #[false, false, false, false, false, false, false, false] (by kernel_rfl) rfl rfl (bT2 BK767) (fun hHeld => ?_); refine with_tabW impl_TwoTurn.tab1 impl_TwoTurn.bits1 (fun HT_ HW_ => ?_)
 generalize w5.drew = w6 at BK767 BK768 HB hHeld ⊢
 refine pI 0 (some 3) HT_.out ?_
 refine pI 3 (some 6) HT_.out ?_
 refine tI2 1 (some 4) HT_.out HW_.out hHeld ?_
 refine tI2 4 (some 7) HT_.out HW_.out hHeld ?_
 refine oI 2 (some 5) HT_.out (fun K hK => ?_)
 refine gO Try.func100 #[.int .i64 a0_0] ?_
 with_reducible refine (impl_FpOf.calls a0_0 t769 _ A2.out).mono ?_
 rintro e w' ⟨rfl, ⟨nd, rfl⟩⟩
 refine ⟨_, rfl, ?_⟩
 refine hK.out _ _ (bT2 BK767) (fun hHeld => ?_)
 clear hK K
 refine nO (some 5) ?_
 refine oI 5 (some 8) HT_.out (fun K hK => ?_)
 refine gO Try.func67 #[.int .i64 0, .int .i64 a0_1] ?_
 with_reducible refine (impl_FpSub.calls 0 a0_1 t770 _ A3.out).mono ?_
 rintro e w' ⟨rfl, ⟨nd, rfl⟩⟩
 refine ⟨_, rfl, ?_⟩
 refine hK.out _ _ (bT2 BK767) (fun hHeld => ?_)
 clear hK K
 refine nO (some 8) ?_
 refine pI 6 (some 9) HT_.out ?_
 refine oI 7 (none) HT_.out (fun K hK => ?_)
 have hs7 : w6.cell? ⟨gb768, 0, none⟩ = some (.int .i64 0) := bc BK768 0
 have hfs7 := blk_frozen BK768.out 0
 obtain ⟨hns7_0, hms7_0⟩ := nB NB767_768
 have hs8 : w6.cell? ⟨gb768, 1, none⟩ = some (.int .i64 0) := bc BK768 1
 have hfs8 := blk_frozen BK768.out 1
 obtain ⟨hns8_0, hms8_0⟩ := nB NB767_768
 refine skip_ (w1 := ?_) (by rfl) rfl ?_ ?_
 rotate_left
 ·go_simp
  rfl
 refine hK.out _ _ ⟨((cell_far (p := ⟨gb768, _, none⟩) NB767_768.out _).trans (((cell_far (p := ⟨gb768, _, none⟩) NB767_768.out _).trans (hHeld.1)))), ((cell_far (p := ⟨gb768, _, none⟩) NB767_768.out _).trans (((cell_far (p := ⟨gb768, _, none⟩) NB767_768.out _).trans (hHeld.2))))⟩ (fun hHeld => ?_)
 clear hK K
 refine done_ (done_of HT_.out (by kernel_rfl)) ?_
 try go_wp2
 refine rC gb768 31 #[.int .i64 t769, .int .i64 t770] (bU BK768) Try.underlying31 ?_
 exact ⟨rR, bZ HB⟩
/-! ### impl_TwoInv: function 64 -/
def impl_TwoInv.f (k : Nat) (a0_0 : Int) (a0_1 : Int) : Option (Int × Int) := (impl_FpMul.f a0_0 a0_0).bind fun t773 => ((impl_FpMul.f a0_1 a0_1).bind fun t774 => ((impl_FpAdd.f t773 t774).bind fun t775 => ((impl_FpInv.f k t775).bind fun t776 => ((impl_FpMul.f a0_0 t776).bind fun t777 => ((impl_FpSub.f 0 a0_1).bind fun t778 => ((impl_FpMul.f t778 t776).bind fun t779 => (some (t777, t779))))))))
theorem impl_TwoInv.mono : ∀ a0 a1 k, LeO (impl_TwoInv.f k a0 a1) (impl_TwoInv.f (k + 1) a0 a1) := by
 intro a0 a1 k
 unfold impl_TwoInv.f
 repeat' first
   | (with_reducible exact impl_FpInv.mono _ _)
   | (with_reducible exact LeO.refl _)
   | (with_reducible exact LeO.none _)
   | (with_reducible refine LeO.ite ?_ ?_)
   | (with_reducible refine LeO.bind ?_ (fun _ => ?_))
   | exact impl_FpInv.mono _ _
   | exact LeO.none _
   | refine LeO.ite ?_ ?_
   | refine LeO.bind ?_ (fun _ => ?_)
def impl_TwoInv.T1 : Bool × List (List Nat × List Nat) := (true, [([], []), ([0], [0]), ([], []), ([2], [2]), ([1, 3], [1, 3]), ([], []), ([5], [5]), ([], []), ([7], [7]), ([6, 8, 4], [6, 8]), ([4, 9, 9], [4, 9]), ([10, 10], [10]), ([11, 11, 0, 1, 2, 3, 4, 5, 6, 7, 8, 9, 10, 11], [11])])
def impl_TwoInv.B1 : List Nat := [0, 1, 0, 4, 15, 0, 32, 0, 128, 511, 1023, 2047, 4095]
theorem impl_TwoInv.tab1 : rtab .any (opsOf Try.f64 1) = impl_TwoInv.T1 := by kernel_rfl
theorem impl_TwoInv.bits1 : waitsOk impl_TwoInv.T1.2 impl_TwoInv.B1 = true := by kernel_rfl
def impl_TwoInv.T2 : Bool × List (List Nat × List Nat) := (true, [([], []), ([0], [0]), ([], []), ([1, 2], [1, 2]), ([], []), ([4], [4]), ([5, 3], [5]), ([], []), ([6, 7, 6], [6, 7]), ([3, 8], [3, 8]), ([9, 8, 0, 1, 2, 3, 4, 5, 6, 7, 8, 9], [9])])
def impl_TwoInv.B2 : List Nat := [0, 1, 0, 7, 0, 16, 63, 0, 255, 511, 1023]
theorem impl_TwoInv.tab2 : rtab .any (opsOf Try.f64 2) = impl_TwoInv.T2 := by kernel_rfl
theorem impl_TwoInv.bits2 : waitsOk impl_TwoInv.T2.2 impl_TwoInv.B2 = true := by kernel_rfl
set_option maxHeartbeats 8000000 in
set_option maxRecDepth 100000 in
theorem impl_TwoInv.calls (k : Nat) (a0_0 : Int) (a0_1 : Int) (r1 : Int) (r2 : Int) (w : World) (h : impl_TwoInv.f k a0_0 a0_1 = some (r1, r2)) :
  Calls Try.prog 64 #[.agg #[.int .i64 a0_0, .int .i64 a0_1]] w fun e w' => e = .returned (.agg #[.int .i64 r1, .int .i64 r2]) ∧ Below w.heap.size w w' := by
 have hu31 := Try.underlying31
 have HB := Aside0.mk (Below.refl w.heap.size w)
 have H : ((impl_FpMul.f a0_0 a0_0).bind fun t773 => ((impl_FpMul.f a0_1 a0_1).bind fun t774 => ((impl_FpAdd.f t773 t774).bind fun t775 => ((impl_FpInv.f k t775).bind fun t776 => ((impl_FpMul.f a0_0 t776).bind fun t777 => ((impl_FpSub.f 0 a0_1).bind fun t778 => ((impl_FpMul.f t778 t776).bind fun t779 => (some (t777, t779))))))))) = some (r1, r2) := h
 clear h
 replace H := Option.bind_eq_some_iff.mp H
 obtain ⟨t773, A20, H⟩ := H
 have A2 := Aside0.mk A20
 clear A20
 replace H := Option.bind_eq_some_iff.mp H
 obtain ⟨t774, A30, H⟩ := H
 have A3 := Aside0.mk A30
 clear A30
 replace H := Option.bind_eq_some_iff.mp H
 obtain ⟨t775, A40, H⟩ := H
 have A4 := Aside0.mk A40
 clear A40
 replace H := Option.bind_eq_some_iff.mp H
 obtain ⟨t776, A50, H⟩ := H
 have A5 := Aside0.mk A50
 clear A50
 replace H := Option.bind_eq_some_iff.mp H
 obtain ⟨t777, A60, H⟩ := H
 have A6 := Aside0.mk A60
 clear A60
 replace H := Option.bind_eq_some_iff.mp H
 obtain ⟨t778, A70, H⟩ := H
 have A7 := Aside0.mk A70
 clear A70
 replace H := Option.bind_eq_some_iff.mp H
 obtain ⟨t779, A80, H⟩ := H
 have A8 := Aside0.mk A80
 clear A80
 simp only [Option.some.injEq, Prod.mk.injEq] at H
 obtain ⟨rfl, rfl⟩ := H
 go_enter Try.func64, Try.ntmps64
 try go_wp2_with (first | ((with_reducible refine gate_dst (N := 1) rfl ?_); refine bE 1 #[.int .i64 a0_0, .int .i64 a0_1] 31 ?_; intro gb771 hg w9 hbox hb; have BK771 := Aside0.mk (hbox); have GW771 := bG HB hg; have GE771 := bG HB hg; replace HB := bS HB hb; clear hb hbox hg) | ((with_reducible refine gate_dst (N := 2) rfl ?_); refine bE 2 #[.int .i64 0, .int .i64 0] 31 ?_; intro gb772 hg w10 hbox hb; have BK772 := Aside0.mk (hbox); have GW772 := bG HB hg; have GE772 := bG HB hg; replace HB := bS HB hb; have NB771_772 := bL BK771 hg; have NB772_771 := bR BK771 hg; replace BK771 := bB BK771 hb; clear hb hbox hg))
 replace BK771 := Aside0.mk (blk_drew BK771.out)
 replace BK772 := Aside0.mk (blk_drew BK772.out)
 replace HB := Aside0.mk (below_drew1 HB.out)
 refine start_ (n := 13) (S := fun w' => SQ2 w' gb771 (.int .i64 a0_0) (.int .i64 a0_1)) (ds := []) #[false, false, false, false, false, false, false, false, false, false, false, false, false] (by kernel_rfl) rfl rfl (bT2 BK771) (fun hHeld => ?_); refine with_tabW impl_TwoInv.tab1 impl_TwoInv.bits1 (fun HT_ HW_ => ?_)
 generalize w10.drew = w11 at BK771 BK772 HB hHeld ⊢
 refine pI 0 (some 4) HT_.out ?_
 refine pI 2 (some 6) HT_.out ?_
 refine pI 5 (some 9) HT_.out ?_
 refine pI 7 (some 11) HT_.out ?_
 refine tI2 1 (some 5) HT_.out HW_.out hHeld ?_
 refine tI2 3 (some 7) HT_.out HW_.out hHeld ?_
 refine tI2 6 (some 10) HT_.out HW_.out hHeld ?_
 refine tI2 8 (some 12) HT_.out HW_.out hHeld ?_
 refine oI 4 (some 8) HT_.out (fun K hK => ?_)
 refine gO Try.func68 #[.int .i64 a0_0, .int .i64 a0_0] ?_
 with_reducible refine (impl_FpMul.calls a0_0 a0_0 t773 _ A2.out).mono ?_
 rintro e w' ⟨rfl, ⟨nd, rfl⟩⟩
 refine ⟨_, rfl, ?_⟩
 refine hK.out _ _ (bT2 BK771) (fun hHeld => ?_)
 clear hK K
 refine nO (some 8) ?_
 refine oI 9 (some 13) HT_.out (fun K hK => ?_)
 refine gO Try.func68 #[.int .i64 a0_1, .int .i64 a0_1] ?_
 with_reducible refine (impl_FpMul.calls a0_1 a0_1 t774 _ A3.out).mono ?_
 rintro e w' ⟨rfl, ⟨nd, rfl⟩⟩
 refine ⟨_, rfl, ?_⟩
 refine hK.out _ _ (bT2 BK771) (fun hHeld => ?_)
 clear hK K
 refine nO (some 13) ?_
 refine oI 10 (some 14) HT_.out (fun K hK => ?_)
 refine gO Try.func69 #[.int .i64 t773, .int .i64 t774] ?_
 with_reducible refine (impl_FpAdd.calls t773 t774 t775 _ A4.out).mono ?_
 rintro e w' ⟨rfl, ⟨nd, rfl⟩⟩
 refine ⟨_, rfl, ?_⟩
 refine hK.out _ _ (bT2 BK771) (fun hHeld => ?_)
 clear hK K
 refine nO (some 14) ?_
 refine oI 11 (some 15) HT_.out (fun K hK => ?_)
 refine gO Try.func101 #[.int .i64 t775] ?_
 with_reducible refine (impl_FpInv.calls k t775 t776 _ A5.out).mono ?_
 rintro e w' ⟨rfl, ⟨nd, rfl⟩⟩
 refine ⟨_, rfl, ?_⟩
 refine hK.out _ _ (bT2 BK771) (fun hHeld => ?_)
 clear hK K
 refine nO (some 15) ?_
 refine pI 12 (some 3) HT_.out ?_
 refine done_ (done_of HT_.out (by kernel_rfl)) ?_
 try go_wp2
 (try simp only [World.drewN_drewN]); (try (rw [drewN_self w11]; generalize hq_ : World.drewN w11 _ = w11; replace BK771 : Aside0 (w11.heap[gb771]? = some (.cells #[.int .i64 a0_0, .int .i64 a0_1] 31 (0, 0))) := ⟨by rw [← hq_]; exact (bP BK771)⟩; replace BK772 : Aside0 (w11.heap[gb772]? = some (.cells #[.int .i64 0, .int .i64 0] 31 (0, 0))) := ⟨by rw [← hq_]; exact (bP BK772)⟩; replace HB : Aside0 (Below w.heap.size w w11) := ⟨by rw [← hq_]; exact (bZ HB)⟩; clear hq_))
 replace BK771 := Aside0.mk (blk_drew BK771.out)
 replace BK772 := Aside0.mk (blk_drew BK772.out)
 replace HB := Aside0.mk (below_drew1 HB.out)
 refine start_ (n := 11) (S := fun w' => SQ2 w' gb771 (.int .i64 a0_0) (.int .i64 a0_1)) (ds := []) #[false, false, false, false, false, false, false, false, false, false, false] (by kernel_rfl) rfl rfl (bT2 BK771) (fun hHeld => ?_); refine with_tabW impl_TwoInv.tab2 impl_TwoInv.bits2 (fun HT_ HW_ => ?_)
 generalize w11.drew = w12 at BK771 BK772 HB hHeld ⊢
 refine pI 0 (some 16) HT_.out ?_
 refine pI 2 (some 18) HT_.out ?_
 refine pI 4 (some 20) HT_.out ?_
 refine pI 7 (some 23) HT_.out ?_
 refine tI2 1 (some 17) HT_.out HW_.out hHeld ?_
 refine tI2 5 (some 21) HT_.out HW_.out hHeld ?_
 refine oI 3 (some 19) HT_.out (fun K hK => ?_)
 refine gO Try.func68 #[.int .i64 a0_0, .int .i64 t776] ?_
 with_reducible refine (impl_FpMul.calls a0_0 t776 t777 _ A6.out).mono ?_
 rintro e w' ⟨rfl, ⟨nd, rfl⟩⟩
 refine ⟨_, rfl, ?_⟩
 refine hK.out _ _ (bT2 BK771) (fun hHeld => ?_)
 clear hK K
 refine nO (some 19) ?_
 refine oI 6 (some 22) HT_.out (fun K hK => ?_)
 refine gO Try.func67 #[.int .i64 0, .int .i64 a0_1] ?_
 with_reducible refine (impl_FpSub.calls 0 a0_1 t778 _ A7.out).mono ?_
 rintro e w' ⟨rfl, ⟨nd, rfl⟩⟩
 refine ⟨_, rfl, ?_⟩
 refine hK.out _ _ (bT2 BK771) (fun hHeld => ?_)
 clear hK K
 refine nO (some 22) ?_
 refine oI 8 (some 24) HT_.out (fun K hK => ?_)
 refine gO Try.func68 #[.int .i64 t778, .int .i64 t776] ?_
 with_reducible refine (impl_FpMul.calls t778 t776 t779 _ A8.out).mono ?_
 rintro e w' ⟨rfl, ⟨nd, rfl⟩⟩
 refine ⟨_, rfl, ?_⟩
 refine hK.out _ _ (bT2 BK771) (fun hHeld => ?_)
 clear hK K
 refine nO (some 24) ?_
 refine pI 9 (some 25) HT_.out ?_
 refine oI 10 (none) HT_.out (fun K hK => ?_)
 have hs13 : w12.cell? ⟨gb772, 0, none⟩ = some (.int .i64 0) := bc BK772 0
 have hfs13 := blk_frozen BK772.out 0
 obtain ⟨hns13_0, hms13_0⟩ := nB NB771_772
 have hs14 : w12.cell? ⟨gb772, 1, none⟩ = some (.int .i64 0) := bc BK772 1
 have hfs14 := blk_frozen BK772.out 1
 obtain ⟨hns14_0, hms14_0⟩ := nB NB771_772
 refine skip_ (w1 := ?_) (by rfl) rfl ?_ ?_
 rotate_left
 ·go_simp
  rfl
 refine hK.out _ _ ⟨((cell_far (p := ⟨gb772, _, none⟩) NB771_772.out _).trans (((cell_far (p := ⟨gb772, _, none⟩) NB771_772.out _).trans (hHeld.1)))), ((cell_far (p := ⟨gb772, _, none⟩) NB771_772.out _).trans (((cell_far (p := ⟨gb772, _, none⟩) NB771_772.out _).trans (hHeld.2))))⟩ (fun hHeld => ?_)
 clear hK K
 refine done_ (done_of HT_.out (by kernel_rfl)) ?_
 try go_wp2
 refine rC gb772 31 #[.int .i64 t777, .int .i64 t779] (bU BK772) Try.underlying31 ?_
 exact ⟨rR, bZ HB⟩
/-! ### impl_Pairing: function 17 -/
def impl_Pairing.j0 : Nat → Bool → Int → Int → Bool → Int → Int → Bool → Option (Int × Int)
 | 0, _, _, _, _, _, _, _ => none
 | k + 1, x21, x781000, x781001, x781002, x782000, x782001, x782002 => if x21 = true then (some (1, 0)) else ((impl_Miller.f k x781000 x781001 x781002 x782000 x782001 x782002).bind fun bt785 => ((impl_TwoTurn.f bt785.1 bt785.2).bind fun bt788 => ((impl_TwoInv.f k bt785.1 bt785.2).bind fun bt790 => ((impl_TwoMul.f bt788.1 bt788.2 bt790.1 bt790.2).bind fun bt792 => ((impl_TwoPow.f k bt792.1 bt792.2 12).bind fun bt794 => (some (bt794.1, bt794.2)))))))
def impl_Pairing.f (k : Nat) (a0_0 : Int) (a0_1 : Int) (a0_2 : Bool) (a1_0 : Int) (a1_1 : Int) (a1_2 : Bool) : Option (Int × Int) := if a0_2 = true then (impl_Pairing.j0 k true a0_0 a0_1 a0_2 a1_0 a1_1 a1_2) else (if a1_2 = true then (impl_Pairing.j0 k true a0_0 a0_1 a0_2 a1_0 a1_1 a1_2) else ((impl_InGroup.f k a0_0 a0_1 a0_2).bind fun t783 => (if t783 = true then ((impl_InGroup.f k a1_0 a1_1 a1_2).bind fun t784 => (impl_Pairing.j0 k (!t784) a0_0 a0_1 a0_2 a1_0 a1_1 a1_2)) else (impl_Pairing.j0 k true a0_0 a0_1 a0_2 a1_0 a1_1 a1_2))))
theorem impl_Pairing.mono_l : ∀ k, (∀ y0 y1 y2 y3 y4 y5 y6, LeO (impl_Pairing.j0 k y0 y1 y2 y3 y4 y5 y6) (impl_Pairing.j0 (k + 1) y0 y1 y2 y3 y4 y5 y6))
 | 0 => fun _ _ _ _ _ _ _ r h => by simp [impl_Pairing.j0] at h
 | k + 1 => by
  have ih0 := impl_Pairing.mono_l k
  ·intro y0 y1 y2 y3 y4 y5 y6
   unfold impl_Pairing.j0
   repeat' first
   | (with_reducible exact ih0 _ _ _ _ _ _ _)
   | (with_reducible exact impl_InGroup.mono _ _ _ _)
   | (with_reducible exact impl_Miller.mono _ _ _ _ _ _ _)
   | (with_reducible exact impl_TwoInv.mono _ _ _)
   | (with_reducible exact impl_TwoPow.mono _ _ _ _)
   | (with_reducible exact LeO.refl _)
   | (with_reducible exact LeO.none _)
   | (with_reducible refine LeO.ite ?_ ?_)
   | (with_reducible refine LeO.bind ?_ (fun _ => ?_))
   | exact ih0 _ _ _ _ _ _ _
   | exact impl_InGroup.mono _ _ _ _
   | exact impl_Miller.mono _ _ _ _ _ _ _
   | exact impl_TwoInv.mono _ _ _
   | exact impl_TwoPow.mono _ _ _ _
   | exact LeO.none _
   | refine LeO.ite ?_ ?_
   | refine LeO.bind ?_ (fun _ => ?_)
theorem impl_Pairing.mono : ∀ a0 a1 a2 a3 a4 a5 k, LeO (impl_Pairing.f k a0 a1 a2 a3 a4 a5) (impl_Pairing.f (k + 1) a0 a1 a2 a3 a4 a5) := by
 intro a0 a1 a2 a3 a4 a5 k
 have ih0 := impl_Pairing.mono_l k
 unfold impl_Pairing.f
 repeat' first
   | (with_reducible exact ih0 _ _ _ _ _ _ _)
   | (with_reducible exact impl_InGroup.mono _ _ _ _)
   | (with_reducible exact impl_Miller.mono _ _ _ _ _ _ _)
   | (with_reducible exact impl_TwoInv.mono _ _ _)
   | (with_reducible exact impl_TwoPow.mono _ _ _ _)
   | (with_reducible exact LeO.refl _)
   | (with_reducible exact LeO.none _)
   | (with_reducible refine LeO.ite ?_ ?_)
   | (with_reducible refine LeO.bind ?_ (fun _ => ?_))
   | exact ih0 _ _ _ _ _ _ _
   | exact impl_InGroup.mono _ _ _ _
   | exact impl_Miller.mono _ _ _ _ _ _ _
   | exact impl_TwoInv.mono _ _ _
   | exact impl_TwoPow.mono _ _ _ _
   | exact LeO.none _
   | refine LeO.ite ?_ ?_
   | refine LeO.bind ?_ (fun _ => ?_)
set_option maxHeartbeats 8000000 in
set_option maxRecDepth 100000 in
theorem impl_Pairing.calls (k : Nat) (a0_0 : Int) (a0_1 : Int) (a0_2 : Bool) (a1_0 : Int) (a1_1 : Int) (a1_2 : Bool) (r1 : Int) (r2 : Int) (w : World) (h : impl_Pairing.f k a0_0 a0_1 a0_2 a1_0 a1_1 a1_2 = some (r1, r2)) :
  Calls Try.prog 17 #[.agg #[.int .i64 a0_0, .int .i64 a0_1, .bool a0_2], .agg #[.int .i64 a1_0, .int .i64 a1_1, .bool a1_2]] w fun e w' => e = .returned (.agg #[.int .i64 r1, .int .i64 r2]) ∧ Below w.heap.size w w' := by
 have hu25 := Try.underlying25
 have hu31 := Try.underlying31
 have HB := Aside0.mk (Below.refl w.heap.size w)
 have H : (if a0_2 = true then (impl_Pairing.j0 k true a0_0 a0_1 a0_2 a1_0 a1_1 a1_2) else (if a1_2 = true then (impl_Pairing.j0 k true a0_0 a0_1 a0_2 a1_0 a1_1 a1_2) else ((impl_InGroup.f k a0_0 a0_1 a0_2).bind fun t783 => (if t783 = true then ((impl_InGroup.f k a1_0 a1_1 a1_2).bind fun t784 => (impl_Pairing.j0 k (!t784) a0_0 a0_1 a0_2 a1_0 a1_1 a1_2)) else (impl_Pairing.j0 k true a0_0 a0_1 a0_2 a1_0 a1_1 a1_2))))) = some (r1, r2) := h
 clear h
 have HC3 := Aside0.mk H
 clear H
 go_enter Try.func17, Try.ntmps17
 go_upto_region 1 with (first | ((with_reducible refine gate_dst (N := 2) rfl ?_); refine bE 2 #[.int .i64 a0_0, .int .i64 a0_1, .bool a0_2] 25 ?_; intro gb780 hg w4 hbox hb; have BK780 := Aside0.mk (hbox); have GW780 := bG HB hg; have GE780 := bG HB hg; replace HB := bS HB hb; clear hb hbox hg) | ((with_reducible refine gate_dst (N := 3) rfl ?_); refine bE 3 #[.int .i64 a1_0, .int .i64 a1_1, .bool a1_2] 25 ?_; intro gb781 hg w5 hbox hb; have BK781 := Aside0.mk (hbox); have GW781 := bG HB hg; have GE781 := bG HB hg; replace HB := bS HB hb; have NB780_781 := bL BK780 hg; have NB781_780 := bR BK780 hg; replace BK780 := bB BK780 hb; clear hb hbox hg) | ((with_reducible refine gate_dst (N := 4) rfl ?_); refine bE 4 #[.int .i64 0, .int .i64 0] 31 ?_; intro gb782 hg w6 hbox hb; have BK782 := Aside0.mk (hbox); have GW782 := bG HB hg; have GE782 := bG HB hg; replace HB := bS HB hb; have NB780_782 := bL BK780 hg; have NB782_780 := bR BK780 hg; replace BK780 := bB BK780 hb; have NB781_782 := bL BK781 hg; have NB782_781 := bR BK781 hg; replace BK781 := bB BK781 hb; clear hb hbox hg))
 (try simp only [Act.put, List.setIfInBounds_toArray, List.set_cons_zero, List.set_cons_succ])
 go_cut [21] (fun v21 wc => ∃ (kq : Nat) (x21_2 : Bool), v21 = .bool x21_2 ∧ Aside0 (impl_Pairing.j0 kq x21_2 a0_0 a0_1 a0_2 a1_0 a1_1 a1_2 = some (r1, r2)) ∧ Aside0 (kq ≤ k) ∧ Aside0 (wc.heap[gb780]? = some (.cells #[.int .i64 a0_0, .int .i64 a0_1, .bool a0_2] 25 (0, 0))) ∧ Aside0 (wc.heap[gb781]? = some (.cells #[.int .i64 a1_0, .int .i64 a1_1, .bool a1_2] 25 (0, 0))) ∧ Aside0 (wc.heap[gb782]? = some (.cells #[.int .i64 0, .int .i64 0] 31 (0, 0))) ∧ Aside0 (Below w.heap.size w wc))
 case first =>
  have H := HC3.out
  clear HC3
  by_cases c7 : a0_2 = true
  ·subst c7
   rw [if_pos rfl] at H
   have H' := Aside0.mk H
   clear H
   obtain ⟨hnb8, hnc8⟩ := nB NB780_781
   obtain ⟨hnb9, hnc9⟩ := nB NB780_782
   obtain ⟨hcz10_0, hcz10_1, hcz10_2, hfz10_0, hfz10_1, hfz10_2⟩ := bK3 (w := w6) BK780
   go_wp2
   go_meet
   case rel => exact ⟨_, (true), rS, H', ⟨by first | omega | exact Nat.le_refl _⟩, ⟨bP BK780⟩, ⟨bP BK781⟩, ⟨bP BK782⟩, ⟨bZ HB⟩⟩
  ·replace c7 := Bool.eq_false_iff.mpr c7
   subst c7
   rw [if_neg (show ¬ (false = true) by decide)] at H
   by_cases c11 : a1_2 = true
   ·subst c11
    rw [if_pos rfl] at H
    have H' := Aside0.mk H
    clear H
    obtain ⟨hnb12, hnc12⟩ := nB NB780_781
    obtain ⟨hnb13, hnc13⟩ := nB NB780_782
    obtain ⟨hcz14_0, hcz14_1, hcz14_2, hfz14_0, hfz14_1, hfz14_2⟩ := bK3 (w := w6) BK780
    obtain ⟨hnb15, hnc15⟩ := nB NB781_782
    obtain ⟨hcz16_0, hcz16_1, hcz16_2, hfz16_0, hfz16_1, hfz16_2⟩ := bK3 (w := w6) BK781
    go_wp2
    go_meet
    case rel => exact ⟨_, (true), rS, H', ⟨by first | omega | exact Nat.le_refl _⟩, ⟨bP BK780⟩, ⟨bP BK781⟩, ⟨bP BK782⟩, ⟨bZ HB⟩⟩
   ·replace c11 := Bool.eq_false_iff.mpr c11
    subst c11
    rw [if_neg (show ¬ (false = true) by decide)] at H
    replace H := Option.bind_eq_some_iff.mp H
    obtain ⟨t783, A170, H⟩ := H
    have A17 := Aside0.mk A170
    clear A170
    by_cases c18 : t783 = true
    ·subst c18
     rw [if_pos rfl] at H
     replace H := Option.bind_eq_some_iff.mp H
     obtain ⟨t784, A190, H⟩ := H
     have A19 := Aside0.mk A190
     clear A190
     have H' := Aside0.mk H
     clear H
     obtain ⟨hnb20, hnc20⟩ := nB NB780_781
     obtain ⟨hnb21, hnc21⟩ := nB NB780_782
     obtain ⟨hcz22_0, hcz22_1, hcz22_2, hfz22_0, hfz22_1, hfz22_2⟩ := bK3 (w := w6) BK780
     obtain ⟨hnb23, hnc23⟩ := nB NB781_782
     obtain ⟨hcz24_0, hcz24_1, hcz24_2, hfz24_0, hfz24_1, hfz24_2⟩ := bK3 (w := w6) BK781
     go_wp2_with (first | (go_at_call 51; (with_reducible refine (impl_InGroup.calls k a0_0 a0_1 false true _ A17.out).mono ?_); rintro e w25 ⟨rfl, hb⟩; replace BK780 := bB BK780 hb; replace BK781 := bB BK781 hb; replace BK782 := bB BK782 hb; replace HB := bS HB hb; (try clear hb); obtain ⟨hcz26_0, hcz26_1, hcz26_2, hfz26_0, hfz26_1, hfz26_2⟩ := bK3 (w := w25) BK781) | (go_at_call 51; (with_reducible refine (impl_InGroup.calls k a1_0 a1_1 false t784 _ A19.out).mono ?_); rintro e w27 ⟨rfl, hb⟩; replace BK780 := bB BK780 hb; replace BK781 := bB BK781 hb; replace BK782 := bB BK782 hb; replace HB := bS HB hb; (try clear hb)))
     go_meet
     case rel => exact ⟨_, (!t784), rS, H', ⟨by first | omega | exact Nat.le_refl _⟩, ⟨bP BK780⟩, ⟨bP BK781⟩, ⟨bP BK782⟩, ⟨bZ HB⟩⟩
    ·replace c18 := Bool.eq_false_iff.mpr c18
     subst c18
     rw [if_neg (show ¬ (false = true) by decide)] at H
     have H' := Aside0.mk H
     clear H
     obtain ⟨hnb28, hnc28⟩ := nB NB780_781
     obtain ⟨hnb29, hnc29⟩ := nB NB780_782
     obtain ⟨hcz30_0, hcz30_1, hcz30_2, hfz30_0, hfz30_1, hfz30_2⟩ := bK3 (w := w6) BK780
     obtain ⟨hnb31, hnc31⟩ := nB NB781_782
     obtain ⟨hcz32_0, hcz32_1, hcz32_2, hfz32_0, hfz32_1, hfz32_2⟩ := bK3 (w := w6) BK781
     go_wp2_with (first | (go_at_call 51; (with_reducible refine (impl_InGroup.calls k a0_0 a0_1 false false _ A17.out).mono ?_); rintro e w33 ⟨rfl, hb⟩; replace BK780 := bB BK780 hb; replace BK781 := bB BK781 hb; replace BK782 := bB BK782 hb; replace HB := bS HB hb; (try clear hb)))
     go_meet
     case rel => exact ⟨_, (true), rS, H', ⟨by first | omega | exact Nat.le_refl _⟩, ⟨bP BK780⟩, ⟨bP BK781⟩, ⟨bP BK782⟩, ⟨bZ HB⟩⟩
 case rest =>
  clear HC3
  try clear c1
  try clear c2
  try clear p2
  try clear c3
  try clear c7
  try clear c8
  try clear c9
  try clear c11
  try clear c12
  try clear c13
  try clear c15
  try clear c17
  try clear c18
  try clear c20
  try clear c21
  try clear c23
  try clear c28
  try clear c29
  try clear c31
  try clear hcz10_0
  try clear hcz10_1
  try clear hcz10_2
  try clear hcz14_0
  try clear hcz14_1
  try clear hcz14_2
  try clear hcz16_0
  try clear hcz16_1
  try clear hcz16_2
  try clear hcz22_0
  try clear hcz22_1
  try clear hcz22_2
  try clear hcz24_0
  try clear hcz24_1
  try clear hcz24_2
  try clear hcz26_0
  try clear hcz26_1
  try clear hcz26_2
  try clear hcz30_0
  try clear hcz30_1
  try clear hcz30_2
  try clear hcz32_0
  try clear hcz32_1
  try clear hcz32_2
  try clear hfz10_0
  try clear hfz10_1
  try clear hfz10_2
  try clear hfz14_0
  try clear hfz14_1
  try clear hfz14_2
  try clear hfz16_0
  try clear hfz16_1
  try clear hfz16_2
  try clear hfz22_0
  try clear hfz22_1
  try clear hfz22_2
  try clear hfz24_0
  try clear hfz24_1
  try clear hfz24_2
  try clear hfz26_0
  try clear hfz26_1
  try clear hfz26_2
  try clear hfz30_0
  try clear hfz30_1
  try clear hfz30_2
  try clear hfz32_0
  try clear hfz32_1
  try clear hfz32_2
  obtain ⟨kq, x21_2, rfl, HA, HJ2, BK780, BK781, BK782, HB⟩ := hcut
  cases kq with
  | zero => exact absurd HA.out (by simp [impl_Pairing.j0])
  | succ kj2 =>
   have H := HA.out
   clear HA
   simp only [impl_Pairing.j0] at H
   by_cases c34 : x21_2 = true
   ·subst c34
    rw [if_pos rfl] at H
    simp only [Option.some.injEq, Prod.mk.injEq] at H
    obtain ⟨rfl, rfl⟩ := H
    obtain ⟨hnb35, hnc35⟩ := nB NB782_780
    obtain ⟨hnb36, hnc36⟩ := nB NB782_781
    obtain ⟨hcz37_0, hcz37_1, hfz37_0, hfz37_1⟩ := bK2 (w := wc) BK782
    go_wp2
    refine rC gb782 31 #[.int .i64 1, .int .i64 0] (bU BK782) Try.underlying31 ?_
    exact ⟨rR, bZ HB⟩
   ·replace c34 := Bool.eq_false_iff.mpr c34
    subst c34
    rw [if_neg (show ¬ (false = true) by decide)] at H
    replace H := Option.bind_eq_some_iff.mp H
    obtain ⟨⟨t785, t786⟩, A380, H⟩ := H
    have A38 := Aside0.mk A380
    clear A380
    replace H := Option.bind_eq_some_iff.mp H
    obtain ⟨⟨t788, t789⟩, A390, H⟩ := H
    have A39 := Aside0.mk A390
    clear A390
    replace H := Option.bind_eq_some_iff.mp H
    obtain ⟨⟨t790, t791⟩, A400, H⟩ := H
    have A40 := Aside0.mk A400
    clear A400
    replace H := Option.bind_eq_some_iff.mp H
    obtain ⟨⟨t792, t793⟩, A410, H⟩ := H
    have A41 := Aside0.mk A410
    clear A410
    replace H := Option.bind_eq_some_iff.mp H
    obtain ⟨⟨t794, t795⟩, A420, H⟩ := H
    have A42 := Aside0.mk A420
    clear A420
    simp only [Option.some.injEq, Prod.mk.injEq] at H
    obtain ⟨rfl, rfl⟩ := H
    obtain ⟨hnb43, hnc43⟩ := nB NB780_781
    obtain ⟨hnb44, hnc44⟩ := nB NB780_782
    obtain ⟨hcz45_0, hcz45_1, hcz45_2, hfz45_0, hfz45_1, hfz45_2⟩ := bK3 (w := wc) BK780
    obtain ⟨hnb46, hnc46⟩ := nB NB781_782
    obtain ⟨hcz47_0, hcz47_1, hcz47_2, hfz47_0, hfz47_1, hfz47_2⟩ := bK3 (w := wc) BK781
    try go_wp2_with (first | ((with_reducible refine gate_callee (f := 40) rfl ?_); refine gL (some 25) Try.func40 #[.agg #[.int .i64 a0_0, .int .i64 a0_1, .bool a0_2], .agg #[.int .i64 a1_0, .int .i64 a1_1, .bool a1_2]] ?_; (with_reducible refine (impl_Miller.calls kj2 a0_0 a0_1 a0_2 a1_0 a1_1 a1_2 t785 t786 _ A38.out).mono ?_); rintro e w48 ⟨rfl, hb⟩; refine ⟨_, rfl, ?_⟩; replace BK780 := bB BK780 hb; replace BK781 := bB BK781 hb; replace BK782 := bB BK782 hb; replace HB := bS HB hb; (try clear hb)) | ((with_reducible refine gate_dst (N := 5) rfl ?_); refine bE 5 #[.int .i64 0, .int .i64 0] 31 ?_; intro gb787 hg w49 hbox hb; have BK787 := Aside0.mk (hbox); have GW787 := bG HB hg; have GE787 := bG HB hg; replace HB := bS HB hb; have NB780_787 := bL BK780 hg; have NB787_780 := bR BK780 hg; replace BK780 := bB BK780 hb; have NB781_787 := bL BK781 hg; have NB787_781 := bR BK781 hg; replace BK781 := bB BK781 hb; have NB782_787 := bL BK782 hg; have NB787_782 := bR BK782 hg; replace BK782 := bB BK782 hb; clear hb hbox hg; obtain ⟨hnb50, hnc50⟩ := nB NB787_780; obtain ⟨hnb51, hnc51⟩ := nB NB787_781; obtain ⟨hnb52, hnc52⟩ := nB NB787_782; obtain ⟨hcz53_0, hcz53_1, hfz53_0, hfz53_1⟩ := bK2 (w := w49) BK787))
    obtain ⟨w54, hW_⟩ : ∃ W_ : World, W_ = ((w49.setCell ⟨gb787, 0, none⟩ (.int .i64 t785)).setCell ⟨gb787, 1, none⟩ (.int .i64 t786)) := ⟨_, rfl⟩
    replace BK780 := bW hW_ BK780
    replace BK781 := bW hW_ BK781
    replace BK782 := bW hW_ BK782
    replace BK787 := bX hW_ 31 #[.int .i64 t785, .int .i64 t786] BK787
    replace HB := zW hW_ HB
    rw [← hW_]
    clear hW_
    replace BK780 := Aside0.mk (blk_drew BK780.out)
    replace BK781 := Aside0.mk (blk_drew BK781.out)
    replace BK782 := Aside0.mk (blk_drew BK782.out)
    replace BK787 := Aside0.mk (blk_drew BK787.out)
    replace HB := Aside0.mk (below_drew1 HB.out)
    refine start_ (n := 7) (S := fun w' => SQ2 w' gb787 (.int .i64 t785) (.int .i64 t786)) (ds := []) #[false, false, false, false, false, false, false] (by kernel_rfl) rfl rfl (bT2 BK787) (fun hHeld => ?_)
    generalize w54.drew = w55 at BK780 BK781 BK782 BK787 HB hHeld ⊢
    refine take_ (i := 0) (N := some 26) (v := ?_) (a' := ?_) #[true, false, false, false, false, false, false] rfl rfl (by kernel_rfl) (fun _ _ _ h => h) (Or.inl ⟨by rfl, ?_⟩) hHeld ?_ ?_
    rotate_left
    ·rintro w' ⟨s0, s1⟩
     go_simp
     with_reducible rfl
    rotate_left
    ·simp only [Act.put, List.setIfInBounds_toArray, List.set_cons_zero, List.set_cons_succ, i64_w, i32_w]
     rfl
    refine take_ (i := 2) (N := some 28) (v := ?_) (a' := ?_) #[true, false, true, false, false, false, false] rfl rfl (by kernel_rfl) (fun _ _ _ h => h) (Or.inl ⟨by rfl, ?_⟩) hHeld ?_ ?_
    rotate_left
    ·rintro w' ⟨s0, s1⟩
     go_simp
     with_reducible rfl
    rotate_left
    ·simp only [Act.put, List.setIfInBounds_toArray, List.set_cons_zero, List.set_cons_succ, i64_w, i32_w]
     rfl
    refine one_ (i := 1) (N := some 27) #[true, true, true, false, false, false, false] rfl rfl (by kernel_rfl) (by decide) (fun K hK => ?_)
    refine gO Try.func63 #[.agg #[.int .i64 t785, .int .i64 t786]] ?_
    with_reducible refine (impl_TwoTurn.calls t785 t786 t788 t789 _ A39.out).mono ?_
    rintro e w56 ⟨rfl, hb⟩
    refine ⟨_, rfl, ?_⟩
    replace BK780 := bB BK780 hb
    replace BK781 := bB BK781 hb
    replace BK782 := bB BK782 hb
    replace BK787 := bB BK787 hb
    replace HB := bS HB hb
    (try clear hb)
    refine hK.out _ _ (bT2 BK787) (fun hHeld => ?_)
    clear hK K
    refine nO (some 27) ?_
    refine one_ (i := 3) (N := some 29) #[true, true, true, true, false, false, false] rfl rfl (by kernel_rfl) (by decide) (fun K hK => ?_)
    refine gO Try.func64 #[.agg #[.int .i64 t785, .int .i64 t786]] ?_
    with_reducible refine (impl_TwoInv.calls kj2 t785 t786 t790 t791 _ A40.out).mono ?_
    rintro e w57 ⟨rfl, hb⟩
    refine ⟨_, rfl, ?_⟩
    replace BK780 := bB BK780 hb
    replace BK781 := bB BK781 hb
    replace BK782 := bB BK782 hb
    replace BK787 := bB BK787 hb
    replace HB := bS HB hb
    (try clear hb)
    refine hK.out _ _ (bT2 BK787) (fun hHeld => ?_)
    clear hK K
    refine nO (some 29) ?_
    refine one_ (i := 4) (N := some 30) #[true, true, true, true, true, false, false] rfl rfl (by kernel_rfl) (by decide) (fun K hK => ?_)
    refine gO Try.func21 #[.agg #[.int .i64 t788, .int .i64 t789], .agg #[.int .i64 t790, .int .i64 t791]] ?_
    with_reducible refine (impl_TwoMul.calls t788 t789 t790 t791 t792 t793 _ A41.out).mono ?_
    rintro e w58 ⟨rfl, hb⟩
    refine ⟨_, rfl, ?_⟩
    replace BK780 := bB BK780 hb
    replace BK781 := bB BK781 hb
    replace BK782 := bB BK782 hb
    replace BK787 := bB BK787 hb
    replace HB := bS HB hb
    (try clear hb)
    refine hK.out _ _ (bT2 BK787) (fun hHeld => ?_)
    clear hK K
    refine nO (some 30) ?_
    refine one_ (i := 5) (N := some 31) #[true, true, true, true, true, true, false] rfl rfl (by kernel_rfl) (by decide) (fun K hK => ?_)
    refine gO Try.func20 #[.agg #[.int .i64 t792, .int .i64 t793], .int .i64 12] ?_
    with_reducible refine (impl_TwoPow.calls kj2 t792 t793 12 t794 t795 _ A42.out).mono ?_
    rintro e w59 ⟨rfl, hb⟩
    refine ⟨_, rfl, ?_⟩
    replace BK780 := bB BK780 hb
    replace BK781 := bB BK781 hb
    replace BK782 := bB BK782 hb
    replace BK787 := bB BK787 hb
    replace HB := bS HB hb
    (try clear hb)
    refine hK.out _ _ (bT2 BK787) (fun hHeld => ?_)
    clear hK K
    refine nO (some 31) ?_
    refine one_ (i := 6) (N := none) #[true, true, true, true, true, true, true] rfl rfl (by kernel_rfl) (by decide) (fun K hK => ?_)
    have hs60 : w59.cell? ⟨gb782, 0, none⟩ = some (.int .i64 0) := bc BK782 0
    have hfs60 := blk_frozen BK782.out 0
    have hns60_0 := NB780_782.out
    have hns60_1 := NB781_782.out
    have hns60_3 := NB787_782.out
    have hms60_0 := NB782_780.out
    have hms60_1 := NB782_781.out
    have hms60_3 := NB782_787.out
    have hs61 : w59.cell? ⟨gb782, 1, none⟩ = some (.int .i64 0) := bc BK782 1
    have hfs61 := blk_frozen BK782.out 1
    have hns61_0 := NB780_782.out
    have hns61_1 := NB781_782.out
    have hns61_3 := NB787_782.out
    have hms61_0 := NB782_780.out
    have hms61_1 := NB782_781.out
    have hms61_3 := NB782_787.out
    refine skip_ (w1 := ?_) (by rfl) rfl ?_ ?_
    rotate_left
    ·go_simp
     rfl
    refine hK.out _ _ ⟨((cell_far (p := ⟨gb782, _, none⟩) NB787_782.out _).trans (((cell_far (p := ⟨gb782, _, none⟩) NB787_782.out _).trans (hHeld.1)))), ((cell_far (p := ⟨gb782, _, none⟩) NB787_782.out _).trans (((cell_far (p := ⟨gb782, _, none⟩) NB787_782.out _).trans (hHeld.2))))⟩ (fun hHeld => ?_)
    clear hK K
    refine done_ (by kernel_rfl) ?_
    try go_wp2
    refine rC gb782 31 #[.int .i64 t794, .int .i64 t795] (bU BK782) Try.underlying31 ?_
    exact ⟨rR, bZ HB⟩
end Go.Proofs.Ytmbjefdkjdemhaa.Pf
end
section
namespace Go.Proofs.Ytmbjefdkjdemhaa.Pf
open Go.RowKit Go.Proofs.YtmbjefdkjdemhaaW.PrintWords Go.Proofs.YtmbjefdkjdemhaaW.PrintLast Go.Proofs.YtmbjefdkjdemhaaW.PrintMore
attribute [local go_sem] max2_int min2_int max_two min_two max_three min_three max_four min_four   -- for this text's walks alone
set_option linter.unusedVariables false
set_option linter.unusedSimpArgs false

attribute [local go_sem high] eqA31
/-! ### impl_PairsRight: function 42 -/
mutual
def impl_PairsRight.l0 : Nat → List (S25) → List (S25) → Int → Int → Int → Int → Option (Bool)
 | 0, _, _, _, _, _, _ => none
 | k + 1, x0, x1, x14, x15, x894000, x894001 => if x15 < x14 then (if 0 ≤ x15 then (if x15 < (x0.length : Int) then ((impl_InGroup.f k ((rd_T25 x0 x15).f0) ((rd_T25 x0 x15).f1) ((rd_T25 x0 x15).f2)).bind fun t895 => (if t895 = true then (if x15 < (x1.length : Int) then ((impl_InGroup.f k ((rd_T25 x1 x15).f0) ((rd_T25 x1 x15).f1) ((rd_T25 x1 x15).f2)).bind fun t897 => (impl_PairsRight.j1 k x0 x1 x15 x14 x15 (!t897) x894000 x894001)) else (none)) else (impl_PairsRight.j1 k x0 x1 x15 x14 x15 true x894000 x894001))) else (none)) else (none)) else (some (x894000 == 1 && (x894001 == 0)))
def impl_PairsRight.j1 : Nat → List (S25) → List (S25) → Int → Int → Int → Bool → Int → Int → Option (Bool)
 | 0, _, _, _, _, _, _, _, _ => none
 | k + 1, x0, x1, x6, x14, x15, x31, x894000, x894001 => if x31 = true then (some false) else (if 0 ≤ x6 then (if x6 < (x0.length : Int) then (if x6 < (x1.length : Int) then ((impl_Pairing.f k ((rd_T25 x0 x6).f0) ((rd_T25 x0 x6).f1) ((rd_T25 x0 x6).f2) ((rd_T25 x1 x6).f0) ((rd_T25 x1 x6).f1) ((rd_T25 x1 x6).f2)).bind fun bt900 => ((impl_TwoMul.f x894000 x894001 bt900.1 bt900.2).bind fun bt902 => (impl_PairsRight.l0 k x0 x1 x14 (wrap64 (x15 + 1)) bt902.1 bt902.2))) else (none)) else (none)) else (none))
end
def impl_PairsRight.f (k : Nat) (l0 : List (S25)) (l1 : List (S25)) : Option (Bool) := if (l0.length : Int) = (l1.length : Int) then (impl_PairsRight.l0 k l0 l1 (l0.length : Int) 0 1 0) else (some false)
theorem impl_PairsRight.mono_l : ∀ k, (∀ y0 y1 y2 y3 y4 y5, LeO (impl_PairsRight.l0 k y0 y1 y2 y3 y4 y5) (impl_PairsRight.l0 (k + 1) y0 y1 y2 y3 y4 y5)) ∧ (∀ y0 y1 y2 y3 y4 y5 y6 y7, LeO (impl_PairsRight.j1 k y0 y1 y2 y3 y4 y5 y6 y7) (impl_PairsRight.j1 (k + 1) y0 y1 y2 y3 y4 y5 y6 y7))
 | 0 => ⟨fun _ _ _ _ _ _ r h => by simp [impl_PairsRight.l0] at h, fun _ _ _ _ _ _ _ _ r h => by simp [impl_PairsRight.j1] at h⟩
 | k + 1 => by
  obtain ⟨ih0, ih1⟩ := impl_PairsRight.mono_l k
  refine ⟨?_, ?_⟩
  ·intro y0 y1 y2 y3 y4 y5
   unfold impl_PairsRight.l0
   repeat' first
   | (with_reducible exact ih0 _ _ _ _ _ _)
   | (with_reducible exact ih1 _ _ _ _ _ _ _ _)
   | (with_reducible exact impl_InGroup.mono _ _ _ _)
   | (with_reducible exact impl_Pairing.mono _ _ _ _ _ _ _)
   | (with_reducible exact LeO.refl _)
   | (with_reducible exact LeO.none _)
   | (with_reducible refine LeO.ite ?_ ?_)
   | (with_reducible refine LeO.bind ?_ (fun _ => ?_))
   | exact ih0 _ _ _ _ _ _
   | exact ih1 _ _ _ _ _ _ _ _
   | exact impl_InGroup.mono _ _ _ _
   | exact impl_Pairing.mono _ _ _ _ _ _ _
   | exact LeO.none _
   | refine LeO.ite ?_ ?_
   | refine LeO.bind ?_ (fun _ => ?_)
  ·intro y0 y1 y2 y3 y4 y5 y6 y7
   unfold impl_PairsRight.j1
   repeat' first
   | (with_reducible exact ih0 _ _ _ _ _ _)
   | (with_reducible exact ih1 _ _ _ _ _ _ _ _)
   | (with_reducible exact impl_InGroup.mono _ _ _ _)
   | (with_reducible exact impl_Pairing.mono _ _ _ _ _ _ _)
   | (with_reducible exact LeO.refl _)
   | (with_reducible exact LeO.none _)
   | (with_reducible refine LeO.ite ?_ ?_)
   | (with_reducible refine LeO.bind ?_ (fun _ => ?_))
   | exact ih0 _ _ _ _ _ _
   | exact ih1 _ _ _ _ _ _ _ _
   | exact impl_InGroup.mono _ _ _ _
   | exact impl_Pairing.mono _ _ _ _ _ _ _
   | exact LeO.none _
   | refine LeO.ite ?_ ?_
   | refine LeO.bind ?_ (fun _ => ?_)
theorem impl_PairsRight.mono : ∀ a0 a1 k, LeO (impl_PairsRight.f k a0 a1) (impl_PairsRight.f (k + 1) a0 a1) := by
 intro a0 a1 k
 obtain ⟨ih0, ih1⟩ := impl_PairsRight.mono_l k
 unfold impl_PairsRight.f
 repeat' first
   | (with_reducible exact ih0 _ _ _ _ _ _)
   | (with_reducible exact ih1 _ _ _ _ _ _ _ _)
   | (with_reducible exact impl_InGroup.mono _ _ _ _)
   | (with_reducible exact impl_Pairing.mono _ _ _ _ _ _ _)
   | (with_reducible exact LeO.refl _)
   | (with_reducible exact LeO.none _)
   | (with_reducible refine LeO.ite ?_ ?_)
   | (with_reducible refine LeO.bind ?_ (fun _ => ?_))
   | exact ih0 _ _ _ _ _ _
   | exact ih1 _ _ _ _ _ _ _ _
   | exact impl_InGroup.mono _ _ _ _
   | exact impl_Pairing.mono _ _ _ _ _ _ _
   | exact LeO.none _
   | refine LeO.ite ?_ ?_
   | refine LeO.bind ?_ (fun _ => ?_)
def impl_PairsRight.T9 : Bool × List (List Nat × List Nat) := (true, [([], []), ([], []), ([], []), ([1, 2], [1, 2]), ([3], [3]), ([], []), ([], []), ([5, 6], [5, 6]), ([7], [7]), ([4, 8], [4, 8]), ([0, 9, 9], [0, 9]), ([10, 10, 0, 1, 2, 3, 4, 5, 6, 7, 8, 9, 10], [10])])
def impl_PairsRight.B9 : List Nat := [0, 0, 0, 6, 14, 0, 0, 96, 224, 510, 1023, 2047]
theorem impl_PairsRight.tab9 : rtab .any (opsOf Try.f42 9) = impl_PairsRight.T9 := by kernel_rfl
theorem impl_PairsRight.bits9 : waitsOk impl_PairsRight.T9.2 impl_PairsRight.B9 = true := by kernel_rfl
set_option maxHeartbeats 8000000 in
set_option maxRecDepth 100000 in
theorem impl_PairsRight.calls (k : Nat) (A0 : Option Addr) (c0 : Nat) (l0 : List (S25)) (A1 : Option Addr) (c1 : Nat) (l1 : List (S25)) (r : Bool) (w : World) (hr0 : Kd.C k25 w A0 l0.length l0) (hc0 : l0.length ≤ c0) (hr1 : Kd.C k25 w A1 l1.length l1) (hc1 : l1.length ≤ c1) (h : impl_PairsRight.f k l0 l1 = some r) :
  Calls Try.prog 42 #[.slice A0 l0.length c0, .slice A1 l1.length c1] w fun e w' => e = .returned (.bool r) ∧ Below w.heap.size w w' := by
 have hu31 := Try.underlying31
 have hu25 := Try.underlying25
 have HR0 := Aside0.mk hr0
 have HC0 := Aside0.mk hc0
 clear hr0 hc0
 have HR1 := Aside0.mk hr1
 have HC1 := Aside0.mk hc1
 clear hr1 hc1
 have HB := Aside0.mk (Below.refl w.heap.size w)
 have H : (if (l0.length : Int) = (l1.length : Int) then (impl_PairsRight.l0 k l0 l1 (l0.length : Int) 0 1 0) else (some false)) = some r := h
 clear h
 by_cases c3 : (l0.length : Int) = (l1.length : Int)
 ·rw [if_pos c3] at H
  have c3b0 : ((l0.length : Int) == (l1.length : Int)) = true := beq_iff_eq.mpr c3
  have c3b1 : ((l0.length : Int) != (l1.length : Int)) = false := bne_eq_false_iff_eq.mpr c3
  have c3b2 : (l0.length == l1.length) = true := by first | simpa using c3 | (simp at c3 ⊢; omega)
  clear c3
  have H' := Aside0.mk H
  clear H
  go_enter Try.func42, Try.ntmps42
  go_wp2_with (first | ((with_reducible refine gate_dst (N := 5) rfl ?_); refine bE 5 #[.int .i64 0, .int .i64 0] 31 ?_; intro gb893 hg w4 hbox hb; have BK893 := Aside0.mk (hbox); have GW893 := bG HB hg; have GE893 := bG HB hg; replace HB := bS HB hb; clear hb hbox hg; obtain ⟨hcz5_0, hcz5_1, hfz5_0, hfz5_1⟩ := bK2 (w := w4) BK893))
  go_loopg [15] k (fun kq v15 w' => ∃ (x15_1 : Int) (x894000_1 : Int) (x894001_1 : Int), v15 = .int .i64 x15_1 ∧ Aside0 (impl_PairsRight.l0 kq l0 l1 (l0.length : Int) x15_1 x894000_1 x894001_1 = some r) ∧ Aside0 (kq ≤ k) ∧ Aside0 (w'.heap[gb893]? = some (.cells #[.int .i64 x894000_1, .int .i64 x894001_1] 31 (0, 0))) ∧ Aside0 (Below w.heap.size w w'))
  case atStart => exact ⟨(0), (1), (0), rS, H', ⟨Nat.le_refl _⟩, ⟨bU BK893⟩, ⟨bZ HB⟩⟩
  case round =>
   clear H'
   try clear c1
   try clear p2
   try clear c3
   try clear c3b0
   try clear c3b1
   try clear c3b2
   try clear c4
   try clear hcz5_0
   try clear hcz5_1
   try clear hfz5_0
   try clear hfz5_1
   obtain ⟨x15_1, x894000_1, x894001_1, rfl, HA, HK1, BK893, HB⟩ := hrel
   cases gk with
   | zero => exact absurd HA.out (by simp [impl_PairsRight.l0])
   | succ k1 =>
    have H := HA.out
    clear HA
    simp only [impl_PairsRight.l0] at H
    by_cases c6 : x15_1 < (l0.length : Int)
    ·rw [if_pos c6] at H
     have c6b0 : decide (x15_1 < (l0.length : Int)) = true := decide_eq_true c6
     clear c6
     have HC7 := Aside0.mk H
     clear H
     go_upto_region 7 with (fail)
     go_cut [31] (fun v31 wc => ∃ (kq : Nat) (x31_6 : Bool), v31 = .bool x31_6 ∧ Aside0 (impl_PairsRight.j1 kq l0 l1 x15_1 (l0.length : Int) x15_1 x31_6 x894000_1 x894001_1 = some r) ∧ Aside0 (kq ≤ k1) ∧ Aside0 (wc.heap[gb893]? = some (.cells #[.int .i64 x894000_1, .int .i64 x894001_1] 31 (0, 0))) ∧ Aside0 (Below w.heap.size w wc))
     case first =>
      have H := HC7.out
      clear HC7
      by_cases c8 : 0 ≤ x15_1
      ·rw [if_pos c8] at H
       have c8b0 : decide (0 ≤ x15_1) = true := decide_eq_true c8
       clear c8
       (first | rw [c8b0] | (simp only [i64_w, i32_w]; rw [c8b0]) | rw [c8b1] | skip)
       by_cases c9 : x15_1 < (l0.length : Int)
       ·rw [if_pos c9] at H
        have c9b0 : decide (x15_1 < (l0.length : Int)) = true := decide_eq_true c9
        clear c9
        replace H := Option.bind_eq_some_iff.mp H
        obtain ⟨t895, A100, H⟩ := H
        have A10 := Aside0.mk A100
        clear A100
        by_cases c11 : t895 = true
        ·subst c11
         rw [if_pos rfl] at H
         by_cases c12 : x15_1 < (l1.length : Int)
         ·rw [if_pos c12] at H
          have c12b0 : decide (x15_1 < (l1.length : Int)) = true := decide_eq_true c12
          clear c12
          replace H := Option.bind_eq_some_iff.mp H
          obtain ⟨t897, A130, H⟩ := H
          have A13 := Aside0.mk A130
          clear A130
          have H' := Aside0.mk H
          clear H
          have p894 : 0 ≤ (x15_1 : Int) := of_decide_eq_true (by first | (with_reducible assumption) | assumption)
          have q894 : x15_1 < (l0.length : Int) := of_decide_eq_true (by first | (with_reducible assumption) | assumption)
          obtain ⟨ad894, e894, hx894_0, hx894_1, hx894_2⟩ := at_T25 HR0.out x15_1 p894 q894
          cases e894
          replace hx894_0 := hC HB hx894_0
          replace hx894_1 := hC HB hx894_1
          replace hx894_2 := hC HB hx894_2
          replace p894 := eq_true p894
          replace q894 := eq_true q894
          go_wp2_with (first | ((with_reducible refine gate_callee (f := 51) rfl ?_); refine gL (some 22) Try.func51 #[.agg #[.int .i64 ((rd_T25 l0 x15_1).f0), .int .i64 ((rd_T25 l0 x15_1).f1), .bool ((rd_T25 l0 x15_1).f2)]] ?_; (with_reducible refine (impl_InGroup.calls k1 ((rd_T25 l0 x15_1).f0) ((rd_T25 l0 x15_1).f1) ((rd_T25 l0 x15_1).f2) true _ A10.out).mono ?_); rintro e w14 ⟨rfl, hb⟩; refine ⟨_, rfl, ?_⟩; replace BK893 := bB BK893 hb; replace HB := bS HB hb; (try clear hb); have p896 : 0 ≤ (x15_1 : Int) := of_decide_eq_true (by first | (with_reducible assumption) | assumption); have q896 : x15_1 < (l1.length : Int) := of_decide_eq_true (by first | (with_reducible assumption) | assumption); obtain ⟨ad896, e896, hx896_0, hx896_1, hx896_2⟩ := at_T25 HR1.out x15_1 p896 q896; cases e896; replace hx896_0 := hC HB hx896_0; replace hx896_1 := hC HB hx896_1; replace hx896_2 := hC HB hx896_2; replace p896 := eq_true p896; replace q896 := eq_true q896) | (go_at_call 51; (with_reducible refine (impl_InGroup.calls k1 ((rd_T25 l1 x15_1).f0) ((rd_T25 l1 x15_1).f1) ((rd_T25 l1 x15_1).f2) t897 _ A13.out).mono ?_); rintro e w15 ⟨rfl, hb⟩; replace BK893 := bB BK893 hb; replace HB := bS HB hb; (try clear hb)))
          go_meet
          case rel => exact ⟨_, (!t897), rS, H', ⟨by have := HK1.out; first | omega | exact Nat.le_refl _⟩, ⟨bP BK893⟩, ⟨bZ HB⟩⟩
         ·rw [if_neg c12] at H
          exact absurd H (by simp)
        ·replace c11 := Bool.eq_false_iff.mpr c11
         subst c11
         rw [if_neg (show ¬ (false = true) by decide)] at H
         have H' := Aside0.mk H
         clear H
         have p894 : 0 ≤ (x15_1 : Int) := of_decide_eq_true (by first | (with_reducible assumption) | assumption)
         have q894 : x15_1 < (l0.length : Int) := of_decide_eq_true (by first | (with_reducible assumption) | assumption)
         obtain ⟨ad894, e894, hx894_0, hx894_1, hx894_2⟩ := at_T25 HR0.out x15_1 p894 q894
         cases e894
         replace hx894_0 := hC HB hx894_0
         replace hx894_1 := hC HB hx894_1
         replace hx894_2 := hC HB hx894_2
         replace p894 := eq_true p894
         replace q894 := eq_true q894
         go_wp2_with (first | ((with_reducible refine gate_callee (f := 51) rfl ?_); refine gL (some 22) Try.func51 #[.agg #[.int .i64 ((rd_T25 l0 x15_1).f0), .int .i64 ((rd_T25 l0 x15_1).f1), .bool ((rd_T25 l0 x15_1).f2)]] ?_; (with_reducible refine (impl_InGroup.calls k1 ((rd_T25 l0 x15_1).f0) ((rd_T25 l0 x15_1).f1) ((rd_T25 l0 x15_1).f2) false _ A10.out).mono ?_); rintro e w16 ⟨rfl, hb⟩; refine ⟨_, rfl, ?_⟩; replace BK893 := bB BK893 hb; replace HB := bS HB hb; (try clear hb)))
         go_meet
         case rel => exact ⟨_, (true), rS, H', ⟨by have := HK1.out; first | omega | exact Nat.le_refl _⟩, ⟨bP BK893⟩, ⟨bZ HB⟩⟩
       ·rw [if_neg c9] at H
        exact absurd H (by simp)
      ·rw [if_neg c8] at H
       exact absurd H (by simp)
     case rest =>
      clear HC7
      try clear c1
      try clear p2
      try clear c3
      try clear c3b0
      try clear c3b1
      try clear c3b2
      try clear c4
      try clear c5
      try clear c6
      try clear c6b0
      try clear c8
      try clear c8b0
      try clear p8
      try clear q8
      try clear hx8
      try clear c9
      try clear c9b0
      try clear c11
      try clear c12
      try clear c12b0
      try clear hcz5_0
      try clear hcz5_1
      try clear hfz5_0
      try clear hfz5_1
      try clear hx894_0
      try clear hx894_1
      try clear hx894_2
      try clear hx896_0
      try clear hx896_1
      try clear hx896_2
      try clear p2
      try clear p894
      try clear p896
      try clear q894
      try clear q896
      obtain ⟨kq, x31_6, rfl, HA, HJ6, BK893, HB⟩ := hcut
      cases kq with
      | zero => exact absurd HA.out (by simp [impl_PairsRight.j1])
      | succ kj6 =>
       have H := HA.out
       clear HA
       simp only [impl_PairsRight.j1] at H
       by_cases c17 : x31_6 = true
       ·subst c17
        rw [if_pos rfl] at H
        obtain rfl := Option.some.inj H
        go_wp2
        go_ret
        exact ⟨rR, bZ HB⟩
       ·replace c17 := Bool.eq_false_iff.mpr c17
        subst c17
        rw [if_neg (show ¬ (false = true) by decide)] at H
        by_cases c18 : 0 ≤ x15_1
        ·rw [if_pos c18] at H
         have c18b0 : decide (0 ≤ x15_1) = true := decide_eq_true c18
         clear c18
         by_cases c19 : x15_1 < (l0.length : Int)
         ·rw [if_pos c19] at H
          have c19b0 : decide (x15_1 < (l0.length : Int)) = true := decide_eq_true c19
          clear c19
          by_cases c20 : x15_1 < (l1.length : Int)
          ·rw [if_pos c20] at H
           have c20b0 : decide (x15_1 < (l1.length : Int)) = true := decide_eq_true c20
           clear c20
           replace H := Option.bind_eq_some_iff.mp H
           obtain ⟨⟨t900, t901⟩, A210, H⟩ := H
           have A21 := Aside0.mk A210
           clear A210
           replace H := Option.bind_eq_some_iff.mp H
           obtain ⟨⟨t902, t903⟩, A220, H⟩ := H
           have A22 := Aside0.mk A220
           clear A220
           have H' := Aside0.mk H
           clear H
           try go_wp2
           replace BK893 := Aside0.mk (blk_drew BK893.out)
           replace HB := Aside0.mk (below_drew1 HB.out)
           have p898 : 0 ≤ (x15_1 : Int) := of_decide_eq_true (by first | (with_reducible assumption) | assumption)
           have q898 : x15_1 < (l0.length : Int) := of_decide_eq_true (by first | (with_reducible assumption) | assumption)
           obtain ⟨ad898, e898, hx898_0, hx898_1, hx898_2⟩ := at_T25 HR0.out x15_1 p898 q898
           have hw898_2 := hx898_2
           have hw898_1 := hx898_1
           have hw898_0 := hx898_0
           cases e898
           replace hx898_0 := hC HB hx898_0
           replace hx898_1 := hC HB hx898_1
           replace hx898_2 := hC HB hx898_2
           replace p898 := eq_true p898
           replace q898 := eq_true q898
           have p899 : 0 ≤ (x15_1 : Int) := of_decide_eq_true (by first | (with_reducible assumption) | assumption)
           have q899 : x15_1 < (l1.length : Int) := of_decide_eq_true (by first | (with_reducible assumption) | assumption)
           obtain ⟨ad899, e899, hx899_0, hx899_1, hx899_2⟩ := at_T25 HR1.out x15_1 p899 q899
           have hw899_2 := hx899_2
           have hw899_1 := hx899_1
           have hw899_0 := hx899_0
           cases e899
           replace hx899_0 := hC HB hx899_0
           replace hx899_1 := hC HB hx899_1
           replace hx899_2 := hC HB hx899_2
           replace p899 := eq_true p899
           replace q899 := eq_true q899
           refine start_ (n := 12) (S := fun w' => w'.cell? ⟨gb893, 0, none⟩ = some (.int .i64 x894000_1) ∧ w'.cell? ⟨gb893, 1, none⟩ = some (.int .i64 x894001_1) ∧ w'.cell? (ad898.add ((x15_1).toNat * 3)) = some (.int .i64 ((rd_T25 l0 x15_1).f0)) ∧ w'.cell? ⟨(ad898.add ((x15_1).toNat * 3)).block, (ad898.add ((x15_1).toNat * 3)).off + 1, none⟩ = some (.int .i64 ((rd_T25 l0 x15_1).f1)) ∧ w'.cell? ⟨(ad898.add ((x15_1).toNat * 3)).block, (ad898.add ((x15_1).toNat * 3)).off + 2, none⟩ = some (.bool ((rd_T25 l0 x15_1).f2)) ∧ w'.cell? (ad899.add ((x15_1).toNat * 3)) = some (.int .i64 ((rd_T25 l1 x15_1).f0)) ∧ w'.cell? ⟨(ad899.add ((x15_1).toNat * 3)).block, (ad899.add ((x15_1).toNat * 3)).off + 1, none⟩ = some (.int .i64 ((rd_T25 l1 x15_1).f1)) ∧ w'.cell? ⟨(ad899.add ((x15_1).toNat * 3)).block, (ad899.add ((x15_1).toNat * 3)).off + 2, none⟩ = some (.bool ((rd_T25 l1 x15_1).f2))) (ds := [11]) #[false, false, false, false, false, false, false, false, false, false, false, false] (by kernel_rfl) rfl rfl ⟨bc BK893 0, bc BK893 1, (hC HB hw898_0), (hC HB hw898_1), (hC HB hw898_2), (hC HB hw899_0), (hC HB hw899_1), (hC HB hw899_2)⟩ (fun hHeld => ?_); refine with_tabW impl_PairsRight.tab9 impl_PairsRight.bits9 (fun HT_ HW_ => ?_)
           generalize wc.drew = w23 at BK893 HB hx898_0 hx898_1 hx898_2 hx899_0 hx899_1 hx899_2 hHeld ⊢
           refine pI 1 (some 33) HT_.out ?_
           refine pI 2 (some 34) HT_.out ?_
           refine pI 3 (some 35) HT_.out ?_
           refine pI 5 (some 37) HT_.out ?_
           refine pI 6 (some 38) HT_.out ?_
           refine pI 7 (some 39) HT_.out ?_
           refine tI8 0 (some 32) HT_.out HW_.out hHeld ?_
           refine tI8 4 (some 36) HT_.out HW_.out hHeld ?_
           refine tI8 8 (some 40) HT_.out HW_.out hHeld ?_
           refine oI 9 (some 41) HT_.out (fun K hK => ?_)
           refine gO Try.func17 #[.agg #[.int .i64 ((rd_T25 l0 x15_1).f0), .int .i64 ((rd_T25 l0 x15_1).f1), .bool ((rd_T25 l0 x15_1).f2)], .agg #[.int .i64 ((rd_T25 l1 x15_1).f0), .int .i64 ((rd_T25 l1 x15_1).f1), .bool ((rd_T25 l1 x15_1).f2)]] ?_
           with_reducible refine (impl_Pairing.calls kj6 ((rd_T25 l0 x15_1).f0) ((rd_T25 l0 x15_1).f1) ((rd_T25 l0 x15_1).f2) ((rd_T25 l1 x15_1).f0) ((rd_T25 l1 x15_1).f1) ((rd_T25 l1 x15_1).f2) t900 t901 _ A21.out).mono ?_
           rintro e w24 ⟨rfl, hb⟩
           refine ⟨_, rfl, ?_⟩
           replace BK893 := bB BK893 hb
           replace HB := bS HB hb
           (try clear hb)
           refine hK.out _ _ ⟨bc BK893 0, bc BK893 1, (hC HB hw898_0), (hC HB hw898_1), (hC HB hw898_2), (hC HB hw899_0), (hC HB hw899_1), (hC HB hw899_2)⟩ (fun hHeld => ?_)
           clear hK K
           refine nO (some 41) ?_
           refine oI 10 (some 42) HT_.out (fun K hK => ?_)
           refine gO Try.func21 #[.agg #[.int .i64 x894000_1, .int .i64 x894001_1], .agg #[.int .i64 t900, .int .i64 t901]] ?_
           with_reducible refine (impl_TwoMul.calls x894000_1 x894001_1 t900 t901 t902 t903 _ A22.out).mono ?_
           rintro e w25 ⟨rfl, hb⟩
           refine ⟨_, rfl, ?_⟩
           replace BK893 := bB BK893 hb
           replace HB := bS HB hb
           (try clear hb)
           refine hK.out _ _ ⟨bc BK893 0, bc BK893 1, (hC HB hw898_0), (hC HB hw898_1), (hC HB hw898_2), (hC HB hw899_0), (hC HB hw899_1), (hC HB hw899_2)⟩ (fun hHeld => ?_)
           clear hK K
           refine nO (some 42) ?_
           refine last_ (i := 11) (N := none) #[true, true, true, true, true, true, true, true, true, true, true, true] rfl rfl (one_of HT_.out (by kernel_rfl)) (by decide) (fun K hK => ?_)
           have hs26 : w25.cell? ⟨gb893, 0, none⟩ = some (.int .i64 x894000_1) := bc BK893 0
           have hfs26 := blk_frozen BK893.out 0
           have hs27 : w25.cell? ⟨gb893, 1, none⟩ = some (.int .i64 x894001_1) := bc BK893 1
           have hfs27 := blk_frozen BK893.out 1
           refine skip_ (w1 := ?_) (by rfl) rfl ?_ ?_
           rotate_left
           ·go_simp
            rfl
           refine hK.out _ _ ?_
           clear hK K
           refine done_ (done_of HT_.out (by kernel_rfl)) ?_
           try go_wp2
           go_roundg kj6
           case measure => have := HK1.out; have := HJ6.out; omega
           case rel => exact ⟨(wrap64 (x15_1 + 1)), (t902), (t903), rS, H', ⟨by have := HK1.out; have := HJ6.out; omega⟩, ⟨bU BK893⟩, ⟨bZ HB⟩⟩
          ·rw [if_neg c20] at H
           exact absurd H (by simp)
         ·rw [if_neg c19] at H
          exact absurd H (by simp)
        ·rw [if_neg c18] at H
         exact absurd H (by simp)
    ·rw [if_neg c6] at H
     have c6b0 : decide (x15_1 < (l0.length : Int)) = false := decide_eq_false c6
     clear c6
     obtain rfl := Option.some.inj H
     obtain ⟨hcz28_0, hcz28_1, hfz28_0, hfz28_1⟩ := bK2 (w := wr) BK893
     go_wp2
     go_ret
     exact ⟨rR, bZ HB⟩
 ·rw [if_neg c3] at H
  have c3b0 : ((l0.length : Int) == (l1.length : Int)) = false := beq_eq_false_iff_ne.mpr c3
  have c3b1 : ((l0.length : Int) != (l1.length : Int)) = true := bne_iff_ne.mpr c3
  have c3b2 : (l0.length == l1.length) = false := by first | simpa using c3 | (simp at c3 ⊢; omega)
  obtain rfl := Option.some.inj H
  go_enter Try.func42, Try.ntmps42
  go_wp2
  go_ret
  exact ⟨rR, bZ HB⟩

end Go.Proofs.Ytmbjefdkjdemhaa.Pf
end
section
/- What is proved here: what the laws' own helpers over lists of points answer (a copy is the list, equal lists are equal). No conditions but that a list fits into memory. -/
set_option linter.unusedVariables false
set_option linter.unusedSimpArgs false
namespace Go.Proofs.Ytmbjefdkjdemhaa.Pts
open Go.RowKit Go.Proofs.Ytmbjefdkjdemhaa.Pf Go.Proofs.YtmbjefdkjdemhaaW.PrintWords Go.Proofs.Ytmbjefdkjdemhaa.Link
theorem rdB (xs : List S25) (n : Nat) (h : n < xs.length) : rd_T25 xs (n : Int) = xs[n] := by
  unfold rd_T25
  rw [Int.toNat_natCast, List.getD_eq_getElem?_getD, List.getElem?_eq_getElem h, Option.getD_some]
theorem sz_ge (n : Nat) (m : Int) (h0 : 0 ≤ m) (h1 : m ≤ 1048576) (hn : (n : Int) ≤ 9223372036854775807) (h : ¬ wrap64 (m - (n : Int)) < 0) : (n : Int) ≤ m := by
  rw [wrap_in (by omega) (by omega)] at h; omega
end Go.Proofs.Ytmbjefdkjdemhaa.Pts
end
section
/- What is proved here: what the laws' marks over lists of points answer, and what CommitteeOk answers, of the program and of the reference alike. No conditions but that a list fits into memory. -/
set_option linter.unusedVariables false
set_option linter.unusedSimpArgs false
namespace Go.Proofs.Ytmbjefdkjdemhaa.Comm
open Go.RowKit Go.Proofs.Ytmbjefdkjdemhaa.Pf Go.Proofs.YtmbjefdkjdemhaaW.PrintWords Go.Proofs.Ytmbjefdkjdemhaa.Crv Go.Proofs.Ytmbjefdkjdemhaa.Link Go.Proofs.Ytmbjefdkjdemhaa.Pts
abbrev PS := S25
theorem set_mid (us : List PS) (y v : PS) (ys : List PS) (n : Nat) (h : us.length = n) : (us ++ y :: ys).set n v = us ++ v :: ys := by
  subst h
  rw [List.set_append_right _ _ (by omega), Nat.sub_self, List.set_cons_zero]
theorem rd_mid (us : List PS) (y : PS) (ys : List PS) (n : Nat) (h : us.length = n) : rd_T25 (us ++ y :: ys) (n : Int) = y := by
  subst h
  rw [rdB _ _ (by simp)]
  simp
def mk3 (m : Int) : PS := ⟨m, m + 1, (Int.tmod (m + 1 + 1) 3 == 0)⟩
def marksP (m : Int) : Nat → List PS
  | 0 => []
  | n + 1 => marksP m n ++ [mk3 (m + 3 * (n : Int))]
theorem marksP_length (m : Int) : ∀ n, (marksP m n).length = n
  | 0 => rfl
  | n + 1 => by rw [marksP, List.length_append, marksP_length m n]; rfl
theorem marksP_get (m : Int) : ∀ (n i : Nat) (h : i < n), rd_T25 (marksP m n) (i : Int) = mk3 (m + 3 * (i : Int))
  | 0, i, h => by omega
  | n + 1, i, h => by
    rw [marksP]
    by_cases c : i = n
    · subst c
      exact rd_mid _ _ [] _ (marksP_length m i)
    · have e : rd_T25 (marksP m n ++ [mk3 (m + 3 * (n : Int))]) (i : Int) = rd_T25 (marksP m n) (i : Int) := by
        have hl := marksP_length m n
        rw [rdB _ _ (by simp; omega), rdB _ _ (by omega)]
        rw [List.getElem_append_left]
      rw [e]
      exact marksP_get m n i (by omega)
end Go.Proofs.Ytmbjefdkjdemhaa.Comm
end
section
/- What is proved here: what PointAdd answers, of the program and of the reference alike. No conditions. -/
set_option linter.unusedVariables false
set_option linter.unusedSimpArgs false
namespace Go.Proofs.Ytmbjefdkjdemhaa.Link
open Go.RowKit Go.Proofs.Ytmbjefdkjdemhaa.Pf Go.Proofs.YtmbjefdkjdemhaaW.PrintWords Go.Proofs.Ytmbjefdkjdemhaa.Crv
open Go.Proofs.Ytmbjefdkjdemhaa.Crv.Pt
set_option maxRecDepth 4000


def addO : Option Pt → Option Pt → Pt
  | some A, some B => add A B
  | _, _ => O
theorem Ok_addO (x y : Int) (z : Bool) (u v : Int) (w : Bool) : Ok (addO (dec x y z) (dec u v w)) := by
  cases h : dec x y z with
  | none => trivial
  | some A =>
    cases g : dec u v w with
    | none => trivial
    | some B => exact Ok_add (dec_ok h).1 (dec_ok g).1

theorem impl_PointAdd_eq (k : Nat) (hk : 22 ≤ k) (x y : Int) (z : Bool) (u v : Int) (w : Bool) : impl_PointAdd.f k x y z u v w = some (tr (addO (dec x y z) (dec u v w))) := by
  unfold impl_PointAdd.f
  simp only [impl_PointOk_eq, Option.bind_some]
  cases h : dec x y z with
  | none => rfl
  | some A =>
    rw [Option.isSome_some, if_pos rfl]
    cases g : dec u v w with
    | none => rfl
    | some B =>
      obtain ⟨hA, rfl, rfl, rfl⟩ := dec_ok h
      obtain ⟨hB, rfl, rfl, rfl⟩ := dec_ok g
      rw [Option.isSome_some, if_pos rfl, impl_add_eq k (by omega) A B hA hB]
      rfl

theorem spec_PointAdd_eq (k : Nat) (hk : 22 ≤ k) (x y : Int) (z : Bool) (u v : Int) (w : Bool) : spec_PointAdd.f k x y z u v w = some (tr (addO (dec x y z) (dec u v w))) := by
  obtain ⟨k, rfl⟩ : ∃ m, k = m + 1 := ⟨k - 1, by omega⟩
  unfold spec_PointAdd.f
  simp only [spec_PointOk_eq, Option.bind_some]
  cases h : dec x y z with
  | none => rfl
  | some A =>
    rw [Option.isSome_some, if_pos rfl]
    cases g : dec u v w with
    | none => rfl
    | some B =>
      obtain ⟨hA, rfl, rfl, rfl⟩ := dec_ok h
      obtain ⟨hB, rfl, rfl, rfl⟩ := dec_ok g
      simp only [spec_PointAdd.j0, Option.isSome_some, Bool.not_true, Bool.false_eq_true, if_false]
      rw [spec_add_eq k (by omega) A B hA hB]
      rfl

end Go.Proofs.Ytmbjefdkjdemhaa.Link
end
section
/- What is proved here: what SumPoints answers, of the program and of the reference alike. No conditions but that a list fits into memory. -/
set_option linter.unusedVariables false
set_option linter.unusedSimpArgs false
namespace Go.Proofs.Ytmbjefdkjdemhaa.Sum
open Go.RowKit Go.Proofs.Ytmbjefdkjdemhaa.Pf Go.Proofs.YtmbjefdkjdemhaaW.PrintWords Go.Proofs.Ytmbjefdkjdemhaa.Crv Go.Proofs.Ytmbjefdkjdemhaa.Link Go.Proofs.Ytmbjefdkjdemhaa.Pts
def sumL : List S25 → Int × Int × Bool → Int × Int × Bool
  | [], a => a
  | p :: ps, a => sumL ps (tr (addO (dec a.1 a.2.1 a.2.2) (dec p.f0 p.f1 p.f2)))
theorem impl_Sum_l0 (xs : List S25) (hl : xs.length ≤ 1048576) : ∀ (d i k : Nat) (a : Int × Int × Bool), i + d = xs.length → d + 30 ≤ k →
    impl_SumPoints.l0 k xs (xs.length : Int) (i : Int) a.1 a.2.1 a.2.2 = some (sumL (xs.drop i) a)
  | 0, i, k, a, hi, hk => by
    obtain ⟨k, rfl⟩ : ∃ m, k = m + 1 := ⟨k - 1, by omega⟩
    simp only [impl_SumPoints.l0]
    rw [if_neg (by omega), List.drop_of_length_le (by omega)]; rfl
  | d + 1, i, k, a, hi, hk => by
    obtain ⟨k, rfl⟩ : ∃ m, k = m + 1 := ⟨k - 1, by omega⟩
    have h1 : i < xs.length := by omega
    simp only [impl_SumPoints.l0, impl_PointAdd_eq k (by omega), Option.bind_some]
    rw [if_pos (by omega), if_pos (by omega), if_pos (by omega), wrap_in (by omega) (by omega), rdB xs i h1, show (i : Int) + 1 = ((i + 1 : Nat) : Int) by omega, impl_Sum_l0 xs hl d (i + 1) k _ (by omega) (by omega), List.drop_eq_getElem_cons h1, sumL]
theorem spec_Sum_l0 (xs : List S25) (hl : xs.length ≤ 1048576) : ∀ (d i k : Nat) (a : Int × Int × Bool), i + d = xs.length → d + 30 ≤ k →
    spec_SumPoints.l0 k xs (i : Int) a.1 a.2.1 a.2.2 = some (sumL (xs.drop i) a)
  | 0, i, k, a, hi, hk => by
    obtain ⟨k, rfl⟩ : ∃ m, k = m + 1 := ⟨k - 1, by omega⟩
    simp only [spec_SumPoints.l0]
    rw [if_neg (by omega), List.drop_of_length_le (by omega)]; rfl
  | d + 1, i, k, a, hi, hk => by
    obtain ⟨k, rfl⟩ : ∃ m, k = m + 1 := ⟨k - 1, by omega⟩
    have h1 : i < xs.length := by omega
    simp only [spec_SumPoints.l0, spec_PointAdd_eq k (by omega), Option.bind_some]
    rw [if_pos (by omega), if_pos (by omega), wrap_in (by omega) (by omega), rdB xs i h1, show (i : Int) + 1 = ((i + 1 : Nat) : Int) by omega, spec_Sum_l0 xs hl d (i + 1) k _ (by omega) (by omega), List.drop_eq_getElem_cons h1, sumL]
end Go.Proofs.Ytmbjefdkjdemhaa.Sum
end
section
/- What is proved here: what PointText and CommitteeText answer, of the program and of the reference alike. No conditions but that a list fits into memory. -/
set_option linter.unusedVariables false
set_option linter.unusedSimpArgs false
namespace Go.Proofs.Ytmbjefdkjdemhaa.Comm
open Go.RowKit Go.Proofs.Ytmbjefdkjdemhaa.Pf Go.Proofs.YtmbjefdkjdemhaaW.PrintWords Go.Proofs.Ytmbjefdkjdemhaa.Crv Go.Proofs.Ytmbjefdkjdemhaa.Link Go.Proofs.Ytmbjefdkjdemhaa.Pts Go.Proofs.Ytmbjefdkjdemhaa.Sum
def ptxt (x y : Int) (z : Bool) : ByteArray :=
  if (dec x y z).isSome = true then (if z = true then (⟨#[0, 0, 0]⟩ : ByteArray) else strOfNums [((wrap64 (x + 1)) / 256) % 256, (wrap64 (x + 1)) % 256, (Int.tmod y 2) % 256]) else ⟨#[]⟩
theorem impl_PointText_eq (x y : Int) (z : Bool) : impl_PointText.f x y z = some (ptxt x y z) := by
  unfold impl_PointText.f ptxt
  rw [impl_PointOk_eq]
  simp only [Option.bind_some]
  by_cases h : (dec x y z).isSome = true
  · rw [if_pos h, if_pos h]
    by_cases c : z = true
    · rw [if_pos c, if_pos c]
    · rw [if_neg c, if_neg c]
  · rw [if_neg h, if_neg h]
theorem spec_PointText_eq (x y : Int) (z : Bool) : spec_PointText.f x y z = some (ptxt x y z) := by
  unfold spec_PointText.f ptxt
  rw [spec_PointOk_eq]
  simp only [Option.bind_some]
  by_cases h : (dec x y z).isSome = true
  · rw [if_pos h, if_pos h]
    by_cases c : z = true
    · rw [if_pos c, if_pos c]
    · rw [if_neg c, if_neg c]
  · rw [if_neg h, if_neg h]
theorem ptxt_size (x y : Int) (z : Bool) : (ptxt x y z).size ≤ 3 := by
  unfold ptxt
  repeat' split
  all_goals simp [strOfNums, ByteArray.size]
def txt (p : PS) : ByteArray := ptxt p.f0 p.f1 p.f2
def cat : ByteArray → List PS → ByteArray
  | b, [] => b
  | b, p :: ps => cat (b ++ txt p) ps
end Go.Proofs.Ytmbjefdkjdemhaa.Comm
end
section
/- What is proved here: ReadPoint of the program and of the reference answer the same for every text. No conditions. -/
set_option linter.unusedVariables false
set_option linter.unusedSimpArgs false
namespace Go.Proofs.Ytmbjefdkjdemhaa.Comm
open Go Go.RowKit Go.Proofs.Ytmbjefdkjdemhaa.Pf Go.Proofs.YtmbjefdkjdemhaaW.PrintWords Go.Proofs.Ytmbjefdkjdemhaa.Crv Go.Proofs.Ytmbjefdkjdemhaa.Link Go.Proofs.Ytmbjefdkjdemhaa.Pts
open Go.Proofs.Ytmbjefdkjdemhaa.Crv.Pt
theorem texts_eq {a b : ByteArray} (h : a.toList = b.toList) : a = b := by
  rw [Go.ByteArray.toList_eq, Go.ByteArray.toList_eq] at h
  cases a; cases b
  congr 1
  exact Array.toList_inj.1 h
theorem third (a b c : Int) (h0 : 0 ≤ c) (h1 : c ≤ 255) (t : ByteArray) (h : (strOfNums [a, b, c]).toList = t.toList) : bt t 2 = c := by
  have e := texts_eq h
  subst e
  unfold bt
  rw [dif_pos (by simp [strOfNums, ByteArray.size])]
  have e1 : (UInt8.ofNat c.toNat).toNat = c.toNat := by rw [UInt8.toNat_ofNat']; omega
  show (((UInt8.ofNat c.toNat).toNat : Nat) : Int) = c
  rw [e1]; omega
theorem zeros_eq (t : ByteArray) (h : t.toList = ([0, 0, 0] : List UInt8)) : bt t 0 = 0 ∧ bt t 1 = 0 := by
  have e : t = ⟨#[0, 0, 0]⟩ := texts_eq (by rw [h, Go.ByteArray.toList_eq])
  subst e
  constructor <;> rfl
theorem not_empty (t : ByteArray) (h : (t.size : Int) = 3) : ¬ (⟨#[]⟩ : ByteArray).toList = t.toList := by
  intro e
  have := texts_eq e
  subst this
  simp [ByteArray.size] at h
/-- the root that is taken -/
def sroot (c : F) : F := if I (0 - root c) < I (root c) then 0 - root c else root c
theorem impl_root_eq (k : Nat) (hk : 15 ≤ k) (a : Int) : impl_FpRoot.f k a = some (if root (R a) * root (R a) = R a then (I (sroot (R a)), true) else (0, false)) := by
  have h := impl_power_eq k a 3027 12 (by decide) (by decide) (by omega)
  rw [show ((3027 : Nat) : Int) = 3027 from rfl] at h
  unfold impl_FpRoot.f
  rw [h]
  simp only [Option.bind_some, impl_FpMul_eq, impl_FpOf_eq, R_I]
  rw [show pwl 12 (R a) 3027 1 = root (R a) from rfl]
  have hw : wrap64 (-I (root (R a))) = -I (root (R a)) := by
    have h1 := I_nn (root (R a))
    have h2 := I_lt (root (R a))
    exact wrap_in (by omega) (by omega)
  have hn : R (-I (root (R a))) = 0 - root (R a) := by
    have := R_sub 0 (I (root (R a)))
    rw [R_zero, R_I, Int.zero_sub] at this
    exact this
  by_cases c : root (R a) * root (R a) = R a
  · rw [if_pos c, c, if_pos rfl, hw, hn]
    unfold mn sroot
    by_cases d : I (0 - root (R a)) < I (root (R a))
    · rw [if_pos d, if_pos d]
    · rw [if_neg d, if_neg d]
  · rw [if_neg c, if_neg (fun h => c (I_inj h))]
theorem spec_root_eq (k : Nat) (hk : 15 ≤ k) (a : Int) : spec_FpRoot.f k a = some (if root (R a) * root (R a) = R a then (I (sroot (R a)), true) else (0, false)) := by
  have h := spec_power_eq k a 3027 12 (by decide) (by decide) (by omega)
  rw [show ((3027 : Nat) : Int) = 3027 from rfl] at h
  unfold spec_FpRoot.f
  rw [h]
  simp only [Option.bind_some, spec_FpMul_eq, spec_FpOf_eq, spec_FpSub_eq, R_I, R_zero]
  rw [show pwl 12 (R a) 3027 1 = root (R a) from rfl]
  by_cases c : root (R a) * root (R a) = R a
  · rw [if_pos c, c, if_pos rfl]
    unfold sroot
    by_cases d : I (0 - root (R a)) < I (root (R a))
    · rw [if_pos d, if_pos d]
    · rw [if_neg d, if_neg d]
  · rw [if_neg c, if_neg (fun h => c (I_inj h))]
theorem sroot_sq (c : F) (h : root c * root c = c) : sroot c * sroot c = c := by
  unfold sroot
  split
  · grobner
  · exact h
theorem root_zero : root 0 * root 0 = 0 := by
  rcases root_sq 0 with h | h
  · rw [show (0 : F) * 0 = 0 by decide] at h; rw [h]; decide
  · rw [show (0 : F) * 0 = 0 by decide] at h
    generalize root 0 = r at h
    grobner
theorem dec_big (x y : Int) (h : 12107 ≤ x) : dec x y false = none := by
  unfold dec
  rw [if_neg (by decide), if_neg (by omega)]
theorem dec_none (x : Int) (y : F) (h : ¬ y * y = R x * R x * R x + R x) : dec x (I y) false = none := by
  unfold dec
  rw [if_neg (by decide), if_neg (fun e => h (by have := e.2.2; rw [R_I] at this; exact this))]
theorem ptxt_none (x y : Int) (z : Bool) (h : dec x y z = none) : ptxt x y z = ⟨#[]⟩ := by
  unfold ptxt
  rw [h, if_neg (by decide)]
theorem ptxt_third (x y : Int) (t : ByteArray) (ht : (t.size : Int) = 3) (h : (ptxt x y false).toList = t.toList) : bt t 2 = (Int.tmod y 2) % 256 := by
  unfold ptxt at h
  by_cases c : (dec x y false).isSome = true
  · rw [if_pos c, if_neg (by decide)] at h
    exact third _ _ _ (by omega) (by omega) t h
  · rw [if_neg c] at h
    exact absurd h (not_empty t ht)
theorem impl_neg_eq (x y : Int) : impl_PointNeg.f x y false = some (x, I (0 - R y), false) := by
  unfold impl_PointNeg.f
  rw [if_neg (by decide)]
  simp only [impl_FpSub_eq, Option.bind_some, R_zero]
/-- what is read -/
def readP (t : ByteArray) : Int × Int × Bool × Bool :=
  if (t.size : Int) = 3 then
    if t.toList = ([0, 0, 0] : List UInt8) then (0, 0, true, true)
    else if 0 ≤ bt t 0 * 256 + bt t 1 - 1 ∧ bt t 0 * 256 + bt t 1 - 1 < 12107 then
      if bt t 2 > 1 then (0, 0, false, false)
      else
        if root (R (bt t 0 * 256 + bt t 1 - 1) * R (bt t 0 * 256 + bt t 1 - 1) * R (bt t 0 * 256 + bt t 1 - 1) + R (bt t 0 * 256 + bt t 1 - 1)) * root (R (bt t 0 * 256 + bt t 1 - 1) * R (bt t 0 * 256 + bt t 1 - 1) * R (bt t 0 * 256 + bt t 1 - 1) + R (bt t 0 * 256 + bt t 1 - 1)) = R (bt t 0 * 256 + bt t 1 - 1) * R (bt t 0 * 256 + bt t 1 - 1) * R (bt t 0 * 256 + bt t 1 - 1) + R (bt t 0 * 256 + bt t 1 - 1) then
          let y := sroot (R (bt t 0 * 256 + bt t 1 - 1) * R (bt t 0 * 256 + bt t 1 - 1) * R (bt t 0 * 256 + bt t 1 - 1) + R (bt t 0 * 256 + bt t 1 - 1))
          if Int.tmod (I y) 2 = bt t 2 then (if (ptxt (bt t 0 * 256 + bt t 1 - 1) (I y) false).toList = t.toList then (bt t 0 * 256 + bt t 1 - 1, I y, false, true) else (0, 0, false, false))
          else (if (ptxt (bt t 0 * 256 + bt t 1 - 1) (I (0 - y)) false).toList = t.toList then (bt t 0 * 256 + bt t 1 - 1, I (0 - y), false, true) else (0, 0, false, false))
        else (0, 0, false, false)
    else (0, 0, false, false)
  else (0, 0, false, false)
theorem tmod2 (y : F) : 0 ≤ Int.tmod (I y) 2 ∧ Int.tmod (I y) 2 ≤ 1 := by
  have := I_nn y
  rw [Int.tmod_eq_emod_of_nonneg this]; omega
theorem spec_ReadPoint_eq (k : Nat) (hk : 20 ≤ k) (t : ByteArray) : spec_ReadPoint.f k t = some (readP t) := by
  obtain ⟨k, rfl⟩ : ∃ m, k = m + 1 := ⟨k - 1, by omega⟩
  obtain ⟨a0, a1⟩ := bt_range t 0
  obtain ⟨b0, b1⟩ := bt_range t 1
  obtain ⟨c0, c1⟩ := bt_range t 2
  unfold spec_ReadPoint.f readP
  by_cases h3 : (t.size : Int) = 3
  · rw [if_pos h3, if_pos h3]
    by_cases hz : t.toList = ([0, 0, 0] : List UInt8)
    · rw [if_pos hz, if_pos hz]; rfl
    rw [if_neg hz, if_neg hz, if_pos (by omega), if_pos (by omega)]
    rw [wrap_in (i := bt t 0) (by omega) (by omega), wrap_in (i := bt t 0 * 256) (by omega) (by omega), wrap_in (i := bt t 1) (by omega) (by omega), wrap_in (i := bt t 0 * 256 + bt t 1) (by omega) (by omega), wrap_in (i := bt t 0 * 256 + bt t 1 - 1) (by omega) (by omega)]
    generalize hX : bt t 0 * 256 + bt t 1 - 1 = X at *
    simp only [spec_FpOk_eq, Option.bind_some]
    have stop : spec_ReadPoint.j0 (k + 1) t X true = some (0, 0, false, false) := by simp only [spec_ReadPoint.j0, if_true]
    by_cases hx : 0 ≤ X ∧ X < 12107
    · rw [decide_eq_true hx, if_pos rfl, if_pos hx, if_pos (by omega)]
      by_cases hb : bt t 2 > 1
      · rw [decide_eq_true hb, if_pos hb, stop]
      · rw [decide_eq_false hb, if_neg hb]
        simp only [spec_ReadPoint.j0, Bool.false_eq_true, if_false, spec_curve_eq, Option.bind_some, spec_root_eq k (by omega), R_I]
        by_cases hr : root (R X * R X * R X + R X) * root (R X * R X * R X + R X) = R X * R X * R X + R X
        · rw [if_pos hr, if_pos hr]
          simp only [if_true]
          rw [if_pos (by omega), wrap_in (i := bt t 2) (by omega) (by omega)]
          generalize sroot (R X * R X * R X + R X) = y
          by_cases hp : Int.tmod (I y) 2 = bt t 2
          · rw [if_pos hp, if_pos hp, spec_PointText_eq]
            simp only [Option.bind_some]
            split <;> rfl
          · rw [if_neg hp, if_neg hp, spec_FpSub_eq]
            simp only [Option.bind_some, R_zero, R_I, spec_PointText_eq]
            split <;> rfl
        · rw [if_neg hr, if_neg hr]
          simp only [Bool.false_eq_true, if_false]
    · rw [decide_eq_false hx, if_neg (by decide), if_neg hx, stop]
  · rw [if_neg h3, if_neg h3]
theorem impl_ReadPoint_eq (k : Nat) (hk : 20 ≤ k) (t : ByteArray) : impl_ReadPoint.f k t = some (readP t) := by
  obtain ⟨a0, a1⟩ := bt_range t 0
  obtain ⟨b0, b1⟩ := bt_range t 1
  obtain ⟨c0, c1⟩ := bt_range t 2
  unfold impl_ReadPoint.f readP
  by_cases h3 : (t.size : Int) = 3
  · rw [if_pos h3, if_pos h3, if_pos (by omega), if_pos (by omega)]
    rw [wrap_in (i := bt t 0) (by omega) (by omega), wrap_in (i := bt t 0 * 256) (by omega) (by omega), wrap_in (i := bt t 1) (by omega) (by omega), wrap_in (i := bt t 0 * 256 + bt t 1) (by omega) (by omega), wrap_in (i := bt t 0 * 256 + bt t 1 - 1) (by omega) (by omega), wrap_in (i := bt t 2) (by omega) (by omega)]
    have hz0 : t.toList = ([0, 0, 0] : List UInt8) → bt t 0 * 256 + bt t 1 - 1 < 0 := by
      intro e
      obtain ⟨e1, e2⟩ := zeros_eq t e
      omega
    generalize hX : bt t 0 * 256 + bt t 1 - 1 = X at *
    by_cases hn : X < 0
    · rw [if_pos hn, impl_PointText_eq]
      simp only [Option.bind_some]
      have e : (ptxt 0 0 true).toList = ([0, 0, 0] : List UInt8) := by
        rw [show ptxt 0 0 true = ⟨#[0, 0, 0]⟩ from rfl, Go.ByteArray.toList_eq]
      rw [e]
      by_cases hz : t.toList = ([0, 0, 0] : List UInt8)
      · rw [if_pos hz.symm, if_pos hz]
      · rw [if_neg (fun h => hz h.symm), if_neg hz, if_neg (by omega)]
    · have hz : ¬ t.toList = ([0, 0, 0] : List UInt8) := fun e => hn (hz0 e)
      rw [if_neg hn, if_neg hz]
      simp only [impl_curve_eq, Option.bind_some, impl_root_eq k (by omega), R_I, impl_PointText_eq, impl_neg_eq]
      rw [if_pos (by omega)]
      by_cases hx : 0 ≤ X ∧ X < 12107
      · rw [if_pos hx]
        by_cases hr : root (R X * R X * R X + R X) * root (R X * R X * R X + R X) = R X * R X * R X + R X
        · rw [if_pos hr, if_pos hr]
          simp only [R_I]
          generalize sroot (R X * R X * R X + R X) = y
          have hy := tmod2 y
          by_cases hp : Int.tmod (I y) 2 = bt t 2
          · rw [if_neg (show ¬ bt t 2 > 1 by omega), if_pos hp, if_pos hp]
            split <;> rfl
          · rw [if_neg hp, if_neg hp]
            by_cases hb : bt t 2 > 1
            · rw [if_pos hb, if_neg]
              intro e
              have e2 := ptxt_third _ _ t h3 e
              have hy2 := tmod2 (0 - y)
              omega
            · rw [if_neg hb]
              split <;> rfl
        · rw [if_neg hr, if_neg hr]
          have hc : ¬ (0 : F) * 0 = R X * R X * R X + R X := by
            intro e
            apply hr
            rw [← e]
            exact root_zero
          have d0 : ptxt X 0 false = ⟨#[]⟩ := ptxt_none _ _ _ (by rw [← I_zero]; exact dec_none X 0 hc)
          have d1 : ptxt X (I (0 - R 0)) false = ⟨#[]⟩ := ptxt_none _ _ _ (by rw [R_zero, show (0 : F) - 0 = 0 by decide]; exact dec_none X 0 hc)
          simp only [d0, d1, if_neg (not_empty t h3), ite_self]
      · rw [if_neg hx]
        have d : ∀ y, ptxt X y false = ⟨#[]⟩ := fun y => ptxt_none _ _ _ (dec_big X y (by omega))
        simp only [d, if_neg (not_empty t h3), ite_self]
  · rw [if_neg h3, if_neg h3]
end Go.Proofs.Ytmbjefdkjdemhaa.Comm
end
section
/- What is proved here: a point comes back from its text, and what is read as a point has that text. No conditions. -/
set_option linter.unusedVariables false
set_option linter.unusedSimpArgs false
namespace Go.Proofs.Ytmbjefdkjdemhaa.Comm
open Go Go.RowKit Go.Proofs.Ytmbjefdkjdemhaa.Pf Go.Proofs.YtmbjefdkjdemhaaW.PrintWords Go.Proofs.Ytmbjefdkjdemhaa.Crv Go.Proofs.Ytmbjefdkjdemhaa.Link Go.Proofs.Ytmbjefdkjdemhaa.Pts
open Go.Proofs.Ytmbjefdkjdemhaa.Crv.Pt
theorem bt_nums (xs : List Int) (i : Nat) (h : i < xs.length) (h0 : 0 ≤ xs[i]) (h1 : xs[i] ≤ 255) : bt (strOfNums xs) (i : Int) = xs[i] := by
  unfold bt
  rw [dif_pos (by rw [strOfNums_size]; omega)]
  have e : (strOfNums xs)[i]'(by rw [strOfNums_size]; exact h) = UInt8.ofNat (xs[i]).toNat := by
    simp [strOfNums, ByteArray.getElem_eq_getElem_data]
  have e2 : ((strOfNums xs)[((i : Nat) : Int).toNat]'(by rw [strOfNums_size]; exact h)) = UInt8.ofNat (xs[i]).toNat := e
  rw [e2]
  have h3 : (xs[i]).toNat < 256 := by omega
  simp [UInt8.toNat_ofNat, Nat.mod_eq_of_lt h3]
  omega
theorem I_neg (y : F) (h : y ≠ 0) : I (0 - y) = 12107 - I y := by
  rw [I_sub]
  have h1 := I_lt y
  have h2 := I_nn y
  have h3 : I y ≠ 0 := fun e => h ((I_eq_zero y).1 e)
  unfold I at *
  have h4 : (0 : F).val = 0 := rfl
  rw [h4]
  omega
theorem neg_zero' : (0 : F) - 0 = 0 := by decide
theorem sroot_pm (y : F) : (root (y * y) * root (y * y) = y * y) ∧ (sroot (y * y) = y ∨ sroot (y * y) = 0 - y) := by
  have h := root_sq y
  constructor
  · rcases h with h | h
    · rw [h]
    · generalize root (y * y) = r at *
      grobner
  · unfold sroot
    rcases h with h | h
    · rw [h]
      split
      · exact Or.inr rfl
      · exact Or.inl rfl
    · have h2 : root (y * y) = 0 - y := by generalize root (y * y) = r at *; grobner
      rw [h2]
      split
      · exact Or.inl (by grobner)
      · exact Or.inr rfl
theorem read_ptxt (A : Pt) (hA : Ok A) : readP (ptxt (tr A).1 (tr A).2.1 (tr A).2.2) = ((tr A).1, (tr A).2.1, (tr A).2.2, true) ∧ (ptxt (tr A).1 (tr A).2.1 (tr A).2.2).size = 3 := by
  cases A with
  | O =>
    have e : ptxt (tr O).1 (tr O).2.1 (tr O).2.2 = (⟨#[0, 0, 0]⟩ : ByteArray) := by
      unfold ptxt
      rw [if_pos (by rw [dec_tr O hA]; rfl), if_pos (show (tr O).2.2 = true from rfl)]
    rw [e]
    refine ⟨?_, rfl⟩
    unfold readP
    rw [if_pos (show ((⟨#[0, 0, 0]⟩ : ByteArray).size : Int) = 3 from rfl), if_pos (by rw [Go.ByteArray.toList_eq])]
    rfl
  | P x y =>
    have hon : y * y = x * x * x + x := hA
    have x0 := I_nn x
    have x1 := I_lt x
    have y0 := I_nn y
    have y1 := I_lt y
    have hd := dec_tr (P x y) hA
    show readP (ptxt (I x) (I y) false) = (I x, I y, false, true) ∧ (ptxt (I x) (I y) false).size = 3
    have hd' : dec (I x) (I y) false = some (P x y) := hd
    have e : ptxt (I x) (I y) false = strOfNums [(I x + 1) / 256, (I x + 1) % 256, I y % 2] := by
      unfold ptxt
      rw [hd', if_pos (show (some (P x y)).isSome = true from rfl), if_neg (by decide), wrap_in (by omega) (by omega), Int.tmod_eq_emod_of_nonneg y0, Int.emod_eq_of_lt (a := (I x + 1) / 256) (by omega) (by omega), Int.emod_eq_of_lt (a := I y % 2) (by omega) (by omega)]
    have b0 : bt (ptxt (I x) (I y) false) 0 = (I x + 1) / 256 := by rw [e]; exact bt_nums [(I x + 1) / 256, (I x + 1) % 256, I y % 2] 0 (by simp) (by simp; omega) (by simp; omega)
    have b1 : bt (ptxt (I x) (I y) false) 1 = (I x + 1) % 256 := by rw [e]; exact bt_nums [(I x + 1) / 256, (I x + 1) % 256, I y % 2] 1 (by simp) (by simp; omega) (by simp; omega)
    have b2 : bt (ptxt (I x) (I y) false) 2 = I y % 2 := by rw [e]; exact bt_nums [(I x + 1) / 256, (I x + 1) % 256, I y % 2] 2 (by simp) (by simp; omega) (by simp; omega)
    have hs : (ptxt (I x) (I y) false).size = 3 := by rw [e, strOfNums_size]; rfl
    refine ⟨?_, hs⟩
    have hX : bt (ptxt (I x) (I y) false) 0 * 256 + bt (ptxt (I x) (I y) false) 1 - 1 = I x := by rw [b0, b1]; omega
    have hz : ¬ (ptxt (I x) (I y) false).toList = ([0, 0, 0] : List UInt8) := by
      intro h
      obtain ⟨z0, z1⟩ := zeros_eq _ h
      omega
    obtain ⟨r1, r2⟩ := sroot_pm y
    unfold readP
    rw [if_pos (by omega), if_neg hz, hX, if_pos ⟨x0, x1⟩, b2, if_neg (by omega), R_I, ← hon, if_pos r1]
    have hp : ∀ w : F, Int.tmod (I w) 2 = I w % 2 := fun w => Int.tmod_eq_emod_of_nonneg (I_nn w)
    dsimp only
    rw [hp]
    rcases r2 with r2 | r2
    · rw [r2, if_pos rfl, if_pos rfl]
    · rw [r2]
      by_cases hy : y = 0
      · rw [hy, neg_zero', if_pos rfl, if_pos rfl]
      · rw [I_neg y hy, if_neg (by omega), show (0 : F) - (0 - y) = y by grobner, if_pos rfl]
theorem ptxt_read (u : ByteArray) (x y : Int) (z : Bool) (h : readP u = (x, y, z, true)) : (ptxt x y z).toList = u.toList := by
  unfold readP at h
  split at h
  case isFalse => simp at h
  split at h
  next hz =>
    simp only [Prod.mk.injEq, and_true] at h
    obtain ⟨rfl, rfl, rfl⟩ := h
    rw [hz]
    unfold ptxt
    rw [if_pos (by decide), if_pos rfl, Go.ByteArray.toList_eq]
  split at h
  case isFalse => simp at h
  split at h
  case isTrue => simp at h
  split at h
  case isFalse => simp at h
  dsimp only at h
  split at h
  · split at h
    next h2 =>
      simp only [Prod.mk.injEq, and_true] at h
      obtain ⟨rfl, rfl, rfl⟩ := h
      exact h2
    next => simp at h
  · split at h
    next h2 =>
      simp only [Prod.mk.injEq, and_true] at h
      obtain ⟨rfl, rfl, rfl⟩ := h
      exact h2
    next => simp at h
end Go.Proofs.Ytmbjefdkjdemhaa.Comm
end
section
/- What is proved here: the reference's reader of draws always answers, and its numbers lie where they should. No conditions but that the bytes are no longer than a Go slice can be. -/
set_option linter.unusedVariables false
set_option linter.unusedSimpArgs false
namespace Go.Proofs.Ytmbjefdkjdemhaa.Draw
open Go.RowKit Go.Proofs.Ytmbjefdkjdemhaa.Pf Go.Proofs.YtmbjefdkjdemhaaW.PrintWords

theorem wrapd {i : Int} (h0 : -9223372036854775808 ≤ i) (h : i ≤ 9223372036854775807) : wrap64 i = i := by
  unfold wrap64; omega
theorem Ev.one {α : Type} {g : Nat → Option α} {r : α} (h : ∀ k, g (k + 1) = some r) : Ev g r :=
  ⟨1, fun k hk => by obtain ⟨k, rfl⟩ : ∃ m, k = m + 1 := ⟨k - 1, by omega⟩; exact h k⟩
theorem and_255 (x : Int) : 0 ≤ Go.bits .and .i64 x 255 ∧ Go.bits .and .i64 x 255 ≤ 255 := by
  have h : (BitVec.ofInt (IntKind.bits .i64) 255).toNat = 255 := by decide
  simp only [Go.bits, BitVec.toNat_and, h]
  generalize (BitVec.ofInt _ x).toNat = a
  have : a &&& 255 ≤ 255 := Nat.and_le_right
  rw [IntKind.wrap_i64]
  omega
/-- a reader's state: its place lies in the bytes -/
def Okc (b : List Int) (i : Int) : Prop := 0 ≤ i ∧ i ≤ 9223372036854775807 ∧ b.length ≤ 9223372036854775807
theorem byte_some (b : List Int) (i h : Int) (ho : Okc b i) : ∃ x i' h', spec_l01Byte.f b i h = some (x, i', h') ∧ 0 ≤ x ∧ x ≤ 255 ∧ Okc b i' := by
  obtain ⟨h0, h1, h2⟩ := ho
  unfold spec_l01Byte.f
  by_cases c : i < (b.length : Int)
  · rw [if_pos c, if_pos h0, wrapd (i := i + 1) (by omega) (by omega)]
    exact ⟨_, _, _, rfl, (and_255 _).1, (and_255 _).2, by omega, by omega, h2⟩
  · rw [if_neg c]
    exact ⟨_, _, _, rfl, (and_255 _).1, (and_255 _).2, h0, h1, h2⟩
theorem below_some (b : List Int) (i h n : Int) (ho : Okc b i) (hn : 0 < n) (hn2 : n ≤ 4294967296) : ∃ x i' h', spec_l01Below.f b i h n = some (x, i', h') ∧ 0 ≤ x ∧ x < n ∧ Okc b i' := by
  unfold spec_l01Below.f
  rw [if_neg (by omega)]
  by_cases c : n ≤ 256
  · obtain ⟨x, i1, h1, e1, x0, x1, o1⟩ := byte_some b i h ho
    rw [if_pos c, e1]
    simp only [Option.bind_some]
    rw [if_neg (by omega)]
    exact ⟨_, _, _, rfl, Int.tmod_nonneg _ x0, Int.tmod_lt_of_pos _ hn, o1⟩
  · obtain ⟨x, i1, h1, e1, x0, x1, o1⟩ := byte_some b i h ho
    obtain ⟨y, i2, h2, e2, y0, y1, o2⟩ := byte_some b i1 h1 o1
    obtain ⟨z, i3, h3, e3, z0, z1, o3⟩ := byte_some b i2 h2 o2
    obtain ⟨u, i4, h4, e4, u0, u1, o4⟩ := byte_some b i3 h3 o3
    rw [if_neg c]
    simp only [e1, e2, e3, e4, Option.bind_some]
    rw [if_neg (by omega), wrapd (i := x * 16777216) (by omega) (by omega), wrapd (i := y * 65536) (by omega) (by omega), wrapd (i := z * 256) (by omega) (by omega), wrapd (i := x * 16777216 + y * 65536) (by omega) (by omega), wrapd (i := x * 16777216 + y * 65536 + z * 256) (by omega) (by omega), wrapd (by omega) (by omega)]
    exact ⟨_, _, _, rfl, Int.tmod_nonneg _ (by omega), Int.tmod_lt_of_pos _ hn, o4⟩
theorem new_l0 (b : List Int) (hb : b.length ≤ 9223372036854775807) : ∀ (d i : Nat) (h : Int), i + d = b.length → ∃ h', Ev (fun k => spec_l01New.l0 k b h (i : Int)) (b, 0, h')
  | 0, i, h, hi => ⟨h, Ev.one fun k => by
      simp only [spec_l01New.l0]
      rw [if_neg (by omega)]⟩
  | d + 1, i, h, hi => by
    by_cases c : (i : Int) < 4000
    · obtain ⟨h', he⟩ := new_l0 b hb d (i + 1) (Go.bits .and .i64 (wrap64 ((wrap64 ((wrap64 (h * 131)) + (wrap64 (rd b (i : Int))))) + 7)) 1073741823) (by omega)
      refine ⟨h', Ev.step (fun k => ?_) he⟩
      simp only [spec_l01New.l0]
      rw [if_pos (by omega), if_pos c, if_pos (by omega), wrapd (i := (i : Int) + 1) (by omega) (by omega)]
      rfl
    · refine ⟨h, Ev.one fun k => ?_⟩
      simp only [spec_l01New.l0]
      rw [if_pos (by omega), if_neg c]
theorem new_ev (b : List Int) (hb : b.length ≤ 9223372036854775807) : ∃ h, Ev (fun k => spec_l01New.f k b) (b, 0, h) := by
  obtain ⟨h, he⟩ := new_l0 b hb b.length 0 (wrap64 (76801 + (b.length : Int))) (by omega)
  exact ⟨h, he⟩
theorem ok0 (b : List Int) (hb : b.length ≤ 9223372036854775807) : Okc b 0 := ⟨by omega, by omega, hb⟩
theorem once_some (b : List Int) (i h n : Int) (ho : Okc b i) (hn : 0 < n) (hn2 : n ≤ 4294967296) : ∃ x i' h', spec_l01Once.f b i h n = some (x, i', h') ∧ Okc b i' := by
  obtain ⟨x, i1, h1, e1, _, _, o1⟩ := below_some b i h n ho hn hn2
  exact ⟨x == 0, i1, h1, by simp only [spec_l01Once.f, e1, Option.bind_some], o1⟩
theorem pick_some (b : List Int) (i h : Int) (l : List Int) (ho : Okc b i) (hl : 0 < l.length) (hl2 : l.length ≤ 1000) : ∃ x i' h', spec_l01PickInt.f b i h l = some (x, i', h') ∧ x ∈ l ∧ Okc b i' := by
  obtain ⟨x, i1, h1, e1, x0, x1, o1⟩ := below_some b i h (l.length : Int) ho (by omega) (by omega)
  have hx : x.toNat < l.length := by omega
  refine ⟨rd l x, i1, h1, ?_, ?_, o1⟩
  · simp only [spec_l01PickInt.f, e1, Option.bind_some]
    rw [if_pos x0, if_pos x1]
  · unfold rd
    rw [List.getD_eq_getElem?_getD, List.getElem?_eq_getElem hx, Option.getD_some]
    exact List.getElem_mem hx
end Go.Proofs.Ytmbjefdkjdemhaa.Draw
end
section
/- What is proved here: drawn texts, places and leaves always answer, and none is long. No conditions but that the bytes are no longer than a Go slice can be. -/
set_option linter.unusedVariables false
set_option linter.unusedSimpArgs false
namespace Go.Proofs.Ytmbjefdkjdemhaa.Draw
open Go.RowKit Go.Proofs.Ytmbjefdkjdemhaa.Pf Go.Proofs.YtmbjefdkjdemhaaW.PrintWords
theorem text_l0 (b : List Int) (n : Nat) (hn : n ≤ 5000) : ∀ (d j : Nat) (xs : List Int) (i h : Int), j + d = n → xs.length = j → Okc b i →
    ∃ t i' h', (∀ k, d < k → spec_l01Text.l0 k (n : Int) xs (j : Int) b i h = some (t, i', h')) ∧ t.size = n ∧ Okc b i'
  | 0, j, xs, i, h, hj, hl, ho => by
    refine ⟨strOfNums xs, i, h, fun k hk => ?_, by rw [strOfNums_size]; omega, ho⟩
    obtain ⟨k, rfl⟩ : ∃ m, k = m + 1 := ⟨k - 1, by omega⟩
    simp only [spec_l01Text.l0]
    rw [if_neg (by omega)]
  | d + 1, j, xs, i, h, hj, hl, ho => by
    obtain ⟨x, i1, h1, e1, _, _, o1⟩ := byte_some b i h ho
    obtain ⟨t, i2, h2, e2, s2, o2⟩ := text_l0 b n hn d (j + 1) (xs ++ [x % 256]) i1 h1 (by omega) (by simp [hl]) o1
    refine ⟨t, i2, h2, fun k hk => ?_, s2, o2⟩
    obtain ⟨k, rfl⟩ : ∃ m, k = m + 1 := ⟨k - 1, by omega⟩
    simp only [spec_l01Text.l0]
    rw [if_pos (by omega), e1, Option.bind_some, if_pos (by omega), wrapd (by omega) (by omega), show (j : Int) + 1 = ((j + 1 : Nat) : Int) by omega]
    exact e2 k (by omega)
theorem text_some (b : List Int) (i h n : Int) (h0 : 0 ≤ n) (hn : n ≤ 5000) (ho : Okc b i) :
    ∃ t i' h', (∀ k, 6000 ≤ k → spec_l01Text.f k b i h n = some (t, i', h')) ∧ (t.size : Int) = n ∧ Okc b i' := by
  obtain ⟨t, i1, h1, e1, s1, o1⟩ := text_l0 b n.toNat (by omega) n.toNat 0 [] i h (by omega) rfl ho
  refine ⟨t, i1, h1, fun k hk => ?_, by omega, o1⟩
  obtain ⟨k, rfl⟩ : ∃ m, k = m + 1 := ⟨k - 1, by omega⟩
  unfold spec_l01Text.f
  rw [if_neg (by omega)]
  simp only [spec_l01Text.j0]
  have h3 := e1 k (by omega)
  rw [show ((n.toNat : Nat) : Int) = n by omega] at h3
  exact h3
theorem spoilt_some (b : List Int) (i h : Int) (s : ByteArray) (hs : s.size ≤ 1000) (ho : Okc b i) :
    ∃ r i' h', (∀ k, 7000 ≤ k → spec_l02Spoilt.f k b i h s = some (r, i', h')) ∧ r.size ≤ 1001 ∧ Okc b i' := by
  obtain ⟨n, i1, h1, e1, n0, n1, o1⟩ := below_some b i h 12 ho (by decide) (by decide)
  by_cases c0 : n = 0
  · obtain ⟨t, i2, h2, e2, s2, o2⟩ := text_some b i1 h1 1 (by decide) (by decide) o1
    refine ⟨s ++ t, i2, h2, fun k hk => ?_, by rw [ByteArray.size_append]; omega, o2⟩
    unfold spec_l02Spoilt.f
    rw [e1, Option.bind_some, if_pos c0, e2 k (by omega), Option.bind_some, if_pos (show s.size + t.size ≤ 9223372036854775807 by omega)]
  by_cases c1 : n = 1
  · obtain ⟨m, i2, h2, e2, m0, m1, o2⟩ := below_some b i1 h1 ((s.size : Int) + 1) o1 (by omega) (by omega)
    refine ⟨s.extract 0 m.toNat, i2, h2, fun k hk => ?_, by rw [ByteArray.size_extract]; omega, o2⟩
    unfold spec_l02Spoilt.f
    rw [e1, Option.bind_some, if_neg c0, if_pos c1, wrapd (by omega) (by omega), e2, Option.bind_some, if_pos m0, if_pos (by omega)]
  have main : ∀ c : Bool, ∃ r i' h', (∀ k, 6999 ≤ k → spec_l02Spoilt.j0 k s c b i1 h1 = some (r, i', h')) ∧ r.size ≤ 1001 ∧ Okc b i' := by
    intro c
    by_cases hc : c = true
    · by_cases hz : (s.size : Int) > 0
      · obtain ⟨m, i2, h2, e2, m0, m1, o2⟩ := below_some b i1 h1 (s.size : Int) o1 (by omega) (by omega)
        obtain ⟨t, i3, h3, e3, s3, o3⟩ := text_some b i2 h2 1 (by decide) (by decide) o2
        refine ⟨(s.extract 0 m.toNat ++ t) ++ s.extract (m + 1).toNat s.size, i3, h3, fun k hk => ?_, ?_, o3⟩
        · obtain ⟨k, rfl⟩ : ∃ m, k = m + 1 := ⟨k - 1, by omega⟩
          rw [spec_l02Spoilt.j0, if_pos hc, if_pos hz, e2, Option.bind_some, if_pos m0, if_pos (by omega), e3 k (by omega), Option.bind_some, if_pos (show (s.extract 0 m.toNat).size + t.size ≤ 9223372036854775807 by rw [ByteArray.size_extract]; omega), wrapd (i := m + 1) (by omega) (by omega), if_pos (show (0 : Int) ≤ m + 1 by omega), if_pos (show m + 1 ≤ (s.size : Int) by omega), if_pos (show (s.extract 0 m.toNat ++ t).size + (s.extract (m + 1).toNat s.size).size ≤ 9223372036854775807 by rw [ByteArray.size_append, ByteArray.size_extract, ByteArray.size_extract]; omega)]
        · rw [ByteArray.size_append, ByteArray.size_append, ByteArray.size_extract, ByteArray.size_extract]; omega
      · refine ⟨s, i1, h1, fun k hk => ?_, by omega, o1⟩
        obtain ⟨k, rfl⟩ : ∃ m, k = m + 1 := ⟨k - 1, by omega⟩
        rw [spec_l02Spoilt.j0, if_pos hc, if_neg hz]
    · refine ⟨s, i1, h1, fun k hk => ?_, by omega, o1⟩
      obtain ⟨k, rfl⟩ : ∃ m, k = m + 1 := ⟨k - 1, by omega⟩
      rw [spec_l02Spoilt.j0, if_neg hc]
  by_cases c2 : n = 2
  · obtain ⟨r, i2, h2, e2, s2, o2⟩ := main (n == 2)
    refine ⟨r, i2, h2, fun k hk => ?_, s2, o2⟩
    unfold spec_l02Spoilt.f
    rw [e1, Option.bind_some, if_neg c0, if_neg c1, if_pos c2]
    exact e2 k (by omega)
  · obtain ⟨r, i2, h2, e2, s2, o2⟩ := main (n == 3)
    refine ⟨r, i2, h2, fun k hk => ?_, s2, o2⟩
    unfold spec_l02Spoilt.f
    rw [e1, Option.bind_some, if_neg c0, if_neg c1, if_neg c2]
    exact e2 k (by omega)
end Go.Proofs.Ytmbjefdkjdemhaa.Draw
end
section
/- What is proved here: a drawn point of the curve is a point of the curve. No conditions but that the bytes are no longer than a Go slice can be. -/
set_option linter.unusedVariables false
set_option linter.unusedSimpArgs false
namespace Go.Proofs.Ytmbjefdkjdemhaa.CrvDraw
open Go.RowKit Go.Proofs.Ytmbjefdkjdemhaa.Pf Go.Proofs.YtmbjefdkjdemhaaW.PrintWords Go.Proofs.Ytmbjefdkjdemhaa.Crv Go.Proofs.Ytmbjefdkjdemhaa.Link Go.Proofs.Ytmbjefdkjdemhaa.Draw
open Go.Proofs.Ytmbjefdkjdemhaa.Crv.Pt
theorem spec_root_eq (k : Nat) (hk : 15 ≤ k) (a : Int) : spec_FpRoot.f k a = some (if root (R a) * root (R a) = R a then (if I (0 - root (R a)) < I (root (R a)) then (I (0 - root (R a)), true) else (I (root (R a)), true)) else (0, false)) := by
  have h := spec_power_eq k a 3027 12 (by decide) (by decide) (by omega)
  rw [show ((3027 : Nat) : Int) = 3027 from rfl] at h
  unfold spec_FpRoot.f
  rw [h]
  simp only [Option.bind_some, spec_FpMul_eq, spec_FpOf_eq, spec_FpSub_eq, R_I, R_zero]
  rw [show pwl 12 (R a) 3027 1 = root (R a) from rfl]
  by_cases c : root (R a) * root (R a) = R a
  · rw [if_pos c, c, if_pos rfl]
    by_cases d : I (0 - root (R a)) < I (root (R a))
    · rw [if_pos d, if_pos d]
    · rw [if_neg d, if_neg d]
  · rw [if_neg c, if_neg (fun h => c (I_inj h))]
theorem spec_root_some (k : Nat) (hk : 15 ≤ k) (a : Int) : ∃ v b, spec_FpRoot.f k a = some (v, b) ∧ (b = true → ∃ y : F, v = I y ∧ y * y = R a) := by
  rw [spec_root_eq k hk]
  by_cases c : root (R a) * root (R a) = R a
  · rw [if_pos c]
    by_cases d : I (0 - root (R a)) < I (root (R a))
    · rw [if_pos d]; exact ⟨_, _, rfl, fun _ => ⟨_, rfl, by grobner⟩⟩
    · rw [if_neg d]; exact ⟨_, _, rfl, fun _ => ⟨_, rfl, c⟩⟩
  · rw [if_neg c]; exact ⟨_, _, rfl, fun h => by cases h⟩
theorem base_tr : ((8445 : Int), (859 : Int), false) = tr Base := by decide
theorem curve_l0 (x : Int) (h0 : 0 ≤ x) (h1 : x ≤ 249) (b : List Int) (s h : Int) : ∀ (d i : Nat), i + d = 60 → ∃ A, Ok A ∧ ∀ k, d + 30 ≤ k → spec_l07Curve.l0 k x (i : Int) b s h = some ((tr A).1, (tr A).2.1, (tr A).2.2, s, h)
  | 0, i, hi => by
    refine ⟨Base, Ok_Base, fun k hk => ?_⟩
    obtain ⟨k, rfl⟩ : ∃ m, k = m + 1 := ⟨k - 1, by omega⟩
    simp only [spec_l07Curve.l0, spec_Base.f, Option.bind_some]
    rw [if_neg (by omega), ← base_tr]
  | d + 1, i, hi => by
    obtain ⟨v, c, e, hc⟩ := spec_root_some 15 (by decide) (I (R (x + i) * R (x + i) * R (x + i) + R (x + i)))
    obtain ⟨A, hA, ih⟩ := curve_l0 x h0 h1 b s h d (i + 1) (by omega)
    have hw : wrap64 (x + (i : Int)) = x + (i : Int) := wrap_in (by omega) (by omega)
    have hroot : ∀ k, 15 ≤ k → spec_FpRoot.f k (I (R (x + i) * R (x + i) * R (x + i) + R (x + i))) = some (v, c) := by
      intro k hk
      rw [spec_root_eq k hk, ← spec_root_eq 15 (by decide)]; exact e
    by_cases hb : c = true
    · obtain ⟨y, rfl, hy⟩ := hc hb
      rw [R_I] at hy
      refine ⟨P (R (x + i)) y, hy, fun k hk => ?_⟩
      obtain ⟨k, rfl⟩ : ∃ m, k = m + 1 := ⟨k - 1, by omega⟩
      simp only [spec_l07Curve.l0, hw, spec_curve_eq, Option.bind_some, hroot k (by omega)]
      rw [if_pos (by omega), if_pos hb]
      simp only [tr]
      rw [R_small (by omega) (by omega)]
    · refine ⟨A, hA, fun k hk => ?_⟩
      obtain ⟨k, rfl⟩ : ∃ m, k = m + 1 := ⟨k - 1, by omega⟩
      simp only [spec_l07Curve.l0, hw, spec_curve_eq, Option.bind_some, hroot k (by omega)]
      rw [if_pos (by omega), if_neg hb, wrap_in (by omega) (by omega), show (i : Int) + 1 = ((i + 1 : Nat) : Int) by omega]
      exact ih k (by omega)
theorem curve_some (b : List Int) (i h : Int) (ho : Okc b i) : ∃ A i' h', Ok A ∧ (∀ k, 90 ≤ k → spec_l07Curve.f k b i h = some ((tr A).1, (tr A).2.1, (tr A).2.2, i', h')) ∧ Okc b i' := by
  obtain ⟨x, i', h', e, x0, x1, ho'⟩ := below_some b i h 250 ho (by decide) (by decide)
  obtain ⟨A, hA, hl⟩ := curve_l0 x x0 (by omega) b i' h' 60 0 (by omega)
  refine ⟨A, i', h', hA, fun k hk => ?_, ho'⟩
  unfold spec_l07Curve.f
  rw [e]
  exact hl k hk
theorem drawcurve_ev (b : List Int) (hb : b.length ≤ 9223372036854775807) : ∃ A B C, Ok A ∧ Ok B ∧ Ok C ∧ Ev (fun k => spec_DrawCurve.f k b) ((tr A).1, (tr A).2.1, (tr A).2.2, (tr B).1, (tr B).2.1, (tr B).2.2, (tr C).1, (tr C).2.1, (tr C).2.2) := by
  obtain ⟨h, K, hK⟩ := new_ev b hb
  obtain ⟨A, i1, h1, hA, e1, o1⟩ := curve_some b 0 h (ok0 b hb)
  obtain ⟨B, i2, h2, hB, e2, o2⟩ := curve_some b i1 h1 o1
  obtain ⟨C, i3, h3, hC, e3, o3⟩ := curve_some b i2 h2 o2
  refine ⟨A, B, C, hA, hB, hC, K + 90, fun k hk => ?_⟩
  have hk' := hK k (by omega)
  dsimp only at hk' ⊢
  simp only [spec_DrawCurve.f, hk', Option.bind_some, e1 k (by omega), e2 k (by omega), e3 k (by omega)]
end Go.Proofs.Ytmbjefdkjdemhaa.CrvDraw
end
section
namespace Go.Proofs.Ytmbjefdkjdemhaa.Pf
open Go.RowKit Go.Proofs.YtmbjefdkjdemhaaW.PrintWords Go.Proofs.YtmbjefdkjdemhaaW.PrintLast Go.Proofs.YtmbjefdkjdemhaaW.PrintMore
attribute [local go_sem] max2_int min2_int max_two min_two max_three min_three max_four min_four   -- for this text's walks alone
set_option linter.unusedVariables false
set_option linter.unusedSimpArgs false
/-! ### spec_DrawGroup: function 15 -/
def spec_DrawGroup.f (k : Nat) (l0 : List Int) : Option (Int × Int × Bool × Int × Int × Bool × Int × Int × Bool) := (spec_l01New.f k l0).bind fun bt690 => ((spec_l07Group.f k bt690.1 bt690.2.1 bt690.2.2).bind fun bt694 => ((spec_l07Group.f k bt690.1 bt694.2.2.2.1 bt694.2.2.2.2).bind fun bt700 => ((spec_l07Group.f k bt690.1 bt700.2.2.2.1 bt700.2.2.2.2).bind fun bt706 => (some (bt694.1, bt694.2.1, bt694.2.2.1, bt700.1, bt700.2.1, bt700.2.2.1, bt706.1, bt706.2.1, bt706.2.2.1)))))
theorem spec_DrawGroup.mono : ∀ a0 k, LeO (spec_DrawGroup.f k a0) (spec_DrawGroup.f (k + 1) a0) := by
 intro a0 k
 unfold spec_DrawGroup.f
 repeat' first
   | (with_reducible exact spec_l01New.mono _ _)
   | (with_reducible exact spec_l07Group.mono _ _ _ _)
   | (with_reducible exact LeO.refl _)
   | (with_reducible exact LeO.none _)
   | (with_reducible refine LeO.ite ?_ ?_)
   | (with_reducible refine LeO.bind ?_ (fun _ => ?_))
   | exact spec_l01New.mono _ _
   | exact spec_l07Group.mono _ _ _ _
   | exact LeO.none _
   | refine LeO.ite ?_ ?_
   | refine LeO.bind ?_ (fun _ => ?_)
set_option maxHeartbeats 8000000 in
set_option maxRecDepth 100000 in
theorem spec_DrawGroup.calls (k : Nat) (A0 : Option Addr) (c0 : Nat) (l0 : List Int) (r1 : Int) (r2 : Int) (r3 : Bool) (r4 : Int) (r5 : Int) (r6 : Bool) (r7 : Int) (r8 : Int) (r9 : Bool) (w : World) (hr0 : Kd.C (Kd.int .u8) w A0 l0.length l0) (hc0 : l0.length ≤ c0) (h : spec_DrawGroup.f k l0 = some (r1, r2, r3, r4, r5, r6, r7, r8, r9)) :
  Calls Try.prog 15 #[.slice A0 l0.length c0] w fun e w' => e = .returned (.tuple #[.agg #[.int .i64 r1, .int .i64 r2, .bool r3], .agg #[.int .i64 r4, .int .i64 r5, .bool r6], .agg #[.int .i64 r7, .int .i64 r8, .bool r9]]) ∧ Below w.heap.size w w' := by
 have hu25 := Try.underlying25
 have HR0 := Aside0.mk hr0
 have HC0 := Aside0.mk hc0
 clear hr0 hc0
 have HB := Aside0.mk (Below.refl w.heap.size w)
 have H : ((spec_l01New.f k l0).bind fun bt690 => ((spec_l07Group.f k bt690.1 bt690.2.1 bt690.2.2).bind fun bt694 => ((spec_l07Group.f k bt690.1 bt694.2.2.2.1 bt694.2.2.2.2).bind fun bt700 => ((spec_l07Group.f k bt690.1 bt700.2.2.2.1 bt700.2.2.2.2).bind fun bt706 => (some (bt694.1, bt694.2.1, bt694.2.2.1, bt700.1, bt700.2.1, bt700.2.2.1, bt706.1, bt706.2.1, bt706.2.2.1)))))) = some (r1, r2, r3, r4, r5, r6, r7, r8, r9) := h
 clear h
 replace H := Option.bind_eq_some_iff.mp H
 obtain ⟨⟨t690, t691, t692⟩, A20, H⟩ := H
 have A2 := Aside0.mk A20
 clear A20
 replace H := Option.bind_eq_some_iff.mp H
 obtain ⟨⟨t694, t695, t696, t697, t698⟩, A30, H⟩ := H
 have A3 := Aside0.mk A30
 clear A30
 replace H := Option.bind_eq_some_iff.mp H
 obtain ⟨⟨t700, t701, t702, t703, t704⟩, A40, H⟩ := H
 have A4 := Aside0.mk A40
 clear A40
 replace H := Option.bind_eq_some_iff.mp H
 obtain ⟨⟨t706, t707, t708, t709, t710⟩, A50, H⟩ := H
 have A5 := Aside0.mk A50
 clear A50
 simp only [Option.some.injEq, Prod.mk.injEq] at H
 obtain ⟨rfl, rfl, rfl, rfl, rfl, rfl, rfl, rfl, rfl⟩ := H
 go_enter Try.func15, Try.ntmps15
 try go_wp2_with (first | ((with_reducible refine gate_dst (N := 2) rfl ?_); refine bE 2 #[.int .i64 0, .int .i64 0, .bool false] 25 ?_; intro gb687 hg w6 hbox hb; have BK687 := Aside0.mk (hbox); have GW687 := bG HB hg; have GE687 := bG HB hg; replace HB := bS HB hb; clear hb hbox hg) | ((with_reducible refine gate_dst (N := 3) rfl ?_); refine bE 3 #[.int .i64 0, .int .i64 0, .bool false] 25 ?_; intro gb688 hg w7 hbox hb; have BK688 := Aside0.mk (hbox); have GW688 := bG HB hg; have GE688 := bG HB hg; replace HB := bS HB hb; have NB687_688 := bL BK687 hg; have NB688_687 := bR BK687 hg; replace BK687 := bB BK687 hb; clear hb hbox hg) | ((with_reducible refine gate_dst (N := 4) rfl ?_); refine bE 4 #[.int .i64 0, .int .i64 0, .bool false] 25 ?_; intro gb689 hg w8 hbox hb; have BK689 := Aside0.mk (hbox); have GW689 := bG HB hg; have GE689 := bG HB hg; replace HB := bS HB hb; have NB687_689 := bL BK687 hg; have NB689_687 := bR BK687 hg; replace BK687 := bB BK687 hb; have NB688_689 := bL BK688 hg; have NB689_688 := bR BK688 hg; replace BK688 := bB BK688 hb; clear hb hbox hg) | ((with_reducible refine gate_callee (f := 59) rfl ?_); refine gL (some 9) Try.func59 #[.slice A0 l0.length c0] ?_; (with_reducible refine (spec_l01New.calls k _ _ l0 t690 t691 t692 w _ ?side1 ?side2 ?side3 A2.out).mono ?_); (case side1 => repeat (first | (with_reducible first | exact HB.out | apply below_alloc | apply pw_below_drewN | apply below_drew1 | refine below_set ?_ GE687.out | refine below_set ?_ GE688.out | refine below_set ?_ GE689.out) | exact HB.out)); (case side2 => exact HR0.out); (case side3 => exact HC0.out); rintro e w9 ⟨g693, rfl, hi, hb, hb2⟩; refine ⟨_, rfl, ?_⟩; replace HB := Aside0.mk (hb); have HI693 := Aside0.mk (hi); have NB693_687 := Aside0.mk (IsS89.ne_blk hi (blk_below (bP BK687) hb2) (by decide)); have NB687_693 := Aside0.mk (Ne.symm (IsS89.ne_blk hi (blk_below (bP BK687) hb2) (by decide))); replace BK687 := Aside0.mk (blk_below (bP BK687) hb2); have NB693_688 := Aside0.mk (IsS89.ne_blk hi (blk_below (bP BK688) hb2) (by decide)); have NB688_693 := Aside0.mk (Ne.symm (IsS89.ne_blk hi (blk_below (bP BK688) hb2) (by decide))); replace BK688 := Aside0.mk (blk_below (bP BK688) hb2); have NB693_689 := Aside0.mk (IsS89.ne_blk hi (blk_below (bP BK689) hb2) (by decide)); have NB689_693 := Aside0.mk (Ne.symm (IsS89.ne_blk hi (blk_below (bP BK689) hb2) (by decide))); replace BK689 := Aside0.mk (blk_below (bP BK689) hb2); (try clear hb)) | ((with_reducible refine gate_callee (f := 60) rfl ?_); refine gL (some 11) Try.func60 #[.pointer (some ⟨g693, 0, none⟩)] ?_; (with_reducible refine (spec_l07Group.calls k g693 t690 t691 t692 t694 t695 t696 t697 t698 w _ ?side1 ?side2 A3.out).mono ?_); (case side1 => repeat (first | (with_reducible first | exact HI693.out | apply IsS89.alloc | apply IsS89.drewN | apply IsS89.drew | apply IsS89.set_1 | apply IsS89.set_2 | refine IsS89.far ?_ NB693_687.out _ | refine IsS89.far ?_ NB693_688.out _ | refine IsS89.far ?_ NB693_689.out _) | exact HI693.out)); (case side2 => repeat (first | (with_reducible first | exact HB.out | apply below_alloc | apply pw_below_drewN | apply below_drew1 | refine below_set ?_ (IsS89.ge HI693.out) | refine below_set ?_ GE687.out | refine below_set ?_ GE688.out | refine below_set ?_ GE689.out) | exact HB.out)); rintro e w10 ⟨rfl, hi, hb, hk⟩; refine ⟨_, rfl, ?_⟩; replace BK687 := Aside0.mk (KeepBut.blk hk (g' := gb687) (o := .cells #[.int .i64 0, .int .i64 0, .bool false] 25 (0, 0)) (bP BK687) NB687_693.out (by simp)); replace BK688 := Aside0.mk (KeepBut.blk hk (g' := gb688) (o := .cells #[.int .i64 0, .int .i64 0, .bool false] 25 (0, 0)) (bP BK688) NB688_693.out (by simp)); replace BK689 := Aside0.mk (KeepBut.blk hk (g' := gb689) (o := .cells #[.int .i64 0, .int .i64 0, .bool false] 25 (0, 0)) (bP BK689) NB689_693.out (by simp)); replace HB := Aside0.mk (hb); replace HI693 := Aside0.mk (hi); (try clear hb)) | ((with_reducible refine gate_dst (N := 6) rfl ?_); refine bE 6 #[.int .i64 0, .int .i64 0, .bool false] 25 ?_; intro gb699 hg w11 hbox hb; have BK699 := Aside0.mk (hbox); have GW699 := Aside0.mk ((by rw [hg]; exact (below_size (by repeat (first | (with_reducible first | exact HB.out | apply below_alloc | apply pw_below_drewN | apply below_drew1 | refine below_set ?_ (IsS89.ge HI693.out) | refine below_set ?_ GE687.out | refine below_set ?_ GE688.out | refine below_set ?_ GE689.out) | exact HB.out))) : w.heap.size ≤ gb699)); have GE699 := Aside0.mk ((by rw [hg]; exact (below_size (by repeat (first | (with_reducible first | exact HB.out | apply below_alloc | apply pw_below_drewN | apply below_drew1 | refine below_set ?_ (IsS89.ge HI693.out) | refine below_set ?_ GE687.out | refine below_set ?_ GE688.out | refine below_set ?_ GE689.out) | exact HB.out))) : w.heap.size ≤ gb699)); replace HB := Aside0.mk (below_step (by repeat (first | (with_reducible first | exact HB.out | apply below_alloc | apply pw_below_drewN | apply below_drew1 | refine below_set ?_ (IsS89.ge HI693.out) | refine below_set ?_ GE687.out | refine below_set ?_ GE688.out | refine below_set ?_ GE689.out) | exact HB.out)) hb); have NB687_699 := bL BK687 hg; have NB699_687 := bR BK687 hg; replace BK687 := bB BK687 hb; have NB688_699 := bL BK688 hg; have NB699_688 := bR BK688 hg; replace BK688 := bB BK688 hb; have NB689_699 := bL BK689 hg; have NB699_689 := bR BK689 hg; replace BK689 := bB BK689 hb; have NB693_699 := Aside0.mk ((by rw [hg]; exact Nat.ne_of_lt (IsS89.lt (show IsS89 w _ g693 t690 t697 t698 from by repeat (first | (with_reducible first | exact HI693.out | apply IsS89.alloc | apply IsS89.drewN | apply IsS89.drew | apply IsS89.set_1 | apply IsS89.set_2 | refine IsS89.far ?_ NB693_687.out _ | refine IsS89.far ?_ NB693_688.out _ | refine IsS89.far ?_ NB693_689.out _) | exact HI693.out))) : g693 ≠ gb699)); have NB699_693 := Aside0.mk ((by rw [hg]; exact Nat.ne_of_gt (IsS89.lt (show IsS89 w _ g693 t690 t697 t698 from by repeat (first | (with_reducible first | exact HI693.out | apply IsS89.alloc | apply IsS89.drewN | apply IsS89.drew | apply IsS89.set_1 | apply IsS89.set_2 | refine IsS89.far ?_ NB693_687.out _ | refine IsS89.far ?_ NB693_688.out _ | refine IsS89.far ?_ NB693_689.out _) | exact HI693.out))) : gb699 ≠ g693)); replace HI693 := Aside0.mk (IsS89.below (by repeat (first | (with_reducible first | exact HI693.out | apply IsS89.alloc | apply IsS89.drewN | apply IsS89.drew | apply IsS89.set_1 | apply IsS89.set_2 | refine IsS89.far ?_ NB693_687.out _ | refine IsS89.far ?_ NB693_688.out _ | refine IsS89.far ?_ NB693_689.out _) | exact HI693.out)) hb); clear hb hbox hg; obtain ⟨hnb12, hnc12⟩ := nB NB699_687; obtain ⟨hnb13, hnc13⟩ := nB NB699_688; obtain ⟨hnb14, hnc14⟩ := nB NB699_689; obtain ⟨hnb15, hnc15⟩ := nB NB699_693; obtain ⟨hcz16_0, hcz16_1, hcz16_2, hfz16_0, hfz16_1, hfz16_2⟩ := bK3 (w := w11) BK699) | ((with_reducible refine gate_callee (f := 60) rfl ?_); refine gL (some 13) Try.func60 #[.pointer (some ⟨g693, 0, none⟩)] ?_; (with_reducible refine (spec_l07Group.calls k g693 t690 t697 t698 t700 t701 t702 t703 t704 w _ ?side1 ?side2 A4.out).mono ?_); (case side1 => repeat (first | (with_reducible first | exact HI693.out | apply IsS89.alloc | apply IsS89.drewN | apply IsS89.drew | apply IsS89.set_1 | apply IsS89.set_2 | refine IsS89.far ?_ NB693_687.out _ | refine IsS89.far ?_ NB693_688.out _ | refine IsS89.far ?_ NB693_689.out _ | refine IsS89.far ?_ NB693_699.out _) | exact HI693.out)); (case side2 => repeat (first | (with_reducible first | exact HB.out | apply below_alloc | apply pw_below_drewN | apply below_drew1 | refine below_set ?_ (IsS89.ge HI693.out) | refine below_set ?_ GE687.out | refine below_set ?_ GE688.out | refine below_set ?_ GE689.out | refine below_set ?_ GE699.out) | exact HB.out)); rintro e w17 ⟨rfl, hi, hb, hk⟩; refine ⟨_, rfl, ?_⟩; replace BK687 := Aside0.mk (KeepBut.blk hk (g' := gb687) (o := .cells #[.int .i64 0, .int .i64 0, .bool false] 25 (0, 0)) (bP BK687) NB687_693.out (by simp)); replace BK688 := Aside0.mk (KeepBut.blk hk (g' := gb688) (o := .cells #[.int .i64 0, .int .i64 0, .bool false] 25 (0, 0)) (bP BK688) NB688_693.out (by simp)); replace BK689 := Aside0.mk (KeepBut.blk hk (g' := gb689) (o := .cells #[.int .i64 0, .int .i64 0, .bool false] 25 (0, 0)) (bP BK689) NB689_693.out (by simp)); replace BK699 := Aside0.mk (KeepBut.blk hk (g' := gb699) (o := .cells #[.int .i64 t694, .int .i64 t695, .bool t696] 25 (0, 0)) (bU BK699) NB699_693.out (by simp)); replace HB := Aside0.mk (hb); replace HI693 := Aside0.mk (hi); (try clear hb)) | ((with_reducible refine gate_dst (N := 7) rfl ?_); refine bE 7 #[.int .i64 0, .int .i64 0, .bool false] 25 ?_; intro gb705 hg w18 hbox hb; have BK705 := Aside0.mk (hbox); have GW705 := Aside0.mk ((by rw [hg]; exact (below_size (by repeat (first | (with_reducible first | exact HB.out | apply below_alloc | apply pw_below_drewN | apply below_drew1 | refine below_set ?_ (IsS89.ge HI693.out) | refine below_set ?_ GE687.out | refine below_set ?_ GE688.out | refine below_set ?_ GE689.out | refine below_set ?_ GE699.out) | exact HB.out))) : w.heap.size ≤ gb705)); have GE705 := Aside0.mk ((by rw [hg]; exact (below_size (by repeat (first | (with_reducible first | exact HB.out | apply below_alloc | apply pw_below_drewN | apply below_drew1 | refine below_set ?_ (IsS89.ge HI693.out) | refine below_set ?_ GE687.out | refine below_set ?_ GE688.out | refine below_set ?_ GE689.out | refine below_set ?_ GE699.out) | exact HB.out))) : w.heap.size ≤ gb705)); replace HB := Aside0.mk (below_step (by repeat (first | (with_reducible first | exact HB.out | apply below_alloc | apply pw_below_drewN | apply below_drew1 | refine below_set ?_ (IsS89.ge HI693.out) | refine below_set ?_ GE687.out | refine below_set ?_ GE688.out | refine below_set ?_ GE689.out | refine below_set ?_ GE699.out) | exact HB.out)) hb); have NB687_705 := bL BK687 hg; have NB705_687 := bR BK687 hg; replace BK687 := bB BK687 hb; have NB688_705 := bL BK688 hg; have NB705_688 := bR BK688 hg; replace BK688 := bB BK688 hb; have NB689_705 := bL BK689 hg; have NB705_689 := bR BK689 hg; replace BK689 := bB BK689 hb; have NB699_705 := bL BK699 hg; have NB705_699 := bR BK699 hg; replace BK699 := bB BK699 hb; have NB693_705 := Aside0.mk ((by rw [hg]; exact Nat.ne_of_lt (IsS89.lt (show IsS89 w _ g693 t690 t703 t704 from by repeat (first | (with_reducible first | exact HI693.out | apply IsS89.alloc | apply IsS89.drewN | apply IsS89.drew | apply IsS89.set_1 | apply IsS89.set_2 | refine IsS89.far ?_ NB693_687.out _ | refine IsS89.far ?_ NB693_688.out _ | refine IsS89.far ?_ NB693_689.out _ | refine IsS89.far ?_ NB693_699.out _) | exact HI693.out))) : g693 ≠ gb705)); have NB705_693 := Aside0.mk ((by rw [hg]; exact Nat.ne_of_gt (IsS89.lt (show IsS89 w _ g693 t690 t703 t704 from by repeat (first | (with_reducible first | exact HI693.out | apply IsS89.alloc | apply IsS89.drewN | apply IsS89.drew | apply IsS89.set_1 | apply IsS89.set_2 | refine IsS89.far ?_ NB693_687.out _ | refine IsS89.far ?_ NB693_688.out _ | refine IsS89.far ?_ NB693_689.out _ | refine IsS89.far ?_ NB693_699.out _) | exact HI693.out))) : gb705 ≠ g693)); replace HI693 := Aside0.mk (IsS89.below (by repeat (first | (with_reducible first | exact HI693.out | apply IsS89.alloc | apply IsS89.drewN | apply IsS89.drew | apply IsS89.set_1 | apply IsS89.set_2 | refine IsS89.far ?_ NB693_687.out _ | refine IsS89.far ?_ NB693_688.out _ | refine IsS89.far ?_ NB693_689.out _ | refine IsS89.far ?_ NB693_699.out _) | exact HI693.out)) hb); clear hb hbox hg; obtain ⟨hnb19, hnc19⟩ := nB NB705_687; obtain ⟨hnb20, hnc20⟩ := nB NB705_688; obtain ⟨hnb21, hnc21⟩ := nB NB705_689; obtain ⟨hnb22, hnc22⟩ := nB NB705_699; obtain ⟨hnb23, hnc23⟩ := nB NB705_693; obtain ⟨hcz24_0, hcz24_1, hcz24_2, hfz24_0, hfz24_1, hfz24_2⟩ := bK3 (w := w18) BK705))
 obtain ⟨w25, hW_⟩ : ∃ W_ : World, W_ = (((w18.setCell ⟨gb705, 0, none⟩ (.int .i64 t700)).setCell ⟨gb705, 1, none⟩ (.int .i64 t701)).setCell ⟨gb705, 2, none⟩ (.bool t702)) := ⟨_, rfl⟩
 replace BK687 := bW hW_ BK687
 replace BK688 := bW hW_ BK688
 replace BK689 := bW hW_ BK689
 replace BK699 := bW hW_ BK699
 replace BK705 := bX hW_ 25 #[.int .i64 t700, .int .i64 t701, .bool t702] BK705
 have n5_ : Aside0 (IsS89 w (((w18.setCell ⟨gb705, 0, none⟩ (.int .i64 t700)).setCell ⟨gb705, 1, none⟩ (.int .i64 t701)).setCell ⟨gb705, 2, none⟩ (.bool t702)) g693 t690 t703 t704) := ⟨by repeat (first | (with_reducible first | exact HI693.out | apply IsS89.alloc | apply IsS89.drewN | apply IsS89.drew | apply IsS89.set_1 | apply IsS89.set_2 | refine IsS89.far ?_ NB693_687.out _ | refine IsS89.far ?_ NB693_688.out _ | refine IsS89.far ?_ NB693_689.out _ | refine IsS89.far ?_ NB693_699.out _ | refine IsS89.far ?_ NB693_705.out _) | exact HI693.out)⟩
 rw [← hW_] at n5_
 have n6_ : Aside0 (Below w.heap.size w (((w18.setCell ⟨gb705, 0, none⟩ (.int .i64 t700)).setCell ⟨gb705, 1, none⟩ (.int .i64 t701)).setCell ⟨gb705, 2, none⟩ (.bool t702))) := ⟨by repeat (first | (with_reducible first | exact HB.out | apply below_alloc | apply pw_below_drewN | apply below_drew1 | refine below_set ?_ (IsS89.ge HI693.out) | refine below_set ?_ GE687.out | refine below_set ?_ GE688.out | refine below_set ?_ GE689.out | refine below_set ?_ GE699.out | refine below_set ?_ GE705.out) | exact HB.out)⟩
 rw [← hW_] at n6_
 (try clear HI693)
 (try clear HB)
 have HI693 := n5_
 clear n5_
 have HB := n6_
 clear n6_
 rw [← hW_]
 clear hW_
 replace BK687 := Aside0.mk (blk_drew BK687.out)
 replace BK688 := Aside0.mk (blk_drew BK688.out)
 replace BK689 := Aside0.mk (blk_drew BK689.out)
 replace BK699 := Aside0.mk (blk_drew BK699.out)
 replace BK705 := Aside0.mk (blk_drew BK705.out)
 replace HI693 := Aside0.mk (IsS89.drew HI693.out)
 replace HB := Aside0.mk (below_drew1 HB.out)
 refine start_ (n := 7) (S := fun w' => SP3 w' gb699 (.int .i64 t694) (.int .i64 t695) (.bool t696) (SQ3 w' gb705 (.int .i64 t700) (.int .i64 t701) (.bool t702))) (ds := []) #[false, false, false, false, false, false, false] (by kernel_rfl) rfl rfl (bS3 BK699 (bT3 BK705)) (fun hHeld => ?_)
 generalize w25.drew = w26 at BK687 BK688 BK689 BK699 BK705 HI693 HB hHeld ⊢
 refine pure_ (i := 2) (N := some 16) (v := ?_) (a' := ?_) #[false, false, true, false, false, false, false] rfl rfl (by kernel_rfl) (fun _ _ _ h => h) (Or.inl ⟨by rfl, ?_⟩) ?_ ?_
 rotate_left
 ·intro w'
  go_simp
  with_reducible rfl
 rotate_left
 ·simp only [Act.put, List.setIfInBounds_toArray, List.set_cons_zero, List.set_cons_succ, i64_w, i32_w]
  rfl
 refine take_ (i := 0) (N := some 14) (v := ?_) (a' := ?_) #[true, false, true, false, false, false, false] rfl rfl (by kernel_rfl) (fun _ _ _ h => h) (Or.inl ⟨by rfl, ?_⟩) hHeld ?_ ?_
 rotate_left
 ·rintro w' ⟨s0, s1, s2, s3, s4, s5⟩
  go_simp
  with_reducible rfl
 rotate_left
 ·simp only [Act.put, List.setIfInBounds_toArray, List.set_cons_zero, List.set_cons_succ, i64_w, i32_w]
  rfl
 refine take_ (i := 1) (N := some 15) (v := ?_) (a' := ?_) #[true, true, true, false, false, false, false] rfl rfl (by kernel_rfl) (fun _ _ _ h => h) (Or.inl ⟨by rfl, ?_⟩) hHeld ?_ ?_
 rotate_left
 ·rintro w' ⟨s0, s1, s2, s3, s4, s5⟩
  go_simp
  with_reducible rfl
 rotate_left
 ·simp only [Act.put, List.setIfInBounds_toArray, List.set_cons_zero, List.set_cons_succ, i64_w, i32_w]
  rfl
 refine one_ (i := 3) (N := some 17) #[true, true, true, true, false, false, false] rfl rfl (by kernel_rfl) (by decide) (fun K hK => ?_)
 refine gO Try.func60 #[.pointer (some ⟨g693, 0, none⟩)] ?_
 with_reducible refine (spec_l07Group.calls k g693 t690 t703 t704 t706 t707 t708 t709 t710 w _ ?side1 ?side2 A5.out).mono ?_
 (case side1 => repeat (first | (with_reducible first | exact HI693.out | apply IsS89.alloc | apply IsS89.drewN | apply IsS89.drew | apply IsS89.set_1 | apply IsS89.set_2 | refine IsS89.far ?_ NB693_687.out _ | refine IsS89.far ?_ NB693_688.out _ | refine IsS89.far ?_ NB693_689.out _ | refine IsS89.far ?_ NB693_699.out _ | refine IsS89.far ?_ NB693_705.out _) | exact HI693.out))
 (case side2 => repeat (first | (with_reducible first | exact HB.out | apply below_alloc | apply pw_below_drewN | apply below_drew1 | refine below_set ?_ (IsS89.ge HI693.out) | refine below_set ?_ GE687.out | refine below_set ?_ GE688.out | refine below_set ?_ GE689.out | refine below_set ?_ GE699.out | refine below_set ?_ GE705.out) | exact HB.out))
 rintro e w27 ⟨rfl, hi, hb, hk⟩
 refine ⟨_, rfl, ?_⟩
 replace BK687 := Aside0.mk (KeepBut.blk hk (g' := gb687) (o := .cells #[.int .i64 0, .int .i64 0, .bool false] 25 (0, 0)) (bP BK687) NB687_693.out (by simp))
 replace BK688 := Aside0.mk (KeepBut.blk hk (g' := gb688) (o := .cells #[.int .i64 0, .int .i64 0, .bool false] 25 (0, 0)) (bP BK688) NB688_693.out (by simp))
 replace BK689 := Aside0.mk (KeepBut.blk hk (g' := gb689) (o := .cells #[.int .i64 0, .int .i64 0, .bool false] 25 (0, 0)) (bP BK689) NB689_693.out (by simp))
 replace BK699 := Aside0.mk (KeepBut.blk hk (g' := gb699) (o := .cells #[.int .i64 t694, .int .i64 t695, .bool t696] 25 (0, 0)) (bP BK699) NB699_693.out (by simp))
 replace BK705 := Aside0.mk (KeepBut.blk hk (g' := gb705) (o := .cells #[.int .i64 t700, .int .i64 t701, .bool t702] 25 (0, 0)) (bP BK705) NB705_693.out (by simp))
 replace HB := Aside0.mk (hb)
 replace HI693 := Aside0.mk (hi)
 (try clear hb)
 refine hK.out _ _ (bS3 BK699 (bT3 BK705)) (fun hHeld => ?_)
 clear hK K
 refine nO (some 17) ?_
 refine one_ (i := 4) (N := none) #[true, true, true, true, true, false, false] rfl rfl (by kernel_rfl) (by decide) (fun K hK => ?_)
 have hs28 : w27.cell? ⟨gb687, 0, none⟩ = some (.int .i64 0) := bc BK687 0
 have hfs28 := blk_frozen BK687.out 0
 have hns28_1 := NB688_687.out
 have hns28_2 := NB689_687.out
 have hns28_3 := NB699_687.out
 have hns28_4 := NB705_687.out
 have hms28_1 := NB687_688.out
 have hms28_2 := NB687_689.out
 have hms28_3 := NB687_699.out
 have hms28_4 := NB687_705.out
 have hs29 : w27.cell? ⟨gb687, 1, none⟩ = some (.int .i64 0) := bc BK687 1
 have hfs29 := blk_frozen BK687.out 1
 have hns29_1 := NB688_687.out
 have hns29_2 := NB689_687.out
 have hns29_3 := NB699_687.out
 have hns29_4 := NB705_687.out
 have hms29_1 := NB687_688.out
 have hms29_2 := NB687_689.out
 have hms29_3 := NB687_699.out
 have hms29_4 := NB687_705.out
 have hs30 : w27.cell? ⟨gb687, 2, none⟩ = some (.bool false) := bc BK687 2
 have hfs30 := blk_frozen BK687.out 2
 have hns30_1 := NB688_687.out
 have hns30_2 := NB689_687.out
 have hns30_3 := NB699_687.out
 have hns30_4 := NB705_687.out
 have hms30_1 := NB687_688.out
 have hms30_2 := NB687_689.out
 have hms30_3 := NB687_699.out
 have hms30_4 := NB687_705.out
 refine skip_ (w1 := ?_) (by rfl) rfl ?_ ?_
 rotate_left
 ·go_simp
  rfl
 refine hK.out _ _ ⟨((cell_far (p := ⟨gb687, _, none⟩) NB699_687.out _).trans (((cell_far (p := ⟨gb687, _, none⟩) NB699_687.out _).trans (((cell_far (p := ⟨gb687, _, none⟩) NB699_687.out _).trans (hHeld.1)))))), ((cell_far (p := ⟨gb687, _, none⟩) NB699_687.out _).trans (((cell_far (p := ⟨gb687, _, none⟩) NB699_687.out _).trans (((cell_far (p := ⟨gb687, _, none⟩) NB699_687.out _).trans (hHeld.2.1)))))), ((cell_far (p := ⟨gb687, _, none⟩) NB699_687.out _).trans (((cell_far (p := ⟨gb687, _, none⟩) NB699_687.out _).trans (((cell_far (p := ⟨gb687, _, none⟩) NB699_687.out _).trans (hHeld.2.2.1)))))), ((cell_far (p := ⟨gb687, _, none⟩) NB705_687.out _).trans (((cell_far (p := ⟨gb687, _, none⟩) NB705_687.out _).trans (((cell_far (p := ⟨gb687, _, none⟩) NB705_687.out _).trans (hHeld.2.2.2.1)))))), ((cell_far (p := ⟨gb687, _, none⟩) NB705_687.out _).trans (((cell_far (p := ⟨gb687, _, none⟩) NB705_687.out _).trans (((cell_far (p := ⟨gb687, _, none⟩) NB705_687.out _).trans (hHeld.2.2.2.2.1)))))), ((cell_far (p := ⟨gb687, _, none⟩) NB705_687.out _).trans (((cell_far (p := ⟨gb687, _, none⟩) NB705_687.out _).trans (((cell_far (p := ⟨gb687, _, none⟩) NB705_687.out _).trans (hHeld.2.2.2.2.2))))))⟩ (fun hHeld => ?_)
 clear hK K
 refine one_ (i := 5) (N := none) #[true, true, true, true, true, true, false] rfl rfl (by kernel_rfl) (by decide) (fun K hK => ?_)
 have hs31 : w27.cell? ⟨gb688, 0, none⟩ = some (.int .i64 0) := bc BK688 0
 have hfs31 := blk_frozen BK688.out 0
 have hns31_0 := NB687_688.out
 have hns31_2 := NB689_688.out
 have hns31_3 := NB699_688.out
 have hns31_4 := NB705_688.out
 have hms31_0 := NB688_687.out
 have hms31_2 := NB688_689.out
 have hms31_3 := NB688_699.out
 have hms31_4 := NB688_705.out
 have hs32 : w27.cell? ⟨gb688, 1, none⟩ = some (.int .i64 0) := bc BK688 1
 have hfs32 := blk_frozen BK688.out 1
 have hns32_0 := NB687_688.out
 have hns32_2 := NB689_688.out
 have hns32_3 := NB699_688.out
 have hns32_4 := NB705_688.out
 have hms32_0 := NB688_687.out
 have hms32_2 := NB688_689.out
 have hms32_3 := NB688_699.out
 have hms32_4 := NB688_705.out
 have hs33 : w27.cell? ⟨gb688, 2, none⟩ = some (.bool false) := bc BK688 2
 have hfs33 := blk_frozen BK688.out 2
 have hns33_0 := NB687_688.out
 have hns33_2 := NB689_688.out
 have hns33_3 := NB699_688.out
 have hns33_4 := NB705_688.out
 have hms33_0 := NB688_687.out
 have hms33_2 := NB688_689.out
 have hms33_3 := NB688_699.out
 have hms33_4 := NB688_705.out
 refine skip_ (w1 := ?_) (by rfl) rfl ?_ ?_
 rotate_left
 ·go_simp
  rfl
 refine hK.out _ _ ⟨((cell_far (p := ⟨gb688, _, none⟩) NB699_688.out _).trans (((cell_far (p := ⟨gb688, _, none⟩) NB699_688.out _).trans (((cell_far (p := ⟨gb688, _, none⟩) NB699_688.out _).trans (hHeld.1)))))), ((cell_far (p := ⟨gb688, _, none⟩) NB699_688.out _).trans (((cell_far (p := ⟨gb688, _, none⟩) NB699_688.out _).trans (((cell_far (p := ⟨gb688, _, none⟩) NB699_688.out _).trans (hHeld.2.1)))))), ((cell_far (p := ⟨gb688, _, none⟩) NB699_688.out _).trans (((cell_far (p := ⟨gb688, _, none⟩) NB699_688.out _).trans (((cell_far (p := ⟨gb688, _, none⟩) NB699_688.out _).trans (hHeld.2.2.1)))))), ((cell_far (p := ⟨gb688, _, none⟩) NB705_688.out _).trans (((cell_far (p := ⟨gb688, _, none⟩) NB705_688.out _).trans (((cell_far (p := ⟨gb688, _, none⟩) NB705_688.out _).trans (hHeld.2.2.2.1)))))), ((cell_far (p := ⟨gb688, _, none⟩) NB705_688.out _).trans (((cell_far (p := ⟨gb688, _, none⟩) NB705_688.out _).trans (((cell_far (p := ⟨gb688, _, none⟩) NB705_688.out _).trans (hHeld.2.2.2.2.1)))))), ((cell_far (p := ⟨gb688, _, none⟩) NB705_688.out _).trans (((cell_far (p := ⟨gb688, _, none⟩) NB705_688.out _).trans (((cell_far (p := ⟨gb688, _, none⟩) NB705_688.out _).trans (hHeld.2.2.2.2.2))))))⟩ (fun hHeld => ?_)
 clear hK K
 refine one_ (i := 6) (N := none) #[true, true, true, true, true, true, true] rfl rfl (by kernel_rfl) (by decide) (fun K hK => ?_)
 have hs34 : w27.cell? ⟨gb689, 0, none⟩ = some (.int .i64 0) := bc BK689 0
 have hfs34 := blk_frozen BK689.out 0
 have hns34_0 := NB687_689.out
 have hns34_1 := NB688_689.out
 have hns34_3 := NB699_689.out
 have hns34_4 := NB705_689.out
 have hms34_0 := NB689_687.out
 have hms34_1 := NB689_688.out
 have hms34_3 := NB689_699.out
 have hms34_4 := NB689_705.out
 have hs35 : w27.cell? ⟨gb689, 1, none⟩ = some (.int .i64 0) := bc BK689 1
 have hfs35 := blk_frozen BK689.out 1
 have hns35_0 := NB687_689.out
 have hns35_1 := NB688_689.out
 have hns35_3 := NB699_689.out
 have hns35_4 := NB705_689.out
 have hms35_0 := NB689_687.out
 have hms35_1 := NB689_688.out
 have hms35_3 := NB689_699.out
 have hms35_4 := NB689_705.out
 have hs36 : w27.cell? ⟨gb689, 2, none⟩ = some (.bool false) := bc BK689 2
 have hfs36 := blk_frozen BK689.out 2
 have hns36_0 := NB687_689.out
 have hns36_1 := NB688_689.out
 have hns36_3 := NB699_689.out
 have hns36_4 := NB705_689.out
 have hms36_0 := NB689_687.out
 have hms36_1 := NB689_688.out
 have hms36_3 := NB689_699.out
 have hms36_4 := NB689_705.out
 refine skip_ (w1 := ?_) (by rfl) rfl ?_ ?_
 rotate_left
 ·go_simp
  rfl
 refine hK.out _ _ ⟨((cell_far (p := ⟨gb689, _, none⟩) NB699_689.out _).trans (((cell_far (p := ⟨gb689, _, none⟩) NB699_689.out _).trans (((cell_far (p := ⟨gb689, _, none⟩) NB699_689.out _).trans (hHeld.1)))))), ((cell_far (p := ⟨gb689, _, none⟩) NB699_689.out _).trans (((cell_far (p := ⟨gb689, _, none⟩) NB699_689.out _).trans (((cell_far (p := ⟨gb689, _, none⟩) NB699_689.out _).trans (hHeld.2.1)))))), ((cell_far (p := ⟨gb689, _, none⟩) NB699_689.out _).trans (((cell_far (p := ⟨gb689, _, none⟩) NB699_689.out _).trans (((cell_far (p := ⟨gb689, _, none⟩) NB699_689.out _).trans (hHeld.2.2.1)))))), ((cell_far (p := ⟨gb689, _, none⟩) NB705_689.out _).trans (((cell_far (p := ⟨gb689, _, none⟩) NB705_689.out _).trans (((cell_far (p := ⟨gb689, _, none⟩) NB705_689.out _).trans (hHeld.2.2.2.1)))))), ((cell_far (p := ⟨gb689, _, none⟩) NB705_689.out _).trans (((cell_far (p := ⟨gb689, _, none⟩) NB705_689.out _).trans (((cell_far (p := ⟨gb689, _, none⟩) NB705_689.out _).trans (hHeld.2.2.2.2.1)))))), ((cell_far (p := ⟨gb689, _, none⟩) NB705_689.out _).trans (((cell_far (p := ⟨gb689, _, none⟩) NB705_689.out _).trans (((cell_far (p := ⟨gb689, _, none⟩) NB705_689.out _).trans (hHeld.2.2.2.2.2))))))⟩ (fun hHeld => ?_)
 clear hK K
 refine done_ (by kernel_rfl) ?_
 try go_wp2
 refine bodyPost_ret (results_list (rs := [.cell 2 25, .cell 3 25, .cell 4 25]) rfl (by simp) (.cell gb687 25 #[.int .i64 t694, .int .i64 t695, .bool t696] (0, 0) _ rfl (bU BK687) Try.underlying25 rfl (by kernel_rfl) (.cell gb688 25 #[.int .i64 t700, .int .i64 t701, .bool t702] (0, 0) _ rfl (bU BK688) Try.underlying25 rfl (by kernel_rfl) (.cell gb689 25 #[.int .i64 t706, .int .i64 t707, .bool t708] (0, 0) _ rfl (bU BK689) Try.underlying25 rfl (by kernel_rfl) .nil)))) rfl ?_
 exact ⟨by first | rfl | (simp [errW_none, errW_some] <;> rfl) | (simp [*, errW_none, errW_some] <;> rfl), by repeat (first | (with_reducible first | exact HB.out | apply below_alloc | apply pw_below_drewN | apply below_drew1 | refine below_set ?_ (IsS89.ge HI693.out) | refine below_set ?_ GE687.out | refine below_set ?_ GE688.out | refine below_set ?_ GE689.out | refine below_set ?_ GE699.out | refine below_set ?_ GE705.out) | exact HB.out)⟩
end Go.Proofs.Ytmbjefdkjdemhaa.Pf
end
section
/- What is proved here: a drawn point of the group is a multiple of the base. No conditions but that the bytes are no longer than a Go slice can be. -/
set_option linter.unusedVariables false
set_option linter.unusedSimpArgs false
namespace Go.Proofs.Ytmbjefdkjdemhaa.CrvDraw
open Go.RowKit Go.Proofs.Ytmbjefdkjdemhaa.Pf Go.Proofs.YtmbjefdkjdemhaaW.PrintWords Go.Proofs.Ytmbjefdkjdemhaa.Crv Go.Proofs.Ytmbjefdkjdemhaa.Link Go.Proofs.Ytmbjefdkjdemhaa.Draw
open Go.Proofs.Ytmbjefdkjdemhaa.Crv.Pt
theorem base_dec : dec 8445 859 false = some Base := by
  have h := dec_tr Base Ok_Base
  have e : tr Base = ((8445 : Int), (859 : Int), false) := by decide
  rw [e] at h
  exact h
theorem group_some (b : List Int) (i h : Int) (ho : Okc b i) : ∃ n i' h', (∀ k, 60 ≤ k → spec_l07Group.f k b i h = some ((tr (mul n Base)).1, (tr (mul n Base)).2.1, (tr (mul n Base)).2.2, i', h')) ∧ Okc b i' := by
  obtain ⟨x, i1, h1, e1, x0, x1, o1⟩ := below_some b i h 256 ho (by decide) (by decide)
  obtain ⟨y, i2, h2, e2, hy, o2⟩ := pick_some b i1 h1 [1, 2, 3, 0, 500, 1008, x] o1 (by simp) (by simp)
  refine ⟨often y, i2, h2, fun k hk => ?_, o2⟩
  simp only [spec_l07Group.f, e1, e2, Option.bind_some, spec_Base.f, spec_PointTimes_eq k (by omega), base_dec, timesO]
theorem drawgroup_ev (b : List Int) (hb : b.length ≤ 9223372036854775807) : ∃ l m n, Ev (fun k => spec_DrawGroup.f k b) ((tr (mul l Base)).1, (tr (mul l Base)).2.1, (tr (mul l Base)).2.2, (tr (mul m Base)).1, (tr (mul m Base)).2.1, (tr (mul m Base)).2.2, (tr (mul n Base)).1, (tr (mul n Base)).2.1, (tr (mul n Base)).2.2) := by
  obtain ⟨h, K, hK⟩ := new_ev b hb
  obtain ⟨l, i1, h1, e1, o1⟩ := group_some b 0 h (ok0 b hb)
  obtain ⟨m, i2, h2, e2, o2⟩ := group_some b i1 h1 o1
  obtain ⟨n, i3, h3, e3, o3⟩ := group_some b i2 h2 o2
  refine ⟨l, m, n, K + 90, fun k hk => ?_⟩
  have hk' := hK k (by omega)
  dsimp only at hk' ⊢
  simp only [spec_DrawGroup.f, hk', Option.bind_some, e1 k (by omega), e2 k (by omega), e3 k (by omega)]
end Go.Proofs.Ytmbjefdkjdemhaa.CrvDraw
end
section
/- What is proved here: what is drawn of points always answers. No conditions but that the bytes are no longer than a Go slice can be. -/
set_option linter.unusedVariables false
set_option linter.unusedSimpArgs false
namespace Go.Proofs.Ytmbjefdkjdemhaa.CrvDraw
open Go.RowKit Go.Proofs.Ytmbjefdkjdemhaa.Pf Go.Proofs.YtmbjefdkjdemhaaW.PrintWords Go.Proofs.Ytmbjefdkjdemhaa.Crv Go.Proofs.Ytmbjefdkjdemhaa.Link Go.Proofs.Ytmbjefdkjdemhaa.Draw
open Go.Proofs.Ytmbjefdkjdemhaa.Crv.Pt
theorem num_some (b : List Int) (i h : Int) (ho : Okc b i) : ∃ x i' h', spec_l04Num.f b i h = some (x, i', h') ∧ Okc b i' := by
  obtain ⟨x, i1, h1, e1, _, _, o1⟩ := below_some b i h 256 ho (by decide) (by decide)
  obtain ⟨y, i2, h2, e2, _, _, o2⟩ := below_some b i1 h1 256 o1 (by decide) (by decide)
  obtain ⟨z, i3, h3, e3, _, o3⟩ := pick_some b i2 h2 [0, 1, 2, 3, 12106, 12107, 12108, (-1), wrap64 (5000 + x), wrap64 (y * 47), (-9223372036854775808), 9223372036854775807] o2 (by simp) (by simp)
  refine ⟨z, i3, h3, ?_, o3⟩
  simp only [spec_l04Num.f, e1, e2, e3, Option.bind_some]
theorem any_some (b : List Int) (i h : Int) (ho : Okc b i) : ∃ x y z i' h', (∀ k, 100 ≤ k → spec_l07Any.f k b i h = some (x, y, z, i', h')) ∧ Okc b i' := by
  obtain ⟨n, i1, h1, e1, _, _, o1⟩ := below_some b i h 10 ho (by decide) (by decide)
  have main : ∀ c : Bool, ∃ x y z i' h', (∀ k, 100 ≤ k → spec_l07Any.j0 k n c b i1 h1 = some (x, y, z, i', h')) ∧ Okc b i' := by
    intro c
    by_cases hc : c = true
    · obtain ⟨A, i2, h2, hA, e2, o2⟩ := curve_some b i1 h1 o1
      refine ⟨(tr A).1, (tr A).2.1, (tr A).2.2, i2, h2, fun k hk => ?_, o2⟩
      obtain ⟨k, rfl⟩ : ∃ m, k = m + 1 := ⟨k - 1, by omega⟩
      simp only [spec_l07Any.j0]
      rw [if_pos hc, e2 k (by omega)]; rfl
    by_cases h3 : n = 3
    · obtain ⟨x, i2, h2, e2, o2⟩ := num_some b i1 h1 o1
      obtain ⟨y, i3, h3', e3, o3⟩ := num_some b i2 h2 o2
      refine ⟨x, y, false, i3, h3', fun k hk => ?_, o3⟩
      obtain ⟨k, rfl⟩ : ∃ m, k = m + 1 := ⟨k - 1, by omega⟩
      simp only [spec_l07Any.j0]
      rw [if_neg hc, if_pos h3, e2]
      simp only [Option.bind_some, e3]
    by_cases h4 : n = 4
    · obtain ⟨x, i2, h2, e2, _, _, o2⟩ := below_some b i1 h1 3 o1 (by decide) (by decide)
      refine ⟨x, 0, true, i2, h2, fun k hk => ?_, o2⟩
      obtain ⟨k, rfl⟩ : ∃ m, k = m + 1 := ⟨k - 1, by omega⟩
      simp only [spec_l07Any.j0]
      rw [if_neg hc, if_neg h3, if_pos h4, e2]; rfl
    by_cases h5 : n = 5
    · refine ⟨0, 0, false, i1, h1, fun k hk => ?_, o1⟩
      obtain ⟨k, rfl⟩ : ∃ m, k = m + 1 := ⟨k - 1, by omega⟩
      simp only [spec_l07Any.j0]
      rw [if_neg hc, if_neg h3, if_neg h4, if_pos h5]
    · obtain ⟨m, i2, h2, e2, o2⟩ := group_some b i1 h1 o1
      refine ⟨(tr (mul m Base)).1, (tr (mul m Base)).2.1, (tr (mul m Base)).2.2, i2, h2, fun k hk => ?_, o2⟩
      obtain ⟨k, rfl⟩ : ∃ m, k = m + 1 := ⟨k - 1, by omega⟩
      simp only [spec_l07Any.j0]
      rw [if_neg hc, if_neg h3, if_neg h4, if_neg h5, e2 k (by omega)]; rfl
  by_cases c0 : n = 0
  · obtain ⟨x, y, z, i', h', hm, o⟩ := main (n == 0)
    refine ⟨x, y, z, i', h', fun k hk => ?_, o⟩
    unfold spec_l07Any.f
    rw [e1]
    simp only [Option.bind_some]
    rw [if_pos c0]; exact hm k hk
  by_cases c1 : n = 1
  · obtain ⟨x, y, z, i', h', hm, o⟩ := main (n == 1)
    refine ⟨x, y, z, i', h', fun k hk => ?_, o⟩
    unfold spec_l07Any.f
    rw [e1]
    simp only [Option.bind_some]
    rw [if_neg c0, if_pos c1]; exact hm k hk
  · obtain ⟨x, y, z, i', h', hm, o⟩ := main (n == 2)
    refine ⟨x, y, z, i', h', fun k hk => ?_, o⟩
    unfold spec_l07Any.f
    rw [e1]
    simp only [Option.bind_some]
    rw [if_neg c0, if_neg c1]; exact hm k hk
theorem twopoints_ev (b : List Int) (hb : b.length ≤ 9223372036854775807) : ∃ x y z u v w, Ev (fun k => spec_l07Pair.f k b) (x, y, z, u, v, w) := by
  obtain ⟨h, K, hK⟩ := new_ev b hb
  obtain ⟨n, i1, h1, e1, _, _, o1⟩ := below_some b 0 h 5 (ok0 b hb) (by decide) (by decide)
  obtain ⟨x, y, z, i2, h2, e2, o2⟩ := any_some b i1 h1 o1
  obtain ⟨u, v, w, i3, h3, e3, o3⟩ := any_some b i2 h2 o2
  by_cases c0 : n = 0
  · refine ⟨x, y, z, x, y, z, K + 100, fun k hk => ?_⟩
    have hk' := hK k (by omega)
    dsimp only at hk' ⊢
    simp only [spec_l07Pair.f, hk', Option.bind_some, e1, e2 k (by omega)]
    rw [if_pos c0]
  by_cases c1 : n = 1
  · obtain ⟨u, v, w, e4⟩ : ∃ u v w, spec_PointNeg.f x y z = some (u, v, w) := by
      unfold spec_PointNeg.f
      by_cases hz : z = true
      · rw [if_pos hz]; exact ⟨_, _, _, rfl⟩
      · rw [if_neg hz, spec_FpSub_eq]; exact ⟨_, _, _, rfl⟩
    refine ⟨x, y, z, u, v, w, K + 100, fun k hk => ?_⟩
    have hk' := hK k (by omega)
    dsimp only at hk' ⊢
    simp only [spec_l07Pair.f, hk', Option.bind_some, e1, e2 k (by omega)]
    rw [if_neg c0, if_pos c1, e4]; rfl
  · refine ⟨x, y, z, u, v, w, K + 100, fun k hk => ?_⟩
    have hk' := hK k (by omega)
    dsimp only at hk' ⊢
    simp only [spec_l07Pair.f, hk', Option.bind_some, e1, e2 k (by omega)]
    rw [if_neg c0, if_neg c1, e3 k (by omega)]; rfl
end Go.Proofs.Ytmbjefdkjdemhaa.CrvDraw
end
section
/- What is proved here: points come back from their texts; whatever is cleared of the rest is in the group; what is drawn of the rest, the program answers as the reference. No conditions. -/
set_option linter.unusedVariables false
set_option linter.unusedSimpArgs false
namespace Go.Proofs.Ytmbjefdkjdemhaa.Pure
open Go.RowKit Go.Proofs.Ytmbjefdkjdemhaa.Pf Go.Proofs.YtmbjefdkjdemhaaW.PrintWords Go.Proofs.Ytmbjefdkjdemhaa.Crv Go.Proofs.Ytmbjefdkjdemhaa.Link
open Go.Proofs.Ytmbjefdkjdemhaa.CrvDraw Go.Proofs.Ytmbjefdkjdemhaa.Crv.Pt Go.Proofs.Ytmbjefdkjdemhaa.Comm Go.Proofs.Ytmbjefdkjdemhaa.Draw Go.Proofs.Ytmbjefdkjdemhaa.Sum
set_option maxRecDepth 4000
theorem points_l0 (b : List Int) : ∀ (d j : Nat) (xs : List PS) (i h : Int), j + d = 5 → xs.length = j → Okc b i →
    ∃ ys i' h', (∀ k, 100 + d < k → spec_l07Points.l0 k xs (j : Int) b i h = some (ys, i', h')) ∧ ys.length ≤ 5 ∧ Okc b i' := by
  intro d
  induction d with
  | zero =>
    intro j xs i h hj hl ho
    obtain ⟨n, i1, h1, e1, n0, n1, o1⟩ := below_some b i h 5 ho (by decide) (by decide)
    refine ⟨xs, i1, h1, fun k hk => ?_, by omega, o1⟩
    obtain ⟨k, rfl⟩ : ∃ m, k = m + 1 := ⟨k - 1, by omega⟩
    rw [spec_l07Points.l0, e1, Option.bind_some, if_neg (by omega)]
  | succ d ih =>
    intro j xs i h hj hl ho
    obtain ⟨n, i1, h1, e1, n0, n1, o1⟩ := below_some b i h 5 ho (by decide) (by decide)
    by_cases c0 : (j : Int) < n
    · obtain ⟨m, i2, h2, e2, o2⟩ := group_some b i1 h1 o1
      obtain ⟨ys, i3, h3, e3, l3, o3⟩ := ih (j + 1) (xs ++ [⟨(tr (mul m Base)).1, (tr (mul m Base)).2.1, (tr (mul m Base)).2.2⟩]) i2 h2 (by omega) (by simp [hl]) o2
      refine ⟨ys, i3, h3, fun k hk => ?_, l3, o3⟩
      obtain ⟨k, rfl⟩ : ∃ m, k = m + 1 := ⟨k - 1, by omega⟩
      rw [spec_l07Points.l0, e1, Option.bind_some, if_pos c0, e2 k (by omega), Option.bind_some, if_pos (by omega), wrapd (by omega) (by omega), show (j : Int) + 1 = ((j + 1 : Nat) : Int) by omega]
      exact e3 k (by omega)
    · refine ⟨xs, i1, h1, fun k hk => ?_, by omega, o1⟩
      obtain ⟨k, rfl⟩ : ∃ m, k = m + 1 := ⟨k - 1, by omega⟩
      rw [spec_l07Points.l0, e1, Option.bind_some, if_neg c0]
theorem drawsum_ev (b : List Int) (hb : b.length ≤ 9223372036854775807) : ∃ ys : List PS, ys.length ≤ 6 ∧ Ev (fun k => spec_DrawSumPoints.f k b) ys := by
  obtain ⟨h, K, hK⟩ := new_ev b hb
  obtain ⟨ys, i1, h1, e1, l1, o1⟩ := points_l0 b 5 0 [] 0 h (by omega) rfl (ok0 b hb)
  have e1' : ∀ k, 200 ≤ k → spec_l07Points.f k b 0 h = some (ys, i1, h1) := fun k hk => e1 k (by omega)
  obtain ⟨c, i2, h2, e2, o2⟩ := once_some b i1 h1 8 o1 (by decide) (by decide)
  by_cases hc : c = true
  · obtain ⟨x, y, z, i3, h3, e3, o3⟩ := any_some b i2 h2 o2
    refine ⟨ys ++ [⟨x, y, z⟩], by simp; omega, K + 300, fun k hk => ?_⟩
    have g := hK k (by omega)
    dsimp only at g ⊢
    unfold spec_DrawSumPoints.f
    rw [g, Option.bind_some, e1' k (by omega), Option.bind_some, e2, Option.bind_some, if_pos hc, e3 k (by omega), Option.bind_some, if_pos (show ys.length < 5864062014805 by omega)]
  · refine ⟨ys, by omega, K + 300, fun k hk => ?_⟩
    have g := hK k (by omega)
    dsimp only at g ⊢
    unfold spec_DrawSumPoints.f
    rw [g, Option.bind_some, e1' k (by omega), Option.bind_some, e2, Option.bind_some, if_neg hc]
theorem drawread_ev (b : List Int) (hb : b.length ≤ 9223372036854775807) : ∃ u, Ev (fun k => spec_DrawReadPoint.f k b) u := by
  obtain ⟨h, K, hK⟩ := new_ev b hb
  obtain ⟨n, i1, h1, e1, _, _, o1⟩ := below_some b 0 h 4 (ok0 b hb) (by decide) (by decide)
  obtain ⟨x, y, z, i2, h2, e2, o2⟩ := any_some b i1 h1 o1
  have hz := ptxt_size x y z
  by_cases c0 : n = 0
  · obtain ⟨t, i3, h3, e3, _, _⟩ := text_some b i2 h2 3 (by decide) (by decide) o2
    refine ⟨t, K + 7000, fun k hk => ?_⟩
    have g := hK k (by omega)
    dsimp only at g ⊢
    unfold spec_DrawReadPoint.f
    rw [g, Option.bind_some, e1, Option.bind_some, e2 k (by omega), Option.bind_some, spec_PointText_eq, Option.bind_some, if_pos c0, e3 k (by omega), Option.bind_some]
  by_cases c1 : n = 1
  · refine ⟨ptxt x y z ++ (⟨#[120]⟩ : ByteArray), K + 7000, fun k hk => ?_⟩
    have g := hK k (by omega)
    dsimp only at g ⊢
    unfold spec_DrawReadPoint.f
    rw [g, Option.bind_some, e1, Option.bind_some, e2 k (by omega), Option.bind_some, spec_PointText_eq, Option.bind_some, if_neg c0, if_pos c1, if_pos (show (ptxt x y z).size + 1 ≤ 9223372036854775807 by omega)]
  by_cases c2 : n = 2
  · obtain ⟨t, i3, h3, e3, _, _⟩ := spoilt_some b i2 h2 (ptxt x y z) (by omega) o2
    refine ⟨t, K + 7000, fun k hk => ?_⟩
    have g := hK k (by omega)
    dsimp only at g ⊢
    unfold spec_DrawReadPoint.f
    rw [g, Option.bind_some, e1, Option.bind_some, e2 k (by omega), Option.bind_some, spec_PointText_eq, Option.bind_some, if_neg c0, if_neg c1, if_pos c2, e3 k (by omega), Option.bind_some]
  · refine ⟨ptxt x y z, K + 7000, fun k hk => ?_⟩
    have g := hK k (by omega)
    dsimp only at g ⊢
    unfold spec_DrawReadPoint.f
    rw [g, Option.bind_some, e1, Option.bind_some, e2 k (by omega), Option.bind_some, spec_PointText_eq, Option.bind_some, if_neg c0, if_neg c1, if_neg c2]
theorem FnPoints : laws_FnPoints.Pure := by
  intro b hb _ _
  unfold maxLen at hb
  by_cases hbig : (b.length : Int) > 1048576
  · exact ⟨0, by simp only [laws_FnPoints.f, laws_big.f, Option.bind_some]; rw [if_pos (decide_eq_true hbig)]⟩
  obtain ⟨A, B, C, hA, hB, hC, K1, d1⟩ := drawcurve_ev b (by omega)
  obtain ⟨u, K2, d2⟩ := drawread_ev b (by omega)
  obtain ⟨h, K, hK⟩ := new_ev b (by omega)
  obtain ⟨x, y, z, i1, h1, e1, o1⟩ := any_some b 0 h (ok0 b (by omega))
  obtain ⟨p1, p2, p3, q1, q2, q3, K3, d3⟩ := twopoints_ev b (by omega)
  obtain ⟨n, i2, h2, e2, _, o2⟩ := pick_some b 0 h [0, 1, 2, (-1), 1009, 12108, 12109, (-9223372036854775808), 9223372036854775807, 77] (ok0 b (by omega)) (by simp) (by simp)
  obtain ⟨r1, r2, r3, i3, h3, e3, o3⟩ := any_some b i2 h2 o2
  obtain ⟨ys, hys, K4, d4⟩ := drawsum_ev b (by omega)
  dsimp only at d1 d2 hK d3 d4
  obtain ⟨k, hk⟩ : ∃ k, k = K + K1 + K2 + K3 + K4 + 10000 := ⟨_, rfl⟩
  refine ⟨k, ?_⟩
  have f1 : spec_DrawInGroup.f k b = some (x, y, z) := by unfold spec_DrawInGroup.f; rw [hK k (by omega), Option.bind_some, e1 k (by omega), Option.bind_some]
  have f2 : spec_DrawPointAdd.f k b = some (p1, p2, p3, q1, q2, q3) := by unfold spec_DrawPointAdd.f; rw [d3 k (by omega), Option.bind_some]
  have f3 : spec_DrawPointTimes.f k b = some (n, r1, r2, r3) := by unfold spec_DrawPointTimes.f; rw [hK k (by omega), Option.bind_some, e2, Option.bind_some, e3 k (by omega), Option.bind_some]
  have s1 : impl_SumPoints.f k ys = some (sumL ys (0, 0, true)) := impl_Sum_l0 ys (by omega) ys.length 0 k (0, 0, true) (by omega) (by omega)
  have s2 : spec_SumPoints.f k ys = some (sumL ys (0, 0, true)) := spec_Sum_l0 ys (by omega) ys.length 0 k (0, 0, true) (by omega) (by omega)
  obtain ⟨t1, t2⟩ := read_ptxt A hA
  have gB : inG (some (mul 12 B)) = true := by
    show isO (mul 1009 (mul 12 B)) = true
    rw [cofactor_in B hB]; rfl
  have g12 : impl_PointTimes.f k 12 (tr B).1 (tr B).2.1 (tr B).2.2 = some (tr (mul 12 B)) := by
    rw [impl_PointTimes_eq k (by omega), dec_tr B hB, show often 12 = 12 by decide]; rfl
  have gM : impl_InGroup.f k (tr (mul 12 B)).1 (tr (mul 12 B)).2.1 (tr (mul 12 B)).2.2 = some true := by
    rw [impl_InGroup_eq k (by omega), dec_tr _ (Ok_mul hB 12), gB]
  have gBase : impl_InGroup.f k 8445 859 false = some true := by
    rw [impl_InGroup_eq k (by omega), CrvDraw.base_dec]
    show some (isO (mul 1009 Base)) = some true
    rw [order]; rfl
  have tail : ((impl_PointTimes.f k 12 (tr B).1 (tr B).2.1 (tr B).2.2).bind fun bt627 => ((impl_InGroup.f k bt627.1 bt627.2.1 bt627.2.2).bind fun t630 => (if t630 = true then ((impl_InGroup.f k x y z).bind fun t631 => ((spec_InGroup.f k x y z).bind fun t632 => (if (t631 == t632) = true then ((impl_PointAdd.f k p1 p2 p3 q1 q2 q3).bind fun bt633 => ((spec_PointAdd.f k p1 p2 p3 q1 q2 q3).bind fun bt636 => (if (bt633.1 == bt636.1 && (bt633.2.1 == bt636.2.1 && (bt633.2.2 == bt636.2.2))) = true then ((impl_PointTimes.f k n r1 r2 r3).bind fun bt639 => ((spec_PointTimes.f k n r1 r2 r3).bind fun bt642 => (if (bt639.1 == bt642.1 && (bt639.2.1 == bt642.2.1 && (bt639.2.2 == bt642.2.2))) = true then ((impl_SumPoints.f k ys).bind fun bt645 => ((spec_SumPoints.f k ys).bind fun bt648 => (if (bt645.1 == bt648.1 && (bt645.2.1 == bt648.2.1 && (bt645.2.2 == bt648.2.2))) = true then ((impl_Base.f).bind fun bt651 => ((impl_InGroup.f k bt651.1 bt651.2.1 bt651.2.2).bind fun t654 => (if t654 = true then ((impl_PointOk.f x y z).bind fun t655 => ((spec_PointOk.f x y z).bind fun t656 => (some (t655 == t656)))) else (some false)))) else (some false)))) else (some false)))) else (some false)))) else (some false)))) else (some false)))) = some true := by
    rw [g12, Option.bind_some, gM, Option.bind_some, if_pos rfl, impl_InGroup_eq k (by omega), Option.bind_some, spec_InGroup_eq k (by omega), Option.bind_some, if_pos (beq_self_eq_true _), impl_PointAdd_eq k (by omega), Option.bind_some, spec_PointAdd_eq k (by omega), Option.bind_some, beq_self_eq_true, beq_self_eq_true, beq_self_eq_true, if_pos (by decide),
      impl_PointTimes_eq k (by omega), Option.bind_some, spec_PointTimes_eq k (by omega), Option.bind_some, beq_self_eq_true, beq_self_eq_true, beq_self_eq_true, if_pos (by decide), s1, Option.bind_some, s2, Option.bind_some, beq_self_eq_true, beq_self_eq_true, beq_self_eq_true, if_pos (by decide), impl_Base.f, Option.bind_some, gBase, Option.bind_some, if_pos rfl, impl_PointOk_eq, Option.bind_some, spec_PointOk_eq, Option.bind_some, beq_self_eq_true]
  unfold laws_FnPoints.f
  simp only [laws_big.f, Option.bind_some]
  rw [decide_eq_false hbig, if_neg (by decide), d1 k (by omega), Option.bind_some, impl_PointText_eq, Option.bind_some, impl_ReadPoint_eq k (by omega), Option.bind_some, d2 k (by omega), Option.bind_some, impl_ReadPoint_eq k (by omega), Option.bind_some, spec_ReadPoint_eq k (by omega), Option.bind_some, f1, Option.bind_some, f2, Option.bind_some, f3, Option.bind_some, d4 k (by omega), Option.bind_some, t1, if_pos rfl, beq_self_eq_true, beq_self_eq_true, beq_self_eq_true, if_pos (by decide), if_pos (by rw [t2]; rfl), if_pos (beq_self_eq_true _)]
  by_cases hv : (readP u).2.2.2 = true
  · have hu : readP u = ((readP u).1, (readP u).2.1, (readP u).2.2.1, true) := by rw [← hv]
    rw [if_pos hv, impl_PointText_eq, Option.bind_some, if_pos (ptxt_read u _ _ _ hu)]
    exact tail
  · rw [if_neg hv]
    exact tail
end Go.Proofs.Ytmbjefdkjdemhaa.Pure
end
section
namespace Go.Proofs.Ytmbjefdkjdemhaa.fnPoints
open Go.ChangeShapes Go.WideShapes Go.ChangeAt Go.RowKit
open Go.ChangeMaps (open_string shut_string)
set_option linter.unusedVariables false
theorem own : ownKnob Try.prog.godebug = none := by kernel_rfl
theorem laidOut : laidOutB Try.prog = true := by kernel_rfl
def IsRow (k : IntKind) (w : World) (a : Option Addr) (len cap : Nat) (zs : List Int) : Prop :=
  (a = none ∧ len = 0 ∧ cap = 0 ∧ zs = []) ∨
  ∃ x, a = some x ∧ len ≤ cap ∧ cap ≤ maxLen ∧ zs.length = cap ∧ (∀ i, i < zs.length → w.cell? (x.add i) = some (.int k (zs.getD i 0))) ∧ ∀ n ∈ zs, (Lit.int k n).wf = true
set_option maxRecDepth 100000 in
theorem lifted (os : Os) (started : os.Started) (H : Type) (enc : TypeId × Value → H) :
    ReturnsInHanded {} Try.checked os 12 .any (Rows.fnPointsSpec.pre6 enc Try.prog Try.f12 Rows.fnPointsRow.domain false) (Rows.fnPointsSpec.post enc Try.prog Try.f12 false true false false) := by
  refine returnsInHanded_of_change_sized (C := Try.checked) own started (by kernel_rfl) Try.func12
    (ChangeSpec.witness6 (enc := enc) (C := Try.checked) false ⟨#[], #[.slice none 0 0], []⟩ 8 (by kernel_rfl) (by kernel_rfl) (by kernel_rfl) (by kernel_rfl)) ?_
  intro W base args ds gs before hval0 hW hcnd hsz0 _
  have hsz : (DataW.weightsEach Try.prog (Try.f12.params.toList ++ Rows.fnPointsSpec.plain.varTypes Try.prog) (ds ++ gs)).all (· ≤ reachBytes) = true := hsz0
  have hval : ∀ (j : Nat) t v, Try.f12.params[j]? = some t → args[j]? = some v → Value.okWide Try.prog W .any base t v := hval0
  have hW' := hW
  obtain ⟨p, q, hA0, hV, rfl, hfz, hnd⟩ := hW
  have hA : DataW.TrodAll enc Try.prog W 0 (fun _ => true) true Try.f12.params.toList args.toList ds p := hA0
  rw [Try.params12] at hA hval hsz
  obtain ⟨v0, vs0, d0, ds0, p0, q0, hargs, rfl, rfl, h0, r0⟩ := trodAll_cons hA
  obtain ⟨rfl, rfl, rfl⟩ := trodAll_nil r0
  obtain rfl : args = #[v0] := by cases args; simp_all
  obtain ⟨rfl, rfl⟩ := trodVars_none hV
  obtain ⟨a0, len0, cap0, rfl⟩ := okWide_slice Try.underlying22 (hval 0 22 v0 rfl rfl)
  have k0 := h0
  have lt0 : ∀ x ∈ p0, x.block < W.heap.size := by obtain ⟨m, hm⟩ := k0; exact DataW.trod_lt m _ _ _ hm
  obtain ⟨z0, w0⟩ : ∃ zs, IsRow .u8 W a0 len0 cap0 zs := by
    obtain ⟨fuel, hf⟩ := h0
    rcases open_ints Try.underlying22 Try.underlying5 (by kernel_rfl) hf with ⟨hcs, _⟩ | ⟨x, l, c, zs, hcs, _, hl, hm, hz, _, hcell, hwz⟩
    · simp [Value.cells] at hcs
      obtain ⟨rfl, rfl, rfl⟩ := hcs
      exact ⟨[], .inl ⟨rfl, rfl, rfl, rfl⟩⟩
    · simp [Value.cells] at hcs
      obtain ⟨rfl, rfl, rfl⟩ := hcs
      exact ⟨zs, .inr ⟨_, rfl, hl, hm, by simpa using hz, hcell, hwz⟩⟩
  have y0 : len0 * 1 ≤ 140737488351232 := Go.Proofs.YtmbjefdkjdemhaaW.PrintWords.sized_ints hsz (j := 0) (t := 22) rfl rfl Try.underlying22 Try.underlying5 (by kernel_rfl) (by kernel_rfl) h0
  clear hA0 hval0 hsz0 hsz
  refine (Pf.laws_FnPoints.walk Pure.FnPoints a0 len0 cap0 z0 W w0 y0).mono fun e W' ⟨he, bel⟩ => ?_
  subst he
  exact ⟨_, rfl, _, _, _, [], _, [], hW', trodAll_mk1 (shut_bool Try.underlying4 _), (trodAll_cons_mk (Below.trod laidOut (by kernel_rfl) (of_decide_eq_true (by kernel_rfl)) k0 bel lt0) trodAll_mk0), rfl, bel.frame _, fun h => by cases h⟩
theorem over : Rows.fnPointsRow.holds Try.pinned (OpenSpec.ofChange Rows.fnPointsSpec) :=
  OpenClaim.holds_of_wide 12 Try.f12 rfl rfl rfl rfl rfl rfl rfl ⟨rfl, rfl, rfl, rfl, rfl⟩ rfl rfl rfl rfl rfl (by kernel_rfl) Try.func12 (by kernel_rfl)
    (of_decide_eq_true (by kernel_rfl)) (by unfold Func.isWrapper; first | (rw [if_pos (by decide +kernel)]; kernel_rfl) | (rw [if_neg (by decide +kernel)]; exact ⟨rfl, rfl⟩))
    (fun os started H enc _ => lifted os started H enc)
theorem proved : Rows.FnPointsSaid := over
#print axioms proved
end Go.Proofs.Ytmbjefdkjdemhaa.fnPoints
namespace Go.Proofs.Ytmbjefdkjdemhaa
/-- The row, under a short name, for the claim. -/
theorem fnPoints_holds : Rows.FnPointsSaid := fnPoints.proved
end Go.Proofs.Ytmbjefdkjdemhaa
end
