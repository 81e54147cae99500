/- What is proved here: part 5 of 5 of the proof of the given statement FnExactPairing: the contracts of the Go functions that it reaches, the plain facts on lists and numbers, and (in the last part) the statement itself. No conditions beyond the given ones. -/
import Derived.Test.YtmbjefdkjdemhaaMFnExactPairinga
import Derived.Test.YtmbjefdkjdemhaaMFnExactPairingc
import Derived.Test.YtmbjefdkjdemhaaMFnExactPairingd
import Derived.Test.YtmbjefdkjdemhaaMFnExactPairingb
import Derived.Test.YtmbjefdkjdemhaaMFnExactPairingwMore
import Derived.Deep.Slices
import Derived.ChangeArms
import Derived.DataReads
import Derived.ChangeShapes
import Derived.Test.YtmbjefdkjdemhaaMFnExactPairingwSlim
import Derived.Test.YtmbjefdkjdemhaaRows
import Derived.WalkKit
import Derived.ProofKit
import Derived.OpenShut
import Derived.ShutString
import Derived.ChangeOld
import Derived.Below
import Derived.SizedLaws

section
/- What is proved here: what PairLine answers, of the program and of the reference alike, as a plain function. No conditions. -/
set_option linter.unusedVariables false
set_option linter.unusedSimpArgs false
namespace Go.Proofs.Ytmbjefdkjdemhaa.Link
open Go.RowKit Go.Proofs.Ytmbjefdkjdemhaa.Pf Go.Proofs.YtmbjefdkjdemhaaW.PrintWords Go.Proofs.Ytmbjefdkjdemhaa.Crv
open Go.Proofs.Ytmbjefdkjdemhaa.Crv.Pt
set_option maxRecDepth 4000


def lineO : Option Pt → Option Pt → Option Pt → T
  | some A, some B, some (P q q') => L q q' A B
  | _, _, _ => one
def I2 (z : T) : Int × Int := (I z.1, I z.2)
theorem lineO_a (x y : Int) (z : Bool) (h : z = true) (B Q : Option Pt) : lineO (dec x y z) B Q = one := by
  unfold dec
  rw [if_pos h]
  by_cases d : x = 0 ∧ y = 0
  · rw [if_pos d]
    cases B with
    | none => rfl
    | some B =>
      cases Q with
      | none => rfl
      | some Q => cases Q <;> first | rfl | exact L_zero _ _ _
  · rw [if_neg d]; rfl
theorem lineO_b (x y : Int) (z : Bool) (h : z = true) (A Q : Option Pt) : lineO A (dec x y z) Q = one := by
  unfold dec
  rw [if_pos h]
  by_cases d : x = 0 ∧ y = 0
  · rw [if_pos d]
    cases A with
    | none => rfl
    | some A =>
      cases Q with
      | none => rfl
      | some Q => cases Q <;> first | rfl | exact L_zero' _ _ _
  · rw [if_neg d]
    cases A <;> rfl
theorem lineO_q (x y : Int) (z : Bool) (h : z = true) (A B : Option Pt) : lineO A B (dec x y z) = one := by
  unfold dec
  rw [if_pos h]
  by_cases d : x = 0 ∧ y = 0
  · rw [if_pos d]
    cases A <;> cases B <;> rfl
  · rw [if_neg d]
    cases A <;> cases B <;> rfl
theorem I2_one : I2 one = (1, 0) := rfl

theorem impl_PairLine_eq (k : Nat) (hk : 22 ≤ k) (x y : Int) (z : Bool) (u v : Int) (w : Bool) (q q' : Int) (r : Bool) :
    impl_PairLine.f k x y z u v w q q' r = some (I2 (lineO (dec x y z) (dec u v w) (dec q q' r))) := by
  obtain ⟨k, rfl⟩ : ∃ m, k = m + 1 := ⟨k - 1, by omega⟩
  have e0 : impl_PairLine.j0 (k + 1) true x y z u v w q q' r 1 0 = some (1, 0) := by simp only [impl_PairLine.j0, if_true]
  unfold impl_PairLine.f
  rw [e0]
  by_cases c1 : z = true
  · rw [if_pos c1, lineO_a _ _ _ c1]; rfl
  by_cases c2 : w = true
  · rw [if_neg c1, if_pos c2, lineO_b _ _ _ c2]; rfl
  by_cases c3 : r = true
  · rw [if_neg c1, if_neg c2, if_pos c3, lineO_q _ _ _ c3]; rfl
  rw [if_neg c1, if_neg c2, if_neg c3]
  simp only [impl_PointOk_eq, Option.bind_some]
  cases h : dec x y z with
  | none => rfl
  | some A =>
    rw [Option.isSome_some, if_pos rfl]
    cases g : dec u v w with
    | none => rfl
    | some B =>
      rw [Option.isSome_some, if_pos rfl]
      cases f : dec q q' r with
      | none => exact e0
      | some Q =>
        obtain ⟨hA, rfl, rfl, rfl⟩ := dec_ok h
        obtain ⟨hB, rfl, rfl, rfl⟩ := dec_ok g
        obtain ⟨hQ, rfl, rfl, rfl⟩ := dec_ok f
        cases A with
        | O => exact absurd rfl c1
        | P a a' =>
          cases B with
          | O => exact absurd rfl c2
          | P b b' =>
            cases Q with
            | O => exact absurd rfl c3
            | P q q' =>
              simp only [impl_PairLine.j0, tr, Option.isSome_some, Bool.not_true, Bool.false_eq_true, if_false, impl_slope_eq k (by omega) a a' b b' hA hB, Option.bind_some, lineO, L]
              by_cases e : Up a a' b b'
              · simp only [if_pos e, Bool.false_eq_true, if_false]; rfl
              · simp only [if_neg e, if_true, impl_FpSub_eq, impl_FpMul_eq, Option.bind_some, R_I, R_zero]; rfl

theorem spec_PairLine_eq (k : Nat) (hk : 22 ≤ k) (x y : Int) (z : Bool) (u v : Int) (w : Bool) (q q' : Int) (r : Bool) :
    spec_PairLine.f k x y z u v w q q' r = some (I2 (lineO (dec x y z) (dec u v w) (dec q q' r))) := by
  obtain ⟨k, rfl⟩ : ∃ m, k = m + 1 := ⟨k - 1, by omega⟩
  have e0 : spec_PairLine.j0 (k + 1) true x y z u v w q q' r 1 0 = some (1, 0) := by simp only [spec_PairLine.j0, if_true]
  unfold spec_PairLine.f
  rw [e0]
  by_cases c1 : z = true
  · rw [if_pos c1, lineO_a _ _ _ c1]; rfl
  by_cases c2 : w = true
  · rw [if_neg c1, if_pos c2, lineO_b _ _ _ c2]; rfl
  by_cases c3 : r = true
  · rw [if_neg c1, if_neg c2, if_pos c3, lineO_q _ _ _ c3]; rfl
  rw [if_neg c1, if_neg c2, if_neg c3]
  simp only [spec_PointOk_eq, Option.bind_some]
  cases h : dec x y z with
  | none => rfl
  | some A =>
    rw [Option.isSome_some, if_pos rfl]
    cases g : dec u v w with
    | none => rfl
    | some B =>
      rw [Option.isSome_some, if_pos rfl]
      cases f : dec q q' r with
      | none => exact e0
      | some Q =>
        obtain ⟨hA, rfl, rfl, rfl⟩ := dec_ok h
        obtain ⟨hB, rfl, rfl, rfl⟩ := dec_ok g
        obtain ⟨hQ, rfl, rfl, rfl⟩ := dec_ok f
        cases A with
        | O => exact absurd rfl c1
        | P a a' =>
          cases B with
          | O => exact absurd rfl c2
          | P b b' =>
            cases Q with
            | O => exact absurd rfl c3
            | P q q' =>
              simp only [spec_PairLine.j0, tr, Option.isSome_some, Bool.not_true, Bool.false_eq_true, if_false, spec_slope_eq k (by omega) a a' b b' hA hB, Option.bind_some, lineO, L]
              by_cases e : Up a a' b b'
              · simp only [if_pos e, Bool.false_eq_true, if_false]; rfl
              · simp only [if_neg e, if_true, spec_FpSub_eq, spec_FpMul_eq, Option.bind_some, R_I, R_zero]; rfl

end Go.Proofs.Ytmbjefdkjdemhaa.Link
end
section
/- What is proved here: the pairing of multiples of the base is the product's power of one number. No conditions but that points lie on the curve. -/
namespace Go.Proofs.Ytmbjefdkjdemhaa.Crv
set_option linter.unusedVariables false
set_option linter.unusedSimpArgs false
open Pt
def tpow (z : T) : Nat → T
  | 0 => one
  | n + 1 => tm (tpow z n) z
theorem tpow_add (z : T) (m : Nat) : ∀ n, tpow z (m + n) = tm (tpow z m) (tpow z n)
  | 0 => (tm_one _).symm
  | n + 1 => by rw [Nat.add_succ, tpow, tpow_add z m n, tm_assoc]; rfl
theorem tpow_mul (z : T) (m : Nat) : ∀ n, tpow z (m * n) = tpow (tpow z m) n
  | 0 => rfl
  | n + 1 => by rw [Nat.mul_succ, tpow_add, tpow_mul z m n, tpow]
theorem tpow_tm (z w : T) : ∀ n, tpow (tm z w) n = tm (tpow z n) (tpow w n)
  | 0 => (tm_one _).symm
  | n + 1 => by rw [tpow, tpow, tpow, tpow_tm z w n]; simp only [tm_assoc, tm_comm, tm_left]
theorem tpow_one : ∀ n, tpow one n = one
  | 0 => rfl
  | n + 1 => by rw [tpow, tpow_one n]; rfl
theorem tpow_1 (z : T) : tpow z 1 = z := one_tm z
/-- the loop that squares -/
def tpwl : Nat → T → Nat → T → T
  | 0, _, _, out => out
  | f + 1, z, n, out => if n = 0 then out else tpwl f (tm z z) (n / 2) (if n % 2 = 1 then tm out z else out)
theorem tpwl_eq : ∀ (f : Nat) (z : T) (n : Nat) (out : T), n < 2 ^ f → tpwl f z n out = tm out (tpow z n)
  | 0, z, n, out, h => by
    obtain rfl : n = 0 := by simp at h; exact h
    rw [tpwl, tpow, tm_one]
  | f + 1, z, n, out, h => by
    rw [tpwl]
    by_cases c : n = 0
    · subst c; rw [if_pos rfl, tpow, tm_one]
    rw [if_neg c]
    rw [Nat.pow_succ] at h
    have e2 : tpow (tm z z) (n / 2) = tpow z (2 * (n / 2)) := by
      rw [tpow_mul]; congr 1; rw [tpow, tpow_1]
    by_cases d : n % 2 = 1
    · rw [if_pos d, tpwl_eq f _ _ _ (by omega), e2, tm_assoc]
      have : n = 1 + 2 * (n / 2) := by omega
      conv => rhs; rw [this]
      rw [tpow_add, tpow_1]
    · rw [if_neg d, tpwl_eq f _ _ _ (by omega), e2, show 2 * (n / 2) = n by omega]

/-! what grows along the multiples -/
def g (q q' : F) : Nat → Pt → T
  | 0, _ => one
  | n + 1, A => tm (g q q' n A) (lam q q' (mul n A) A)
section
variable (q q' : F) (hq : On q q') (hn : q' ≠ 0)
include hq hn
theorem g_add (A : Pt) (hA : Ok A) (m : Nat) : ∀ n, g q q' (m + n) A = tm (tm (g q q' m A) (g q q' n A)) (lam q q' (mul m A) (mul n A))
  | 0 => by rw [g, mul, lam_zero', tm_one, tm_one, Nat.add_zero]
  | n + 1 => by
    have h := cocycle q q' hq hn _ _ _ (Ok_mul hA m) (Ok_mul hA n) hA
    rw [Nat.add_succ, g, g_add A hA m n, mul_add hA, tm_assoc, h, g, mul]
    simp only [tm_assoc]
theorem lam4 (A B C D : Pt) (hA : Ok A) (hB : Ok B) (hC : Ok C) (hD : Ok D) :
    tm (tm (lam q q' A B) (lam q q' C D)) (lam q q' (add A B) (add C D)) = tm (tm (lam q q' A C) (lam q q' B D)) (lam q q' (add A C) (add B D)) := by
  have h1 := cocycle q q' hq hn (add A B) C D (Ok_add hA hB) hC hD
  have h2 := cocycle q q' hq hn (add A C) B D (Ok_add hA hC) hB hD
  have h3 := cocycle q q' hq hn A B C hA hB hC
  have h4 := cocycle q q' hq hn A C B hA hC hB
  rw [add_comm C B hC hB, lam_comm q q' C B hC hB, ← h3] at h4
  have e : add (add A C) B = add (add A B) C := by
    rw [assoc _ _ _ hA hC hB, add_comm C B hC hB, assoc _ _ _ hA hB hC]
  rw [tm_assoc, ← h1, ← tm_assoc, ← h4, tm_assoc, tm_assoc, ← h2, e]
theorem g_sum (A B : Pt) (hA : Ok A) (hB : Ok B) : ∀ n, tm (g q q' n (add A B)) (tpow (lam q q' A B) n) = tm (tm (g q q' n A) (g q q' n B)) (lam q q' (mul n A) (mul n B))
  | 0 => by rw [g, g, g, mul, mul, lam_zero]; rfl
  | n + 1 => by
    have h := g_sum A B hA hB n
    have h4 := lam4 q q' hq hn _ _ _ _ (Ok_mul hA n) (Ok_mul hB n) hA hB
    rw [g, tpow, mul_sum hA hB, g, g, mul, mul]
    have e : tm (tm (g q q' n (add A B)) (lam q q' (add (mul n A) (mul n B)) (add A B))) (tm (tpow (lam q q' A B) n) (lam q q' A B)) =
      tm (tm (g q q' n (add A B)) (tpow (lam q q' A B) n)) (tm (lam q q' A B) (lam q q' (add (mul n A) (mul n B)) (add A B))) := by
      simp only [tm_assoc, tm_comm, tm_left]
    rw [e, h, tm_assoc, ← tm_assoc (lam q q' (mul n A) (mul n B)), h4]
    simp only [tm_assoc, tm_comm, tm_left]
end
theorem g_O (q q' : F) : ∀ n, g q q' n O = one
  | 0 => rfl
  | n + 1 => by rw [g, g_O q q' n, lam_zero', tm_one]

/-! numbers for pairs -/
def encT (z : T) : Nat := z.1.val * 16384 + z.2.val
theorem encT_inj {z w : T} (h : encT z = encT w) : z = w := by
  obtain ⟨a, b⟩ := z
  obtain ⟨c, d⟩ := w
  have := a.isLt; have := b.isLt; have := c.isLt; have := d.isLt
  simp only [encT] at h
  rw [show a = c from Fin.ext (by omega), show b = d from Fin.ext (by omega)]
def ntm (c d : Nat) : Nat := frc (c / 16384) fun a => frc (c % 16384) fun b => frc (d / 16384) fun u => frc (d % 16384) fun v =>
  ns (nm a u) (nm b v) * 16384 + (nm a v + nm b u) % 12107
theorem enc_fst (z : T) : encT z / 16384 = z.1.val := by have := z.2.isLt; unfold encT; omega
theorem enc_snd (z : T) : encT z % 16384 = z.2.val := by have := z.2.isLt; unfold encT; omega
theorem ntm_eq (z w : T) : ntm (encT z) (encT w) = encT (tm z w) := by
  unfold ntm
  rw [frc_eq, frc_eq, frc_eq, frc_eq, enc_fst, enc_snd, enc_fst, enc_snd]; rfl
def ntpwl : Nat → Nat → Nat → Nat → Nat
  | 0, _, _, out => out
  | f + 1, z, n, out => cond (Nat.beq n 0) out (frc (ntm z z) fun s => frc (cond (Nat.beq (n % 2) 1) (ntm out z) out) fun o => ntpwl f s (n / 2) o)
theorem ntpwl_eq : ∀ (f : Nat) (z : T) (n : Nat) (out : T), ntpwl f (encT z) n (encT out) = encT (tpwl f z n out)
  | 0, _, _, _ => rfl
  | f + 1, z, n, out => by
    rw [ntpwl, tpwl]
    by_cases c : n = 0
    · subst c; rw [if_pos rfl]; rfl
    · rw [if_neg c, show Nat.beq n 0 = false by rw [← Bool.not_eq_true, Nat.beq_eq]; exact c, cond_false, frc_eq, frc_eq, ntm_eq]
      by_cases d : n % 2 = 1
      · rw [if_pos d, d, show Nat.beq 1 1 = true from rfl, cond_true, ntm_eq, ntpwl_eq]
      · rw [if_neg d, show n % 2 = 0 by omega, show Nat.beq 0 1 = false from rfl, cond_false, ntpwl_eq]
def nN (c : Nat) : Nat := frc (c / 16384) fun a => frc (c % 16384) fun b => frc (ni ((nm a a + nm b b) % 12107)) fun i => frc (ns 0 b) fun d =>
  ntm (a * 16384 + d) (nm a i * 16384 + nm d i)
theorem nN_eq (z : T) : nN (encT z) = encT (N z) := by
  unfold nN
  rw [frc_eq, frc_eq, frc_eq, frc_eq, enc_fst, enc_snd, N, ← ntm_eq]
  congr 1
def uchk (t : Nat) : Bool := cond (Nat.ble 12107 t) true (frb (nN (t * 16384 + 1)) fun c => Nat.beq (ntpwl 14 c 12108 16384) 16384)
theorem uchk_all : all2 uchk 14 0 = true := by decide +kernel
theorem encT_one : encT one = 16384 := by decide
theorem unit_pow (z : T) (h : tnorm z ≠ 0) : tpow (N z) 12108 = one := by
  obtain ⟨a, b⟩ := z
  by_cases hb : b = 0
  · subst hb
    have ha : a ≠ 0 := by
      intro e; subst e; exact h (by decide)
    rw [N_real a ha, tpow_one]
  · have i := mul_inv b hb
    have e : (a, b) = tm (b, 0) (a * inv b, 1) := by
      generalize inv b = j at i
      simp only [tm, Prod.mk.injEq]; constructor <;> grobner
    rw [e, N_mul, N_real b hb, one_tm]
    generalize a * inv b = t
    have h := all2_ok uchk 14 0 uchk_all t.val (by omega) (by have := t.isLt; omega)
    unfold uchk at h
    have h3 := t.isLt
    have e1 : t.val * 16384 + 1 = encT (t, 1) := rfl
    rw [show Nat.ble 12107 t.val = false by rw [← Bool.not_eq_true, Nat.ble_eq]; omega, cond_false, frb_eq, e1, nN_eq, ← encT_one, ntpwl_eq] at h
    have h4 := encT_inj (Nat.eq_of_beq_eq_true h)
    rw [tpwl_eq _ _ _ _ (by decide), one_tm] at h4
    exact h4
theorem L_unit (q q' : F) (hn : q' ≠ 0) (A B : Pt) : tnorm (L q q' A B) ≠ 0 := by
  have h1 : tnorm one ≠ 0 := by decide
  cases A with
  | O => rw [L_zero]; exact h1
  | P a a' =>
    cases B with
    | O => rw [L_zero']; exact h1
    | P b b' =>
      rw [L]
      by_cases hu : Up a a' b b'
      · rw [if_pos hu]; exact h1
      · rw [if_neg hu]
        intro e
        exact hn (norm_zero e).2
theorem lam_pow (q q' : F) (hn : q' ≠ 0) (A B : Pt) : tpow (lam q q' A B) 12108 = one := unit_pow _ (L_unit q q' hn A B)

/-! the loop of the pairing -/
def mil (q q' : F) (A : Pt) : List Bool → T → Pt → T
  | [], f, _ => f
  | b :: bs, f, t => if b = true then mil q q' A bs (tm (tm (tm f f) (L q q' t t)) (L q q' (add t t) A)) (add (add t t) A) else mil q q' A bs (tm (tm f f) (L q q' t t)) (add t t)
def bits9 : List Bool := [true, true, true, true, true, false, false, false, true]
def upto : List Bool → Nat → Nat
  | [], k => k
  | b :: bs, k => upto bs (2 * k + (if b = true then 1 else 0))
theorem mil_N (q q' : F) (hq : On q q') (hn : q' ≠ 0) (A : Pt) (hA : Ok A) (bs : List Bool) : ∀ (f : T) (k : Nat), N f = g q q' k A → N (mil q q' A bs f (mul k A)) = g q q' (upto bs k) A := by
  induction bs with
  | nil => intro f k h; rw [mil, upto]; exact h
  | cons b bs ih =>
    intro f k h
    have e2 : add (mul k A) (mul k A) = mul (2 * k) A := by rw [← mul_add hA, Nat.two_mul]
    have h2 : N (tm (tm f f) (L q q' (mul k A) (mul k A))) = g q q' (2 * k) A := by
      rw [N_mul, N_mul, h, Nat.two_mul, g_add q q' hq hn A hA, lam]
    rw [mil, upto, e2]
    by_cases c : b = true
    · rw [if_pos c, if_pos c]
      have h3 : N (tm (tm (tm f f) (L q q' (mul k A) (mul k A))) (L q q' (mul (2 * k) A) A)) = g q q' (2 * k + 1) A := by
        rw [N_mul, h2, g, lam]
      have h4 := ih _ (2 * k + 1) h3
      rw [mul] at h4
      exact h4
    · rw [if_neg c, if_neg c, Nat.add_zero]
      exact ih _ (2 * k) h2
def ate (q q' : F) (A : Pt) : T := tpow (N (mil q q' A bits9 one A)) 12
theorem ate_eq (q q' : F) (hq : On q q') (hn : q' ≠ 0) (A : Pt) (hA : Ok A) : ate q q' A = tpow (g q q' 1009 A) 12 := by
  have h : N one = g q q' 1 A := by rw [N_one, g, mul, lam_zero, tm_one, g]
  have h2 := mil_N q q' hq hn A hA bits9 one 1 h
  rw [mul_one] at h2
  rw [ate, h2]; rfl
theorem ate_add (q q' : F) (hq : On q q') (hn : q' ≠ 0) (A B : Pt) (hA : Ok A) (hB : Ok B) (h1 : mul 1009 A = O) (h2 : mul 1009 B = O) : ate q q' (add A B) = tm (ate q q' A) (ate q q' B) := by
  rw [ate_eq q q' hq hn _ (Ok_add hA hB), ate_eq q q' hq hn _ hA, ate_eq q q' hq hn _ hB, ← tpow_tm]
  have h := g_sum q q' hq hn A B hA hB 1009
  rw [h1, h2, lam_zero, tm_one] at h
  rw [← h, tpow_tm, ← tpow_mul, lam_pow q q' hn, tm_one]
theorem base_mult (k : Nat) : mul 1009 (mul k Base) = O := by rw [← mul_mul Ok_Base, Nat.mul_comm, mul_mul Ok_Base, order, mul_O]
theorem ate_mul (q q' : F) (hq : On q q') (hn : q' ≠ 0) : ∀ k, ate q q' (mul k Base) = tpow (ate q q' Base) k
  | 0 => by rw [mul, ate_eq q q' hq hn O trivial, g_O, tpow_one]; rfl
  | k + 1 => by rw [mul, ate_add q q' hq hn _ _ (Ok_mul Ok_Base k) Ok_Base (base_mult k) order, ate_mul q q' hq hn k, tpow]

/-! the pairs of the base with each of its multiples, one by one -/
def nslope (x y u v : Nat) : Nat := cond (Nat.beq x u) (nm ((nm 3 (nm x x) + 1) % 12107) (ni (nm 2 y))) (nm (ns v y) (ni (ns u x)))
theorem nslope_eq (x y u v : F) : nslope x.val y.val u.val v.val = (slope x y u v).val := by
  unfold slope nslope
  by_cases c : x = u
  · rw [if_pos c, c, show Nat.beq u.val u.val = true from Nat.beq_refl _, cond_true, val_mul, val_inv]; rfl
  · rw [if_neg c, show Nat.beq x.val u.val = false by rw [← Bool.not_eq_true, Nat.beq_eq]; exact fun e => c (Fin.ext e), cond_false, val_mul, val_inv]; rfl
def nlin (q q' x y l : Nat) : Nat := ns (ns 0 y) (nm l (ns (ns 0 q) x)) * 16384 + q'
def nLa (q q' x y u v : Nat) : Nat := cond (and (Nat.beq x u) (Nat.beq ((y + v) % 12107) 0)) 16384 (frc (nslope x y u v) (nlin q q' x y))
def nL (q q' c d : Nat) : Nat := cond (Nat.ble 268435456 c) 16384 (cond (Nat.ble 268435456 d) 16384
    (frc (c / 16384) fun x => frc (c % 16384) fun y => frc (d / 16384) fun u => frc (d % 16384) fun v => nLa q q' x y u v))
theorem nL_eq (q q' : F) (A B : Pt) : nL q.val q'.val (enc A) (enc B) = encT (L q q' A B) := by
  unfold nL
  cases A with
  | O => rw [L_zero]; rfl
  | P x y =>
    have hx := x.isLt
    have hy := y.isLt
    have e1 : Nat.ble 268435456 (enc (P x y)) = false := by rw [← Bool.not_eq_true, Nat.ble_eq, enc]; omega
    rw [e1, cond_false]
    cases B with
    | O => rw [L_zero']; rfl
    | P u v =>
      have hu := u.isLt
      have hv := v.isLt
      have e2 : Nat.ble 268435456 (enc (P u v)) = false := by rw [← Bool.not_eq_true, Nat.ble_eq, enc]; omega
      rw [e2, cond_false, frc_eq, frc_eq, frc_eq, frc_eq]
      rw [enc, enc, show (x.val * 16384 + y.val) / 16384 = x.val by omega, show (x.val * 16384 + y.val) % 16384 = y.val by omega, show (u.val * 16384 + v.val) / 16384 = u.val by omega, show (u.val * 16384 + v.val) % 16384 = v.val by omega]
      unfold nLa
      rw [L]
      by_cases h : Up x y u v
      · rw [if_pos h, h.1, show Nat.beq u.val u.val = true from Nat.beq_refl _]
        have h2 : (y + v).val = 0 := by rw [h.2]; rfl
        rw [val_add] at h2
        rw [h2]; rfl
      · rw [if_neg h]
        have h1 : (and (Nat.beq x.val u.val) (Nat.beq ((y.val + v.val) % 12107) 0)) = false := by
          cases e : and (Nat.beq x.val u.val) (Nat.beq ((y.val + v.val) % 12107) 0) with
          | false => rfl
          | true =>
            exfalso
            rw [Bool.and_eq_true] at e
            exact h ⟨Fin.ext (Nat.eq_of_beq_eq_true e.1), Fin.ext (Nat.eq_of_beq_eq_true e.2)⟩
        rw [h1, cond_false, frc_eq, nslope_eq]; rfl
def nmil (q q' c : Nat) : List Bool → Nat → Nat → Nat
  | [], f, _ => f
  | b :: bs, f, t => frc (ntm (ntm f f) (nL q q' t t)) fun f2 => frc (nadd t t) fun t2 =>
    cond b (frc (ntm f2 (nL q q' t2 c)) fun f3 => frc (nadd t2 c) fun t3 => nmil q q' c bs f3 t3) (nmil q q' c bs f2 t2)
theorem nmil_eq (q q' : F) (A : Pt) : ∀ (bs : List Bool) (f : T) (t : Pt), nmil q.val q'.val (enc A) bs (encT f) (enc t) = encT (mil q q' A bs f t)
  | [], _, _ => rfl
  | b :: bs, f, t => by
    rw [nmil, mil, frc_eq, frc_eq, nL_eq, ntm_eq, ntm_eq, nadd_eq, frc_eq, frc_eq, nL_eq, ntm_eq, nadd_eq, nmil_eq, nmil_eq]
    cases b <;> rfl
def G : T := (372, 3632)
theorem encT_G : encT G = 6098480 := by decide
def jchk (j : Nat) : Bool := cond (Nat.ble 1009 j) true (cond (Nat.beq j 0) true (frb (tabAt j) fun c => cond (Nat.ble 268435456 c) false
  (frb (c / 16384) fun q => frb (c % 16384) fun q' => cond (Nat.beq q' 0) false
    (frb (nmil q q' 138363739 bits9 16384 138363739) fun f => frb (nN f) fun h => frb (ntpwl 4 h 12 16384) fun r => and (Nat.beq r (ntpwl 10 6098480 j 16384)) (cond (Nat.beq r 16384) false true)))))
theorem jchk_all : all2 jchk 10 0 = true := by decide +kernel
theorem one_each (j : Nat) (h0 : j ≠ 0) (h : j < 1009) : ∃ q q', mul j Base = P q q' ∧ q' ≠ 0 ∧ ate q q' Base = tpow G j ∧ tpow G j ≠ one := by
  have hc := all2_ok jchk 10 0 jchk_all j (by omega) (by omega)
  unfold jchk at hc
  rw [show Nat.ble 1009 j = false by rw [← Bool.not_eq_true, Nat.ble_eq]; omega, cond_false, show Nat.beq j 0 = false by rw [← Bool.not_eq_true, Nat.beq_eq]; exact h0, cond_false, frb_eq, ← tab_eq j (by omega)] at hc
  cases e : mul j Base with
  | O => rw [e] at hc; cases hc
  | P q q' =>
    rw [e] at hc
    have h1 := q.isLt
    have h2 := q'.isLt
    have e2 : Nat.ble 268435456 (enc (P q q')) = false := by rw [← Bool.not_eq_true, Nat.ble_eq, enc]; omega
    rw [e2, cond_false, frb_eq, frb_eq, enc, show (q.val * 16384 + q'.val) / 16384 = q.val by omega, show (q.val * 16384 + q'.val) % 16384 = q'.val by omega] at hc
    have hn : q' ≠ 0 := by
      intro e3; subst e3; cases hc
    rw [show Nat.beq q'.val 0 = false by rw [← Bool.not_eq_true, Nat.beq_eq]; exact fun e3 => hn (Fin.ext e3), cond_false, frb_eq, frb_eq, frb_eq, ← enc_Base, ← encT_one, nmil_eq, nN_eq, ntpwl_eq, ← encT_G, ntpwl_eq, Bool.and_eq_true] at hc
    obtain ⟨h3, h4⟩ := hc
    have h5 := encT_inj (Nat.eq_of_beq_eq_true h3)
    rw [tpwl_eq _ _ _ _ (by decide), tpwl_eq _ _ _ _ (by omega), one_tm, one_tm] at h5
    refine ⟨q, q', rfl, hn, h5, ?_⟩
    rw [← h5]
    intro e4
    rw [tpwl_eq _ _ _ _ (by decide), one_tm, e4, Nat.beq_refl] at h4
    cases h4
theorem G_order : tpow G 1009 = one := by
  apply encT_inj
  have h : tpow G 1009 = tpwl 10 G 1009 one := by rw [tpwl_eq _ _ _ _ (by decide), one_tm]
  rw [h, ← ntpwl_eq]
  decide +kernel
theorem G_mod (n : Nat) : tpow G n = tpow G (n % 1009) := by
  conv => lhs; rw [← Nat.div_add_mod n 1009]
  rw [tpow_add, tpow_mul, G_order, tpow_one, one_tm]
theorem G_one (n : Nat) : tpow G n = one ↔ n % 1009 = 0 := by
  rw [G_mod]
  constructor
  · intro h
    by_cases c : n % 1009 = 0
    · exact c
    · obtain ⟨_, _, _, _, _, h2⟩ := one_each (n % 1009) c (by omega)
      exact absurd h h2
  · intro h; rw [h]; rfl
theorem mult_O (n : Nat) : mul n Base = O ↔ n % 1009 = 0 := by
  rw [mod_mult]
  constructor
  · intro h
    by_cases c : n % 1009 = 0
    · exact c
    · obtain ⟨_, _, h2, _⟩ := one_each (n % 1009) c (by omega)
      rw [h2] at h; cases h
  · intro h; rw [h]; rfl
def prchk (r : Nat) : Bool := cond (Nat.ble 1009 r) true (cond (Nat.beq r 0) true (Nat.beq (r * (r ^ 1007 % 1009) % 1009) 1))
theorem prchk_all : all2 prchk 10 0 = true := by decide +kernel
theorem prime_1009 (a e : Nat) (ha : ¬ a % 1009 = 0) (h : a * e % 1009 = 0) : e % 1009 = 0 := by
  have hc := all2_ok prchk 10 0 prchk_all (a % 1009) (by omega) (by omega)
  unfold prchk at hc
  rw [show Nat.ble 1009 (a % 1009) = false by rw [← Bool.not_eq_true, Nat.ble_eq]; omega, cond_false, show Nat.beq (a % 1009) 0 = false by rw [← Bool.not_eq_true, Nat.beq_eq]; exact ha, cond_false] at hc
  have h1 := Nat.eq_of_beq_eq_true hc
  generalize (a % 1009) ^ 1007 % 1009 = s at h1
  have h2 : (e * (a % 1009 * s)) % 1009 = e % 1009 := by rw [Nat.mul_mod, h1, Nat.mul_one, Nat.mod_mod]
  have h3 : (e * (a % 1009 * s)) % 1009 = 0 := by
    have h4 : (a % 1009 * e) % 1009 = 0 := by rw [← h, Nat.mul_mod, Nat.mod_mod, ← Nat.mul_mod]
    rw [← Nat.mul_assoc, Nat.mul_comm e, Nat.mul_mod, h4]; simp
  omega
/-- the pairing of points of the group -/
def pair : Pt → Pt → T
  | O, _ => one
  | _, O => one
  | P x y, P q q' => ate q q' (P x y)
theorem pair_mult (i j : Nat) : pair (mul i Base) (mul j Base) = tpow G (i * j) := by
  by_cases hj : j % 1009 = 0
  · have e : (i * j) % 1009 = 0 := by rw [Nat.mul_mod, hj]; simp
    rw [(mult_O j).mpr hj, (G_one _).mpr e]
    cases mul i Base <;> rfl
  by_cases hi : i % 1009 = 0
  · have e : (i * j) % 1009 = 0 := by rw [Nat.mul_mod, hi]; simp
    rw [(mult_O i).mpr hi, (G_one _).mpr e]; rfl
  obtain ⟨q, q', e1, hn, e2, _⟩ := one_each (j % 1009) hj (by omega)
  have hq : On q q' := by have := Ok_mul Ok_Base (j % 1009); rw [e1] at this; exact this
  rw [mod_mult j, e1]
  have e3 := ate_mul q q' hq hn i
  cases e4 : mul i Base with
  | O => exact absurd ((mult_O i).mp e4) hi
  | P x y =>
    rw [e4] at e3
    show ate q q' (P x y) = _
    rw [e3, e2, ← tpow_mul, G_mod, G_mod (i * j), Nat.mul_comm (j % 1009), Nat.mul_mod_mod]
end Go.Proofs.Ytmbjefdkjdemhaa.Crv
end
section
/- What is proved here: what Miller answers, of the program and of the reference alike, as a plain function. No conditions. -/
set_option linter.unusedVariables false
set_option linter.unusedSimpArgs false
namespace Go.Proofs.Ytmbjefdkjdemhaa.Link
open Go.RowKit Go.Proofs.Ytmbjefdkjdemhaa.Pf Go.Proofs.YtmbjefdkjdemhaaW.PrintWords Go.Proofs.Ytmbjefdkjdemhaa.Crv
open Go.Proofs.Ytmbjefdkjdemhaa.Crv.Pt
set_option maxRecDepth 4000

theorem impl_TwoMul_eq (a b c d : Int) : impl_TwoMul.f a b c d = some (I2 (tm (R a, R b) (R c, R d))) := by
  simp only [impl_TwoMul.f, impl_FpMul_eq, impl_FpSub_eq, impl_FpAdd_eq, Option.bind_some, R_I]; rfl

theorem spec_TwoMul_eq (a b c d : Int) : spec_TwoMul.f a b c d = some (I2 (tm (R a, R b) (R c, R d))) := by
  simp only [spec_TwoMul.f, spec_FpMul_eq, spec_FpSub_eq, spec_FpAdd_eq, Option.bind_some, R_I]; rfl


def milO (p q : Option Pt) : List Bool → T → Option Pt → T
  | [], f, _ => f
  | b :: bs, f, t => if b = true then milO p q bs (tm (tm (tm f f) (lineO t t q)) (lineO (some (addO t t)) p q)) (some (addO (some (addO t t)) p))
    else milO p q bs (tm (tm f f) (lineO t t q)) (some (addO t t))
def bitAt (i : Nat) : Bool := decide (1009 / 2 ^ i % 2 = 1)
def bitsTo : Nat → List Bool
  | 0 => []
  | n + 1 => bitAt n :: bitsTo n
theorem bits_nine : bitsTo 9 = bits9 := by decide
def millerO (p q : Option Pt) : T := milO p q bits9 one p
theorem impl_bit : ∀ i : Nat, i < 9 → 0 ≤ IntKind.u64.wrap (i : Int) ∧ (Go.bits .and .i64 (shr .i64 1009 (IntKind.u64.wrap (i : Int))) 1 = 1 ↔ bitAt i = true) := by decide +kernel
theorem spec_bit : ∀ i : Nat, i < 9 → 0 ≤ IntKind.u64.wrap (i : Int) ∧ ((shr .i64 1009 (IntKind.u64.wrap (i : Int))) % 2 = 1 ↔ bitAt i = true) := by decide +kernel
theorem R2 (z : T) : (R (I2 z).1, R (I2 z).2) = z := by unfold I2; rw [R_I, R_I]

theorem impl_Miller_l0 (p1 p2 : Int) (p3 : Bool) (q1 q2 : Int) (q3 : Bool) : ∀ (n k : Nat) (f : T) (t1 t2 : Int) (t3 : Bool), n ≤ 9 → n + 24 ≤ k →
    impl_Miller.l0 k ((n : Int) - 1) p1 p2 p3 q1 q2 q3 (I2 f).1 (I2 f).2 t1 t2 t3 = some (I2 (milO (dec p1 p2 p3) (dec q1 q2 q3) (bitsTo n) f (dec t1 t2 t3)))
  | 0, k, f, t1, t2, t3, hn, hk => by
    obtain ⟨k, rfl⟩ : ∃ m, k = m + 1 := ⟨k - 1, by omega⟩
    simp only [impl_Miller.l0]
    rw [if_neg (by omega)]; rfl
  | n + 1, k, f, t1, t2, t3, hn, hk => by
    obtain ⟨k, rfl⟩ : ∃ m, k = m + 1 := ⟨k - 1, by omega⟩
    obtain ⟨b1, b2⟩ := impl_bit n (by omega)
    have a1 := Ok_addO t1 t2 t3 t1 t2 t3
    have d1 := dec_tr _ a1
    have a2 := Ok_addO (tr (addO (dec t1 t2 t3) (dec t1 t2 t3))).1 (tr (addO (dec t1 t2 t3) (dec t1 t2 t3))).2.1 (tr (addO (dec t1 t2 t3) (dec t1 t2 t3))).2.2 p1 p2 p3
    rw [d1] at a2
    have d2 := dec_tr _ a2
    rw [show ((n + 1 : Nat) : Int) - 1 = (n : Int) by omega]
    simp only [impl_Miller.l0, impl_TwoMul_eq, impl_PairLine_eq k (by omega), impl_PointAdd_eq k (by omega), Option.bind_some, R2, d1]
    rw [if_pos (by omega), if_pos b1, wrap_in (by omega) (by omega), bitsTo, milO]
    by_cases c : bitAt n = true
    · rw [if_pos (b2.mpr c), if_pos c, impl_Miller_l0 p1 p2 p3 q1 q2 q3 n k _ _ _ _ (by omega) (by omega), d2]
    · rw [if_neg (fun h => c (b2.mp h)), if_neg c, impl_Miller_l0 p1 p2 p3 q1 q2 q3 n k _ _ _ _ (by omega) (by omega), d1]

theorem spec_Miller_l0 (p1 p2 : Int) (p3 : Bool) (q1 q2 : Int) (q3 : Bool) : ∀ (n k : Nat) (f : T) (t1 t2 : Int) (t3 : Bool), n ≤ 9 → n + 24 ≤ k →
    spec_Miller.l0 k ((n : Int) - 1) p1 p2 p3 q1 q2 q3 (I2 f).1 (I2 f).2 t1 t2 t3 = some (I2 (milO (dec p1 p2 p3) (dec q1 q2 q3) (bitsTo n) f (dec t1 t2 t3)))
  | 0, k, f, t1, t2, t3, hn, hk => by
    obtain ⟨k, rfl⟩ : ∃ m, k = m + 1 := ⟨k - 1, by omega⟩
    simp only [spec_Miller.l0]
    rw [if_neg (by omega)]; rfl
  | n + 1, k, f, t1, t2, t3, hn, hk => by
    obtain ⟨k, rfl⟩ : ∃ m, k = m + 1 := ⟨k - 1, by omega⟩
    obtain ⟨b1, b2⟩ := spec_bit n (by omega)
    have a1 := Ok_addO t1 t2 t3 t1 t2 t3
    have d1 := dec_tr _ a1
    have a2 := Ok_addO (tr (addO (dec t1 t2 t3) (dec t1 t2 t3))).1 (tr (addO (dec t1 t2 t3) (dec t1 t2 t3))).2.1 (tr (addO (dec t1 t2 t3) (dec t1 t2 t3))).2.2 p1 p2 p3
    rw [d1] at a2
    have d2 := dec_tr _ a2
    rw [show ((n + 1 : Nat) : Int) - 1 = (n : Int) by omega]
    simp only [spec_Miller.l0, spec_TwoMul_eq, spec_PairLine_eq k (by omega), spec_PointAdd_eq k (by omega), Option.bind_some, R2, d1]
    rw [if_pos (by omega), if_pos b1, wrap_in (by omega) (by omega), bitsTo, milO]
    by_cases c : bitAt n = true
    · rw [if_pos (b2.mpr c), if_pos c, spec_Miller_l0 p1 p2 p3 q1 q2 q3 n k _ _ _ _ (by omega) (by omega), d2]
    · rw [if_neg (fun h => c (b2.mp h)), if_neg c, spec_Miller_l0 p1 p2 p3 q1 q2 q3 n k _ _ _ _ (by omega) (by omega), d1]

theorem spec_Miller_eq (k : Nat) (hk : 40 ≤ k) (x y : Int) (z : Bool) (u v : Int) (w : Bool) : spec_Miller.f k x y z u v w = some (I2 (millerO (dec x y z) (dec u v w))) := by
  have h := spec_Miller_l0 x y z u v w 9 k one x y z (by omega) (by omega)
  rw [bits_nine] at h
  exact h
theorem len_1009 (k : Nat) : bits_Len.f (k + 8) 1009 = some 10 := by
  simp only [bits_Len.f, bits_Len64.f, bits_Len64.j0]
  rw [if_neg (by decide), if_neg (by decide), if_pos (by decide), if_pos (by decide), if_pos (by decide)]
  simp only [Option.bind_some]
  congr 1
  decide +kernel
theorem impl_Miller_eq (k : Nat) (hk : 40 ≤ k) (x y : Int) (z : Bool) (u v : Int) (w : Bool) : impl_Miller.f k x y z u v w = some (I2 (millerO (dec x y z) (dec u v w))) := by
  have h := impl_Miller_l0 x y z u v w 9 k one x y z (by omega) (by omega)
  rw [bits_nine] at h
  obtain ⟨m, rfl⟩ : ∃ m, k = m + 8 := ⟨k - 8, by omega⟩
  unfold impl_Miller.f
  rw [len_1009]
  simp only [Option.bind_some]
  rw [show wrap64 (10 - 2) = ((9 : Nat) : Int) - 1 from by rw [wrap_in (by decide) (by decide)]; rfl]
  exact h
/-- points of the group: the loop is the one over points -/
theorem milO_eq (q q' : F) (A : Pt) : ∀ (bs : List Bool) (f : T) (t : Pt), milO (some A) (some (P q q')) bs f (some t) = mil q q' A bs f t
  | [], _, _ => rfl
  | b :: bs, f, t => by
    rw [milO, mil]
    by_cases c : b = true
    · rw [if_pos c, if_pos c, milO_eq q q' A bs]; rfl
    · rw [if_neg c, if_neg c, milO_eq q q' A bs]; rfl

end Go.Proofs.Ytmbjefdkjdemhaa.Link
end
section
/- What is proved here: what InGroup, TwoPow and Pairing answer, of the program and of the reference alike, as plain functions. No conditions. -/
set_option linter.unusedVariables false
set_option linter.unusedSimpArgs false
namespace Go.Proofs.Ytmbjefdkjdemhaa.Link
open Go.RowKit Go.Proofs.Ytmbjefdkjdemhaa.Pf Go.Proofs.YtmbjefdkjdemhaaW.PrintWords Go.Proofs.Ytmbjefdkjdemhaa.Crv
open Go.Proofs.Ytmbjefdkjdemhaa.Crv.Pt
set_option maxRecDepth 4000


def pairO : Option Pt → Option Pt → T
  | some A, some B => if (inG (some A) && inG (some B) && !isO A && !isO B) = true then tpow (N (millerO (some A) (some B))) 12 else one
  | _, _ => one
theorem pairO_some (A B : Pt) : pairO (some A) (some B) = if (inG (some A) && inG (some B) && !isO A && !isO B) = true then tpow (N (millerO (some A) (some B))) 12 else one := rfl
theorem pairO_eq (A B : Pt) (hA : mul 1009 A = O) (hB : mul 1009 B = O) : pairO (some A) (some B) = pair A B := by
  have e1 : inG (some A) = true := by rw [inG, hA]; rfl
  have e2 : inG (some B) = true := by rw [inG, hB]; rfl
  rw [pairO_some, e1, e2]
  cases A with
  | O => rfl
  | P a a' =>
    cases B with
    | O => rfl
    | P b b' =>
      rw [if_pos (show (true && true && !isO (P a a') && !isO (P b b')) = true from rfl), millerO, milO_eq]; rfl

theorem impl_TwoTurn_eq (a b : Int) : impl_TwoTurn.f a b = some (I2 (tbar (R a, R b))) := by
  simp only [impl_TwoTurn.f, impl_FpOf_eq, impl_FpSub_eq, Option.bind_some, R_zero]; rfl
theorem impl_TwoInv_eq (k : Nat) (hk : 15 ≤ k) (a b : Int) : impl_TwoInv.f k a b = some (I2 (tinv (R a, R b))) := by
  simp only [impl_TwoInv.f, impl_FpMul_eq, impl_FpAdd_eq, impl_FpSub_eq, impl_FpInv_eq k _ hk, Option.bind_some, R_I, R_zero]; rfl

theorem spec_TwoTurn_eq (a b : Int) : spec_TwoTurn.f a b = some (I2 (tbar (R a, R b))) := by
  simp only [spec_TwoTurn.f, spec_FpOf_eq, spec_FpSub_eq, Option.bind_some, R_zero]; rfl
theorem spec_TwoInv_eq (k : Nat) (hk : 15 ≤ k) (a b : Int) : spec_TwoInv.f k a b = some (I2 (tinv (R a, R b))) := by
  simp only [spec_TwoInv.f, spec_FpMul_eq, spec_FpAdd_eq, spec_FpSub_eq, spec_FpInv_eq k _ hk, Option.bind_some, R_I, R_zero]; rfl

theorem impl_TwoPow_l0 : ∀ (f k : Nat) (a b : Int) (n : Nat) (out : T), n < 2 ^ f → f ≤ 60 → f < k →
    impl_TwoPow.l0 k (n : Int) a b (I2 out).1 (I2 out).2 = some (I2 (tpwl f (R a, R b) n out))
  | 0, k, a, b, n, out, h, _, hk => by
    obtain rfl : n = 0 := by simp at h; exact h
    obtain ⟨k, rfl⟩ : ∃ m, k = m + 1 := ⟨k - 1, by omega⟩
    simp only [impl_TwoPow.l0]
    rw [if_neg (by omega), tpwl]
  | f + 1, k, a, b, n, out, h, hf, hk => by
    obtain ⟨k, rfl⟩ : ∃ m, k = m + 1 := ⟨k - 1, by omega⟩
    have hb : 2 ^ (f + 1) ≤ 2 ^ 60 := Nat.pow_le_pow_right (by decide) hf
    simp only [impl_TwoPow.l0, impl_TwoMul_eq, Option.bind_some, R2]
    rw [tpwl]
    by_cases c : n = 0
    · subst c; rw [if_neg (by omega), if_pos rfl]
    rw [if_pos (by omega), if_neg c, halve n (by omega)]
    rw [Nat.pow_succ] at h
    by_cases d : n % 2 = 1
    · rw [if_pos ((odd n).mpr d), if_pos d, impl_TwoPow_l0 f k _ _ _ _ (by omega) (by omega) (by omega), R2]
    · rw [if_neg (fun e => d ((odd n).mp e)), if_neg d, impl_TwoPow_l0 f k _ _ _ _ (by omega) (by omega) (by omega), R2]
theorem impl_TwoPow_eq (k : Nat) (a b : Int) (n f : Nat) (h : n < 2 ^ f) (hf : f ≤ 60) (hk : f < k) : impl_TwoPow.f k a b (n : Int) = some (I2 (tpow (R a, R b) n)) := by
  unfold impl_TwoPow.f
  rw [if_neg (by omega)]
  have e := impl_TwoPow_l0 f k a b n one h hf hk
  rw [tpwl_eq f _ _ _ h, one_tm] at e
  exact e
theorem spec_TwoPow_l0 : ∀ (f k : Nat) (z : T) (n : Nat) (out : T), n < 2 ^ f → f ≤ 60 → f < k →
    spec_TwoPow.l0 k (n : Int) (I2 out).1 (I2 out).2 (I2 z).1 (I2 z).2 = some (I2 (tpwl f z n out))
  | 0, k, z, n, out, h, _, hk => by
    obtain rfl : n = 0 := by simp at h; exact h
    obtain ⟨k, rfl⟩ : ∃ m, k = m + 1 := ⟨k - 1, by omega⟩
    simp only [spec_TwoPow.l0]
    rw [if_neg (by omega), tpwl]
  | f + 1, k, z, n, out, h, hf, hk => by
    obtain ⟨k, rfl⟩ : ∃ m, k = m + 1 := ⟨k - 1, by omega⟩
    have hb : 2 ^ (f + 1) ≤ 2 ^ 60 := Nat.pow_le_pow_right (by decide) hf
    simp only [spec_TwoPow.l0, spec_TwoMul_eq, Option.bind_some, R2]
    rw [tpwl]
    by_cases c : n = 0
    · subst c; rw [if_neg (by omega), if_pos rfl]
    rw [if_pos (by omega), if_neg c, halve n (by omega)]
    rw [Nat.pow_succ] at h
    by_cases d : n % 2 = 1
    · rw [if_pos ((odd n).mpr d), if_pos d, spec_TwoPow_l0 f k _ _ _ (by omega) (by omega) (by omega)]
    · rw [if_neg (fun e => d ((odd n).mp e)), if_neg d, spec_TwoPow_l0 f k _ _ _ (by omega) (by omega) (by omega)]
theorem spec_TwoPow_eq (k : Nat) (a b : Int) (n f : Nat) (h : n < 2 ^ f) (hf : f ≤ 60) (hk : f < k) : spec_TwoPow.f k a b (n : Int) = some (I2 (tpow (R a, R b) n)) := by
  unfold spec_TwoPow.f
  rw [if_neg (by omega)]
  simp only [spec_FpOf_eq, Option.bind_some]
  have e := spec_TwoPow_l0 f k (R a, R b) n one h hf hk
  rw [tpwl_eq f _ _ _ h, one_tm] at e
  exact e
theorem pairO_no (p q : Option Pt) (h : inG p = false ∨ inG q = false) : pairO p q = one := by
  cases p with
  | none => rfl
  | some A =>
    cases q with
    | none => rfl
    | some B =>
      rw [pairO_some]
      rcases h with h | h <;> rw [h] <;> simp
theorem dec_flag {x y : Int} {z : Bool} {A : Pt} (h : dec x y z = some A) : isO A = z := by rw [← tr_isO, ← (dec_ok h).2.2.2]
theorem pairO_flag (x y : Int) (z : Bool) (u v : Int) (w : Bool) (h : z = true ∨ w = true) : pairO (dec x y z) (dec u v w) = one := by
  cases e : dec x y z with
  | none => rfl
  | some A =>
    cases f : dec u v w with
    | none => rfl
    | some B =>
      rw [pairO_some, dec_flag e, dec_flag f]
      rcases h with h | h <;> rw [h] <;> simp

theorem impl_pair_j0 (k : Nat) (hk : 40 ≤ k) (x y : Int) (z : Bool) (u v : Int) (w : Bool) (h1 : inG (dec x y z) = true) (h2 : inG (dec u v w) = true) (h3 : z = false) (h4 : w = false) :
    impl_Pairing.j0 (k + 1) false x y z u v w = some (I2 (pairO (dec x y z) (dec u v w))) := by
  have t := impl_TwoPow_eq k (I2 (N (millerO (dec x y z) (dec u v w)))).1 (I2 (N (millerO (dec x y z) (dec u v w)))).2 12 4 (by decide) (by decide) (by omega)
  rw [R2, show ((12 : Nat) : Int) = 12 from rfl] at t
  simp only [impl_Pairing.j0, Bool.false_eq_true, if_false, impl_Miller_eq k hk, impl_TwoTurn_eq, impl_TwoInv_eq k (by omega), impl_TwoMul_eq, Option.bind_some, R2]
  rw [N] at t
  rw [t]
  simp only [Option.bind_some]
  cases e : dec x y z with
  | none => rw [e] at h1; cases h1
  | some A =>
    cases f : dec u v w with
    | none => rw [f] at h2; cases h2
    | some B =>
      rw [e] at h1
      rw [f] at h2
      rw [pairO_some, h1, h2, dec_flag e, dec_flag f, h3, h4, if_pos (by decide), N]
theorem impl_pair_j1 (k : Nat) (x y : Int) (z : Bool) (u v : Int) (w : Bool) : impl_Pairing.j0 (k + 1) true x y z u v w = some (I2 one) := by
  simp only [impl_Pairing.j0, if_true]; rfl

theorem spec_pair_j0 (k : Nat) (hk : 40 ≤ k) (x y : Int) (z : Bool) (u v : Int) (w : Bool) (h1 : inG (dec x y z) = true) (h2 : inG (dec u v w) = true) (h3 : z = false) (h4 : w = false) :
    spec_Pairing.j0 (k + 1) false x y z u v w = some (I2 (pairO (dec x y z) (dec u v w))) := by
  have t := spec_TwoPow_eq k (I2 (N (millerO (dec x y z) (dec u v w)))).1 (I2 (N (millerO (dec x y z) (dec u v w)))).2 12 4 (by decide) (by decide) (by omega)
  rw [R2, show ((12 : Nat) : Int) = 12 from rfl] at t
  simp only [spec_Pairing.j0, Bool.false_eq_true, if_false, spec_Miller_eq k hk, spec_TwoTurn_eq, spec_TwoInv_eq k (by omega), spec_TwoMul_eq, Option.bind_some, R2]
  rw [N] at t
  rw [t]
  simp only [Option.bind_some]
  cases e : dec x y z with
  | none => rw [e] at h1; cases h1
  | some A =>
    cases f : dec u v w with
    | none => rw [f] at h2; cases h2
    | some B =>
      rw [e] at h1
      rw [f] at h2
      rw [pairO_some, h1, h2, dec_flag e, dec_flag f, h3, h4, if_pos (by decide), N]
theorem spec_pair_j1 (k : Nat) (x y : Int) (z : Bool) (u v : Int) (w : Bool) : spec_Pairing.j0 (k + 1) true x y z u v w = some (I2 one) := by
  simp only [spec_Pairing.j0, if_true]; rfl

theorem impl_Pairing_eq (k : Nat) (hk : 42 ≤ k) (x y : Int) (z : Bool) (u v : Int) (w : Bool) : impl_Pairing.f k x y z u v w = some (I2 (pairO (dec x y z) (dec u v w))) := by
  obtain ⟨k, rfl⟩ : ∃ m, k = m + 1 := ⟨k - 1, by omega⟩
  unfold impl_Pairing.f
  simp only [impl_InGroup_eq (k + 1) (by omega), Option.bind_some, impl_pair_j1]
  by_cases c1 : z = true
  · rw [if_pos c1, pairO_flag _ _ _ _ _ _ (Or.inl c1)]
  by_cases c2 : w = true
  · rw [if_neg c1, if_pos c2, pairO_flag _ _ _ _ _ _ (Or.inr c2)]
  rw [if_neg c1, if_neg c2]
  by_cases h1 : inG (dec x y z) = true
  · rw [if_pos h1]
    by_cases h2 : inG (dec u v w) = true
    · rw [h2, Bool.not_true, impl_pair_j0 k (by omega) _ _ _ _ _ _ h1 h2 (Bool.eq_false_iff.mpr c1) (Bool.eq_false_iff.mpr c2)]
    · rw [Bool.eq_false_iff.mpr h2, Bool.not_false, impl_pair_j1, pairO_no _ _ (Or.inr (Bool.eq_false_iff.mpr h2))]
  · rw [if_neg h1, pairO_no _ _ (Or.inl (Bool.eq_false_iff.mpr h1))]
theorem spec_Pairing_eq (k : Nat) (hk : 42 ≤ k) (x y : Int) (z : Bool) (u v : Int) (w : Bool) : spec_Pairing.f k x y z u v w = some (I2 (pairO (dec x y z) (dec u v w))) := by
  obtain ⟨k, rfl⟩ : ∃ m, k = m + 1 := ⟨k - 1, by omega⟩
  unfold spec_Pairing.f
  simp only [spec_InGroup_eq (k + 1) (by omega), Option.bind_some, spec_pair_j1]
  by_cases h1 : inG (dec x y z) = true
  · rw [if_pos h1]
    by_cases h2 : inG (dec u v w) = true
    · rw [if_pos h2]
      by_cases c1 : z = true
      · rw [if_pos c1, pairO_flag _ _ _ _ _ _ (Or.inl c1)]
      rw [if_neg c1]
      by_cases c2 : w = true
      · rw [c2, spec_pair_j1, pairO_flag _ _ _ _ _ _ (Or.inr rfl)]
      · rw [Bool.eq_false_iff.mpr c2] at h2 ⊢
        rw [spec_pair_j0 k (by omega) _ _ _ _ _ _ h1 h2 (Bool.eq_false_iff.mpr c1) rfl]
    · rw [if_neg h2, pairO_no _ _ (Or.inr (Bool.eq_false_iff.mpr h2))]
  · rw [if_neg h1, pairO_no _ _ (Or.inl (Bool.eq_false_iff.mpr h1))]

end Go.Proofs.Ytmbjefdkjdemhaa.Link
end
section
/- What is proved here: the program's Pairing and the reference's answer the same for all arguments. No conditions. -/
set_option linter.unusedVariables false
set_option linter.unusedSimpArgs false
namespace Go.Proofs.Ytmbjefdkjdemhaa.Pure
open Go.RowKit Go.Proofs.Ytmbjefdkjdemhaa.Pf Go.Proofs.YtmbjefdkjdemhaaW.PrintWords Go.Proofs.Ytmbjefdkjdemhaa.Crv Go.Proofs.Ytmbjefdkjdemhaa.Link
set_option maxRecDepth 4000

theorem FnExactPairing : laws_FnExactPairing.Pure := by
  intro x y z u v w _ _ _ _
  refine ⟨64, ?_⟩
  simp only [laws_FnExactPairing.f, laws_toPoint.f, Option.bind_some, spec_Pairing_eq 64 (by decide), impl_Pairing_eq 64 (by decide)]
  simp [laws_eqTwo.f]
end Go.Proofs.Ytmbjefdkjdemhaa.Pure
end
section
/- What is proved here: a value of a Go type that reads as data opens into the print's own kinds (Kd), for whole numbers, bools, strings, slices and structs. No conditions. -/
set_option linter.unusedVariables false
set_option linter.unusedSimpArgs false
namespace Go.Proofs.Ytmbjefdkjdemhaa.Open
open Go.RowKit Go.Proofs.YtmbjefdkjdemhaaW.PrintWords Go.ChangeShapes Go.WideShapes

def Opens (P : Program) (t : TypeId) {α : Type} (d : Kd α) (g : α → Prop) : Prop :=
  ∀ {H : Type} (enc : TypeId × Value → H) (w : World) (base : Nat) (spare : Nat → Bool) (held : Bool) (fuel : Nat) (cs : List Value) (x : DataW H × List MemPlace),
    DataW.trod enc P w base spare held fuel t cs = some x → ∃ a, d.K w a cs ∧ g a

theorem list_of {α : Type} {p : Nat → α → Prop} : ∀ n, (∀ i, i < n → ∃ y, p i y) → ∃ ys : List α, ys.length = n ∧ ∀ i y, ys[i]? = some y → p i y
  | 0, _ => ⟨[], rfl, fun i y h => by simp at h⟩
  | n + 1, h => by
    obtain ⟨ys, hl, hy⟩ := list_of n (fun i hi => h i (by omega))
    obtain ⟨y, hy'⟩ := h n (by omega)
    refine ⟨ys ++ [y], by simp [hl], fun i z hz => ?_⟩
    rcases Nat.lt_or_ge i n with hi | hi
    · rw [List.getElem?_append_left (by omega)] at hz
      exact hy i z hz
    · have h1 := (List.getElem?_eq_some_iff.1 hz).1
      rw [List.length_append, List.length_singleton] at h1
      have h2 : i = n := by omega
      subst h2
      rw [List.getElem?_append_right (by omega), hl, Nat.sub_self] at hz
      simp at hz
      subst hz
      exact hy'

section
variable {P : Program} {t : TypeId}
theorem opens_int {k : IntKind} (h : P.underlying t = some (.int k)) : Opens P t (Kd.int k) (fun n => (Lit.int k n).wf = true) := by
  intro H enc w base spare held fuel cs x hx
  obtain ⟨n, rfl, _, hw⟩ := DataW.trod_int h hx
  exact ⟨n, rfl, hw⟩
theorem opens_bool (h : P.underlying t = some .bool) : Opens P t Kd.bool (fun _ => True) := by
  intro H enc w base spare held fuel cs x hx
  obtain ⟨b, hb⟩ : ∃ b, cs = [.bool b] := by
    cases fuel with
    | zero => simp [DataW.trod] at hx
    | succ n =>
      unfold DataW.trod at hx
      rw [h] at hx
      split at hx <;> simp_all
  exact ⟨b, hb, trivial⟩
theorem opens_string (h : P.underlying t = some .string) : Opens P t Kd.string (fun s => s.size ≤ maxLen) := by
  intro H enc w base spare held fuel cs x hx
  obtain ⟨n, rfl, _, hw⟩ := DataW.trod_string h hx
  exact ⟨n, rfl, hw⟩
theorem opens_slice {e : TypeId} {α : Type} {d : Kd α} {g : α → Prop} (ht : P.underlying t = some (.slice e)) (hc : P.cellsOf e = d.sz) (he : Opens P e d g) :
    Opens P t (Kd.slice e d) (fun xs => xs.length ≤ 9223372036854775807 ∧ ∀ x ∈ xs, g x) := by
  intro H enc w base spare held fuel cs x h
  rcases Go.Deep.open_slice ht h with ⟨rfl, _⟩ | ⟨a, len, cap, m, n, D, Pl, rfl, hb, hl, hm, hmm, _, hx⟩
  · exact ⟨[], ⟨none, 0, rfl, Nat.le_refl _, Kd.C_nil d w⟩, by simp, fun x hx => by cases hx⟩
  · have hlm : len ≤ m := by rw [hmm]; split <;> omega
    obtain ⟨ys, hy1, hy2⟩ := list_of (p := fun i y => ∃ c, w.cells? base (a.add (i * P.cellsOf e)) (P.cellsOf e) = some c ∧ d.K w y c ∧ g y) len (fun i hi => by
      obtain ⟨c, h1, h2⟩ := hx i (by omega)
      obtain ⟨y, h3, h4⟩ := he _ _ _ _ _ _ _ _ h2
      exact ⟨y, c, h1, h3, h4⟩)
    unfold maxLen at hm
    refine ⟨ys, ⟨some a, cap, by rw [hy1], by omega, rfl, by omega, fun _ => ⟨a, rfl, fun j p hp => ?_⟩⟩, by omega, fun y hy => ?_⟩
    · obtain ⟨c, h1, h2, h3⟩ := hy2 j p hp
      obtain ⟨_, hlen, hcell⟩ := World.cells?_some h1
      refine ⟨c, by rw [hlen, hc], h2, fun i u hu => ?_⟩
      have hi := (List.getElem?_eq_some_iff.1 hu).1
      have := hcell i (by omega)
      rw [Go.Deep.add_add, hc] at this
      rw [this, hu]
    · obtain ⟨i, hi⟩ := List.mem_iff_getElem?.1 hy
      obtain ⟨c, h1, h2, h3⟩ := hy2 i y hi
      exact h3
theorem opens_iso {α β : Type} {d : Kd α} {g : α → Prop} (f : β → α) (mk : α → β) (hf : ∀ a, f (mk a) = a) (h : Opens P t d g) : Opens P t (Kd.iso d f) (fun x => g (f x)) := by
  intro H enc w base spare held fuel cs x hx
  obtain ⟨a, h1, h2⟩ := h enc w base spare held fuel cs x hx
  exact ⟨mk a, by show d.K w (f (mk a)) cs; rw [hf]; exact h1, by show g (f (mk a)); rw [hf]; exact h2⟩
theorem struct_field {fs : Array Field} {H : Type} {enc : TypeId × Value → H} {w : World} {base : Nat} {spare : Nat → Bool} {held : Bool} {n : Nat} {cs : List Value} {xs : List (DataW H × List MemPlace)} (hl : xs.length = fs.size)
    (hf : ∀ (i : Nat) (f : Field), fs[i]? = some f → DataW.trod enc P w base spare held n f.type ((cs.drop f.offset).take (P.cellsOf f.type)) = xs[i]?) {i : Nat} {f : Field} (hi : fs[i]? = some f) {α : Type} {d : Kd α} {g : α → Prop} (ho : Opens P f.type d g) :
    ∃ a, d.K w a ((cs.drop f.offset).take (P.cellsOf f.type)) ∧ g a := by
  have h1 := hf i f hi
  have h2 : i < xs.length := by rw [hl]; exact (Array.getElem?_eq_some_iff.1 hi).1
  rw [List.getElem?_eq_getElem h2] at h1
  exact ho _ _ _ _ _ _ _ _ h1
theorem opens_struct1 {f0 : Field} {α : Type} {d0 : Kd α} {g0 : α → Prop} (ht : P.underlying t = some (.struct #[f0])) (h0 : Opens P f0.type d0 g0)
    (s0 : P.cellsOf f0.type = d0.sz) (o0 : f0.offset = 0) (st : P.cellsOf t = d0.sz) : Opens P t d0 g0 := by
  intro H enc w base spare held fuel cs x hx
  obtain ⟨xs, n, _, _, hlen, hl, hf⟩ := DataW.trod_struct ht hx
  obtain ⟨a, ha, hg⟩ := struct_field hl hf (i := 0) (f := f0) rfl h0
  rw [o0, s0, List.drop_zero, List.take_of_length_le (by omega)] at ha
  exact ⟨a, ha, hg⟩
theorem opens_struct2 {f0 f1 : Field} {α β : Type} {d0 : Kd α} {d1 : Kd β} {g0 : α → Prop} {g1 : β → Prop} (ht : P.underlying t = some (.struct #[f0, f1])) (h0 : Opens P f0.type d0 g0) (h1 : Opens P f1.type d1 g1)
    (s0 : P.cellsOf f0.type = d0.sz) (s1 : P.cellsOf f1.type = d1.sz) (o0 : f0.offset = 0) (o1 : f1.offset = d0.sz) (st : P.cellsOf t = d0.sz + d1.sz) : Opens P t (Kd.pair d0 d1) (fun x => g0 x.1 ∧ g1 x.2) := by
  intro H enc w base spare held fuel cs x hx
  obtain ⟨xs, n, _, _, hlen, hl, hf⟩ := DataW.trod_struct ht hx
  obtain ⟨a, ha, ga⟩ := struct_field hl hf (i := 0) (f := f0) rfl h0
  obtain ⟨b, hb, gb⟩ := struct_field hl hf (i := 1) (f := f1) rfl h1
  rw [o0, s0, List.drop_zero] at ha
  rw [o1, s1, List.take_of_length_le (by rw [List.length_drop]; omega)] at hb
  exact ⟨(a, b), ⟨_, _, (List.take_append_drop d0.sz cs).symm, ha, hb⟩, ga, gb⟩
theorem opens_struct3 {f0 f1 f2 : Field} {α β γ : Type} {d0 : Kd α} {d1 : Kd β} {d2 : Kd γ} {g0 : α → Prop} {g1 : β → Prop} {g2 : γ → Prop} (ht : P.underlying t = some (.struct #[f0, f1, f2])) (h0 : Opens P f0.type d0 g0) (h1 : Opens P f1.type d1 g1) (h2 : Opens P f2.type d2 g2)
    (s0 : P.cellsOf f0.type = d0.sz) (s1 : P.cellsOf f1.type = d1.sz) (s2 : P.cellsOf f2.type = d2.sz) (o0 : f0.offset = 0) (o1 : f1.offset = d0.sz) (o2 : f2.offset = d0.sz + d1.sz) (st : P.cellsOf t = d0.sz + d1.sz + d2.sz) :
    Opens P t (Kd.pair d0 (Kd.pair d1 d2)) (fun x => g0 x.1 ∧ g1 x.2.1 ∧ g2 x.2.2) := by
  intro H enc w base spare held fuel cs x hx
  obtain ⟨xs, n, _, _, hlen, hl, hf⟩ := DataW.trod_struct ht hx
  obtain ⟨a, ha, ga⟩ := struct_field hl hf (i := 0) (f := f0) rfl h0
  obtain ⟨b, hb, gb⟩ := struct_field hl hf (i := 1) (f := f1) rfl h1
  obtain ⟨c, hc, gc⟩ := struct_field hl hf (i := 2) (f := f2) rfl h2
  rw [o0, s0, List.drop_zero] at ha
  rw [o1, s1] at hb
  rw [o2, s2, List.take_of_length_le (by rw [List.length_drop]; omega)] at hc
  refine ⟨(a, b, c), ⟨_, _, (List.take_append_drop d0.sz cs).symm, ha, _, _, (List.take_append_drop d1.sz _).symm, hb, ?_⟩, ga, gb, gc⟩
  rw [List.drop_drop]
  exact hc
theorem opens_struct4 {f0 f1 f2 f3 : Field} {α β γ δ : Type} {d0 : Kd α} {d1 : Kd β} {d2 : Kd γ} {d3 : Kd δ} {g0 : α → Prop} {g1 : β → Prop} {g2 : γ → Prop} {g3 : δ → Prop} (ht : P.underlying t = some (.struct #[f0, f1, f2, f3]))
    (h0 : Opens P f0.type d0 g0) (h1 : Opens P f1.type d1 g1) (h2 : Opens P f2.type d2 g2) (h3 : Opens P f3.type d3 g3)
    (s0 : P.cellsOf f0.type = d0.sz) (s1 : P.cellsOf f1.type = d1.sz) (s2 : P.cellsOf f2.type = d2.sz) (s3 : P.cellsOf f3.type = d3.sz) (o0 : f0.offset = 0) (o1 : f1.offset = d0.sz) (o2 : f2.offset = d0.sz + d1.sz) (o3 : f3.offset = d0.sz + d1.sz + d2.sz)
    (st : P.cellsOf t = d0.sz + d1.sz + d2.sz + d3.sz) :
    Opens P t (Kd.pair d0 (Kd.pair d1 (Kd.pair d2 d3))) (fun x => g0 x.1 ∧ g1 x.2.1 ∧ g2 x.2.2.1 ∧ g3 x.2.2.2) := by
  intro H enc w base spare held fuel cs x hx
  obtain ⟨xs, n, _, _, hlen, hl, hf⟩ := DataW.trod_struct ht hx
  obtain ⟨a, ha, ga⟩ := struct_field hl hf (i := 0) (f := f0) rfl h0
  obtain ⟨b, hb, gb⟩ := struct_field hl hf (i := 1) (f := f1) rfl h1
  obtain ⟨c, hc, gc⟩ := struct_field hl hf (i := 2) (f := f2) rfl h2
  obtain ⟨d, hd, gd⟩ := struct_field hl hf (i := 3) (f := f3) rfl h3
  rw [o0, s0, List.drop_zero] at ha
  rw [o1, s1] at hb
  rw [o2, s2] at hc
  rw [o3, s3, List.take_of_length_le (by rw [List.length_drop]; omega)] at hd
  refine ⟨(a, b, c, d), ⟨_, _, (List.take_append_drop d0.sz cs).symm, ha, _, _, (List.take_append_drop d1.sz _).symm, hb, _, _, (List.take_append_drop d2.sz _).symm, ?_, ?_⟩, ga, gb, gc, gd⟩
  · rw [List.drop_drop]
    exact hc
  · rw [List.drop_drop, List.drop_drop, ← Nat.add_assoc]
    exact hd
end
end Go.Proofs.Ytmbjefdkjdemhaa.Open
end
section
namespace Go.Proofs.Ytmbjefdkjdemhaa.fnExactPairing
open Go.ChangeShapes Go.WideShapes Go.ChangeAt Go.RowKit Go.Proofs.YtmbjefdkjdemhaaW.PrintWords Go.Proofs.Ytmbjefdkjdemhaa.Open Go.Proofs.Ytmbjefdkjdemhaa.Pf
open Go.ChangeMaps (open_string shut_string)
set_option linter.unusedVariables false
set_option linter.unusedSimpArgs false
theorem own : ownKnob Try.prog.godebug = none := by kernel_rfl
theorem laidOut : laidOutB Try.prog = true := by kernel_rfl
set_option maxRecDepth 100000 in
theorem lifted (os : Os) (started : os.Started) (H : Type) (enc : TypeId × Value → H) :
  ReturnsInHanded {} Try.checked os 10 .any (Rows.fnExactPairingSpec.pre6 enc Try.prog Try.f10 Rows.fnExactPairingRow.domain false) (Rows.fnExactPairingSpec.post enc Try.prog Try.f10 false true false false) := by
 refine returnsInHanded_of_change_sized (C := Try.checked) own started (by kernel_rfl) Try.func10
  (ChangeSpec.witness6 (enc := enc) (C := Try.checked) false ⟨#[], #[.agg #[.int .i64 0, .int .i64 0, .bool false], .agg #[.int .i64 0, .int .i64 0, .bool false]], []⟩ 8 (by kernel_rfl) (by kernel_rfl) (by kernel_rfl) (by kernel_rfl)) ?_
 intro W base args ds gs before hval0 hW hcnd hsz0 _
 have hsz : (DataW.weightsEach Try.prog (Try.f10.params.toList ++ Rows.fnExactPairingSpec.plain.varTypes Try.prog) (ds ++ gs)).all (· ≤ reachBytes) = true := hsz0
 have hval : ∀ (j : Nat) t v, Try.f10.params[j]? = some t → args[j]? = some v → Value.okWide Try.prog W .any base t v := hval0
 have hW' := hW
 obtain ⟨p, q, hA0, hV, rfl, hfz, hnd⟩ := hW
 have hA : DataW.TrodAll enc Try.prog W 0 (fun _ => true) true Try.f10.params.toList args.toList ds p := hA0
 rw [Try.params10] at hA hval hsz
 obtain ⟨v0, vs0, d0, ds0, p0, q0, hargs, rfl, rfl, h0, r0⟩ := trodAll_cons hA
 obtain ⟨v1, vs1, d1, ds1, p1, q1, rfl, rfl, rfl, h1, r1⟩ := trodAll_cons r0
 obtain ⟨rfl, rfl, rfl⟩ := trodAll_nil r1
 obtain rfl : args = #[v0, v1] := by cases args; simp_all
 obtain ⟨rfl, rfl⟩ := trodVars_none hV
 obtain ⟨cs0, rfl, hz0⟩ := okWide_struct Try.underlying37 (hval 0 37 v0 rfl rfl)
 have k0 := h0
 have lt0 : ∀ x ∈ p0, x.block < W.heap.size := by obtain ⟨m, hm⟩ := k0; exact DataW.trod_lt m _ _ _ hm
 obtain ⟨x0, hK0, g0⟩ := (show ∃ a, (Kd.pair (Kd.int .i64) (Kd.pair (Kd.int .i64) Kd.bool)).K W a cs0.toList ∧ _ from h0.elim fun fuel hf => (opens_struct3 Try.underlying37 (opens_int Try.underlying3) (opens_int Try.underlying3) (opens_bool Try.underlying4) (by kernel_rfl) (by kernel_rfl) (by kernel_rfl) (by kernel_rfl) (by kernel_rfl) (by kernel_rfl) (by kernel_rfl)) enc W 0 (fun _ => true) true fuel cs0.toList _ hf)
 obtain ⟨a0_0, a0_1, a0_2⟩ := x0
 obtain ⟨g0_0, g0_1, g0_2⟩ := g0
 obtain ⟨_, _, E0, rfl, _, _, rfl, rfl, rfl⟩ := hK0
 obtain rfl : cs0 = #[.int .i64 a0_0, .int .i64 a0_1, .bool a0_2] := Array.toList_inj.1 E0
 obtain ⟨cs1, rfl, hz1⟩ := okWide_struct Try.underlying37 (hval 1 37 v1 rfl rfl)
 have k1 := h1
 have lt1 : ∀ x ∈ p1, x.block < W.heap.size := by obtain ⟨m, hm⟩ := k1; exact DataW.trod_lt m _ _ _ hm
 obtain ⟨x1, hK1, g1⟩ := (show ∃ a, (Kd.pair (Kd.int .i64) (Kd.pair (Kd.int .i64) Kd.bool)).K W a cs1.toList ∧ _ from h1.elim fun fuel hf => (opens_struct3 Try.underlying37 (opens_int Try.underlying3) (opens_int Try.underlying3) (opens_bool Try.underlying4) (by kernel_rfl) (by kernel_rfl) (by kernel_rfl) (by kernel_rfl) (by kernel_rfl) (by kernel_rfl) (by kernel_rfl)) enc W 0 (fun _ => true) true fuel cs1.toList _ hf)
 obtain ⟨a1_0, a1_1, a1_2⟩ := x1
 obtain ⟨g1_0, g1_1, g1_2⟩ := g1
 obtain ⟨_, _, E1, rfl, _, _, rfl, rfl, rfl⟩ := hK1
 obtain rfl : cs1 = #[.int .i64 a1_0, .int .i64 a1_1, .bool a1_2] := Array.toList_inj.1 E1
 clear hA0 hval0 hsz0 hsz
 obtain ⟨k, h⟩ := Pure.FnExactPairing a0_0 a0_1 a0_2 a1_0 a1_1 a1_2 g0_0 g0_1 g1_0 g1_1
 refine (laws_FnExactPairing.calls k a0_0 a0_1 a0_2 a1_0 a1_1 a1_2 true W  ⟨rfl⟩ h).mono fun e W' ⟨he, bel0⟩ => ?_
 have bel : Below W.heap.size W W' := bel0
 subst he
 exact ⟨_, rfl, _, _, _, [], _, [], hW', trodAll_mk1 (shut_bool Try.underlying4 _), (trodAll_cons_mk (Below.trod laidOut (by kernel_rfl) (of_decide_eq_true (by kernel_rfl)) k0 bel lt0) (trodAll_cons_mk (Below.trod laidOut (by kernel_rfl) (of_decide_eq_true (by kernel_rfl)) k1 bel lt1) trodAll_mk0)), rfl, bel.frame _, fun h => by cases h⟩
theorem over : Rows.fnExactPairingRow.holds Try.pinned (OpenSpec.ofChange Rows.fnExactPairingSpec) :=
 OpenClaim.holds_of_wide 10 Try.f10 rfl rfl rfl rfl rfl rfl rfl ⟨rfl, rfl, rfl, rfl, rfl⟩ rfl rfl rfl rfl rfl (by kernel_rfl) Try.func10 (by kernel_rfl)
  (of_decide_eq_true (by kernel_rfl)) (by unfold Func.isWrapper; first | (rw [if_pos (by decide +kernel)]; kernel_rfl) | (rw [if_neg (by decide +kernel)]; exact ⟨rfl, rfl⟩))
  (fun os started H enc _ => lifted os started H enc)
theorem proved : Rows.FnExactPairingSaid := over
#print axioms proved
end Go.Proofs.Ytmbjefdkjdemhaa.fnExactPairing
namespace Go.Proofs.Ytmbjefdkjdemhaa
/-- The row, under a short name, for the claim. -/
theorem fnExactPairing_holds : Rows.FnExactPairingSaid := fnExactPairing.proved
end Go.Proofs.Ytmbjefdkjdemhaa
end
