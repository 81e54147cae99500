/- What is proved here: part 5 of 5 of the proof of the given statement FnCommittees: the contracts of the Go functions that it reaches, the plain facts on lists and numbers, and (in the last part) the statement itself. No conditions beyond the given ones. -/
import Derived.Test.YtkdmplfldfagnaaDoorMFnCommitteesd
import Derived.Test.YtkdmplfldfagnaaDoorMFnCommitteesc
import Derived.Test.YtkdmplfldfagnaaDoorMFnCommitteesb
import Derived.Laws.Strings
import Derived.Test.YtkdmplfldfagnaaDoorMFnCommitteeswMore
import Derived.Deep.Slices
import Derived.ChangeArms
import Derived.DataReads
import Derived.ChangeShapes
import Derived.Test.YtkdmplfldfagnaaDoorRows
import Derived.Test.YtkdmplfldfagnaaDoorMFnCommitteesa
import Derived.ProofKit
import Derived.LaidMore
import Derived.OpenShut
import Derived.Stop.Joined
import Derived.Test.YtkdmplfldfagnaaDoorMFnCommitteeswSlim
import Derived.Test.YtkdmplfldfagnaaDoorTie
import Derived.Test.YtkdmplfldfagnaaDoorCards
import Derived.WalkKit
import Derived.ShutString
import Derived.ChangeOld
import Derived.Below
import Derived.SizedLaws
import Derived.OpenVars
import Derived.SevenTiedAt

section
namespace Go.Proofs.YtkdmplfldfagnaaDoor.Crv
set_option linter.unusedVariables false
set_option linter.unusedSimpArgs false
open Pt
def tpow (z : T) : Nat → T
  | 0 => one
  | n + 1 => tm (tpow z n) z
theorem tpow_add (z : T) (m : Nat) : ∀ n, tpow z (m + n) = tm (tpow z m) (tpow z n)
  | 0 => (tm_one _).symm
  | n + 1 => by rw [Nat.add_succ, tpow, tpow_add z m n, tm_assoc]; rfl
theorem tpow_mul (z : T) (m : Nat) : ∀ n, tpow z (m * n) = tpow (tpow z m) n
  | 0 => rfl
  | n + 1 => by rw [Nat.mul_succ, tpow_add, tpow_mul z m n, tpow]
theorem tpow_tm (z w : T) : ∀ n, tpow (tm z w) n = tm (tpow z n) (tpow w n)
  | 0 => (tm_one _).symm
  | n + 1 => by rw [tpow, tpow, tpow, tpow_tm z w n]; simp only [tm_assoc, tm_comm, tm_left]
theorem tpow_one : ∀ n, tpow one n = one
  | 0 => rfl
  | n + 1 => by rw [tpow, tpow_one n]; rfl
theorem tpow_1 (z : T) : tpow z 1 = z := one_tm z
def tpwl : Nat → T → Nat → T → T
  | 0, _, _, out => out
  | f + 1, z, n, out => if n = 0 then out else tpwl f (tm z z) (n / 2) (if n % 2 = 1 then tm out z else out)
theorem tpwl_eq : ∀ (f : Nat) (z : T) (n : Nat) (out : T), n < 2 ^ f → tpwl f z n out = tm out (tpow z n)
  | 0, z, n, out, h => by
    obtain rfl : n = 0 := by simp at h; exact h
    rw [tpwl, tpow, tm_one]
  | f + 1, z, n, out, h => by
    rw [tpwl]
    by_cases c : n = 0
    · subst c; rw [if_pos rfl, tpow, tm_one]
    rw [if_neg c]
    rw [Nat.pow_succ] at h
    have e2 : tpow (tm z z) (n / 2) = tpow z (2 * (n / 2)) := by
      rw [tpow_mul]; congr 1; rw [tpow, tpow_1]
    by_cases d : n % 2 = 1
    · rw [if_pos d, tpwl_eq f _ _ _ (by omega), e2, tm_assoc]
      have : n = 1 + 2 * (n / 2) := by omega
      conv => rhs; rw [this]
      rw [tpow_add, tpow_1]
    · rw [if_neg d, tpwl_eq f _ _ _ (by omega), e2, show 2 * (n / 2) = n by omega]
def g (q q' : F) : Nat → Pt → T
  | 0, _ => one
  | n + 1, A => tm (g q q' n A) (lam q q' (mul n A) A)
section
variable (q q' : F) (hq : On q q') (hn : q' ≠ 0)
include hq hn
theorem g_add (A : Pt) (hA : Ok A) (m : Nat) : ∀ n, g q q' (m + n) A = tm (tm (g q q' m A) (g q q' n A)) (lam q q' (mul m A) (mul n A))
  | 0 => by rw [g, mul, lam_zero', tm_one, tm_one, Nat.add_zero]
  | n + 1 => by
    have h := cocycle q q' hq hn _ _ _ (Ok_mul hA m) (Ok_mul hA n) hA
    rw [Nat.add_succ, g, g_add A hA m n, mul_add hA, tm_assoc, h, g, mul]
    simp only [tm_assoc]
theorem lam4 (A B C D : Pt) (hA : Ok A) (hB : Ok B) (hC : Ok C) (hD : Ok D) :
    tm (tm (lam q q' A B) (lam q q' C D)) (lam q q' (add A B) (add C D)) = tm (tm (lam q q' A C) (lam q q' B D)) (lam q q' (add A C) (add B D)) := by
  have h1 := cocycle q q' hq hn (add A B) C D (Ok_add hA hB) hC hD
  have h2 := cocycle q q' hq hn (add A C) B D (Ok_add hA hC) hB hD
  have h3 := cocycle q q' hq hn A B C hA hB hC
  have h4 := cocycle q q' hq hn A C B hA hC hB
  rw [add_comm C B hC hB, lam_comm q q' C B hC hB, ← h3] at h4
  have e : add (add A C) B = add (add A B) C := by
    rw [assoc _ _ _ hA hC hB, add_comm C B hC hB, assoc _ _ _ hA hB hC]
  rw [tm_assoc, ← h1, ← tm_assoc, ← h4, tm_assoc, tm_assoc, ← h2, e]
theorem g_sum (A B : Pt) (hA : Ok A) (hB : Ok B) : ∀ n, tm (g q q' n (add A B)) (tpow (lam q q' A B) n) = tm (tm (g q q' n A) (g q q' n B)) (lam q q' (mul n A) (mul n B))
  | 0 => by rw [g, g, g, mul, mul, lam_zero]; rfl
  | n + 1 => by
    have h := g_sum A B hA hB n
    have h4 := lam4 q q' hq hn _ _ _ _ (Ok_mul hA n) (Ok_mul hB n) hA hB
    rw [g, tpow, mul_sum hA hB, g, g, mul, mul]
    have e : tm (tm (g q q' n (add A B)) (lam q q' (add (mul n A) (mul n B)) (add A B))) (tm (tpow (lam q q' A B) n) (lam q q' A B)) =
      tm (tm (g q q' n (add A B)) (tpow (lam q q' A B) n)) (tm (lam q q' A B) (lam q q' (add (mul n A) (mul n B)) (add A B))) := by
      simp only [tm_assoc, tm_comm, tm_left]
    rw [e, h, tm_assoc, ← tm_assoc (lam q q' (mul n A) (mul n B)), h4]
    simp only [tm_assoc, tm_comm, tm_left]
end
theorem g_O (q q' : F) : ∀ n, g q q' n O = one
  | 0 => rfl
  | n + 1 => by rw [g, g_O q q' n, lam_zero', tm_one]
def encT (z : T) : Nat := z.1.val * 16384 + z.2.val
theorem encT_inj {z w : T} (h : encT z = encT w) : z = w := by
  obtain ⟨a, b⟩ := z
  obtain ⟨c, d⟩ := w
  have := a.isLt; have := b.isLt; have := c.isLt; have := d.isLt
  simp only [encT] at h
  rw [show a = c from Fin.ext (by omega), show b = d from Fin.ext (by omega)]
def ntm (c d : Nat) : Nat := frc (c / 16384) fun a => frc (c % 16384) fun b => frc (d / 16384) fun u => frc (d % 16384) fun v =>
  ns (nm a u) (nm b v) * 16384 + (nm a v + nm b u) % 12107
theorem enc_fst (z : T) : encT z / 16384 = z.1.val := by have := z.2.isLt; unfold encT; omega
theorem enc_snd (z : T) : encT z % 16384 = z.2.val := by have := z.2.isLt; unfold encT; omega
theorem ntm_eq (z w : T) : ntm (encT z) (encT w) = encT (tm z w) := by
  unfold ntm
  rw [frc_eq, frc_eq, frc_eq, frc_eq, enc_fst, enc_snd, enc_fst, enc_snd]; rfl
def ntpwl : Nat → Nat → Nat → Nat → Nat
  | 0, _, _, out => out
  | f + 1, z, n, out => cond (Nat.beq n 0) out (frc (ntm z z) fun s => frc (cond (Nat.beq (n % 2) 1) (ntm out z) out) fun o => ntpwl f s (n / 2) o)
theorem ntpwl_eq : ∀ (f : Nat) (z : T) (n : Nat) (out : T), ntpwl f (encT z) n (encT out) = encT (tpwl f z n out)
  | 0, _, _, _ => rfl
  | f + 1, z, n, out => by
    rw [ntpwl, tpwl]
    by_cases c : n = 0
    · subst c; rw [if_pos rfl]; rfl
    · rw [if_neg c, show Nat.beq n 0 = false by rw [← Bool.not_eq_true, Nat.beq_eq]; exact c, cond_false, frc_eq, frc_eq, ntm_eq]
      by_cases d : n % 2 = 1
      · rw [if_pos d, d, show Nat.beq 1 1 = true from rfl, cond_true, ntm_eq, ntpwl_eq]
      · rw [if_neg d, show n % 2 = 0 by omega, show Nat.beq 0 1 = false from rfl, cond_false, ntpwl_eq]
def nN (c : Nat) : Nat := frc (c / 16384) fun a => frc (c % 16384) fun b => frc (ni ((nm a a + nm b b) % 12107)) fun i => frc (ns 0 b) fun d =>
  ntm (a * 16384 + d) (nm a i * 16384 + nm d i)
theorem nN_eq (z : T) : nN (encT z) = encT (N z) := by
  unfold nN
  rw [frc_eq, frc_eq, frc_eq, frc_eq, enc_fst, enc_snd, N, ← ntm_eq]
  congr 1
def uchk (t : Nat) : Bool := cond (Nat.ble 12107 t) true (frb (nN (t * 16384 + 1)) fun c => Nat.beq (ntpwl 14 c 12108 16384) 16384)
theorem uchk_all : all2 uchk 14 0 = true := by decide +kernel
theorem encT_one : encT one = 16384 := by decide
theorem unit_pow (z : T) (h : tnorm z ≠ 0) : tpow (N z) 12108 = one := by
  obtain ⟨a, b⟩ := z
  by_cases hb : b = 0
  · subst hb
    have ha : a ≠ 0 := by
      intro e; subst e; exact h (by decide)
    rw [N_real a ha, tpow_one]
  · have i := mul_inv b hb
    have e : (a, b) = tm (b, 0) (a * inv b, 1) := by
      generalize inv b = j at i
      simp only [tm, Prod.mk.injEq]; constructor <;> grobner
    rw [e, N_mul, N_real b hb, one_tm]
    generalize a * inv b = t
    have h := all2_ok uchk 14 0 uchk_all t.val (by omega) (by have := t.isLt; omega)
    unfold uchk at h
    have h3 := t.isLt
    have e1 : t.val * 16384 + 1 = encT (t, 1) := rfl
    rw [show Nat.ble 12107 t.val = false by rw [← Bool.not_eq_true, Nat.ble_eq]; omega, cond_false, frb_eq, e1, nN_eq, ← encT_one, ntpwl_eq] at h
    have h4 := encT_inj (Nat.eq_of_beq_eq_true h)
    rw [tpwl_eq _ _ _ _ (by decide), one_tm] at h4
    exact h4
theorem L_unit (q q' : F) (hn : q' ≠ 0) (A B : Pt) : tnorm (L q q' A B) ≠ 0 := by
  have h1 : tnorm one ≠ 0 := by decide
  cases A with
  | O => rw [L_zero]; exact h1
  | P a a' =>
    cases B with
    | O => rw [L_zero']; exact h1
    | P b b' =>
      rw [L]
      by_cases hu : Up a a' b b'
      · rw [if_pos hu]; exact h1
      · rw [if_neg hu]
        intro e
        exact hn (norm_zero e).2
theorem lam_pow (q q' : F) (hn : q' ≠ 0) (A B : Pt) : tpow (lam q q' A B) 12108 = one := unit_pow _ (L_unit q q' hn A B)
def mil (q q' : F) (A : Pt) : List Bool → T → Pt → T
  | [], f, _ => f
  | b :: bs, f, t => if b = true then mil q q' A bs (tm (tm (tm f f) (L q q' t t)) (L q q' (add t t) A)) (add (add t t) A) else mil q q' A bs (tm (tm f f) (L q q' t t)) (add t t)
def bits9 : List Bool := [true, true, true, true, true, false, false, false, true]
def upto : List Bool → Nat → Nat
  | [], k => k
  | b :: bs, k => upto bs (2 * k + (if b = true then 1 else 0))
theorem mil_N (q q' : F) (hq : On q q') (hn : q' ≠ 0) (A : Pt) (hA : Ok A) (bs : List Bool) : ∀ (f : T) (k : Nat), N f = g q q' k A → N (mil q q' A bs f (mul k A)) = g q q' (upto bs k) A := by
  induction bs with
  | nil => intro f k h; rw [mil, upto]; exact h
  | cons b bs ih =>
    intro f k h
    have e2 : add (mul k A) (mul k A) = mul (2 * k) A := by rw [← mul_add hA, Nat.two_mul]
    have h2 : N (tm (tm f f) (L q q' (mul k A) (mul k A))) = g q q' (2 * k) A := by
      rw [N_mul, N_mul, h, Nat.two_mul, g_add q q' hq hn A hA, lam]
    rw [mil, upto, e2]
    by_cases c : b = true
    · rw [if_pos c, if_pos c]
      have h3 : N (tm (tm (tm f f) (L q q' (mul k A) (mul k A))) (L q q' (mul (2 * k) A) A)) = g q q' (2 * k + 1) A := by
        rw [N_mul, h2, g, lam]
      have h4 := ih _ (2 * k + 1) h3
      rw [mul] at h4
      exact h4
    · rw [if_neg c, if_neg c, Nat.add_zero]
      exact ih _ (2 * k) h2
def ate (q q' : F) (A : Pt) : T := tpow (N (mil q q' A bits9 one A)) 12
theorem ate_eq (q q' : F) (hq : On q q') (hn : q' ≠ 0) (A : Pt) (hA : Ok A) : ate q q' A = tpow (g q q' 1009 A) 12 := by
  have h : N one = g q q' 1 A := by rw [N_one, g, mul, lam_zero, tm_one, g]
  have h2 := mil_N q q' hq hn A hA bits9 one 1 h
  rw [mul_one] at h2
  rw [ate, h2]; rfl
theorem ate_add (q q' : F) (hq : On q q') (hn : q' ≠ 0) (A B : Pt) (hA : Ok A) (hB : Ok B) (h1 : mul 1009 A = O) (h2 : mul 1009 B = O) : ate q q' (add A B) = tm (ate q q' A) (ate q q' B) := by
  rw [ate_eq q q' hq hn _ (Ok_add hA hB), ate_eq q q' hq hn _ hA, ate_eq q q' hq hn _ hB, ← tpow_tm]
  have h := g_sum q q' hq hn A B hA hB 1009
  rw [h1, h2, lam_zero, tm_one] at h
  rw [← h, tpow_tm, ← tpow_mul, lam_pow q q' hn, tm_one]
theorem base_mult (k : Nat) : mul 1009 (mul k Base) = O := by rw [← mul_mul Ok_Base, Nat.mul_comm, mul_mul Ok_Base, order, mul_O]
theorem ate_mul (q q' : F) (hq : On q q') (hn : q' ≠ 0) : ∀ k, ate q q' (mul k Base) = tpow (ate q q' Base) k
  | 0 => by rw [mul, ate_eq q q' hq hn O trivial, g_O, tpow_one]; rfl
  | k + 1 => by rw [mul, ate_add q q' hq hn _ _ (Ok_mul Ok_Base k) Ok_Base (base_mult k) order, ate_mul q q' hq hn k, tpow]
def nslope (x y u v : Nat) : Nat := cond (Nat.beq x u) (nm ((nm 3 (nm x x) + 1) % 12107) (ni (nm 2 y))) (nm (ns v y) (ni (ns u x)))
theorem nslope_eq (x y u v : F) : nslope x.val y.val u.val v.val = (slope x y u v).val := by
  unfold slope nslope
  by_cases c : x = u
  · rw [if_pos c, c, show Nat.beq u.val u.val = true from Nat.beq_refl _, cond_true, val_mul, val_inv]; rfl
  · rw [if_neg c, show Nat.beq x.val u.val = false by rw [← Bool.not_eq_true, Nat.beq_eq]; exact fun e => c (Fin.ext e), cond_false, val_mul, val_inv]; rfl
def nlin (q q' x y l : Nat) : Nat := ns (ns 0 y) (nm l (ns (ns 0 q) x)) * 16384 + q'
def nLa (q q' x y u v : Nat) : Nat := cond (and (Nat.beq x u) (Nat.beq ((y + v) % 12107) 0)) 16384 (frc (nslope x y u v) (nlin q q' x y))
def nL (q q' c d : Nat) : Nat := cond (Nat.ble 268435456 c) 16384 (cond (Nat.ble 268435456 d) 16384
    (frc (c / 16384) fun x => frc (c % 16384) fun y => frc (d / 16384) fun u => frc (d % 16384) fun v => nLa q q' x y u v))
theorem nL_eq (q q' : F) (A B : Pt) : nL q.val q'.val (enc A) (enc B) = encT (L q q' A B) := by
  unfold nL
  cases A with
  | O => rw [L_zero]; rfl
  | P x y =>
    have hx := x.isLt
    have hy := y.isLt
    have e1 : Nat.ble 268435456 (enc (P x y)) = false := by rw [← Bool.not_eq_true, Nat.ble_eq, enc]; omega
    rw [e1, cond_false]
    cases B with
    | O => rw [L_zero']; rfl
    | P u v =>
      have hu := u.isLt
      have hv := v.isLt
      have e2 : Nat.ble 268435456 (enc (P u v)) = false := by rw [← Bool.not_eq_true, Nat.ble_eq, enc]; omega
      rw [e2, cond_false, frc_eq, frc_eq, frc_eq, frc_eq]
      rw [enc, enc, show (x.val * 16384 + y.val) / 16384 = x.val by omega, show (x.val * 16384 + y.val) % 16384 = y.val by omega, show (u.val * 16384 + v.val) / 16384 = u.val by omega, show (u.val * 16384 + v.val) % 16384 = v.val by omega]
      unfold nLa
      rw [L]
      by_cases h : Up x y u v
      · rw [if_pos h, h.1, show Nat.beq u.val u.val = true from Nat.beq_refl _]
        have h2 : (y + v).val = 0 := by rw [h.2]; rfl
        rw [val_add] at h2
        rw [h2]; rfl
      · rw [if_neg h]
        have h1 : (and (Nat.beq x.val u.val) (Nat.beq ((y.val + v.val) % 12107) 0)) = false := by
          cases e : and (Nat.beq x.val u.val) (Nat.beq ((y.val + v.val) % 12107) 0) with
          | false => rfl
          | true =>
            exfalso
            rw [Bool.and_eq_true] at e
            exact h ⟨Fin.ext (Nat.eq_of_beq_eq_true e.1), Fin.ext (Nat.eq_of_beq_eq_true e.2)⟩
        rw [h1, cond_false, frc_eq, nslope_eq]; rfl
def nmil (q q' c : Nat) : List Bool → Nat → Nat → Nat
  | [], f, _ => f
  | b :: bs, f, t => frc (ntm (ntm f f) (nL q q' t t)) fun f2 => frc (nadd t t) fun t2 =>
    cond b (frc (ntm f2 (nL q q' t2 c)) fun f3 => frc (nadd t2 c) fun t3 => nmil q q' c bs f3 t3) (nmil q q' c bs f2 t2)
theorem nmil_eq (q q' : F) (A : Pt) : ∀ (bs : List Bool) (f : T) (t : Pt), nmil q.val q'.val (enc A) bs (encT f) (enc t) = encT (mil q q' A bs f t)
  | [], _, _ => rfl
  | b :: bs, f, t => by
    rw [nmil, mil, frc_eq, frc_eq, nL_eq, ntm_eq, ntm_eq, nadd_eq, frc_eq, frc_eq, nL_eq, ntm_eq, nadd_eq, nmil_eq, nmil_eq]
    cases b <;> rfl
def G : T := (372, 3632)
theorem encT_G : encT G = 6098480 := by decide
def jchk (j : Nat) : Bool := cond (Nat.ble 1009 j) true (cond (Nat.beq j 0) true (frb (tabAt j) fun c => cond (Nat.ble 268435456 c) false
  (frb (c / 16384) fun q => frb (c % 16384) fun q' => cond (Nat.beq q' 0) false
    (frb (nmil q q' 138363739 bits9 16384 138363739) fun f => frb (nN f) fun h => frb (ntpwl 4 h 12 16384) fun r => and (Nat.beq r (ntpwl 10 6098480 j 16384)) (cond (Nat.beq r 16384) false true)))))
theorem jchk_all : all2 jchk 10 0 = true := by decide +kernel
theorem one_each (j : Nat) (h0 : j ≠ 0) (h : j < 1009) : ∃ q q', mul j Base = P q q' ∧ q' ≠ 0 ∧ ate q q' Base = tpow G j ∧ tpow G j ≠ one := by
  have hc := all2_ok jchk 10 0 jchk_all j (by omega) (by omega)
  unfold jchk at hc
  rw [show Nat.ble 1009 j = false by rw [← Bool.not_eq_true, Nat.ble_eq]; omega, cond_false, show Nat.beq j 0 = false by rw [← Bool.not_eq_true, Nat.beq_eq]; exact h0, cond_false, frb_eq, ← tab_eq j (by omega)] at hc
  cases e : mul j Base with
  | O => rw [e] at hc; cases hc
  | P q q' =>
    rw [e] at hc
    have h1 := q.isLt
    have h2 := q'.isLt
    have e2 : Nat.ble 268435456 (enc (P q q')) = false := by rw [← Bool.not_eq_true, Nat.ble_eq, enc]; omega
    rw [e2, cond_false, frb_eq, frb_eq, enc, show (q.val * 16384 + q'.val) / 16384 = q.val by omega, show (q.val * 16384 + q'.val) % 16384 = q'.val by omega] at hc
    have hn : q' ≠ 0 := by
      intro e3; subst e3; cases hc
    rw [show Nat.beq q'.val 0 = false by rw [← Bool.not_eq_true, Nat.beq_eq]; exact fun e3 => hn (Fin.ext e3), cond_false, frb_eq, frb_eq, frb_eq, ← enc_Base, ← encT_one, nmil_eq, nN_eq, ntpwl_eq, ← encT_G, ntpwl_eq, Bool.and_eq_true] at hc
    obtain ⟨h3, h4⟩ := hc
    have h5 := encT_inj (Nat.eq_of_beq_eq_true h3)
    rw [tpwl_eq _ _ _ _ (by decide), tpwl_eq _ _ _ _ (by omega), one_tm, one_tm] at h5
    refine ⟨q, q', rfl, hn, h5, ?_⟩
    rw [← h5]
    intro e4
    rw [tpwl_eq _ _ _ _ (by decide), one_tm, e4, Nat.beq_refl] at h4
    cases h4
theorem G_order : tpow G 1009 = one := by
  apply encT_inj
  have h : tpow G 1009 = tpwl 10 G 1009 one := by rw [tpwl_eq _ _ _ _ (by decide), one_tm]
  rw [h, ← ntpwl_eq]
  decide +kernel
theorem G_mod (n : Nat) : tpow G n = tpow G (n % 1009) := by
  conv => lhs; rw [← Nat.div_add_mod n 1009]
  rw [tpow_add, tpow_mul, G_order, tpow_one, one_tm]
theorem G_one (n : Nat) : tpow G n = one ↔ n % 1009 = 0 := by
  rw [G_mod]
  constructor
  · intro h
    by_cases c : n % 1009 = 0
    · exact c
    · obtain ⟨_, _, _, _, _, h2⟩ := one_each (n % 1009) c (by omega)
      exact absurd h h2
  · intro h; rw [h]; rfl
theorem mult_O (n : Nat) : mul n Base = O ↔ n % 1009 = 0 := by
  rw [mod_mult]
  constructor
  · intro h
    by_cases c : n % 1009 = 0
    · exact c
    · obtain ⟨_, _, h2, _⟩ := one_each (n % 1009) c (by omega)
      rw [h2] at h; cases h
  · intro h; rw [h]; rfl
def prchk (r : Nat) : Bool := cond (Nat.ble 1009 r) true (cond (Nat.beq r 0) true (Nat.beq (r * (r ^ 1007 % 1009) % 1009) 1))
theorem prchk_all : all2 prchk 10 0 = true := by decide +kernel
theorem prime_1009 (a e : Nat) (ha : ¬ a % 1009 = 0) (h : a * e % 1009 = 0) : e % 1009 = 0 := by
  have hc := all2_ok prchk 10 0 prchk_all (a % 1009) (by omega) (by omega)
  unfold prchk at hc
  rw [show Nat.ble 1009 (a % 1009) = false by rw [← Bool.not_eq_true, Nat.ble_eq]; omega, cond_false, show Nat.beq (a % 1009) 0 = false by rw [← Bool.not_eq_true, Nat.beq_eq]; exact ha, cond_false] at hc
  have h1 := Nat.eq_of_beq_eq_true hc
  generalize (a % 1009) ^ 1007 % 1009 = s at h1
  have h2 : (e * (a % 1009 * s)) % 1009 = e % 1009 := by rw [Nat.mul_mod, h1, Nat.mul_one, Nat.mod_mod]
  have h3 : (e * (a % 1009 * s)) % 1009 = 0 := by
    have h4 : (a % 1009 * e) % 1009 = 0 := by rw [← h, Nat.mul_mod, Nat.mod_mod, ← Nat.mul_mod]
    rw [← Nat.mul_assoc, Nat.mul_comm e, Nat.mul_mod, h4]; simp
  omega
def pair : Pt → Pt → T
  | O, _ => one
  | _, O => one
  | P x y, P q q' => ate q q' (P x y)
theorem pair_mult (i j : Nat) : pair (mul i Base) (mul j Base) = tpow G (i * j) := by
  by_cases hj : j % 1009 = 0
  · have e : (i * j) % 1009 = 0 := by rw [Nat.mul_mod, hj]; simp
    rw [(mult_O j).mpr hj, (G_one _).mpr e]
    cases mul i Base <;> rfl
  by_cases hi : i % 1009 = 0
  · have e : (i * j) % 1009 = 0 := by rw [Nat.mul_mod, hi]; simp
    rw [(mult_O i).mpr hi, (G_one _).mpr e]; rfl
  obtain ⟨q, q', e1, hn, e2, _⟩ := one_each (j % 1009) hj (by omega)
  have hq : On q q' := by have := Ok_mul Ok_Base (j % 1009); rw [e1] at this; exact this
  rw [mod_mult j, e1]
  have e3 := ate_mul q q' hq hn i
  cases e4 : mul i Base with
  | O => exact absurd ((mult_O i).mp e4) hi
  | P x y =>
    rw [e4] at e3
    show ate q q' (P x y) = _
    rw [e3, e2, ← tpow_mul, G_mod, G_mod (i * j), Nat.mul_comm (j % 1009), Nat.mul_mod_mod]
end Go.Proofs.YtkdmplfldfagnaaDoor.Crv
end
section
set_option linter.unusedVariables false
set_option linter.unusedSimpArgs false
namespace Go.Proofs.YtkdmplfldfagnaaDoor.Link
open Go.RowKit Go.Proofs.YtkdmplfldfagnaaDoor.Pf Go.Proofs.YtkdmplfldfagnaaDoorW.PrintWords Go.Proofs.YtkdmplfldfagnaaDoor.Crv
open Go.Proofs.YtkdmplfldfagnaaDoor.Crv.Pt
set_option maxRecDepth 4000
theorem impl_TwoMul_eq (a b c d : Int) : impl_TwoMul.f a b c d = some (I2 (tm (R a, R b) (R c, R d))) := by
  simp only [impl_TwoMul.f, impl_FpMul_eq, impl_FpSub_eq, impl_FpAdd_eq, Option.bind_some, R_I]; rfl
theorem spec_TwoMul_eq (a b c d : Int) : spec_TwoMul.f a b c d = some (I2 (tm (R a, R b) (R c, R d))) := by
  simp only [spec_TwoMul.f, spec_FpMul_eq, spec_FpSub_eq, spec_FpAdd_eq, Option.bind_some, R_I]; rfl
def milO (p q : Option Pt) : List Bool → T → Option Pt → T
  | [], f, _ => f
  | b :: bs, f, t => if b = true then milO p q bs (tm (tm (tm f f) (lineO t t q)) (lineO (some (addO t t)) p q)) (some (addO (some (addO t t)) p))
    else milO p q bs (tm (tm f f) (lineO t t q)) (some (addO t t))
def bitAt (i : Nat) : Bool := decide (1009 / 2 ^ i % 2 = 1)
def bitsTo : Nat → List Bool
  | 0 => []
  | n + 1 => bitAt n :: bitsTo n
theorem bits_nine : bitsTo 9 = bits9 := by decide
def millerO (p q : Option Pt) : T := milO p q bits9 one p
theorem impl_bit : ∀ i : Nat, i < 9 → 0 ≤ IntKind.u64.wrap (i : Int) ∧ (Go.bits .and .i64 (shr .i64 1009 (IntKind.u64.wrap (i : Int))) 1 = 1 ↔ bitAt i = true) := by decide +kernel
theorem spec_bit : ∀ i : Nat, i < 9 → 0 ≤ IntKind.u64.wrap (i : Int) ∧ ((shr .i64 1009 (IntKind.u64.wrap (i : Int))) % 2 = 1 ↔ bitAt i = true) := by decide +kernel
theorem R2 (z : T) : (R (I2 z).1, R (I2 z).2) = z := by unfold I2; rw [R_I, R_I]
theorem impl_Miller_l0 (p1 p2 : Int) (p3 : Bool) (q1 q2 : Int) (q3 : Bool) : ∀ (n k : Nat) (f : T) (t1 t2 : Int) (t3 : Bool), n ≤ 9 → n + 24 ≤ k →
    impl_Miller.l0 k ((n : Int) - 1) p1 p2 p3 q1 q2 q3 (I2 f).1 (I2 f).2 t1 t2 t3 = some (I2 (milO (dec p1 p2 p3) (dec q1 q2 q3) (bitsTo n) f (dec t1 t2 t3)))
  | 0, k, f, t1, t2, t3, hn, hk => by
    obtain ⟨k, rfl⟩ : ∃ m, k = m + 1 := ⟨k - 1, by omega⟩
    simp only [impl_Miller.l0]
    rw [if_neg (by omega)]; rfl
  | n + 1, k, f, t1, t2, t3, hn, hk => by
    obtain ⟨k, rfl⟩ : ∃ m, k = m + 1 := ⟨k - 1, by omega⟩
    obtain ⟨b1, b2⟩ := impl_bit n (by omega)
    have a1 := Ok_addO t1 t2 t3 t1 t2 t3
    have d1 := dec_tr _ a1
    have a2 := Ok_addO (tr (addO (dec t1 t2 t3) (dec t1 t2 t3))).1 (tr (addO (dec t1 t2 t3) (dec t1 t2 t3))).2.1 (tr (addO (dec t1 t2 t3) (dec t1 t2 t3))).2.2 p1 p2 p3
    rw [d1] at a2
    have d2 := dec_tr _ a2
    rw [show ((n + 1 : Nat) : Int) - 1 = (n : Int) by omega]
    simp only [impl_Miller.l0, impl_TwoMul_eq, impl_PairLine_eq k (by omega), impl_PointAdd_eq k (by omega), Option.bind_some, R2, d1]
    rw [if_pos (by omega), if_pos b1, wrap_in (by omega) (by omega), bitsTo, milO]
    by_cases c : bitAt n = true
    · rw [if_pos (b2.mpr c), if_pos c, impl_Miller_l0 p1 p2 p3 q1 q2 q3 n k _ _ _ _ (by omega) (by omega), d2]
    · rw [if_neg (fun h => c (b2.mp h)), if_neg c, impl_Miller_l0 p1 p2 p3 q1 q2 q3 n k _ _ _ _ (by omega) (by omega), d1]
theorem spec_Miller_l0 (p1 p2 : Int) (p3 : Bool) (q1 q2 : Int) (q3 : Bool) : ∀ (n k : Nat) (f : T) (t1 t2 : Int) (t3 : Bool), n ≤ 9 → n + 24 ≤ k →
    spec_Miller.l0 k ((n : Int) - 1) p1 p2 p3 q1 q2 q3 (I2 f).1 (I2 f).2 t1 t2 t3 = some (I2 (milO (dec p1 p2 p3) (dec q1 q2 q3) (bitsTo n) f (dec t1 t2 t3)))
  | 0, k, f, t1, t2, t3, hn, hk => by
    obtain ⟨k, rfl⟩ : ∃ m, k = m + 1 := ⟨k - 1, by omega⟩
    simp only [spec_Miller.l0]
    rw [if_neg (by omega)]; rfl
  | n + 1, k, f, t1, t2, t3, hn, hk => by
    obtain ⟨k, rfl⟩ : ∃ m, k = m + 1 := ⟨k - 1, by omega⟩
    obtain ⟨b1, b2⟩ := spec_bit n (by omega)
    have a1 := Ok_addO t1 t2 t3 t1 t2 t3
    have d1 := dec_tr _ a1
    have a2 := Ok_addO (tr (addO (dec t1 t2 t3) (dec t1 t2 t3))).1 (tr (addO (dec t1 t2 t3) (dec t1 t2 t3))).2.1 (tr (addO (dec t1 t2 t3) (dec t1 t2 t3))).2.2 p1 p2 p3
    rw [d1] at a2
    have d2 := dec_tr _ a2
    rw [show ((n + 1 : Nat) : Int) - 1 = (n : Int) by omega]
    simp only [spec_Miller.l0, spec_TwoMul_eq, spec_PairLine_eq k (by omega), spec_PointAdd_eq k (by omega), Option.bind_some, R2, d1]
    rw [if_pos (by omega), if_pos b1, wrap_in (by omega) (by omega), bitsTo, milO]
    by_cases c : bitAt n = true
    · rw [if_pos (b2.mpr c), if_pos c, spec_Miller_l0 p1 p2 p3 q1 q2 q3 n k _ _ _ _ (by omega) (by omega), d2]
    · rw [if_neg (fun h => c (b2.mp h)), if_neg c, spec_Miller_l0 p1 p2 p3 q1 q2 q3 n k _ _ _ _ (by omega) (by omega), d1]
theorem spec_Miller_eq (k : Nat) (hk : 40 ≤ k) (x y : Int) (z : Bool) (u v : Int) (w : Bool) : spec_Miller.f k x y z u v w = some (I2 (millerO (dec x y z) (dec u v w))) := by
  have h := spec_Miller_l0 x y z u v w 9 k one x y z (by omega) (by omega)
  rw [bits_nine] at h
  exact h
theorem len_1009 (k : Nat) : bits_Len.f (k + 8) 1009 = some 10 := by
  simp only [bits_Len.f, bits_Len64.f, bits_Len64.j0]
  rw [if_neg (by decide), if_neg (by decide), if_pos (by decide), if_pos (by decide), if_pos (by decide)]
  simp only [Option.bind_some]
  congr 1
  decide +kernel
theorem impl_Miller_eq (k : Nat) (hk : 40 ≤ k) (x y : Int) (z : Bool) (u v : Int) (w : Bool) : impl_Miller.f k x y z u v w = some (I2 (millerO (dec x y z) (dec u v w))) := by
  have h := impl_Miller_l0 x y z u v w 9 k one x y z (by omega) (by omega)
  rw [bits_nine] at h
  obtain ⟨m, rfl⟩ : ∃ m, k = m + 8 := ⟨k - 8, by omega⟩
  unfold impl_Miller.f
  rw [len_1009]
  simp only [Option.bind_some]
  rw [show wrap64 (10 - 2) = ((9 : Nat) : Int) - 1 from by rw [wrap_in (by decide) (by decide)]; rfl]
  exact h
theorem milO_eq (q q' : F) (A : Pt) : ∀ (bs : List Bool) (f : T) (t : Pt), milO (some A) (some (P q q')) bs f (some t) = mil q q' A bs f t
  | [], _, _ => rfl
  | b :: bs, f, t => by
    rw [milO, mil]
    by_cases c : b = true
    · rw [if_pos c, if_pos c, milO_eq q q' A bs]; rfl
    · rw [if_neg c, if_neg c, milO_eq q q' A bs]; rfl
def pairO : Option Pt → Option Pt → T
  | some A, some B => if (inG (some A) && inG (some B) && !isO A && !isO B) = true then tpow (N (millerO (some A) (some B))) 12 else one
  | _, _ => one
theorem pairO_some (A B : Pt) : pairO (some A) (some B) = if (inG (some A) && inG (some B) && !isO A && !isO B) = true then tpow (N (millerO (some A) (some B))) 12 else one := rfl
theorem pairO_eq (A B : Pt) (hA : mul 1009 A = O) (hB : mul 1009 B = O) : pairO (some A) (some B) = pair A B := by
  have e1 : inG (some A) = true := by rw [inG, hA]; rfl
  have e2 : inG (some B) = true := by rw [inG, hB]; rfl
  rw [pairO_some, e1, e2]
  cases A with
  | O => rfl
  | P a a' =>
    cases B with
    | O => rfl
    | P b b' =>
      rw [if_pos (show (true && true && !isO (P a a') && !isO (P b b')) = true from rfl), millerO, milO_eq]; rfl
theorem impl_TwoTurn_eq (a b : Int) : impl_TwoTurn.f a b = some (I2 (tbar (R a, R b))) := by
  simp only [impl_TwoTurn.f, impl_FpOf_eq, impl_FpSub_eq, Option.bind_some, R_zero]; rfl
theorem impl_TwoInv_eq (k : Nat) (hk : 15 ≤ k) (a b : Int) : impl_TwoInv.f k a b = some (I2 (tinv (R a, R b))) := by
  simp only [impl_TwoInv.f, impl_FpMul_eq, impl_FpAdd_eq, impl_FpSub_eq, impl_FpInv_eq k _ hk, Option.bind_some, R_I, R_zero]; rfl
theorem impl_TwoPow_l0 : ∀ (f k : Nat) (a b : Int) (n : Nat) (out : T), n < 2 ^ f → f ≤ 60 → f < k →
    impl_TwoPow.l0 k (n : Int) a b (I2 out).1 (I2 out).2 = some (I2 (tpwl f (R a, R b) n out))
  | 0, k, a, b, n, out, h, _, hk => by
    obtain rfl : n = 0 := by simp at h; exact h
    obtain ⟨k, rfl⟩ : ∃ m, k = m + 1 := ⟨k - 1, by omega⟩
    simp only [impl_TwoPow.l0]
    rw [if_neg (by omega), tpwl]
  | f + 1, k, a, b, n, out, h, hf, hk => by
    obtain ⟨k, rfl⟩ : ∃ m, k = m + 1 := ⟨k - 1, by omega⟩
    have hb : 2 ^ (f + 1) ≤ 2 ^ 60 := Nat.pow_le_pow_right (by decide) hf
    simp only [impl_TwoPow.l0, impl_TwoMul_eq, Option.bind_some, R2]
    rw [tpwl]
    by_cases c : n = 0
    · subst c; rw [if_neg (by omega), if_pos rfl]
    rw [if_pos (by omega), if_neg c, halve n (by omega)]
    rw [Nat.pow_succ] at h
    by_cases d : n % 2 = 1
    · rw [if_pos ((odd n).mpr d), if_pos d, impl_TwoPow_l0 f k _ _ _ _ (by omega) (by omega) (by omega), R2]
    · rw [if_neg (fun e => d ((odd n).mp e)), if_neg d, impl_TwoPow_l0 f k _ _ _ _ (by omega) (by omega) (by omega), R2]
theorem impl_TwoPow_eq (k : Nat) (a b : Int) (n f : Nat) (h : n < 2 ^ f) (hf : f ≤ 60) (hk : f < k) : impl_TwoPow.f k a b (n : Int) = some (I2 (tpow (R a, R b) n)) := by
  unfold impl_TwoPow.f
  rw [if_neg (by omega)]
  have e := impl_TwoPow_l0 f k a b n one h hf hk
  rw [tpwl_eq f _ _ _ h, one_tm] at e
  exact e
theorem pairO_no (p q : Option Pt) (h : inG p = false ∨ inG q = false) : pairO p q = one := by
  cases p with
  | none => rfl
  | some A =>
    cases q with
    | none => rfl
    | some B =>
      rw [pairO_some]
      rcases h with h | h <;> rw [h] <;> simp
theorem dec_flag {x y : Int} {z : Bool} {A : Pt} (h : dec x y z = some A) : isO A = z := by rw [← tr_isO, ← (dec_ok h).2.2.2]
theorem pairO_flag (x y : Int) (z : Bool) (u v : Int) (w : Bool) (h : z = true ∨ w = true) : pairO (dec x y z) (dec u v w) = one := by
  cases e : dec x y z with
  | none => rfl
  | some A =>
    cases f : dec u v w with
    | none => rfl
    | some B =>
      rw [pairO_some, dec_flag e, dec_flag f]
      rcases h with h | h <;> rw [h] <;> simp
theorem impl_pair_j0 (k : Nat) (hk : 40 ≤ k) (x y : Int) (z : Bool) (u v : Int) (w : Bool) (h1 : inG (dec x y z) = true) (h2 : inG (dec u v w) = true) (h3 : z = false) (h4 : w = false) :
    impl_Pairing.j0 (k + 1) false x y z u v w = some (I2 (pairO (dec x y z) (dec u v w))) := by
  have t := impl_TwoPow_eq k (I2 (N (millerO (dec x y z) (dec u v w)))).1 (I2 (N (millerO (dec x y z) (dec u v w)))).2 12 4 (by decide) (by decide) (by omega)
  rw [R2, show ((12 : Nat) : Int) = 12 from rfl] at t
  simp only [impl_Pairing.j0, Bool.false_eq_true, if_false, impl_Miller_eq k hk, impl_TwoTurn_eq, impl_TwoInv_eq k (by omega), impl_TwoMul_eq, Option.bind_some, R2]
  rw [N] at t
  rw [t]
  simp only [Option.bind_some]
  cases e : dec x y z with
  | none => rw [e] at h1; cases h1
  | some A =>
    cases f : dec u v w with
    | none => rw [f] at h2; cases h2
    | some B =>
      rw [e] at h1
      rw [f] at h2
      rw [pairO_some, h1, h2, dec_flag e, dec_flag f, h3, h4, if_pos (by decide), N]
theorem impl_pair_j1 (k : Nat) (x y : Int) (z : Bool) (u v : Int) (w : Bool) : impl_Pairing.j0 (k + 1) true x y z u v w = some (I2 one) := by
  simp only [impl_Pairing.j0, if_true]; rfl
theorem impl_Pairing_eq (k : Nat) (hk : 42 ≤ k) (x y : Int) (z : Bool) (u v : Int) (w : Bool) : impl_Pairing.f k x y z u v w = some (I2 (pairO (dec x y z) (dec u v w))) := by
  obtain ⟨k, rfl⟩ : ∃ m, k = m + 1 := ⟨k - 1, by omega⟩
  unfold impl_Pairing.f
  simp only [impl_InGroup_eq (k + 1) (by omega), Option.bind_some, impl_pair_j1]
  by_cases c1 : z = true
  · rw [if_pos c1, pairO_flag _ _ _ _ _ _ (Or.inl c1)]
  by_cases c2 : w = true
  · rw [if_neg c1, if_pos c2, pairO_flag _ _ _ _ _ _ (Or.inr c2)]
  rw [if_neg c1, if_neg c2]
  by_cases h1 : inG (dec x y z) = true
  · rw [if_pos h1]
    by_cases h2 : inG (dec u v w) = true
    · rw [h2, Bool.not_true, impl_pair_j0 k (by omega) _ _ _ _ _ _ h1 h2 (Bool.eq_false_iff.mpr c1) (Bool.eq_false_iff.mpr c2)]
    · rw [Bool.eq_false_iff.mpr h2, Bool.not_false, impl_pair_j1, pairO_no _ _ (Or.inr (Bool.eq_false_iff.mpr h2))]
  · rw [if_neg h1, pairO_no _ _ (Or.inl (Bool.eq_false_iff.mpr h1))]
end Go.Proofs.YtkdmplfldfagnaaDoor.Link
end
section
set_option linter.unusedVariables false
set_option linter.unusedSimpArgs false
namespace Go.Proofs.YtkdmplfldfagnaaDoor.Sgn
open Go.RowKit Go.Proofs.YtkdmplfldfagnaaDoor.Pf Go.Proofs.YtkdmplfldfagnaaDoorW.PrintWords Go.Proofs.YtkdmplfldfagnaaDoor.Crv Go.Proofs.YtkdmplfldfagnaaDoor.Link
open Go.Proofs.YtkdmplfldfagnaaDoor.Crv.Pt
def two (z w : Int × Int) : Bool := z.1 == w.1 && (z.2 == w.2)
def eqs (p q : Option Pt) (t : ByteArray) : Bool := two (I2 (pairO q (some Base))) (I2 (pairO (some (H t)) p))
def sgk (x y : Int) (z : Bool) (t : ByteArray) (u v : Int) (w : Bool) : Bool :=
  if z = true then false else if w = true then false else if inG (dec x y z) = true then (if inG (dec u v w) = true then eqs (dec x y z) (dec u v w) t else false) else false
theorem impl_sk_j (k : Nat) (hk : 200 ≤ k) (t : ByteArray) (ht : t.size ≤ 1048576) (x y : Int) (z : Bool) (u v : Int) (w : Bool) : impl_SigOk.j0 (k + 1) t false x y z u v w = some (eqs (dec x y z) (dec u v w) t) := by
  rw [impl_SigOk.j0, if_neg (by decide)]
  simp only [impl_Base.f, Option.bind_some, impl_Pairing_eq k (by omega), impl_H t ht k (by omega), base_dec, dec_tr _ (Ok_H t)]
  rfl
theorem impl_sk_no (k : Nat) (t : ByteArray) (x y : Int) (z : Bool) (u v : Int) (w : Bool) : impl_SigOk.j0 (k + 1) t true x y z u v w = some false := by
  rw [impl_SigOk.j0, if_pos rfl]
theorem impl_sk (k : Nat) (hk : 300 ≤ k) (t : ByteArray) (ht : t.size ≤ 1048576) (x y : Int) (z : Bool) (u v : Int) (w : Bool) : impl_SigOk.f k x y z t u v w = some (sgk x y z t u v w) := by
  obtain ⟨k, rfl⟩ : ∃ m, k = m + 1 := ⟨k - 1, by omega⟩
  have e := impl_sk_j k (by omega) t ht x y z u v w
  have g := impl_sk_no k t x y z u v w
  unfold impl_SigOk.f sgk
  rw [impl_InGroup_eq (k + 1) (by omega), impl_InGroup_eq (k + 1) (by omega)]
  simp only [Option.bind_some]
  by_cases c1 : z = true
  · rw [if_pos c1, if_pos c1, g]
  rw [if_neg c1, if_neg c1]
  by_cases c2 : w = true
  · rw [if_pos c2, if_pos c2, g]
  rw [if_neg c2, if_neg c2]
  by_cases c3 : inG (dec x y z) = true
  · rw [if_pos c3, if_pos c3]
    by_cases c4 : inG (dec u v w) = true
    · rw [if_pos c4, c4, Bool.not_true, e]
    · rw [if_neg c4, Bool.eq_false_iff.mpr c4, Bool.not_false, g]
  · rw [if_neg c3, if_neg c3, g]
def key (n : Int) : Pt := mul (n % 1009).toNat Base
theorem impl_key (k : Nat) (hk : 42 ≤ k) (n : Int) : impl_KeyOf.f k n = some (tr (key n)) := by
  rw [impl_KeyOf.f, impl_ScOf_eq, Option.bind_some, impl_Base.f, Option.bind_some, impl_PointTimes_eq k (by omega), base_dec, often_sc, Option.bind_some]
  exact congrArg some (tr_eta _)
theorem G_inj (m n : Nat) : tpow G m = tpow G n ↔ m % 1009 = n % 1009 := by
  constructor
  · intro h
    rw [G_mod m, G_mod n] at h
    have hb : n % 1009 < 1009 := Nat.mod_lt _ (by decide)
    have ha : m % 1009 < 1009 := Nat.mod_lt _ (by decide)
    generalize m % 1009 = a at *
    generalize n % 1009 = b at *
    have e : tpow G (a + (1009 - b)) = one := by
      rw [tpow_add, h, ← tpow_add, show b + (1009 - b) = 1009 by omega, G_order]
    have e2 := (G_one _).1 e
    omega
  · intro h
    rw [G_mod m, G_mod n, h]
theorem two_iff (z w : T) : two (I2 z) (I2 w) = decide (z = w) := by
  obtain ⟨a, b⟩ := z
  obtain ⟨c, d⟩ := w
  show (I a == I c && (I b == I d)) = _
  by_cases h : a = c ∧ b = d
  · rw [h.1, h.2, beq_self_eq_true, beq_self_eq_true, decide_eq_true rfl]
    rfl
  · rw [decide_eq_false (fun e => h (by rw [Prod.mk.injEq] at e; exact e))]
    by_cases h1 : a = c
    · have h2 : ¬ I b = I d := fun e => h ⟨h1, I_inj e⟩
      rw [beq_false_of_ne h2, Bool.and_false]
    · have h2 : ¬ I a = I c := fun e => h1 (I_inj e)
      rw [beq_false_of_ne h2, Bool.false_and]
theorem zero_mult (n : Nat) : isO (mul n Base) = decide (n % 1009 = 0) := by
  by_cases h : n % 1009 = 0
  · rw [decide_eq_true h, (isO_iff _).2 ((mult_O n).2 h)]
  · rw [decide_eq_false h]
    exact Bool.eq_false_iff.mpr (fun e => h ((mult_O n).1 ((isO_iff _).1 e)))
theorem inG_mult (n : Nat) : inG (some (mul n Base)) = true := by
  show isO (mul 1009 (mul n Base)) = true
  rw [base_mult]
  rfl
theorem sgk_mult (t : ByteArray) {j : Nat} (hj : H t = mul j Base) (a c : Nat) :
    sgk (tr (mul a Base)).1 (tr (mul a Base)).2.1 (tr (mul a Base)).2.2 t (tr (mul c Base)).1 (tr (mul c Base)).2.1 (tr (mul c Base)).2.2 = decide (¬ a % 1009 = 0 ∧ ¬ c % 1009 = 0 ∧ c % 1009 = (j * a) % 1009) := by
  unfold sgk
  rw [dec_tr _ (Ok_mul Ok_Base a), dec_tr _ (Ok_mul Ok_Base c), tr_isO, tr_isO, zero_mult, zero_mult, inG_mult, inG_mult]
  by_cases h1 : a % 1009 = 0
  · rw [decide_eq_true h1, if_pos rfl, decide_eq_false (fun e => e.1 h1)]
  rw [decide_eq_false h1, if_neg (by decide)]
  by_cases h2 : c % 1009 = 0
  · rw [decide_eq_true h2, if_pos rfl, decide_eq_false (fun e => e.2.1 h2)]
  rw [decide_eq_false h2, if_neg (by decide), if_pos rfl, if_pos rfl]
  unfold eqs
  have e1 : pairO (some (mul c Base)) (some Base) = tpow G (c * 1) := by
    rw [pairO_eq _ _ (base_mult c) order]
    have := pair_mult c 1
    rwa [mul_one] at this
  have e2 : pairO (some (H t)) (some (mul a Base)) = tpow G (j * a) := by
    rw [hj, pairO_eq _ _ (base_mult j) (base_mult a), pair_mult]
  rw [e1, e2, two_iff, Nat.mul_one]
  by_cases h3 : c % 1009 = (j * a) % 1009
  · rw [decide_eq_true ((G_inj _ _).2 h3), decide_eq_true ⟨h1, h2, h3⟩]
  · rw [decide_eq_false (fun e => h3 ((G_inj _ _).1 e)), decide_eq_false (fun e => h3 e.2.2)]
theorem sw_mult (t : ByteArray) {j : Nat} (hj : H t = mul j Base) (n : Nat) : mul n (H t) = mul (j * n) Base := by rw [hj, mul_mul Ok_Base]
theorem sgk_right (t : ByteArray) (n : Nat) : sgk (tr (mul n Base)).1 (tr (mul n Base)).2.1 (tr (mul n Base)).2.2 t (tr (mul n (H t))).1 (tr (mul n (H t))).2.1 (tr (mul n (H t))).2.2 = decide (¬ n % 1009 = 0) := by
  obtain ⟨j, j1, j0, hj⟩ := H_in t
  rw [sw_mult t hj, sgk_mult t hj]
  apply decide_eq_decide.2
  refine ⟨fun h => h.1, fun h => ⟨h, fun e => h (prime_1009 j n ?_ e), rfl⟩⟩
  rw [Nat.mod_eq_of_lt j1]
  exact j0
end Go.Proofs.YtkdmplfldfagnaaDoor.Sgn
end
section
set_option linter.unusedVariables false
set_option linter.unusedSimpArgs false
namespace Go.Proofs.YtkdmplfldfagnaaDoor.Sgn
open Go.RowKit Go.Proofs.YtkdmplfldfagnaaDoor.Pf Go.Proofs.YtkdmplfldfagnaaDoorW.PrintWords Go.Proofs.YtkdmplfldfagnaaDoor.Crv Go.Proofs.YtkdmplfldfagnaaDoor.Link Go.Proofs.YtkdmplfldfagnaaDoor.Sum
open Go.Proofs.YtkdmplfldfagnaaDoor.Crv.Pt
abbrev PQ := S23
def alls (ys : List PQ) (t : ByteArray) (u v : Int) (w : Bool) : Bool := if (ys.length : Int) > 0 then sgk (sumL ys (0, 0, true)).1 (sumL ys (0, 0, true)).2.1 (sumL ys (0, 0, true)).2.2 t u v w else false
theorem impl_all (ys : List PQ) (hl : ys.length ≤ 1048576) (t : ByteArray) (ht : t.size ≤ 1048576) (u v : Int) (w : Bool) (k : Nat) (hk : ys.length + 400 ≤ k) : impl_AllSigOk.f k ys t u v w = some (alls ys t u v w) := by
  have a := impl_Sum_l0 ys hl ys.length 0 k (0, 0, true) (by omega) (by omega)
  have a2 : impl_SumPoints.f k ys = some (sumL ys (0, 0, true)) := a
  unfold impl_AllSigOk.f alls
  by_cases c : (ys.length : Int) > 0
  · rw [if_pos c, if_pos c, a2, Option.bind_some, impl_sk k (by omega) t ht, Option.bind_some]
  · rw [if_neg c, if_neg c]
def pt (A : Pt) : PQ := ⟨(tr A).1, (tr A).2.1, (tr A).2.2⟩
theorem alls_right (xs : List PQ) (S : Nat) (h : sumL xs (0, 0, true) = tr (mul S Base)) (hl : 0 < xs.length) (t : ByteArray) : alls xs t (tr (mul S (H t))).1 (tr (mul S (H t))).2.1 (tr (mul S (H t))).2.2 = decide (¬ S % 1009 = 0) := by
  unfold alls
  rw [if_pos (by omega), h, sgk_right]
end Go.Proofs.YtkdmplfldfagnaaDoor.Sgn
end
section
set_option linter.unusedVariables false
set_option linter.unusedSimpArgs false
namespace Go.Proofs.YtkdmplfldfagnaaDoor.Sgn
open Go Go.RowKit Go.Proofs.YtkdmplfldfagnaaDoor.Pf Go.Proofs.YtkdmplfldfagnaaDoorW.PrintWords Go.Proofs.YtkdmplfldfagnaaDoor.Crv Go.Proofs.YtkdmplfldfagnaaDoor.Link Go.Proofs.YtkdmplfldfagnaaDoor.Pts Go.Proofs.YtkdmplfldfagnaaDoor.Sum
open Go.Proofs.YtkdmplfldfagnaaDoor.Crv.Pt
open Go.Proofs.YtkdmplfldfagnaaDoor.Comm (PS okC impl_CommitteeOk_eq)
theorem texts_eq {a b : ByteArray} (h : a.toList = b.toList) : a = b := by
  rw [Go.ByteArray.toList_eq, Go.ByteArray.toList_eq] at h
  cases a; cases b
  congr 1
  exact Array.toList_inj.1 h
theorem third (a b c : Int) (h0 : 0 ≤ c) (h1 : c ≤ 255) (t : ByteArray) (h : (strOfNums [a, b, c]).toList = t.toList) : bt t 2 = c := by
  have e := texts_eq h
  subst e
  unfold bt
  rw [dif_pos (by simp [strOfNums, ByteArray.size])]
  have e1 : (UInt8.ofNat c.toNat).toNat = c.toNat := by rw [UInt8.toNat_ofNat']; omega
  show (((UInt8.ofNat c.toNat).toNat : Nat) : Int) = c
  rw [e1]; omega
theorem zeros_eq (t : ByteArray) (h : t.toList = ([0, 0, 0] : List UInt8)) : bt t 0 = 0 ∧ bt t 1 = 0 := by
  have e : t = ⟨#[0, 0, 0]⟩ := texts_eq (by rw [h, Go.ByteArray.toList_eq])
  subst e
  constructor <;> rfl
theorem not_empty (t : ByteArray) (h : (t.size : Int) = 3) : ¬ (⟨#[]⟩ : ByteArray).toList = t.toList := by
  intro e
  have := texts_eq e
  subst this
  simp [ByteArray.size] at h
theorem root_zero : root 0 * root 0 = 0 := by
  rcases root_sq 0 with h | h
  · rw [show (0 : F) * 0 = 0 by decide] at h; rw [h]; decide
  · rw [show (0 : F) * 0 = 0 by decide] at h
    generalize root 0 = r at h
    grobner
theorem dec_big (x y : Int) (h : 12107 ≤ x) : dec x y false = none := by
  unfold dec
  rw [if_neg (by decide), if_neg (by omega)]
theorem dec_none (x : Int) (y : F) (h : ¬ y * y = R x * R x * R x + R x) : dec x (I y) false = none := by
  unfold dec
  rw [if_neg (by decide), if_neg (fun e => h (by have := e.2.2; rw [R_I] at this; exact this))]
theorem ptxt_none (x y : Int) (z : Bool) (h : dec x y z = none) : ptxt x y z = ⟨#[]⟩ := by
  unfold ptxt
  rw [h, if_neg (by decide)]
theorem ptxt_third (x y : Int) (t : ByteArray) (ht : (t.size : Int) = 3) (h : (ptxt x y false).toList = t.toList) : bt t 2 = (Int.tmod y 2) % 256 := by
  unfold ptxt at h
  by_cases c : (dec x y false).isSome = true
  · rw [if_pos c, if_neg (by decide)] at h
    exact third _ _ _ (by omega) (by omega) t h
  · rw [if_neg c] at h
    exact absurd h (not_empty t ht)
theorem impl_neg_eq (x y : Int) : impl_PointNeg.f x y false = some (x, I (0 - R y), false) := by
  unfold impl_PointNeg.f
  rw [if_neg (by decide)]
  simp only [impl_FpSub_eq, Option.bind_some, R_zero]
def readP (t : ByteArray) : Int × Int × Bool × Bool :=
  if (t.size : Int) = 3 then
    if t.toList = ([0, 0, 0] : List UInt8) then (0, 0, true, true)
    else if 0 ≤ bt t 0 * 256 + bt t 1 - 1 ∧ bt t 0 * 256 + bt t 1 - 1 < 12107 then
      if bt t 2 > 1 then (0, 0, false, false)
      else
        if root (R (bt t 0 * 256 + bt t 1 - 1) * R (bt t 0 * 256 + bt t 1 - 1) * R (bt t 0 * 256 + bt t 1 - 1) + R (bt t 0 * 256 + bt t 1 - 1)) * root (R (bt t 0 * 256 + bt t 1 - 1) * R (bt t 0 * 256 + bt t 1 - 1) * R (bt t 0 * 256 + bt t 1 - 1) + R (bt t 0 * 256 + bt t 1 - 1)) = R (bt t 0 * 256 + bt t 1 - 1) * R (bt t 0 * 256 + bt t 1 - 1) * R (bt t 0 * 256 + bt t 1 - 1) + R (bt t 0 * 256 + bt t 1 - 1) then
          let y := sroot (R (bt t 0 * 256 + bt t 1 - 1) * R (bt t 0 * 256 + bt t 1 - 1) * R (bt t 0 * 256 + bt t 1 - 1) + R (bt t 0 * 256 + bt t 1 - 1))
          if Int.tmod (I y) 2 = bt t 2 then (if (ptxt (bt t 0 * 256 + bt t 1 - 1) (I y) false).toList = t.toList then (bt t 0 * 256 + bt t 1 - 1, I y, false, true) else (0, 0, false, false))
          else (if (ptxt (bt t 0 * 256 + bt t 1 - 1) (I (0 - y)) false).toList = t.toList then (bt t 0 * 256 + bt t 1 - 1, I (0 - y), false, true) else (0, 0, false, false))
        else (0, 0, false, false)
    else (0, 0, false, false)
  else (0, 0, false, false)
theorem tmod2 (y : F) : 0 ≤ Int.tmod (I y) 2 ∧ Int.tmod (I y) 2 ≤ 1 := by
  have := I_nn y
  rw [Int.tmod_eq_emod_of_nonneg this]; omega
theorem impl_ReadPoint_eq (k : Nat) (hk : 20 ≤ k) (t : ByteArray) : impl_ReadPoint.f k t = some (readP t) := by
  obtain ⟨a0, a1⟩ := bt_range t 0
  obtain ⟨b0, b1⟩ := bt_range t 1
  obtain ⟨c0, c1⟩ := bt_range t 2
  unfold impl_ReadPoint.f readP
  by_cases h3 : (t.size : Int) = 3
  · rw [if_pos h3, if_pos h3, if_pos (by omega), if_pos (by omega)]
    rw [wrap_in (i := bt t 0) (by omega) (by omega), wrap_in (i := bt t 0 * 256) (by omega) (by omega), wrap_in (i := bt t 1) (by omega) (by omega), wrap_in (i := bt t 0 * 256 + bt t 1) (by omega) (by omega), wrap_in (i := bt t 0 * 256 + bt t 1 - 1) (by omega) (by omega), wrap_in (i := bt t 2) (by omega) (by omega)]
    have hz0 : t.toList = ([0, 0, 0] : List UInt8) → bt t 0 * 256 + bt t 1 - 1 < 0 := by
      intro e
      obtain ⟨e1, e2⟩ := zeros_eq t e
      omega
    generalize hX : bt t 0 * 256 + bt t 1 - 1 = X at *
    by_cases hn : X < 0
    · rw [if_pos hn, impl_PointText_eq]
      simp only [Option.bind_some]
      have e : (ptxt 0 0 true).toList = ([0, 0, 0] : List UInt8) := by
        rw [show ptxt 0 0 true = ⟨#[0, 0, 0]⟩ from rfl, Go.ByteArray.toList_eq]
      rw [e]
      by_cases hz : t.toList = ([0, 0, 0] : List UInt8)
      · rw [if_pos hz.symm, if_pos hz]
      · rw [if_neg (fun h => hz h.symm), if_neg hz, if_neg (by omega)]
    · have hz : ¬ t.toList = ([0, 0, 0] : List UInt8) := fun e => hn (hz0 e)
      rw [if_neg hn, if_neg hz]
      simp only [impl_curve_eq, Option.bind_some, impl_root_eq k (by omega), R_I, impl_PointText_eq, impl_neg_eq]
      rw [if_pos (by omega)]
      by_cases hx : 0 ≤ X ∧ X < 12107
      · rw [if_pos hx]
        by_cases hr : root (R X * R X * R X + R X) * root (R X * R X * R X + R X) = R X * R X * R X + R X
        · rw [if_pos hr, if_pos hr]
          simp only [R_I]
          generalize sroot (R X * R X * R X + R X) = y
          have hy := tmod2 y
          by_cases hp : Int.tmod (I y) 2 = bt t 2
          · rw [if_neg (show ¬ bt t 2 > 1 by omega), if_pos hp, if_pos hp]
            split <;> rfl
          · rw [if_neg hp, if_neg hp]
            by_cases hb : bt t 2 > 1
            · rw [if_pos hb, if_neg]
              intro e
              have e2 := ptxt_third _ _ t h3 e
              have hy2 := tmod2 (0 - y)
              omega
            · rw [if_neg hb]
              split <;> rfl
        · rw [if_neg hr, if_neg hr]
          have hc : ¬ (0 : F) * 0 = R X * R X * R X + R X := by
            intro e
            apply hr
            rw [← e]
            exact root_zero
          have d0 : ptxt X 0 false = ⟨#[]⟩ := ptxt_none _ _ _ (by rw [← I_zero]; exact dec_none X 0 hc)
          have d1 : ptxt X (I (0 - R 0)) false = ⟨#[]⟩ := ptxt_none _ _ _ (by rw [R_zero, show (0 : F) - 0 = 0 by decide]; exact dec_none X 0 hc)
          simp only [d0, d1, if_neg (not_empty t h3), ite_self]
      · rw [if_neg hx]
        have d : ∀ y, ptxt X y false = ⟨#[]⟩ := fun y => ptxt_none _ _ _ (dec_big X y (by omega))
        simp only [d, if_neg (not_empty t h3), ite_self]
  · rw [if_neg h3, if_neg h3]
theorem bt_nums (xs : List Int) (i : Nat) (h : i < xs.length) (h0 : 0 ≤ xs[i]) (h1 : xs[i] ≤ 255) : bt (strOfNums xs) (i : Int) = xs[i] := by
  unfold bt
  rw [dif_pos (by rw [strOfNums_size]; omega)]
  have e : (strOfNums xs)[i]'(by rw [strOfNums_size]; exact h) = UInt8.ofNat (xs[i]).toNat := by
    simp [strOfNums, ByteArray.getElem_eq_getElem_data]
  have e2 : ((strOfNums xs)[((i : Nat) : Int).toNat]'(by rw [strOfNums_size]; exact h)) = UInt8.ofNat (xs[i]).toNat := e
  rw [e2]
  have h3 : (xs[i]).toNat < 256 := by omega
  simp [UInt8.toNat_ofNat, Nat.mod_eq_of_lt h3]
  omega
theorem I_neg (y : F) (h : y ≠ 0) : I (0 - y) = 12107 - I y := by
  rw [I_sub]
  have h1 := I_lt y
  have h2 := I_nn y
  have h3 : I y ≠ 0 := fun e => h ((I_eq_zero y).1 e)
  unfold I at *
  have h4 : (0 : F).val = 0 := rfl
  rw [h4]
  omega
theorem neg_zero' : (0 : F) - 0 = 0 := by decide
theorem sroot_pm (y : F) : (root (y * y) * root (y * y) = y * y) ∧ (sroot (y * y) = y ∨ sroot (y * y) = 0 - y) := by
  have h := root_sq y
  constructor
  · rcases h with h | h
    · rw [h]
    · generalize root (y * y) = r at *
      grobner
  · unfold sroot
    rcases h with h | h
    · rw [h]
      split
      · exact Or.inr rfl
      · exact Or.inl rfl
    · have h2 : root (y * y) = 0 - y := by generalize root (y * y) = r at *; grobner
      rw [h2]
      split
      · exact Or.inl (by grobner)
      · exact Or.inr rfl
theorem read_ptxt (A : Pt) (hA : Ok A) : readP (ptxt (tr A).1 (tr A).2.1 (tr A).2.2) = ((tr A).1, (tr A).2.1, (tr A).2.2, true) ∧ (ptxt (tr A).1 (tr A).2.1 (tr A).2.2).size = 3 := by
  cases A with
  | O =>
    have e : ptxt (tr O).1 (tr O).2.1 (tr O).2.2 = (⟨#[0, 0, 0]⟩ : ByteArray) := by
      unfold ptxt
      rw [if_pos (by rw [dec_tr O hA]; rfl), if_pos (show (tr O).2.2 = true from rfl)]
    rw [e]
    refine ⟨?_, rfl⟩
    unfold readP
    rw [if_pos (show ((⟨#[0, 0, 0]⟩ : ByteArray).size : Int) = 3 from rfl), if_pos (by rw [Go.ByteArray.toList_eq])]
    rfl
  | P x y =>
    have hon : y * y = x * x * x + x := hA
    have x0 := I_nn x
    have x1 := I_lt x
    have y0 := I_nn y
    have y1 := I_lt y
    have hd := dec_tr (P x y) hA
    show readP (ptxt (I x) (I y) false) = (I x, I y, false, true) ∧ (ptxt (I x) (I y) false).size = 3
    have hd' : dec (I x) (I y) false = some (P x y) := hd
    have e : ptxt (I x) (I y) false = strOfNums [(I x + 1) / 256, (I x + 1) % 256, I y % 2] := by
      unfold ptxt
      rw [hd', if_pos (show (some (P x y)).isSome = true from rfl), if_neg (by decide), wrap_in (by omega) (by omega), Int.tmod_eq_emod_of_nonneg y0, Int.emod_eq_of_lt (a := (I x + 1) / 256) (by omega) (by omega), Int.emod_eq_of_lt (a := I y % 2) (by omega) (by omega)]
    have b0 : bt (ptxt (I x) (I y) false) 0 = (I x + 1) / 256 := by rw [e]; exact bt_nums [(I x + 1) / 256, (I x + 1) % 256, I y % 2] 0 (by simp) (by simp; omega) (by simp; omega)
    have b1 : bt (ptxt (I x) (I y) false) 1 = (I x + 1) % 256 := by rw [e]; exact bt_nums [(I x + 1) / 256, (I x + 1) % 256, I y % 2] 1 (by simp) (by simp; omega) (by simp; omega)
    have b2 : bt (ptxt (I x) (I y) false) 2 = I y % 2 := by rw [e]; exact bt_nums [(I x + 1) / 256, (I x + 1) % 256, I y % 2] 2 (by simp) (by simp; omega) (by simp; omega)
    have hs : (ptxt (I x) (I y) false).size = 3 := by rw [e, strOfNums_size]; rfl
    refine ⟨?_, hs⟩
    have hX : bt (ptxt (I x) (I y) false) 0 * 256 + bt (ptxt (I x) (I y) false) 1 - 1 = I x := by rw [b0, b1]; omega
    have hz : ¬ (ptxt (I x) (I y) false).toList = ([0, 0, 0] : List UInt8) := by
      intro h
      obtain ⟨z0, z1⟩ := zeros_eq _ h
      omega
    obtain ⟨r1, r2⟩ := sroot_pm y
    unfold readP
    rw [if_pos (by omega), if_neg hz, hX, if_pos ⟨x0, x1⟩, b2, if_neg (by omega), R_I, ← hon, if_pos r1]
    have hp : ∀ w : F, Int.tmod (I w) 2 = I w % 2 := fun w => Int.tmod_eq_emod_of_nonneg (I_nn w)
    dsimp only
    rw [hp]
    rcases r2 with r2 | r2
    · rw [r2, if_pos rfl, if_pos rfl]
    · rw [r2]
      by_cases hy : y = 0
      · rw [hy, neg_zero', if_pos rfl, if_pos rfl]
      · rw [I_neg y hy, if_neg (by omega), show (0 : F) - (0 - y) = y by grobner, if_pos rfl]
def cat : ByteArray → List PS → ByteArray
  | b, [] => b
  | b, p :: ps => cat (b ++ txt p) ps
def whole (xs : List PS) : ByteArray := cat ⟨#[]⟩ xs ++ ptxt (sumL xs (0, 0, true)).1 (sumL xs (0, 0, true)).2.1 (sumL xs (0, 0, true)).2.2
theorem rdS (xs : List PS) (i : Nat) (h : i < xs.length) : rdOf ByteArray.empty (xs.map txt) (i : Int) = txt xs[i] := by
  unfold rdOf
  rw [Int.toNat_natCast, List.getD_eq_getElem?_getD, List.getElem?_eq_getElem (by rw [List.length_map]; exact h), Option.getD_some, List.getElem_map]
theorem impl_text_l0 (xs : List PS) (hl : xs.length ≤ 1048576) : ∀ (d i k : Nat) (b : ByteArray), i + d = xs.length → b.size ≤ 3 * i → d + xs.length + 60 ≤ k →
    impl_CommitteeText.l0 k b (xs.map txt) ((xs.map txt).length : Int) (i : Int) xs = some (cat b (xs.drop i) ++ ptxt (sumL xs (0, 0, true)).1 (sumL xs (0, 0, true)).2.1 (sumL xs (0, 0, true)).2.2, true)
  | 0, i, k, b, hi, hb, hk => by
    obtain ⟨k, rfl⟩ : ∃ m, k = m + 1 := ⟨k - 1, by omega⟩
    have hs : impl_SumPoints.f k xs = some (sumL xs (0, 0, true)) := impl_Sum_l0 xs hl xs.length 0 k (0, 0, true) (by omega) (by omega)
    have h2 := ptxt_size (sumL xs (0, 0, true)).1 (sumL xs (0, 0, true)).2.1 (sumL xs (0, 0, true)).2.2
    simp only [impl_CommitteeText.l0, hs, impl_PointText_eq, Option.bind_some]
    rw [if_neg (by rw [List.length_map]; omega), if_pos (by omega), List.drop_of_length_le (by omega), cat]
  | d + 1, i, k, b, hi, hb, hk => by
    obtain ⟨k, rfl⟩ : ∃ m, k = m + 1 := ⟨k - 1, by omega⟩
    have h1 : i < xs.length := by omega
    have h3 : (txt xs[i]).size ≤ 3 := ptxt_size _ _ _
    simp only [impl_CommitteeText.l0]
    rw [if_pos (by rw [List.length_map]; omega), if_pos (by omega), if_pos (by rw [List.length_map]; omega), rdS xs i h1, if_pos (by omega), wrap_in (i := (i : Int) + 1) (by omega) (by omega), show (i : Int) + 1 = ((i + 1 : Nat) : Int) by omega, impl_text_l0 xs hl d (i + 1) k _ (by omega) (by rw [ByteArray.size_append]; omega) (by omega), List.drop_eq_getElem_cons h1, cat]
def ctext (xs : List PS) : ByteArray × Bool := if okC xs = true then (whole xs, true) else (⟨#[]⟩, false)
theorem text_eq (ys : List PS) (hl : ys.length ≤ 1048576) (k : Nat) (hk : 2 * ys.length + 70 ≤ k) : impl_CommitteeText.f k ys = some (ctext ys) := by
  have a := impl_CommitteeOk_eq ys hl k (by omega)
  have c := impl_texts_l0 ys hl ys.length 0 k [] (by omega) rfl (by omega)
  rw [List.drop_zero, List.nil_append] at c
  have c2 : impl_keyTexts.f k ys = some (ys.map txt) := c
  have d := impl_text_l0 ys hl ys.length 0 k ⟨#[]⟩ (by omega) (by simp [ByteArray.size]) (by omega)
  rw [List.drop_zero] at d
  simp only [impl_CommitteeText.f, a, c2, Option.bind_some]
  unfold ctext
  by_cases h : okC ys = true
  · rw [if_pos h, if_pos h]
    exact d
  · rw [if_neg h, if_neg h]
def readL (t : ByteArray) : Nat → Nat → List PS → List PS × Bool
  | 0, _, acc => if (ctext acc).2 = true then (if (ctext acc).1.toList = t.toList then (acc, true) else ([], false)) else ([], false)
  | d + 1, i, acc => if (readP (t.extract (3 * i) (3 * i + 3))).2.2.2 = true then
      readL t d (i + 1) (acc ++ [⟨(readP (t.extract (3 * i) (3 * i + 3))).1, (readP (t.extract (3 * i) (3 * i + 3))).2.1, (readP (t.extract (3 * i) (3 * i + 3))).2.2.1⟩]) else ([], false)
theorem impl_read_l0 (t : ByteArray) (ht : (t.size : Int) = 27) : ∀ (d i k : Nat) (acc : List PS), i + d = 8 → acc.length = i → d + 100 ≤ k →
    impl_ReadCommittee.l0 k t (i : Int) acc = some (readL t d i acc)
  | 0, i, k, acc, hi, ha, hk => by
    obtain ⟨k, rfl⟩ : ∃ m, k = m + 1 := ⟨k - 1, by omega⟩
    have e := text_eq acc (by omega) k (by omega)
    simp only [impl_ReadCommittee.l0, e, Option.bind_some]
    rw [if_neg (by omega), readL]
    split
    · split <;> rfl
    · rfl
  | d + 1, i, k, acc, hi, ha, hk => by
    obtain ⟨k, rfl⟩ : ∃ m, k = m + 1 := ⟨k - 1, by omega⟩
    simp only [impl_ReadCommittee.l0]
    rw [if_pos (by omega), wrap_in (i := 3 * (i : Int)) (by omega) (by omega), wrap_in (i := 3 * (i : Int) + 3) (by omega) (by omega), if_pos (by omega), if_pos (by omega), if_pos (by omega), wrap_in (i := (i : Int) + 1) (by omega) (by omega), show (3 * (i : Int)).toNat = 3 * i by omega, show (3 * (i : Int) + 3).toNat = 3 * i + 3 by omega, impl_ReadPoint_eq k (by omega), readL]
    simp only [Option.bind_some]
    split
    · rw [if_pos (by omega), show (i : Int) + 1 = ((i + 1 : Nat) : Int) by omega]
      exact impl_read_l0 t ht d (i + 1) k _ (by omega) (by simp; omega) (by omega)
    · rfl
def readC (t : ByteArray) : List PS × Bool := if (t.size : Int) = 27 then readL t 8 0 [] else ([], false)
theorem read_eq (t : ByteArray) (k : Nat) (hk : 110 ≤ k) : impl_ReadCommittee.f k t = some (readC t) := by
  unfold impl_ReadCommittee.f readC
  by_cases h : (t.size : Int) = 27
  · rw [if_pos h, if_pos h]
    exact impl_read_l0 t h 8 0 k [] (by omega) rfl (by omega)
  · rw [if_neg h, if_neg h]
def joinL (n : Nat) : List PS → Nat → List PS
  | [], _ => []
  | p :: ps, i => if jb n i = true then p :: joinL n ps (i + 1) else joinL n ps (i + 1)
theorem joinL_length (n : Nat) : ∀ (ps : List PS) (i : Nat), (joinL n ps i).length ≤ ps.length
  | [], _ => Nat.le_refl _
  | p :: ps, i => by
    have := joinL_length n ps (i + 1)
    rw [joinL]
    split
    · simp only [List.length_cons]; omega
    · simp only [List.length_cons]; omega
theorem impl_join_l0 (n : Nat) (hn : n < 256) (xs : List PS) (hl : xs.length = 8) : ∀ (d i k : Nat) (acc : List PS), i + d = 8 → acc.length ≤ i → d < k →
    impl_Joined.l0 k (n : Int) acc xs (xs.length : Int) (i : Int) = some (acc ++ joinL n (xs.drop i) i)
  | 0, i, k, acc, hi, ha, hk => by
    obtain ⟨k, rfl⟩ : ∃ m, k = m + 1 := ⟨k - 1, by omega⟩
    simp only [impl_Joined.l0]
    rw [if_neg (by omega), List.drop_of_length_le (by omega), joinL, List.append_nil]
  | d + 1, i, k, acc, hi, ha, hk => by
    obtain ⟨k, rfl⟩ : ∃ m, k = m + 1 := ⟨k - 1, by omega⟩
    have h1 : i < xs.length := by omega
    obtain ⟨b1, b2, _⟩ := bit_dec n hn i (by omega)
    simp only [impl_Joined.l0]
    rw [if_pos (by omega), if_pos (by omega), if_pos (by omega), if_pos b1, wrap_in (i := (i : Int) + 1) (by omega) (by omega), rdB xs i h1, show (i : Int) + 1 = ((i + 1 : Nat) : Int) by omega, List.drop_eq_getElem_cons h1, joinL]
    by_cases c : jb n i = true
    · rw [if_pos (b2.mpr c), if_pos c, if_pos (by omega), impl_join_l0 n hn xs hl d (i + 1) k _ (by omega) (by simp; omega) (by omega), List.append_assoc]
      rfl
    · rw [if_neg (fun h => c (b2.mp h)), if_neg c, impl_join_l0 n hn xs hl d (i + 1) k _ (by omega) (by omega) (by omega)]
theorem join_eq (ys : List PS) (h8 : ys.length = 8) (hok : okC ys = true) (m : Nat) (hm : m < 256) (k : Nat) (hk : 70 ≤ k) : impl_Joined.f k ys (m : Int) = some (joinL m ys 0) := by
  obtain ⟨k, rfl⟩ : ∃ j, k = j + 1 := ⟨k - 1, by omega⟩
  have a := impl_CommitteeOk_eq ys (by omega) (k + 1) (by omega)
  have ei := impl_join_l0 m hm ys h8 8 0 k [] (by omega) (by simp) (by omega)
  rw [List.drop_zero, List.nil_append] at ei
  have c2 : 0 ≤ (m : Int) ∧ (m : Int) ≤ 255 := by omega
  unfold impl_Joined.f
  rw [isBits_eq, Option.bind_some, decide_eq_true c2, if_pos rfl, a, Option.bind_some, hok, Bool.not_true, impl_Joined.j0, if_neg (by decide)]
  exact ei
def keyS (n : Int) : PS := pt (key n)
theorem impl_comm_l0 (xs : List Int) (hl : xs.length ≤ 100) : ∀ (d i k : Nat) (acc : List PS), i + d = xs.length → acc.length = i → d + 60 ≤ k →
    impl_CommitteeOf.l0 k xs (xs.length : Int) (i : Int) acc = some (acc ++ (xs.drop i).map keyS)
  | 0, i, k, acc, hi, ha, hk => by
    obtain ⟨k, rfl⟩ : ∃ m, k = m + 1 := ⟨k - 1, by omega⟩
    simp only [impl_CommitteeOf.l0]
    rw [if_neg (by omega), List.drop_of_length_le (by omega), List.map_nil, List.append_nil]
  | d + 1, i, k, acc, hi, ha, hk => by
    obtain ⟨k, rfl⟩ : ∃ m, k = m + 1 := ⟨k - 1, by omega⟩
    have h1 : i < xs.length := by omega
    simp only [impl_CommitteeOf.l0, impl_key k (by omega), Option.bind_some]
    rw [if_pos (by omega), if_pos (by omega), if_pos (by omega), if_pos (by omega), wrap_in (by omega) (by omega), rdI xs i h1, show (i : Int) + 1 = ((i + 1 : Nat) : Int) by omega, impl_comm_l0 xs hl d (i + 1) k _ (by omega) (by simp; omega) (by omega), List.drop_eq_getElem_cons h1, List.map_cons, List.append_assoc]
    rfl
end Go.Proofs.YtkdmplfldfagnaaDoor.Sgn
end
section
set_option linter.unusedVariables false
set_option linter.unusedSimpArgs false
namespace Go.Proofs.YtkdmplfldfagnaaDoor.Sgn
open Go Go.RowKit Go.Proofs.YtkdmplfldfagnaaDoor.Pf Go.Proofs.YtkdmplfldfagnaaDoorW.PrintWords Go.Proofs.YtkdmplfldfagnaaDoor.Crv Go.Proofs.YtkdmplfldfagnaaDoor.Link Go.Proofs.YtkdmplfldfagnaaDoor.Pts Go.Proofs.YtkdmplfldfagnaaDoor.Sum
open Go.Proofs.YtkdmplfldfagnaaDoor.Crv.Pt
open Go.Proofs.YtkdmplfldfagnaaDoor.Comm (PS good okC impl_CommitteeOk_eq)
theorem sec_in (y : Int) (h0 : 0 ≤ y) (h1 : y ≤ 1000000) : 1 ≤ wrap64 (1 + Int.tmod y 1007) ∧ wrap64 (1 + Int.tmod y 1007) ≤ 1007 := by
  rw [Int.tmod_eq_emod_of_nonneg h0, wrap_in (by omega) (by omega)]; omega
theorem secrets_l0 (m : Int) (h0 : 0 ≤ m) (h1 : m < 1000) : ∀ (d i k : Nat) (acc : List Int), i + d = 8 → acc.length = i → d < k → (∀ x ∈ acc, 1 ≤ x ∧ x ≤ 1007) →
    ∃ xs, xs.length = 8 ∧ (∀ x ∈ xs, 1 ≤ x ∧ x ≤ 1007) ∧ impl_SecretsOf.l0 k m acc (i : Int) = some xs
  | 0, i, k, acc, hi, ha, hk, hx => by
    obtain ⟨k, rfl⟩ : ∃ m, k = m + 1 := ⟨k - 1, by omega⟩
    exact ⟨acc, by omega, hx, by rw [impl_SecretsOf.l0, if_neg (by omega)]⟩
  | d + 1, i, k, acc, hi, ha, hk, hx => by
    obtain ⟨k, rfl⟩ : ∃ m, k = m + 1 := ⟨k - 1, by omega⟩
    obtain ⟨xs, a, b, c⟩ := secrets_l0 m h0 h1 d (i + 1) k (acc ++ [wrap64 (1 + Int.tmod (m * 31 + (i : Int) * 57 + 7) 1007)]) (by omega) (by simp [ha]) (by omega) (fun x h => by
      rcases List.mem_append.1 h with h | h
      · exact hx x h
      · rw [List.mem_singleton.1 h]; exact sec_in _ (by omega) (by omega))
    refine ⟨xs, a, b, ?_⟩
    rw [impl_SecretsOf.l0, if_pos (by omega), if_pos (by omega), wrap_in (i := m * 31) (by omega) (by omega), wrap_in (i := (i : Int) * 57) (by omega) (by omega), wrap_in (i := m * 31 + (i : Int) * 57) (by omega) (by omega), wrap_in (i := m * 31 + (i : Int) * 57 + 7) (by omega) (by omega), wrap_in (i := (i : Int) + 1) (by omega) (by omega), show (i : Int) + 1 = ((i + 1 : Nat) : Int) by omega]
    exact c
theorem secrets_in (n : Int) : ∃ xs, xs.length = 8 ∧ (∀ x ∈ xs, 1 ≤ x ∧ x ≤ 1007) ∧ impl_SecretsOf.f 10 n = some xs := by
  unfold impl_SecretsOf.f impl_remainder.f
  rw [if_neg (by decide)]
  rcases tmod_two n 1000 (by decide) with h | ⟨h, h2⟩
  · rw [h, if_neg (by omega), Option.bind_some]
    exact secrets_l0 (n % 1000) (by omega) (by omega) 8 0 10 [] (by omega) rfl (by omega) (fun x h => by cases h)
  · rw [h, if_pos (by omega), wrap_in (by omega) (by omega), Option.bind_some]
    exact secrets_l0 (n % 1000 - 1000 + 1000) (by omega) (by omega) 8 0 10 [] (by omega) rfl (by omega) (fun x h => by cases h)
theorem Ok_key (n : Int) : Ok (key n) := Ok_mul Ok_Base _
theorem good_key (n : Int) (h0 : 1 ≤ n) (h1 : n ≤ 1007) : good (keyS n) = true := by
  unfold good
  show (inG (dec (tr (key n)).1 (tr (key n)).2.1 (tr (key n)).2.2) && !(tr (key n)).2.2) = true
  rw [dec_tr _ (Ok_key n), tr_isO]
  unfold key
  rw [inG_mult, zero_mult, decide_eq_false (by omega)]
  rfl
theorem ok_keys (xs : List Int) (hl : xs.length = 8) (hx : ∀ x ∈ xs, 1 ≤ x ∧ x ≤ 1007) : okC (xs.map keyS) = true := by
  unfold okC
  rw [Bool.and_eq_true, List.all_eq_true, List.length_map, hl]
  refine ⟨fun p hp => ?_, rfl⟩
  obtain ⟨x, h, rfl⟩ := List.mem_map.1 hp
  exact good_key x (hx x h).1 (hx x h).2
theorem sum_keys : ∀ (xs : List Int) (S : Nat), ∃ T : Nat, sumL (xs.map keyS) (tr (mul S Base)) = tr (mul T Base)
  | [], S => ⟨S, rfl⟩
  | x :: r, S => by
    obtain ⟨T, h⟩ := sum_keys r (S + (x % 1009).toNat)
    refine ⟨T, ?_⟩
    rw [← h]
    show sumL (r.map keyS) (tr (addO (dec (tr (mul S Base)).1 (tr (mul S Base)).2.1 (tr (mul S Base)).2.2) (dec (tr (key x)).1 (tr (key x)).2.1 (tr (key x)).2.2))) = _
    rw [dec_tr _ (Ok_mul Ok_Base S), dec_tr _ (Ok_key x), key, mul_add Ok_Base]
    rfl
theorem sum_join (n : Nat) : ∀ (xs : List Int) (i S : Nat), sumL (joinL n (xs.map keyS) i) (tr (mul S Base)) = tr (mul (tot n xs i S) Base)
  | [], i, S => rfl
  | x :: r, i, S => by
    rw [List.map_cons, joinL, tot]
    by_cases c : jb n i = true
    · rw [if_pos c, if_pos c, ← sum_join n r]
      show sumL (joinL n (r.map keyS) (i + 1)) (tr (addO (dec (tr (mul S Base)).1 (tr (mul S Base)).2.1 (tr (mul S Base)).2.2) (dec (tr (key x)).1 (tr (key x)).2.1 (tr (key x)).2.2))) = _
      rw [dec_tr _ (Ok_mul Ok_Base S), dec_tr _ (Ok_key x), key, mul_add Ok_Base]
      rfl
    · rw [if_neg c, if_neg c, sum_join n r]
def cnt (n : Nat) : Nat → Nat → Nat
  | 0, _ => 0
  | d + 1, i => (if jb n i = true then 1 else 0) + cnt n d (i + 1)
theorem join_len (n : Nat) : ∀ (ys : List PS) (i : Nat), (joinL n ys i).length = cnt n ys.length i
  | [], i => rfl
  | p :: ps, i => by
    rw [joinL, List.length_cons, cnt, ← join_len n ps]
    by_cases c : jb n i = true
    · rw [if_pos c, if_pos c, List.length_cons]; omega
    · rw [if_neg c, if_neg c]; omega
theorem count_dec : ∀ n : Nat, n < 256 → impl_CountBits.f (n : Int) = some ((cnt n 8 0 : Nat) : Int) ∧ (1 ≤ n → 1 ≤ cnt n 8 0) := by decide +kernel
theorem cat_app : ∀ (ps : List PS) (b : ByteArray), cat b ps = b ++ cat ⟨#[]⟩ ps
  | [], b => by rw [cat, cat]; exact (ByteArray.append_empty).symm
  | p :: ps, b => by
    have e : (⟨#[]⟩ : ByteArray) ++ txt p = txt p := ByteArray.empty_append
    rw [cat, cat, cat_app ps (b ++ txt p), e, cat_app ps (txt p), ByteArray.append_assoc]
theorem cat_cut (z : ByteArray) : ∀ (ps : List PS) (b : ByteArray) (i : Nat) (hi : i < ps.length), (∀ p ∈ ps, (txt p).size = 3) → (cat b ps ++ z).extract (b.size + 3 * i) (b.size + 3 * i + 3) = txt ps[i]
  | [], b, i, hi, _ => by cases hi
  | p :: ps, b, 0, hi, hp => by
    rw [cat, cat_app, ByteArray.append_assoc, ByteArray.append_assoc, Nat.mul_zero, Nat.add_zero]
    have := ByteArray.extract_append_size_add (a := b) (b := txt p ++ (cat ⟨#[]⟩ ps ++ z)) (i := 0) (j := 3)
    rw [Nat.add_zero] at this
    rw [this, ByteArray.extract_append_eq_left (by rw [hp p List.mem_cons_self])]
    rfl
  | p :: ps, b, i + 1, hi, hp => by
    have h := cat_cut z ps (b ++ txt p) i (by simpa using hi) (fun q hq => hp q (List.mem_cons_of_mem _ hq))
    rw [ByteArray.size_append, hp p List.mem_cons_self] at h
    rw [cat, show b.size + 3 * (i + 1) = b.size + 3 + 3 * i by omega]
    exact h
theorem cat_len : ∀ (ps : List PS) (b : ByteArray), (∀ p ∈ ps, (txt p).size = 3) → (cat b ps).size = b.size + 3 * ps.length
  | [], b, _ => rfl
  | p :: ps, b, hp => by
    rw [cat, cat_len ps _ (fun q hq => hp q (List.mem_cons_of_mem _ hq)), ByteArray.size_append, hp p List.mem_cons_self, List.length_cons]; omega
theorem read_l (t : ByteArray) (c : List PS) (h8 : c.length = 8) (ht : ctext c = (t, true)) (hr : ∀ i (hi : i < c.length), readP (t.extract (3 * i) (3 * i + 3)) = (c[i].f0, c[i].f1, c[i].f2, true)) :
    ∀ (d i : Nat), i + d = 8 → readL t d i (c.take i) = (c, true)
  | 0, i, hi => by
    rw [readL, List.take_of_length_le (by omega), ht, if_pos rfl, if_pos rfl]
  | d + 1, i, hi => by
    rw [readL, hr i (by omega), if_pos rfl, ← read_l t c h8 ht hr d (i + 1) (by omega), List.take_succ_eq_append_getElem (by omega)]
theorem read_back (xs : List Int) (hl : xs.length = 8) (hx : ∀ x ∈ xs, 1 ≤ x ∧ x ≤ 1007) : ctext (xs.map keyS) = (whole (xs.map keyS), true) ∧ readC (whole (xs.map keyS)) = (xs.map keyS, true) := by
  have hok := ok_keys xs hl hx
  have e1 : ctext (xs.map keyS) = (whole (xs.map keyS), true) := by unfold ctext; rw [if_pos hok]
  refine ⟨e1, ?_⟩
  have h3 : ∀ p ∈ xs.map keyS, (txt p).size = 3 := by
    intro p hp
    obtain ⟨x, h, rfl⟩ := List.mem_map.1 hp
    exact (read_ptxt (key x) (Ok_key x)).2
  obtain ⟨T, hT⟩ := sum_keys xs 0
  have hT2 : sumL (xs.map keyS) (0, 0, true) = tr (mul T Base) := hT
  have hz : (whole (xs.map keyS)).size = 27 := by
    unfold whole
    rw [ByteArray.size_append, cat_len _ _ h3, hT2, (read_ptxt _ (Ok_mul Ok_Base T)).2, List.length_map, hl]
    rfl
  unfold readC
  rw [if_pos (by omega)]
  refine read_l _ (xs.map keyS) (by rw [List.length_map]; exact hl) e1 (fun i hi => ?_) 8 0 (by omega)
  have h := cat_cut (ptxt (sumL (xs.map keyS) (0, 0, true)).1 (sumL (xs.map keyS) (0, 0, true)).2.1 (sumL (xs.map keyS) (0, 0, true)).2.2) (xs.map keyS) ⟨#[]⟩ i hi h3
  rw [show (⟨#[]⟩ : ByteArray).size = 0 from rfl, Nat.zero_add] at h
  unfold whole
  rw [h, List.getElem_map]
  exact (read_ptxt (key (xs[i]'(by simpa using hi))) (Ok_key _)).1
end Go.Proofs.YtkdmplfldfagnaaDoor.Sgn
end
section
set_option linter.unusedVariables false
set_option linter.unusedSimpArgs false
namespace Go.Proofs.YtkdmplfldfagnaaDoor.Draw
open Go.RowKit Go.Proofs.YtkdmplfldfagnaaDoor.Pf Go.Proofs.YtkdmplfldfagnaaDoorW.PrintWords
theorem wrapd {i : Int} (h0 : -9223372036854775808 ≤ i) (h : i ≤ 9223372036854775807) : wrap64 i = i := by
  unfold wrap64; omega
theorem Ev.one {α : Type} {g : Nat → Option α} {r : α} (h : ∀ k, g (k + 1) = some r) : Ev g r :=
  ⟨1, fun k hk => by obtain ⟨k, rfl⟩ : ∃ m, k = m + 1 := ⟨k - 1, by omega⟩; exact h k⟩
theorem and_255 (x : Int) : 0 ≤ Go.bits .and .i64 x 255 ∧ Go.bits .and .i64 x 255 ≤ 255 := by
  have h : (BitVec.ofInt (IntKind.bits .i64) 255).toNat = 255 := by decide
  simp only [Go.bits, BitVec.toNat_and, h]
  generalize (BitVec.ofInt _ x).toNat = a
  have : a &&& 255 ≤ 255 := Nat.and_le_right
  rw [IntKind.wrap_i64]
  omega
def Okc (b : List Int) (i : Int) : Prop := 0 ≤ i ∧ i ≤ 9223372036854775807 ∧ b.length ≤ 9223372036854775807
theorem byte_some (b : List Int) (i h : Int) (ho : Okc b i) : ∃ x i' h', spec_l01Byte.f b i h = some (x, i', h') ∧ 0 ≤ x ∧ x ≤ 255 ∧ Okc b i' := by
  obtain ⟨h0, h1, h2⟩ := ho
  unfold spec_l01Byte.f
  by_cases c : i < (b.length : Int)
  · rw [if_pos c, if_pos h0, wrapd (i := i + 1) (by omega) (by omega)]
    exact ⟨_, _, _, rfl, (and_255 _).1, (and_255 _).2, by omega, by omega, h2⟩
  · rw [if_neg c]
    exact ⟨_, _, _, rfl, (and_255 _).1, (and_255 _).2, h0, h1, h2⟩
theorem below_some (b : List Int) (i h n : Int) (ho : Okc b i) (hn : 0 < n) (hn2 : n ≤ 4294967296) : ∃ x i' h', spec_l01Below.f b i h n = some (x, i', h') ∧ 0 ≤ x ∧ x < n ∧ Okc b i' := by
  unfold spec_l01Below.f
  rw [if_neg (by omega)]
  by_cases c : n ≤ 256
  · obtain ⟨x, i1, h1, e1, x0, x1, o1⟩ := byte_some b i h ho
    rw [if_pos c, e1]
    simp only [Option.bind_some]
    rw [if_neg (by omega)]
    exact ⟨_, _, _, rfl, Int.tmod_nonneg _ x0, Int.tmod_lt_of_pos _ hn, o1⟩
  · obtain ⟨x, i1, h1, e1, x0, x1, o1⟩ := byte_some b i h ho
    obtain ⟨y, i2, h2, e2, y0, y1, o2⟩ := byte_some b i1 h1 o1
    obtain ⟨z, i3, h3, e3, z0, z1, o3⟩ := byte_some b i2 h2 o2
    obtain ⟨u, i4, h4, e4, u0, u1, o4⟩ := byte_some b i3 h3 o3
    rw [if_neg c]
    simp only [e1, e2, e3, e4, Option.bind_some]
    rw [if_neg (by omega), wrapd (i := x * 16777216) (by omega) (by omega), wrapd (i := y * 65536) (by omega) (by omega), wrapd (i := z * 256) (by omega) (by omega), wrapd (i := x * 16777216 + y * 65536) (by omega) (by omega), wrapd (i := x * 16777216 + y * 65536 + z * 256) (by omega) (by omega), wrapd (by omega) (by omega)]
    exact ⟨_, _, _, rfl, Int.tmod_nonneg _ (by omega), Int.tmod_lt_of_pos _ hn, o4⟩
theorem new_l0 (b : List Int) (hb : b.length ≤ 9223372036854775807) : ∀ (d i : Nat) (h : Int), i + d = b.length → ∃ h', Ev (fun k => spec_l01New.l0 k b h (i : Int)) (b, 0, h')
  | 0, i, h, hi => ⟨h, Ev.one fun k => by
      simp only [spec_l01New.l0]
      rw [if_neg (by omega)]⟩
  | d + 1, i, h, hi => by
    by_cases c : (i : Int) < 4000
    · obtain ⟨h', he⟩ := new_l0 b hb d (i + 1) (Go.bits .and .i64 (wrap64 ((wrap64 ((wrap64 (h * 131)) + (wrap64 (rd b (i : Int))))) + 7)) 1073741823) (by omega)
      refine ⟨h', Ev.step (fun k => ?_) he⟩
      simp only [spec_l01New.l0]
      rw [if_pos (by omega), if_pos c, if_pos (by omega), wrapd (i := (i : Int) + 1) (by omega) (by omega)]
      rfl
    · refine ⟨h, Ev.one fun k => ?_⟩
      simp only [spec_l01New.l0]
      rw [if_pos (by omega), if_neg c]
theorem new_ev (b : List Int) (hb : b.length ≤ 9223372036854775807) : ∃ h, Ev (fun k => spec_l01New.f k b) (b, 0, h) := by
  obtain ⟨h, he⟩ := new_l0 b hb b.length 0 (wrap64 (76801 + (b.length : Int))) (by omega)
  exact ⟨h, he⟩
theorem ok0 (b : List Int) (hb : b.length ≤ 9223372036854775807) : Okc b 0 := ⟨by omega, by omega, hb⟩
theorem places_l0 (b : List Int) : ∀ (d : Nat) (j : Nat) (xs : List Int) (i h : Int), j + d = 12 → xs.length = j → (∀ x ∈ xs, 0 ≤ x ∧ x ≤ 9999) → Okc b i →
    ∃ ys : List Int, ys.length = 12 ∧ (∀ x ∈ ys, 0 ≤ x ∧ x ≤ 9999) ∧ Ev (fun k => spec_DrawPlaces.l0 k xs (j : Int) b i h) ys
  | 0, j, xs, i, h, hj, hl, hx, ho => ⟨xs, by omega, hx, Ev.one fun k => by
      simp only [spec_DrawPlaces.l0]
      rw [if_neg (by omega)]⟩
  | d + 1, j, xs, i, h, hj, hl, hx, ho => by
    obtain ⟨x, i1, h1, e1, x0, x1, o1⟩ := below_some b i h 10000 ho (by decide) (by decide)
    obtain ⟨ys, y1, y2, y3⟩ := places_l0 b d (j + 1) (xs ++ [x]) i1 h1 (by omega) (by simp [hl]) (fun z hz => by
      rcases List.mem_append.1 hz with hz | hz
      · exact hx z hz
      · rw [List.mem_singleton.1 hz]; omega) o1
    refine ⟨ys, y1, y2, Ev.step (fun k => ?_) y3⟩
    simp only [spec_DrawPlaces.l0]
    rw [if_pos (by omega), e1, Option.bind_some, if_pos (by omega), wrapd (by omega) (by omega)]
    rfl
theorem places_ev (b : List Int) (hb : b.length ≤ 9223372036854775807) : ∃ ys : List Int, ys.length = 12 ∧ (∀ x ∈ ys, 0 ≤ x ∧ x ≤ 9999) ∧ Ev (fun k => spec_DrawPlaces.f k b) ys := by
  obtain ⟨h, K1, e1⟩ := new_ev b hb
  obtain ⟨x, i1, h1, e2, _, _, o1⟩ := byte_some b 0 h (ok0 b hb)
  obtain ⟨ys, y1, y2, K2, y3⟩ := places_l0 b 12 0 [] i1 h1 (by omega) rfl (fun z hz => by cases hz) o1
  refine ⟨ys, y1, y2, K1 + K2, fun k hk => ?_⟩
  have g1 := e1 k (by omega)
  have g2 := y3 k (by omega)
  dsimp only at g1 g2 ⊢
  simp only [spec_DrawPlaces.f, g1, Option.bind_some, e2]
  exact g2
end Go.Proofs.YtkdmplfldfagnaaDoor.Draw
end
section
set_option linter.unusedVariables false
set_option linter.unusedSimpArgs false
namespace Go.Proofs.YtkdmplfldfagnaaDoor.Pure
open Go Go.RowKit Go.Proofs.YtkdmplfldfagnaaDoor.Pf Go.Proofs.YtkdmplfldfagnaaDoorW.PrintWords Go.Proofs.YtkdmplfldfagnaaDoor.Crv Go.Proofs.YtkdmplfldfagnaaDoor.Link Go.Proofs.YtkdmplfldfagnaaDoor.Pts Go.Proofs.YtkdmplfldfagnaaDoor.Sgn Go.Proofs.YtkdmplfldfagnaaDoor.Draw
open Go.Proofs.YtkdmplfldfagnaaDoor.Crv.Pt
open Go.Proofs.YtkdmplfldfagnaaDoor.Comm (PS okC impl_CommitteeOk_eq)
set_option maxRecDepth 4000
theorem samePoints_l0 (xs : List PS) (hl : xs.length ≤ 1048576) : ∀ (d i k : Nat), i + d = xs.length → d < k → laws_samePoints.l0 k xs xs (i : Int) = some true
  | 0, i, k, hi, hk => by
    obtain ⟨k, rfl⟩ : ∃ m, k = m + 1 := ⟨k - 1, by omega⟩
    rw [laws_samePoints.l0, if_neg (by omega)]
  | d + 1, i, k, hi, hk => by
    obtain ⟨k, rfl⟩ : ∃ m, k = m + 1 := ⟨k - 1, by omega⟩
    rw [laws_samePoints.l0, if_pos (by omega), if_pos (by omega), if_pos (by omega), if_neg (by simp), wrap_in (by omega) (by omega), show (i : Int) + 1 = ((i + 1 : Nat) : Int) by omega]
    exact samePoints_l0 xs hl d (i + 1) k (by omega) (by omega)
theorem samePoints_same (xs : List PS) (hl : xs.length ≤ 1048576) (k : Nat) (hk : xs.length < k) : laws_samePoints.f k xs xs = some true := by
  unfold laws_samePoints.f
  rw [if_pos rfl]
  exact samePoints_l0 xs hl xs.length 0 k (by omega) hk
theorem comms_l0 (n : Nat) (hn : n < 256) (xs : List Int) (hl : xs.length = 8) (c js : List PS) (u v : Int) (w : Bool)
    (hok : okC c = true) (h8 : c.length = 8) (hj : js.length ≤ 8) (hc : impl_CountBits.f (n : Int) = some (js.length : Int))
    (hal : alls js (⟨#[115, 97, 105, 100]⟩ : ByteArray) u v w = decide (¬ tot n xs 0 0 % 1009 = 0)) : ∀ (d i k S : Nat), i + d = 8 → d + 1000 ≤ k → tot n (xs.drop i) i S = tot n xs 0 0 →
    laws_FnCommittees.l0 k (n : Int) true true js ((S % 1009 : Nat) : Int) xs (i : Int) c c u v w = some true
  | 0, i, k, S, hi, hk, hS => by
    obtain ⟨k, rfl⟩ : ∃ m, k = m + 1 := ⟨k - 1, by omega⟩
    rw [List.drop_of_length_le (by omega), tot] at hS
    have hb : (decide (¬ tot n xs 0 0 % 1009 = 0) == (((S % 1009 : Nat) : Int) != 0)) = true := by
      rw [← hS]
      by_cases c : S % 1009 = 0
      · rw [c]; rfl
      · rw [decide_eq_true c]
        have : (((S % 1009 : Nat) : Int) != 0) = true := by rw [bne_iff_ne]; omega
        rw [this]; rfl
    rw [laws_FnCommittees.l0, if_neg (by omega), impl_CommitteeOk_eq c (by omega) k (by omega), Option.bind_some, hok, if_pos rfl, if_pos rfl, if_pos rfl, samePoints_same c (by omega) k (by omega), Option.bind_some, if_pos rfl, hc, Option.bind_some, if_pos rfl, impl_all js (by omega) _ (by decide) u v w k (by omega), Option.bind_some, hal, if_pos hb, impl_croot c (by omega) k (by omega), Option.bind_some, croot_size hok]
    rfl
  | d + 1, i, k, S, hi, hk, hS => by
    obtain ⟨k, rfl⟩ : ∃ m, k = m + 1 := ⟨k - 1, by omega⟩
    have h1 : i < xs.length := by omega
    obtain ⟨b0, _, b1⟩ := bit_dec n hn i (by omega)
    rw [List.drop_eq_getElem_cons h1, tot] at hS
    rw [laws_FnCommittees.l0, if_pos (by omega), if_pos b0, wrap_in (i := (i : Int) + 1) (by omega) (by omega), show (i : Int) + 1 = ((i + 1 : Nat) : Int) by omega]
    by_cases c : jb n i = true
    · rw [if_pos c] at hS
      rw [if_pos (b1.2 c), if_pos (by omega), if_pos (by omega), spec_ScAdd_eq, Option.bind_some, rdI xs i h1, show (((S % 1009 : Nat) : Int) % 1009 + xs[i] % 1009) % 1009 = (((S + (xs[i] % 1009).toNat) % 1009 : Nat) : Int) by omega]
      exact comms_l0 n hn xs hl _ js u v w hok h8 hj hc hal d (i + 1) k _ (by omega) (by omega) hS
    · rw [if_neg c] at hS
      rw [if_neg (fun e => c (b1.1 e))]
      exact comms_l0 n hn xs hl _ js u v w hok h8 hj hc hal d (i + 1) k _ (by omega) (by omega) hS
theorem FnCommittees : laws_FnCommittees.Pure := by
  intro b ⟨hb, _⟩
  by_cases hbig : (b.length : Int) > 1048576
  · exact ⟨0, by simp only [laws_FnCommittees.f, laws_big.f, Option.bind_some]; rw [if_pos (decide_eq_true hbig)]⟩
  obtain ⟨p, pl, pr, K, hp⟩ := places_ev b hb
  dsimp only at hp
  obtain ⟨k, hk⟩ : ∃ k, k = K + 2000 := ⟨_, rfl⟩
  refine ⟨k, ?_⟩
  have hp0 := pr p[0] (List.getElem_mem _)
  have hp1 := pr p[1] (List.getElem_mem _)
  have r0 : rd p 0 = p[0] := rdI p 0 (by omega)
  have r1 : rd p 1 = p[1] := rdI p 1 (by omega)
  obtain ⟨a, ha⟩ : ∃ a, a = Int.tmod (rd p 0) 1000 := ⟨_, rfl⟩
  obtain ⟨n, hn⟩ : ∃ n : Nat, (n : Int) = wrap64 (1 + Int.tmod (rd p 1) 255) := ⟨(wrap64 (1 + Int.tmod (rd p 1) 255)).toNat, by
    rw [r1, Int.tmod_eq_emod_of_nonneg hp1.1, wrap_in (by omega) (by omega)]; omega⟩
  have n1 : 1 ≤ n ∧ n ≤ 255 := by
    rw [r1, Int.tmod_eq_emod_of_nonneg hp1.1, wrap_in (by omega) (by omega)] at hn; omega
  obtain ⟨xs, hl, hx, hsec0⟩ := secrets_in a
  have hsec : ∀ k, 10 ≤ k → impl_SecretsOf.f k a = some xs := fun k hk => at_rounds (g := fun k => impl_SecretsOf.f k a) (fun k => impl_SecretsOf.mono a k) (k := 10) hk hsec0
  have hok := ok_keys xs hl hx
  have h8 : (xs.map keyS).length = 8 := by rw [List.length_map]; exact hl
  obtain ⟨eT, eR⟩ := read_back xs hl hx
  have e1 : impl_CommitteeOf.f k a = some (xs.map keyS) := by
    unfold impl_CommitteeOf.f
    rw [hsec k (by omega), Option.bind_some]
    exact impl_comm_l0 xs (by omega) xs.length 0 k [] (by omega) rfl (by omega)
  have e2 := text_eq (xs.map keyS) (by omega) k (by omega)
  have e3 := read_eq (whole (xs.map keyS)) k (by omega)
  rw [eT] at e2
  rw [eR] at e3
  obtain ⟨xs', hl', hs', hsig⟩ := signbits_eq a (n : Int) (⟨#[115, 97, 105, 100]⟩ : ByteArray) (by decide)
  have hxx : xs' = xs := Option.some.inj ((hs' 10 (by omega)).symm.trans (hsec 10 (by omega)))
  subst hxx
  have e4 := (hsig k (by omega)).1
  have e5 := join_eq (xs'.map keyS) h8 hok n (by omega) k (by omega)
  have hs : sbits xs' (n : Int) (⟨#[115, 97, 105, 100]⟩ : ByteArray) = mul (tot n xs' 0 0) (H (⟨#[115, 97, 105, 100]⟩ : ByteArray)) := by
    unfold sbits
    rw [if_pos (by omega), Int.toNat_natCast]
  have hjl : (joinL n (xs'.map keyS) 0).length = cnt n 8 0 := by rw [join_len, h8]
  obtain ⟨c1, c2⟩ := count_dec n (by omega)
  have hj8 := joinL_length n (xs'.map keyS) 0
  have hal := alls_right (joinL n (xs'.map keyS) 0) (tot n xs' 0 0) (sum_join n xs' 0 0) (by rw [hjl]; exact c2 n1.1) (⟨#[115, 97, 105, 100]⟩ : ByteArray)
  rw [← hs] at hal
  unfold laws_FnCommittees.f
  rw [show laws_big.f b = some false by simp only [laws_big.f]; rw [decide_eq_false hbig], Option.bind_some, if_neg (by decide), hp k (by omega), Option.bind_some, if_pos (by omega), if_pos (by omega), ← ha, ← hn, e1, Option.bind_some, e2, Option.bind_some, e3, Option.bind_some, e4, Option.bind_some, e5, Option.bind_some, hsec k (by omega), Option.bind_some]
  exact comms_l0 n (by omega) xs' hl (xs'.map keyS) (joinL n (xs'.map keyS) 0) _ _ _ hok h8 (by omega) (by rw [c1, hjl]) hal 8 0 k 0 (by omega) (by omega) rfl
end Go.Proofs.YtkdmplfldfagnaaDoor.Pure
end
section
set_option linter.unusedVariables false
set_option linter.unusedSimpArgs false
namespace Go.Proofs.YtkdmplfldfagnaaDoor.Open
open Go.RowKit Go.Proofs.YtkdmplfldfagnaaDoorW.PrintWords Go.ChangeShapes Go.WideShapes
def Opens (P : Program) (t : TypeId) {α : Type} (d : Kd α) (g : α → Prop) : Prop :=
  ∀ {H : Type} (enc : TypeId × Value → H) (w : World) (base : Nat) (spare : Nat → Bool) (held : Bool) (fuel : Nat) (cs : List Value) (x : DataW H × List MemPlace),
    DataW.trod enc P w base spare held fuel t cs = some x → ∃ a, d.K w a cs ∧ g a
theorem list_of {α : Type} {p : Nat → α → Prop} : ∀ n, (∀ i, i < n → ∃ y, p i y) → ∃ ys : List α, ys.length = n ∧ ∀ i y, ys[i]? = some y → p i y
  | 0, _ => ⟨[], rfl, fun i y h => by simp at h⟩
  | n + 1, h => by
    obtain ⟨ys, hl, hy⟩ := list_of n (fun i hi => h i (by omega))
    obtain ⟨y, hy'⟩ := h n (by omega)
    refine ⟨ys ++ [y], by simp [hl], fun i z hz => ?_⟩
    rcases Nat.lt_or_ge i n with hi | hi
    · rw [List.getElem?_append_left (by omega)] at hz
      exact hy i z hz
    · have h1 := (List.getElem?_eq_some_iff.1 hz).1
      rw [List.length_append, List.length_singleton] at h1
      have h2 : i = n := by omega
      subst h2
      rw [List.getElem?_append_right (by omega), hl, Nat.sub_self] at hz
      simp at hz
      subst hz
      exact hy'
section
variable {P : Program} {t : TypeId}
theorem opens_int {k : IntKind} (h : P.underlying t = some (.int k)) : Opens P t (Kd.int k) (fun n => (Lit.int k n).wf = true) := by
  intro H enc w base spare held fuel cs x hx
  obtain ⟨n, rfl, _, hw⟩ := DataW.trod_int h hx
  exact ⟨n, rfl, hw⟩
theorem opens_slice {e : TypeId} {α : Type} {d : Kd α} {g : α → Prop} (ht : P.underlying t = some (.slice e)) (hc : P.cellsOf e = d.sz) (he : Opens P e d g) :
    Opens P t (Kd.slice e d) (fun xs => xs.length ≤ 9223372036854775807 ∧ ∀ x ∈ xs, g x) := by
  intro H enc w base spare held fuel cs x h
  rcases Go.Deep.open_slice ht h with ⟨rfl, _⟩ | ⟨a, len, cap, m, n, D, Pl, rfl, hb, hl, hm, hmm, _, hx⟩
  · exact ⟨[], ⟨none, 0, rfl, Nat.le_refl _, Kd.C_nil d w⟩, by simp, fun x hx => by cases hx⟩
  · have hlm : len ≤ m := by rw [hmm]; split <;> omega
    obtain ⟨ys, hy1, hy2⟩ := list_of (p := fun i y => ∃ c, w.cells? base (a.add (i * P.cellsOf e)) (P.cellsOf e) = some c ∧ d.K w y c ∧ g y) len (fun i hi => by
      obtain ⟨c, h1, h2⟩ := hx i (by omega)
      obtain ⟨y, h3, h4⟩ := he _ _ _ _ _ _ _ _ h2
      exact ⟨y, c, h1, h3, h4⟩)
    unfold maxLen at hm
    refine ⟨ys, ⟨some a, cap, by rw [hy1], by omega, rfl, by omega, fun _ => ⟨a, rfl, fun j p hp => ?_⟩⟩, by omega, fun y hy => ?_⟩
    · obtain ⟨c, h1, h2, h3⟩ := hy2 j p hp
      obtain ⟨_, hlen, hcell⟩ := World.cells?_some h1
      refine ⟨c, by rw [hlen, hc], h2, fun i u hu => ?_⟩
      have hi := (List.getElem?_eq_some_iff.1 hu).1
      have := hcell i (by omega)
      rw [Go.Deep.add_add, hc] at this
      rw [this, hu]
    · obtain ⟨i, hi⟩ := List.mem_iff_getElem?.1 hy
      obtain ⟨c, h1, h2, h3⟩ := hy2 i y hi
      exact h3
end
end Go.Proofs.YtkdmplfldfagnaaDoor.Open
end
section
namespace Go.Proofs.YtkdmplfldfagnaaDoor.Laid
open Go.ChangeShapes Go.WideShapes Go.ChangeAt Go.RowKit
set_option maxRecDepth 100000
theorem arr_cells {P : Program} {H : Type} {enc : TypeId × Value → H} {w : World} {spare : Nat → Bool} {held : Bool} {fuel : Nat} {t e : TypeId} {n : Nat} {k : IntKind} {cs : List Value} {L : List Int} {p : List MemPlace}
    (ht : P.underlying t = some (.array n e)) (he : P.underlying e = some (.int k)) (c1 : P.cellsOf e = 1)
    (hd : DataW.trod enc P w 0 spare held fuel t cs = some (.agg (L.map fun z => .lit (.int k z)), p)) :
    ∀ i : Nat, i < n → cs[i]? = some (.int k (Kp.ga L i)) := by
  intro i hi
  obtain ⟨xs, m, rfl, hx, hlen, hn, hel⟩ := DataW.trod_array ht hd
  have h1 := hel i hi
  rw [c1, Nat.mul_one] at h1
  have hi' : i < xs.length := hn.symm ▸ hi
  rw [List.getElem?_eq_getElem hi'] at h1
  obtain ⟨z, hz, hz2, _⟩ := DataW.trod_int he h1
  simp only [Prod.mk.injEq, DataW.agg.injEq] at hx
  have hL : (L.map fun z => (DataW.lit (.int k z) : DataW H))[i]? = (xs.map (·.1))[i]? := by rw [hx.1]
  rw [List.getElem?_map, List.getElem?_map, List.getElem?_eq_getElem hi', hz2] at hL
  have hLz : Kp.ga L i = z := by
    unfold Kp.ga
    rw [List.getD_eq_getElem?_getD]
    cases hq : L[i]? with
    | none => rw [hq] at hL; simp at hL
    | some y => rw [hq] at hL; simpa using hL
  rw [hLz]
  have h2 : ((cs.drop i).take 1)[0]? = some (.int k z) := by rw [hz]; rfl
  simpa using h2
theorem gR : Tryd.prog.globalNamed "loop.example/g00321/impl.roundConstants" = some 1 := by kernel_rfl
theorem gT : Tryd.prog.globalNamed "loop.example/g00321/impl.turns" = some 0 := by kernel_rfl
theorem tR : (Tryd.prog.globals[1]?).map (·.type) = some 113 := by kernel_rfl
theorem tT : (Tryd.prog.globals[0]?).map (·.type) = some 137 := by kernel_rfl
abbrev laidL : List (String × DataW Unit) := [("loop.example/g00321/impl.roundConstants", Rows.laid_loop_example_g00321_impl_roundConstants), ("loop.example/g00321/impl.turns", Rows.laid_loop_example_g00321_impl_turns)]
theorem cell_lt {W : World} {g i : Nat} {v : Value} (h : W.cell? ⟨g, i, none⟩ = some v) : g < W.heap.size := by
  unfold World.cell? at h
  by_cases hg : g < W.heap.size
  · exact hg
  · simp [hg] at h
theorem tab {W : World} (h : laidMetH Tryd.prog laidL W) : Kp.Tab W := by
  rw [MakeChecks.laidMetH_plain _ _ _ (by kernel_rfl)] at h
  obtain ⟨ps, ⟨g0, t0, cs0, f0, p0, q0, hg0, ht0, hv0, hd0, ⟨g1, t1, cs1, f1, p1, q1, hg1, ht1, hv1, hd1, _, _⟩, _⟩, _, _⟩ := h
  obtain rfl := Option.some.inj (gR.symm.trans hg0)
  obtain rfl := Option.some.inj (gT.symm.trans hg1)
  obtain rfl := Option.some.inj (tR.symm.trans ht0)
  obtain rfl := Option.some.inj (tT.symm.trans ht1)
  have r : ∀ i : Nat, i < 24 → W.cell? ⟨1, i, none⟩ = some (.int .u64 (Kp.ga Kp.rcL i)) := fun i hi => by
    rw [World.var?_cell hg0 hv0 i, ← Array.getElem?_toList]
    exact arr_cells (L := Kp.rcL) Tryd.underlying113 Tryd.underlying91 (by kernel_rfl) hd0 i hi
  have t : ∀ i : Nat, i < 25 → W.cell? ⟨0, i, none⟩ = some (.int .i64 (Kp.ga Kp.turnsL i)) := fun i hi => by
    rw [World.var?_cell hg1 hv1 i, ← Array.getElem?_toList]
    exact arr_cells (L := Kp.turnsL) Tryd.underlying137 Tryd.underlying3 (by kernel_rfl) hd1 i hi
  exact ⟨t, r, cell_lt (t 0 (by decide)), cell_lt (r 0 (by decide))⟩
theorem door_met (os : Os) (args : Array Value) : laidMetH Tryd.prog laidL ((World.doorLaid Tryd.prog 400 os).forCall (fun _ _ => 0) ⟨#[], args, []⟩).memory :=
  laidMetH_of_parts3 (fuel := 8) (laidMet_of_run' 8 (by kernel_rfl) (by kernel_rfl)) (by kernel_rfl) (by kernel_rfl)
#print axioms door_met
#print axioms tab
end Go.Proofs.YtkdmplfldfagnaaDoor.Laid
end
section
namespace Go.Proofs.YtkdmplfldfagnaaDoor.fnCommittees
open Go.ChangeShapes Go.WideShapes Go.ChangeAt Go.RowKit Go.Proofs.YtkdmplfldfagnaaDoorW.PrintWords Go.Proofs.YtkdmplfldfagnaaDoor.Open Go.Proofs.YtkdmplfldfagnaaDoor.Pf
open Go.ChangeMaps (open_string shut_string)
set_option linter.unusedVariables false
set_option linter.unusedSimpArgs false
theorem own : ownKnob Tryd.prog.godebug = none := by kernel_rfl
theorem laidOut : laidOutB Tryd.prog = true := by kernel_rfl
set_option maxRecDepth 100000 in
theorem lifted (os : Os) (started : os.Started) (H : Type) (enc : TypeId × Value → H) :
  ReturnsInHanded {} Tryd.checked os 8 .any (fun w args => (Rows.fnCommitteesSpec.pre enc Tryd.prog Tryd.f8 [] false w args ∧ laidMetH Tryd.prog Laid.laidL w) ∧ sizedMet enc Tryd.prog Tryd.f8 (OpenSpec.ofChange Rows.fnCommitteesSpec) false w args)
   (Rows.fnCommitteesSpec.post enc Tryd.prog Tryd.f8 false true false false) := by
 refine returnsInHanded_of_change_and (C := Tryd.checked) (X := fun w _ => laidMetH Tryd.prog Laid.laidL w) (fun _ _ _ hh h => h.of_heap hh) own started (by kernel_rfl) Tryd.func8
  (ChangeSpec.witness_shaped (enc := enc) (C := Tryd.checked) (os := os) (X := fun w _ => laidMetH Tryd.prog Laid.laidL w) false (World.doorLaid Tryd.prog 400 os) #[.slice none 0 0] 8 rfl (World.shaped_of_RefB (by kernel_rfl) (by kernel_rfl)) (by kernel_rfl) (by kernel_rfl) (by kernel_rfl) (Laid.door_met os _)) ?_
 intro W base args ds gs before hval0 hW hcnd hsz0 hL _
 have hT := Laid.tab hL
 have hsz : (DataW.weightsEach Tryd.prog (Tryd.f8.params.toList ++ Rows.fnCommitteesSpec.plain.varTypes Tryd.prog) (ds ++ gs)).all (· ≤ reachBytes) = true := hsz0
 have hval : ∀ (j : Nat) t v, Tryd.f8.params[j]? = some t → args[j]? = some v → Value.okWide Tryd.prog W .any base t v := hval0
 have hW' := hW
 obtain ⟨p, q, hA0, hV, rfl, hfz, hnd⟩ := hW
 have hA : DataW.TrodAll enc Tryd.prog W 0 (fun _ => true) true Tryd.f8.params.toList args.toList ds p := hA0
 rw [Tryd.params8] at hA hval hsz
 obtain ⟨v0, vs0, d0, ds0, p0, q0, hargs, rfl, rfl, h0, r0⟩ := trodAll_cons hA
 obtain ⟨rfl, rfl, rfl⟩ := trodAll_nil r0
 obtain rfl : args = #[v0] := by cases args; simp_all
 have hV2 : DataW.TrodVars enc Tryd.prog W (fun _ => true) ["loop.example/g00321/impl.turns", "loop.example/g00321/impl.roundConstants"] gs q := hV
 obtain ⟨_, _, _, _, dv0, _, _, _, _, _, dv1, _, rfl, _⟩ := trodVars_two hV2
 obtain ⟨a0, len0, cap0, rfl⟩ := okWide_slice Tryd.underlying46 (hval 0 46 v0 rfl rfl)
 have k0 := h0
 have lt0 : ∀ x ∈ p0, x.block < W.heap.size := by obtain ⟨m, hm⟩ := k0; exact DataW.trod_lt m _ _ _ hm
 obtain ⟨l0, ⟨A0, c0, e0, hc0, hr0⟩, g0⟩ := (show ∃ a, (Kd.slice 5 (Kd.int .u8)).K W a [.slice a0 len0 cap0] ∧ _ from h0.elim fun fuel hf => (opens_slice Tryd.underlying46 (by kernel_rfl) (opens_int Tryd.underlying5)) enc W 0 (fun _ => true) true fuel [.slice a0 len0 cap0] _ hf)
 obtain ⟨rfl, rfl, rfl⟩ : a0 = A0 ∧ len0 = l0.length ∧ cap0 = c0 := by simpa using e0
 clear hA0 hval0 hsz0 hsz
 obtain ⟨k, h⟩ := Pure.FnCommittees l0 g0
 refine (laws_FnCommittees.calls k _ _ l0 true W hr0 hc0 hT ⟨rfl⟩ h).mono fun e W' ⟨he, bel0⟩ => ?_
 have bel : Below W.heap.size W W' := bel0
 subst he
 exact ⟨_, rfl, _, _, _, [], _, _, hW', trodAll_mk1 (shut_bool Tryd.underlying4 _), (trodAll_cons_mk (Below.trod laidOut (by kernel_rfl) (of_decide_eq_true (by kernel_rfl)) k0 bel lt0) trodAll_mk0), Below.trodVars laidOut bel (by kernel_rfl) hV2, bel.frame _, fun h => by cases h⟩
theorem over : Rows.fnCommitteesRow.holds Tryd.pinned (OpenSpec.ofChange Rows.fnCommitteesSpec) :=
 OpenClaim.holds_of_wide 8 Tryd.f8 rfl rfl rfl rfl rfl rfl rfl ⟨rfl, rfl, rfl, rfl, rfl⟩ rfl rfl rfl rfl rfl (by kernel_rfl) Tryd.func8 (by kernel_rfl)
  (of_decide_eq_true (by kernel_rfl)) (by unfold Func.isWrapper; first | (rw [if_pos (by decide +kernel)]; kernel_rfl) | (rw [if_neg (by decide +kernel)]; exact ⟨rfl, rfl⟩))
  (fun os started H enc _ => lifted os started H enc)
theorem card : Rows.FnCommitteesCardSaid :=
 Claim7.holds_tied_plain_at .later [] [.data, .data] true (true, "78db0a5578644ad6e4d7857560735192eebfd685c977ce1785b74e22dff30b79") false
  over (fun _ h => by cases h) (by kernel_rfl) (fun _ h => by cases h) fnCommittees_row_tie rfl ⟨rfl, rfl⟩ (by kernel_rfl) rfl
  (fun f fn hf hfn => by
   obtain rfl : f = 8 := Option.some.inj ((show Tryd.prog.funcNamed "loop.example/g00321/laws.FnCommittees" = some 8 by kernel_rfl).symm.trans hf) |>.symm
   obtain rfl : fn = Tryd.f8 := (Option.some.inj (Tryd.func8.symm.trans hfn)).symm
   exact ⟨by kernel_rfl, fun j t ht => by
    rw [Tryd.params8] at ht
    have hm : t ∈ [46] := by simpa using Array.mem_of_getElem? ht
    have hall : ([46].all fun u => !Tryd.prog.wantsStandIn u) = true := by kernel_rfl
    exact (show Tryd.prog.wantsStandIn t = false by simpa using List.all_eq_true.1 hall t hm)⟩)
  (by kernel_rfl)
#print axioms card
end Go.Proofs.YtkdmplfldfagnaaDoor.fnCommittees
namespace Go.Proofs.YtkdmplfldfagnaaDoor
theorem fnCommittees_holds : Rows.FnCommitteesCardSaid := fnCommittees.card
end Go.Proofs.YtkdmplfldfagnaaDoor
end
