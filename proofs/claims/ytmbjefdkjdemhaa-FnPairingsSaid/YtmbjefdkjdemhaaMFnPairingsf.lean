/- What is proved here: part 6 of 6 of the proof of the given statement FnPairings: the contracts of the Go functions that it reaches, the plain facts on lists and numbers, and (in the last part) the statement itself. No conditions beyond the given ones. -/
import Derived.Test.YtmbjefdkjdemhaaMFnPairingsc
import Derived.Test.YtmbjefdkjdemhaaMFnPairingsd
import Derived.Test.YtmbjefdkjdemhaaMFnPairingse
import Derived.Test.YtmbjefdkjdemhaaMFnPairingswSlim
import Derived.Test.YtmbjefdkjdemhaaMFnPairingsa
import Derived.Test.YtmbjefdkjdemhaaMFnPairingsb
import Derived.Test.YtmbjefdkjdemhaaRows
import Derived.WalkKit
import Derived.ProofKit
import Derived.OpenShut
import Derived.ShutString
import Derived.ChangeOld
import Derived.Below
import Derived.SizedLaws
import Derived.Test.YtmbjefdkjdemhaaMFnPairingswSized

section
/- What is proved here: what Miller answers, of the program and of the reference alike, as a plain function. No conditions. -/
set_option linter.unusedVariables false
set_option linter.unusedSimpArgs false
namespace Go.Proofs.Ytmbjefdkjdemhaa.Link
open Go.RowKit Go.Proofs.Ytmbjefdkjdemhaa.Pf Go.Proofs.YtmbjefdkjdemhaaW.PrintWords Go.Proofs.Ytmbjefdkjdemhaa.Crv
open Go.Proofs.Ytmbjefdkjdemhaa.Crv.Pt
set_option maxRecDepth 4000

theorem impl_TwoMul_eq (a b c d : Int) : impl_TwoMul.f a b c d = some (I2 (tm (R a, R b) (R c, R d))) := by
  simp only [impl_TwoMul.f, impl_FpMul_eq, impl_FpSub_eq, impl_FpAdd_eq, Option.bind_some, R_I]; rfl

theorem spec_TwoMul_eq (a b c d : Int) : spec_TwoMul.f a b c d = some (I2 (tm (R a, R b) (R c, R d))) := by
  simp only [spec_TwoMul.f, spec_FpMul_eq, spec_FpSub_eq, spec_FpAdd_eq, Option.bind_some, R_I]; rfl


def milO (p q : Option Pt) : List Bool → T → Option Pt → T
  | [], f, _ => f
  | b :: bs, f, t => if b = true then milO p q bs (tm (tm (tm f f) (lineO t t q)) (lineO (some (addO t t)) p q)) (some (addO (some (addO t t)) p))
    else milO p q bs (tm (tm f f) (lineO t t q)) (some (addO t t))
def bitAt (i : Nat) : Bool := decide (1009 / 2 ^ i % 2 = 1)
def bitsTo : Nat → List Bool
  | 0 => []
  | n + 1 => bitAt n :: bitsTo n
theorem bits_nine : bitsTo 9 = bits9 := by decide
def millerO (p q : Option Pt) : T := milO p q bits9 one p
theorem impl_bit : ∀ i : Nat, i < 9 → 0 ≤ IntKind.u64.wrap (i : Int) ∧ (Go.bits .and .i64 (shr .i64 1009 (IntKind.u64.wrap (i : Int))) 1 = 1 ↔ bitAt i = true) := by decide +kernel
theorem spec_bit : ∀ i : Nat, i < 9 → 0 ≤ IntKind.u64.wrap (i : Int) ∧ ((shr .i64 1009 (IntKind.u64.wrap (i : Int))) % 2 = 1 ↔ bitAt i = true) := by decide +kernel
theorem R2 (z : T) : (R (I2 z).1, R (I2 z).2) = z := by unfold I2; rw [R_I, R_I]

theorem impl_Miller_l0 (p1 p2 : Int) (p3 : Bool) (q1 q2 : Int) (q3 : Bool) : ∀ (n k : Nat) (f : T) (t1 t2 : Int) (t3 : Bool), n ≤ 9 → n + 24 ≤ k →
    impl_Miller.l0 k ((n : Int) - 1) p1 p2 p3 q1 q2 q3 (I2 f).1 (I2 f).2 t1 t2 t3 = some (I2 (milO (dec p1 p2 p3) (dec q1 q2 q3) (bitsTo n) f (dec t1 t2 t3)))
  | 0, k, f, t1, t2, t3, hn, hk => by
    obtain ⟨k, rfl⟩ : ∃ m, k = m + 1 := ⟨k - 1, by omega⟩
    simp only [impl_Miller.l0]
    rw [if_neg (by omega)]; rfl
  | n + 1, k, f, t1, t2, t3, hn, hk => by
    obtain ⟨k, rfl⟩ : ∃ m, k = m + 1 := ⟨k - 1, by omega⟩
    obtain ⟨b1, b2⟩ := impl_bit n (by omega)
    have a1 := Ok_addO t1 t2 t3 t1 t2 t3
    have d1 := dec_tr _ a1
    have a2 := Ok_addO (tr (addO (dec t1 t2 t3) (dec t1 t2 t3))).1 (tr (addO (dec t1 t2 t3) (dec t1 t2 t3))).2.1 (tr (addO (dec t1 t2 t3) (dec t1 t2 t3))).2.2 p1 p2 p3
    rw [d1] at a2
    have d2 := dec_tr _ a2
    rw [show ((n + 1 : Nat) : Int) - 1 = (n : Int) by omega]
    simp only [impl_Miller.l0, impl_TwoMul_eq, impl_PairLine_eq k (by omega), impl_PointAdd_eq k (by omega), Option.bind_some, R2, d1]
    rw [if_pos (by omega), if_pos b1, wrap_in (by omega) (by omega), bitsTo, milO]
    by_cases c : bitAt n = true
    · rw [if_pos (b2.mpr c), if_pos c, impl_Miller_l0 p1 p2 p3 q1 q2 q3 n k _ _ _ _ (by omega) (by omega), d2]
    · rw [if_neg (fun h => c (b2.mp h)), if_neg c, impl_Miller_l0 p1 p2 p3 q1 q2 q3 n k _ _ _ _ (by omega) (by omega), d1]

theorem spec_Miller_l0 (p1 p2 : Int) (p3 : Bool) (q1 q2 : Int) (q3 : Bool) : ∀ (n k : Nat) (f : T) (t1 t2 : Int) (t3 : Bool), n ≤ 9 → n + 24 ≤ k →
    spec_Miller.l0 k ((n : Int) - 1) p1 p2 p3 q1 q2 q3 (I2 f).1 (I2 f).2 t1 t2 t3 = some (I2 (milO (dec p1 p2 p3) (dec q1 q2 q3) (bitsTo n) f (dec t1 t2 t3)))
  | 0, k, f, t1, t2, t3, hn, hk => by
    obtain ⟨k, rfl⟩ : ∃ m, k = m + 1 := ⟨k - 1, by omega⟩
    simp only [spec_Miller.l0]
    rw [if_neg (by omega)]; rfl
  | n + 1, k, f, t1, t2, t3, hn, hk => by
    obtain ⟨k, rfl⟩ : ∃ m, k = m + 1 := ⟨k - 1, by omega⟩
    obtain ⟨b1, b2⟩ := spec_bit n (by omega)
    have a1 := Ok_addO t1 t2 t3 t1 t2 t3
    have d1 := dec_tr _ a1
    have a2 := Ok_addO (tr (addO (dec t1 t2 t3) (dec t1 t2 t3))).1 (tr (addO (dec t1 t2 t3) (dec t1 t2 t3))).2.1 (tr (addO (dec t1 t2 t3) (dec t1 t2 t3))).2.2 p1 p2 p3
    rw [d1] at a2
    have d2 := dec_tr _ a2
    rw [show ((n + 1 : Nat) : Int) - 1 = (n : Int) by omega]
    simp only [spec_Miller.l0, spec_TwoMul_eq, spec_PairLine_eq k (by omega), spec_PointAdd_eq k (by omega), Option.bind_some, R2, d1]
    rw [if_pos (by omega), if_pos b1, wrap_in (by omega) (by omega), bitsTo, milO]
    by_cases c : bitAt n = true
    · rw [if_pos (b2.mpr c), if_pos c, spec_Miller_l0 p1 p2 p3 q1 q2 q3 n k _ _ _ _ (by omega) (by omega), d2]
    · rw [if_neg (fun h => c (b2.mp h)), if_neg c, spec_Miller_l0 p1 p2 p3 q1 q2 q3 n k _ _ _ _ (by omega) (by omega), d1]

theorem spec_Miller_eq (k : Nat) (hk : 40 ≤ k) (x y : Int) (z : Bool) (u v : Int) (w : Bool) : spec_Miller.f k x y z u v w = some (I2 (millerO (dec x y z) (dec u v w))) := by
  have h := spec_Miller_l0 x y z u v w 9 k one x y z (by omega) (by omega)
  rw [bits_nine] at h
  exact h
theorem len_1009 (k : Nat) : bits_Len.f (k + 8) 1009 = some 10 := by
  simp only [bits_Len.f, bits_Len64.f, bits_Len64.j0]
  rw [if_neg (by decide), if_neg (by decide), if_pos (by decide), if_pos (by decide), if_pos (by decide)]
  simp only [Option.bind_some]
  congr 1
  decide +kernel
theorem impl_Miller_eq (k : Nat) (hk : 40 ≤ k) (x y : Int) (z : Bool) (u v : Int) (w : Bool) : impl_Miller.f k x y z u v w = some (I2 (millerO (dec x y z) (dec u v w))) := by
  have h := impl_Miller_l0 x y z u v w 9 k one x y z (by omega) (by omega)
  rw [bits_nine] at h
  obtain ⟨m, rfl⟩ : ∃ m, k = m + 8 := ⟨k - 8, by omega⟩
  unfold impl_Miller.f
  rw [len_1009]
  simp only [Option.bind_some]
  rw [show wrap64 (10 - 2) = ((9 : Nat) : Int) - 1 from by rw [wrap_in (by decide) (by decide)]; rfl]
  exact h
/-- points of the group: the loop is the one over points -/
theorem milO_eq (q q' : F) (A : Pt) : ∀ (bs : List Bool) (f : T) (t : Pt), milO (some A) (some (P q q')) bs f (some t) = mil q q' A bs f t
  | [], _, _ => rfl
  | b :: bs, f, t => by
    rw [milO, mil]
    by_cases c : b = true
    · rw [if_pos c, if_pos c, milO_eq q q' A bs]; rfl
    · rw [if_neg c, if_neg c, milO_eq q q' A bs]; rfl

end Go.Proofs.Ytmbjefdkjdemhaa.Link
end
section
/- What is proved here: what InGroup, TwoPow and Pairing answer, of the program and of the reference alike, as plain functions. No conditions. -/
set_option linter.unusedVariables false
set_option linter.unusedSimpArgs false
namespace Go.Proofs.Ytmbjefdkjdemhaa.Link
open Go.RowKit Go.Proofs.Ytmbjefdkjdemhaa.Pf Go.Proofs.YtmbjefdkjdemhaaW.PrintWords Go.Proofs.Ytmbjefdkjdemhaa.Crv
open Go.Proofs.Ytmbjefdkjdemhaa.Crv.Pt
set_option maxRecDepth 4000


def pairO : Option Pt → Option Pt → T
  | some A, some B => if (inG (some A) && inG (some B) && !isO A && !isO B) = true then tpow (N (millerO (some A) (some B))) 12 else one
  | _, _ => one
theorem pairO_some (A B : Pt) : pairO (some A) (some B) = if (inG (some A) && inG (some B) && !isO A && !isO B) = true then tpow (N (millerO (some A) (some B))) 12 else one := rfl
theorem pairO_eq (A B : Pt) (hA : mul 1009 A = O) (hB : mul 1009 B = O) : pairO (some A) (some B) = pair A B := by
  have e1 : inG (some A) = true := by rw [inG, hA]; rfl
  have e2 : inG (some B) = true := by rw [inG, hB]; rfl
  rw [pairO_some, e1, e2]
  cases A with
  | O => rfl
  | P a a' =>
    cases B with
    | O => rfl
    | P b b' =>
      rw [if_pos (show (true && true && !isO (P a a') && !isO (P b b')) = true from rfl), millerO, milO_eq]; rfl

theorem impl_TwoTurn_eq (a b : Int) : impl_TwoTurn.f a b = some (I2 (tbar (R a, R b))) := by
  simp only [impl_TwoTurn.f, impl_FpOf_eq, impl_FpSub_eq, Option.bind_some, R_zero]; rfl
theorem impl_TwoInv_eq (k : Nat) (hk : 15 ≤ k) (a b : Int) : impl_TwoInv.f k a b = some (I2 (tinv (R a, R b))) := by
  simp only [impl_TwoInv.f, impl_FpMul_eq, impl_FpAdd_eq, impl_FpSub_eq, impl_FpInv_eq k _ hk, Option.bind_some, R_I, R_zero]; rfl

theorem spec_TwoTurn_eq (a b : Int) : spec_TwoTurn.f a b = some (I2 (tbar (R a, R b))) := by
  simp only [spec_TwoTurn.f, spec_FpOf_eq, spec_FpSub_eq, Option.bind_some, R_zero]; rfl
theorem spec_TwoInv_eq (k : Nat) (hk : 15 ≤ k) (a b : Int) : spec_TwoInv.f k a b = some (I2 (tinv (R a, R b))) := by
  simp only [spec_TwoInv.f, spec_FpMul_eq, spec_FpAdd_eq, spec_FpSub_eq, spec_FpInv_eq k _ hk, Option.bind_some, R_I, R_zero]; rfl

theorem impl_TwoPow_l0 : ∀ (f k : Nat) (a b : Int) (n : Nat) (out : T), n < 2 ^ f → f ≤ 60 → f < k →
    impl_TwoPow.l0 k (n : Int) a b (I2 out).1 (I2 out).2 = some (I2 (tpwl f (R a, R b) n out))
  | 0, k, a, b, n, out, h, _, hk => by
    obtain rfl : n = 0 := by simp at h; exact h
    obtain ⟨k, rfl⟩ : ∃ m, k = m + 1 := ⟨k - 1, by omega⟩
    simp only [impl_TwoPow.l0]
    rw [if_neg (by omega), tpwl]
  | f + 1, k, a, b, n, out, h, hf, hk => by
    obtain ⟨k, rfl⟩ : ∃ m, k = m + 1 := ⟨k - 1, by omega⟩
    have hb : 2 ^ (f + 1) ≤ 2 ^ 60 := Nat.pow_le_pow_right (by decide) hf
    simp only [impl_TwoPow.l0, impl_TwoMul_eq, Option.bind_some, R2]
    rw [tpwl]
    by_cases c : n = 0
    · subst c; rw [if_neg (by omega), if_pos rfl]
    rw [if_pos (by omega), if_neg c, halve n (by omega)]
    rw [Nat.pow_succ] at h
    by_cases d : n % 2 = 1
    · rw [if_pos ((odd n).mpr d), if_pos d, impl_TwoPow_l0 f k _ _ _ _ (by omega) (by omega) (by omega), R2]
    · rw [if_neg (fun e => d ((odd n).mp e)), if_neg d, impl_TwoPow_l0 f k _ _ _ _ (by omega) (by omega) (by omega), R2]
theorem impl_TwoPow_eq (k : Nat) (a b : Int) (n f : Nat) (h : n < 2 ^ f) (hf : f ≤ 60) (hk : f < k) : impl_TwoPow.f k a b (n : Int) = some (I2 (tpow (R a, R b) n)) := by
  unfold impl_TwoPow.f
  rw [if_neg (by omega)]
  have e := impl_TwoPow_l0 f k a b n one h hf hk
  rw [tpwl_eq f _ _ _ h, one_tm] at e
  exact e
theorem spec_TwoPow_l0 : ∀ (f k : Nat) (z : T) (n : Nat) (out : T), n < 2 ^ f → f ≤ 60 → f < k →
    spec_TwoPow.l0 k (n : Int) (I2 out).1 (I2 out).2 (I2 z).1 (I2 z).2 = some (I2 (tpwl f z n out))
  | 0, k, z, n, out, h, _, hk => by
    obtain rfl : n = 0 := by simp at h; exact h
    obtain ⟨k, rfl⟩ : ∃ m, k = m + 1 := ⟨k - 1, by omega⟩
    simp only [spec_TwoPow.l0]
    rw [if_neg (by omega), tpwl]
  | f + 1, k, z, n, out, h, hf, hk => by
    obtain ⟨k, rfl⟩ : ∃ m, k = m + 1 := ⟨k - 1, by omega⟩
    have hb : 2 ^ (f + 1) ≤ 2 ^ 60 := Nat.pow_le_pow_right (by decide) hf
    simp only [spec_TwoPow.l0, spec_TwoMul_eq, Option.bind_some, R2]
    rw [tpwl]
    by_cases c : n = 0
    · subst c; rw [if_neg (by omega), if_pos rfl]
    rw [if_pos (by omega), if_neg c, halve n (by omega)]
    rw [Nat.pow_succ] at h
    by_cases d : n % 2 = 1
    · rw [if_pos ((odd n).mpr d), if_pos d, spec_TwoPow_l0 f k _ _ _ (by omega) (by omega) (by omega)]
    · rw [if_neg (fun e => d ((odd n).mp e)), if_neg d, spec_TwoPow_l0 f k _ _ _ (by omega) (by omega) (by omega)]
theorem spec_TwoPow_eq (k : Nat) (a b : Int) (n f : Nat) (h : n < 2 ^ f) (hf : f ≤ 60) (hk : f < k) : spec_TwoPow.f k a b (n : Int) = some (I2 (tpow (R a, R b) n)) := by
  unfold spec_TwoPow.f
  rw [if_neg (by omega)]
  simp only [spec_FpOf_eq, Option.bind_some]
  have e := spec_TwoPow_l0 f k (R a, R b) n one h hf hk
  rw [tpwl_eq f _ _ _ h, one_tm] at e
  exact e
theorem pairO_no (p q : Option Pt) (h : inG p = false ∨ inG q = false) : pairO p q = one := by
  cases p with
  | none => rfl
  | some A =>
    cases q with
    | none => rfl
    | some B =>
      rw [pairO_some]
      rcases h with h | h <;> rw [h] <;> simp
theorem dec_flag {x y : Int} {z : Bool} {A : Pt} (h : dec x y z = some A) : isO A = z := by rw [← tr_isO, ← (dec_ok h).2.2.2]
theorem pairO_flag (x y : Int) (z : Bool) (u v : Int) (w : Bool) (h : z = true ∨ w = true) : pairO (dec x y z) (dec u v w) = one := by
  cases e : dec x y z with
  | none => rfl
  | some A =>
    cases f : dec u v w with
    | none => rfl
    | some B =>
      rw [pairO_some, dec_flag e, dec_flag f]
      rcases h with h | h <;> rw [h] <;> simp

theorem impl_pair_j0 (k : Nat) (hk : 40 ≤ k) (x y : Int) (z : Bool) (u v : Int) (w : Bool) (h1 : inG (dec x y z) = true) (h2 : inG (dec u v w) = true) (h3 : z = false) (h4 : w = false) :
    impl_Pairing.j0 (k + 1) false x y z u v w = some (I2 (pairO (dec x y z) (dec u v w))) := by
  have t := impl_TwoPow_eq k (I2 (N (millerO (dec x y z) (dec u v w)))).1 (I2 (N (millerO (dec x y z) (dec u v w)))).2 12 4 (by decide) (by decide) (by omega)
  rw [R2, show ((12 : Nat) : Int) = 12 from rfl] at t
  simp only [impl_Pairing.j0, Bool.false_eq_true, if_false, impl_Miller_eq k hk, impl_TwoTurn_eq, impl_TwoInv_eq k (by omega), impl_TwoMul_eq, Option.bind_some, R2]
  rw [N] at t
  rw [t]
  simp only [Option.bind_some]
  cases e : dec x y z with
  | none => rw [e] at h1; cases h1
  | some A =>
    cases f : dec u v w with
    | none => rw [f] at h2; cases h2
    | some B =>
      rw [e] at h1
      rw [f] at h2
      rw [pairO_some, h1, h2, dec_flag e, dec_flag f, h3, h4, if_pos (by decide), N]
theorem impl_pair_j1 (k : Nat) (x y : Int) (z : Bool) (u v : Int) (w : Bool) : impl_Pairing.j0 (k + 1) true x y z u v w = some (I2 one) := by
  simp only [impl_Pairing.j0, if_true]; rfl

theorem spec_pair_j0 (k : Nat) (hk : 40 ≤ k) (x y : Int) (z : Bool) (u v : Int) (w : Bool) (h1 : inG (dec x y z) = true) (h2 : inG (dec u v w) = true) (h3 : z = false) (h4 : w = false) :
    spec_Pairing.j0 (k + 1) false x y z u v w = some (I2 (pairO (dec x y z) (dec u v w))) := by
  have t := spec_TwoPow_eq k (I2 (N (millerO (dec x y z) (dec u v w)))).1 (I2 (N (millerO (dec x y z) (dec u v w)))).2 12 4 (by decide) (by decide) (by omega)
  rw [R2, show ((12 : Nat) : Int) = 12 from rfl] at t
  simp only [spec_Pairing.j0, Bool.false_eq_true, if_false, spec_Miller_eq k hk, spec_TwoTurn_eq, spec_TwoInv_eq k (by omega), spec_TwoMul_eq, Option.bind_some, R2]
  rw [N] at t
  rw [t]
  simp only [Option.bind_some]
  cases e : dec x y z with
  | none => rw [e] at h1; cases h1
  | some A =>
    cases f : dec u v w with
    | none => rw [f] at h2; cases h2
    | some B =>
      rw [e] at h1
      rw [f] at h2
      rw [pairO_some, h1, h2, dec_flag e, dec_flag f, h3, h4, if_pos (by decide), N]
theorem spec_pair_j1 (k : Nat) (x y : Int) (z : Bool) (u v : Int) (w : Bool) : spec_Pairing.j0 (k + 1) true x y z u v w = some (I2 one) := by
  simp only [spec_Pairing.j0, if_true]; rfl

theorem impl_Pairing_eq (k : Nat) (hk : 42 ≤ k) (x y : Int) (z : Bool) (u v : Int) (w : Bool) : impl_Pairing.f k x y z u v w = some (I2 (pairO (dec x y z) (dec u v w))) := by
  obtain ⟨k, rfl⟩ : ∃ m, k = m + 1 := ⟨k - 1, by omega⟩
  unfold impl_Pairing.f
  simp only [impl_InGroup_eq (k + 1) (by omega), Option.bind_some, impl_pair_j1]
  by_cases c1 : z = true
  · rw [if_pos c1, pairO_flag _ _ _ _ _ _ (Or.inl c1)]
  by_cases c2 : w = true
  · rw [if_neg c1, if_pos c2, pairO_flag _ _ _ _ _ _ (Or.inr c2)]
  rw [if_neg c1, if_neg c2]
  by_cases h1 : inG (dec x y z) = true
  · rw [if_pos h1]
    by_cases h2 : inG (dec u v w) = true
    · rw [h2, Bool.not_true, impl_pair_j0 k (by omega) _ _ _ _ _ _ h1 h2 (Bool.eq_false_iff.mpr c1) (Bool.eq_false_iff.mpr c2)]
    · rw [Bool.eq_false_iff.mpr h2, Bool.not_false, impl_pair_j1, pairO_no _ _ (Or.inr (Bool.eq_false_iff.mpr h2))]
  · rw [if_neg h1, pairO_no _ _ (Or.inl (Bool.eq_false_iff.mpr h1))]
theorem spec_Pairing_eq (k : Nat) (hk : 42 ≤ k) (x y : Int) (z : Bool) (u v : Int) (w : Bool) : spec_Pairing.f k x y z u v w = some (I2 (pairO (dec x y z) (dec u v w))) := by
  obtain ⟨k, rfl⟩ : ∃ m, k = m + 1 := ⟨k - 1, by omega⟩
  unfold spec_Pairing.f
  simp only [spec_InGroup_eq (k + 1) (by omega), Option.bind_some, spec_pair_j1]
  by_cases h1 : inG (dec x y z) = true
  · rw [if_pos h1]
    by_cases h2 : inG (dec u v w) = true
    · rw [if_pos h2]
      by_cases c1 : z = true
      · rw [if_pos c1, pairO_flag _ _ _ _ _ _ (Or.inl c1)]
      rw [if_neg c1]
      by_cases c2 : w = true
      · rw [c2, spec_pair_j1, pairO_flag _ _ _ _ _ _ (Or.inr rfl)]
      · rw [Bool.eq_false_iff.mpr c2] at h2 ⊢
        rw [spec_pair_j0 k (by omega) _ _ _ _ _ _ h1 h2 (Bool.eq_false_iff.mpr c1) rfl]
    · rw [if_neg h2, pairO_no _ _ (Or.inr (Bool.eq_false_iff.mpr h2))]
  · rw [if_neg h1, pairO_no _ _ (Or.inl (Bool.eq_false_iff.mpr h1))]

end Go.Proofs.Ytmbjefdkjdemhaa.Link
end
section
namespace Go.Proofs.Ytmbjefdkjdemhaa.Pf
open Go.RowKit Go.Proofs.YtmbjefdkjdemhaaW.PrintWords Go.Proofs.YtmbjefdkjdemhaaW.PrintLast Go.Proofs.YtmbjefdkjdemhaaW.PrintMore
attribute [local go_sem] max2_int min2_int max_two min_two max_three min_three max_four min_four   -- for this text's walks alone
set_option linter.unusedVariables false
set_option linter.unusedSimpArgs false
/-! ### spec_l01Once: function 99 -/
def spec_l01Once.f (s0_0 : List Int) (s0_1 : Int) (s0_2 : Int) (a1 : Int) : Option (Bool × Int × Int) := (spec_l01Below.f s0_0 s0_1 s0_2 a1).bind fun bt1072 => (some ((bt1072.1 == 0), bt1072.2.1, bt1072.2.2))
set_option maxHeartbeats 8000000 in
set_option maxRecDepth 100000 in
theorem spec_l01Once.calls (g : Nat) (s0_0 : List Int) (s0_1 : Int) (s0_2 : Int) (a1 : Int) (r1 : Bool) (r2 : Int) (r3 : Int) (w0 w : World) (hI : IsS89 w0 w g s0_0 s0_1 s0_2) (hB : Below w0.heap.size w0 w) (h : spec_l01Once.f s0_0 s0_1 s0_2 a1 = some (r1, r2, r3)) :
  Calls Try.prog 99 #[.pointer (some ⟨g, 0, none⟩), .int .i64 a1] w fun e w' => e = .returned (.bool r1) ∧ IsS89 w0 w' g s0_0 r2 r3 ∧ Below w0.heap.size w0 w' ∧ KeepBut w w' g none := by
 have HI0 := Aside0.mk hI
 have HK := Aside0.mk (KeepBut.refl w g none)
 have HL := Aside0.mk hB.size
 clear hI
 have HW0 := Aside0.mk hB.size
 have HB := Aside0.mk hB
 clear hB
 have H : ((spec_l01Below.f s0_0 s0_1 s0_2 a1).bind fun bt1072 => (some ((bt1072.1 == 0), bt1072.2.1, bt1072.2.2))) = some (r1, r2, r3) := h
 clear h
 replace H := Option.bind_eq_some_iff.mp H
 obtain ⟨⟨t1072, t1073, t1074⟩, A30, H⟩ := H
 replace H : (some ((t1072 == 0), t1073, t1074)) = some (r1, r2, r3) := H
 have A3 := Aside0.mk A30
 clear A30
 simp only [Option.some.injEq, Prod.mk.injEq] at H
 obtain ⟨rfl, rfl, rfl⟩ := H
 go_enter Try.func99, Try.ntmps99
 go_wp2_with (first | ((with_reducible refine gate_callee (f := 62) rfl ?_); refine goesL_ (some 7) rfl rfl Try.func62 (by kernel_rfl) rfl #[.pointer (some ⟨g, 0, none⟩), .int .i64 a1] rfl (by (try simp only [List.map_toArray, List.map_cons, List.map_nil]); first | done | rfl | (simp only [List.length_drop, List.length_take]; rfl)) ?_; (with_reducible refine (spec_l01Below.calls g s0_0 s0_1 s0_2 a1 t1072 t1073 t1074 w0 _ ?side1 ?side2 A3.out).mono ?_); (case side1 => repeat (first | (with_reducible first | exact HI0.out | apply IsS89.alloc | apply IsS89.drewN | apply IsS89.drew | apply IsS89.set_1 | apply IsS89.set_2) | exact HI0.out)); (case side2 => repeat (first | (with_reducible first | exact HB.out | apply below_alloc | apply pw_below_drewN | apply below_drew1 | refine below_set ?_ (IsS89.ge HI0.out)) | exact HB.out)); rintro e w4 ⟨rfl, hi, hb, hk⟩; refine ⟨_, rfl, ?_⟩; replace HK := Aside0.mk (KeepBut.trans (by repeat (first | (with_reducible first | exact HK.out | apply KeepBut.set_ | apply keep_drewN | apply keep_drew | apply keep_alloc) | exact HK.out)) hk (.inl rfl)); replace HB := Aside0.mk (hb); replace HI0 := Aside0.mk (hi); (try clear hb); (try clear hb2); (try clear hk); (try clear hi)))
 go_ret
 exact ⟨by first | rfl | (simp [errW_none, errW_some] <;> rfl) | (simp [*, errW_none, errW_some] <;> rfl), by repeat (first | (with_reducible first | exact HI0.out | apply IsS89.alloc | apply IsS89.drewN | apply IsS89.drew | apply IsS89.set_1 | apply IsS89.set_2) | exact HI0.out), by repeat (first | (with_reducible first | exact HB.out | apply below_alloc | apply pw_below_drewN | apply below_drew1 | refine below_set ?_ (IsS89.ge HI0.out)) | exact HB.out), by repeat (first | (with_reducible first | exact HK.out | apply KeepBut.set_ | apply keep_drewN | apply keep_drew | apply keep_alloc) | exact HK.out)⟩
end Go.Proofs.Ytmbjefdkjdemhaa.Pf
end
section
/- What is proved here: the reference's reader of draws always answers, and its numbers lie where they should. No conditions but that the bytes are no longer than a Go slice can be. -/
set_option linter.unusedVariables false
set_option linter.unusedSimpArgs false
namespace Go.Proofs.Ytmbjefdkjdemhaa.Draw
open Go.RowKit Go.Proofs.Ytmbjefdkjdemhaa.Pf Go.Proofs.YtmbjefdkjdemhaaW.PrintWords

theorem wrapd {i : Int} (h0 : -9223372036854775808 ≤ i) (h : i ≤ 9223372036854775807) : wrap64 i = i := by
  unfold wrap64; omega
theorem Ev.one {α : Type} {g : Nat → Option α} {r : α} (h : ∀ k, g (k + 1) = some r) : Ev g r :=
  ⟨1, fun k hk => by obtain ⟨k, rfl⟩ : ∃ m, k = m + 1 := ⟨k - 1, by omega⟩; exact h k⟩
theorem and_255 (x : Int) : 0 ≤ Go.bits .and .i64 x 255 ∧ Go.bits .and .i64 x 255 ≤ 255 := by
  have h : (BitVec.ofInt (IntKind.bits .i64) 255).toNat = 255 := by decide
  simp only [Go.bits, BitVec.toNat_and, h]
  generalize (BitVec.ofInt _ x).toNat = a
  have : a &&& 255 ≤ 255 := Nat.and_le_right
  rw [IntKind.wrap_i64]
  omega
/-- a reader's state: its place lies in the bytes -/
def Okc (b : List Int) (i : Int) : Prop := 0 ≤ i ∧ i ≤ 9223372036854775807 ∧ b.length ≤ 9223372036854775807
theorem byte_some (b : List Int) (i h : Int) (ho : Okc b i) : ∃ x i' h', spec_l01Byte.f b i h = some (x, i', h') ∧ 0 ≤ x ∧ x ≤ 255 ∧ Okc b i' := by
  obtain ⟨h0, h1, h2⟩ := ho
  unfold spec_l01Byte.f
  by_cases c : i < (b.length : Int)
  · rw [if_pos c, if_pos h0, wrapd (i := i + 1) (by omega) (by omega)]
    exact ⟨_, _, _, rfl, (and_255 _).1, (and_255 _).2, by omega, by omega, h2⟩
  · rw [if_neg c]
    exact ⟨_, _, _, rfl, (and_255 _).1, (and_255 _).2, h0, h1, h2⟩
theorem below_some (b : List Int) (i h n : Int) (ho : Okc b i) (hn : 0 < n) (hn2 : n ≤ 4294967296) : ∃ x i' h', spec_l01Below.f b i h n = some (x, i', h') ∧ 0 ≤ x ∧ x < n ∧ Okc b i' := by
  unfold spec_l01Below.f
  rw [if_neg (by omega)]
  by_cases c : n ≤ 256
  · obtain ⟨x, i1, h1, e1, x0, x1, o1⟩ := byte_some b i h ho
    rw [if_pos c, e1]
    simp only [Option.bind_some]
    rw [if_neg (by omega)]
    exact ⟨_, _, _, rfl, Int.tmod_nonneg _ x0, Int.tmod_lt_of_pos _ hn, o1⟩
  · obtain ⟨x, i1, h1, e1, x0, x1, o1⟩ := byte_some b i h ho
    obtain ⟨y, i2, h2, e2, y0, y1, o2⟩ := byte_some b i1 h1 o1
    obtain ⟨z, i3, h3, e3, z0, z1, o3⟩ := byte_some b i2 h2 o2
    obtain ⟨u, i4, h4, e4, u0, u1, o4⟩ := byte_some b i3 h3 o3
    rw [if_neg c]
    simp only [e1, e2, e3, e4, Option.bind_some]
    rw [if_neg (by omega), wrapd (i := x * 16777216) (by omega) (by omega), wrapd (i := y * 65536) (by omega) (by omega), wrapd (i := z * 256) (by omega) (by omega), wrapd (i := x * 16777216 + y * 65536) (by omega) (by omega), wrapd (i := x * 16777216 + y * 65536 + z * 256) (by omega) (by omega), wrapd (by omega) (by omega)]
    exact ⟨_, _, _, rfl, Int.tmod_nonneg _ (by omega), Int.tmod_lt_of_pos _ hn, o4⟩
theorem new_l0 (b : List Int) (hb : b.length ≤ 9223372036854775807) : ∀ (d i : Nat) (h : Int), i + d = b.length → ∃ h', Ev (fun k => spec_l01New.l0 k b h (i : Int)) (b, 0, h')
  | 0, i, h, hi => ⟨h, Ev.one fun k => by
      simp only [spec_l01New.l0]
      rw [if_neg (by omega)]⟩
  | d + 1, i, h, hi => by
    by_cases c : (i : Int) < 4000
    · obtain ⟨h', he⟩ := new_l0 b hb d (i + 1) (Go.bits .and .i64 (wrap64 ((wrap64 ((wrap64 (h * 131)) + (wrap64 (rd b (i : Int))))) + 7)) 1073741823) (by omega)
      refine ⟨h', Ev.step (fun k => ?_) he⟩
      simp only [spec_l01New.l0]
      rw [if_pos (by omega), if_pos c, if_pos (by omega), wrapd (i := (i : Int) + 1) (by omega) (by omega)]
      rfl
    · refine ⟨h, Ev.one fun k => ?_⟩
      simp only [spec_l01New.l0]
      rw [if_pos (by omega), if_neg c]
theorem new_ev (b : List Int) (hb : b.length ≤ 9223372036854775807) : ∃ h, Ev (fun k => spec_l01New.f k b) (b, 0, h) := by
  obtain ⟨h, he⟩ := new_l0 b hb b.length 0 (wrap64 (76801 + (b.length : Int))) (by omega)
  exact ⟨h, he⟩
theorem ok0 (b : List Int) (hb : b.length ≤ 9223372036854775807) : Okc b 0 := ⟨by omega, by omega, hb⟩
theorem once_some (b : List Int) (i h n : Int) (ho : Okc b i) (hn : 0 < n) (hn2 : n ≤ 4294967296) : ∃ x i' h', spec_l01Once.f b i h n = some (x, i', h') ∧ Okc b i' := by
  obtain ⟨x, i1, h1, e1, _, _, o1⟩ := below_some b i h n ho hn hn2
  exact ⟨x == 0, i1, h1, by simp only [spec_l01Once.f, e1, Option.bind_some], o1⟩
theorem pick_some (b : List Int) (i h : Int) (l : List Int) (ho : Okc b i) (hl : 0 < l.length) (hl2 : l.length ≤ 1000) : ∃ x i' h', spec_l01PickInt.f b i h l = some (x, i', h') ∧ x ∈ l ∧ Okc b i' := by
  obtain ⟨x, i1, h1, e1, x0, x1, o1⟩ := below_some b i h (l.length : Int) ho (by omega) (by omega)
  have hx : x.toNat < l.length := by omega
  refine ⟨rd l x, i1, h1, ?_, ?_, o1⟩
  · simp only [spec_l01PickInt.f, e1, Option.bind_some]
    rw [if_pos x0, if_pos x1]
  · unfold rd
    rw [List.getD_eq_getElem?_getD, List.getElem?_eq_getElem hx, Option.getD_some]
    exact List.getElem_mem hx
theorem places_l0 (b : List Int) : ∀ (d : Nat) (j : Nat) (xs : List Int) (i h : Int), j + d = 12 → xs.length = j → (∀ x ∈ xs, 0 ≤ x ∧ x ≤ 9999) → Okc b i →
    ∃ ys : List Int, ys.length = 12 ∧ (∀ x ∈ ys, 0 ≤ x ∧ x ≤ 9999) ∧ Ev (fun k => spec_DrawPlaces.l0 k xs (j : Int) b i h) ys
  | 0, j, xs, i, h, hj, hl, hx, ho => ⟨xs, by omega, hx, Ev.one fun k => by
      simp only [spec_DrawPlaces.l0]
      rw [if_neg (by omega)]⟩
  | d + 1, j, xs, i, h, hj, hl, hx, ho => by
    obtain ⟨x, i1, h1, e1, x0, x1, o1⟩ := below_some b i h 10000 ho (by decide) (by decide)
    obtain ⟨ys, y1, y2, y3⟩ := places_l0 b d (j + 1) (xs ++ [x]) i1 h1 (by omega) (by simp [hl]) (fun z hz => by
      rcases List.mem_append.1 hz with hz | hz
      · exact hx z hz
      · rw [List.mem_singleton.1 hz]; omega) o1
    refine ⟨ys, y1, y2, Ev.step (fun k => ?_) y3⟩
    simp only [spec_DrawPlaces.l0]
    rw [if_pos (by omega), e1, Option.bind_some, if_pos (by omega), wrapd (by omega) (by omega)]
    rfl
theorem places_ev (b : List Int) (hb : b.length ≤ 9223372036854775807) : ∃ ys : List Int, ys.length = 12 ∧ (∀ x ∈ ys, 0 ≤ x ∧ x ≤ 9999) ∧ Ev (fun k => spec_DrawPlaces.f k b) ys := by
  obtain ⟨h, K1, e1⟩ := new_ev b hb
  obtain ⟨x, i1, h1, e2, _, _, o1⟩ := byte_some b 0 h (ok0 b hb)
  obtain ⟨ys, y1, y2, K2, y3⟩ := places_l0 b 12 0 [] i1 h1 (by omega) rfl (fun z hz => by cases hz) o1
  refine ⟨ys, y1, y2, K1 + K2, fun k hk => ?_⟩
  have g1 := e1 k (by omega)
  have g2 := y3 k (by omega)
  dsimp only at g1 g2 ⊢
  simp only [spec_DrawPlaces.f, g1, Option.bind_some, e2]
  exact g2
end Go.Proofs.Ytmbjefdkjdemhaa.Draw
end
section
/- What is proved here: a drawn point of the group is a multiple of the base. No conditions but that the bytes are no longer than a Go slice can be. -/
set_option linter.unusedVariables false
set_option linter.unusedSimpArgs false
namespace Go.Proofs.Ytmbjefdkjdemhaa.CrvDraw
open Go.RowKit Go.Proofs.Ytmbjefdkjdemhaa.Pf Go.Proofs.YtmbjefdkjdemhaaW.PrintWords Go.Proofs.Ytmbjefdkjdemhaa.Crv Go.Proofs.Ytmbjefdkjdemhaa.Link Go.Proofs.Ytmbjefdkjdemhaa.Draw
open Go.Proofs.Ytmbjefdkjdemhaa.Crv.Pt
theorem base_dec : dec 8445 859 false = some Base := by
  have h := dec_tr Base Ok_Base
  have e : tr Base = ((8445 : Int), (859 : Int), false) := by decide
  rw [e] at h
  exact h
theorem group_some (b : List Int) (i h : Int) (ho : Okc b i) : ∃ n i' h', (∀ k, 60 ≤ k → spec_l07Group.f k b i h = some ((tr (mul n Base)).1, (tr (mul n Base)).2.1, (tr (mul n Base)).2.2, i', h')) ∧ Okc b i' := by
  obtain ⟨x, i1, h1, e1, x0, x1, o1⟩ := below_some b i h 256 ho (by decide) (by decide)
  obtain ⟨y, i2, h2, e2, hy, o2⟩ := pick_some b i1 h1 [1, 2, 3, 0, 500, 1008, x] o1 (by simp) (by simp)
  refine ⟨often y, i2, h2, fun k hk => ?_, o2⟩
  simp only [spec_l07Group.f, e1, e2, Option.bind_some, spec_Base.f, spec_PointTimes_eq k (by omega), base_dec, timesO]
theorem drawgroup_ev (b : List Int) (hb : b.length ≤ 9223372036854775807) : ∃ l m n, Ev (fun k => spec_DrawGroup.f k b) ((tr (mul l Base)).1, (tr (mul l Base)).2.1, (tr (mul l Base)).2.2, (tr (mul m Base)).1, (tr (mul m Base)).2.1, (tr (mul m Base)).2.2, (tr (mul n Base)).1, (tr (mul n Base)).2.1, (tr (mul n Base)).2.2) := by
  obtain ⟨h, K, hK⟩ := new_ev b hb
  obtain ⟨l, i1, h1, e1, o1⟩ := group_some b 0 h (ok0 b hb)
  obtain ⟨m, i2, h2, e2, o2⟩ := group_some b i1 h1 o1
  obtain ⟨n, i3, h3, e3, o3⟩ := group_some b i2 h2 o2
  refine ⟨l, m, n, K + 90, fun k hk => ?_⟩
  have hk' := hK k (by omega)
  dsimp only at hk' ⊢
  simp only [spec_DrawGroup.f, hk', Option.bind_some, e1 k (by omega), e2 k (by omega), e3 k (by omega)]
end Go.Proofs.Ytmbjefdkjdemhaa.CrvDraw
end
section
/- What is proved here: what two drawn points have so often their pair has as often as both together; sums of one are products. No conditions. -/
set_option linter.unusedVariables false
set_option linter.unusedSimpArgs false
namespace Go.Proofs.Ytmbjefdkjdemhaa.Pure
open Go.RowKit Go.Proofs.Ytmbjefdkjdemhaa.Pf Go.Proofs.YtmbjefdkjdemhaaW.PrintWords Go.Proofs.Ytmbjefdkjdemhaa.Crv Go.Proofs.Ytmbjefdkjdemhaa.Link
set_option maxRecDepth 4000

open Go.Proofs.Ytmbjefdkjdemhaa.CrvDraw Go.Proofs.Ytmbjefdkjdemhaa.Crv.Pt Go.Proofs.Ytmbjefdkjdemhaa.Link
theorem FnPairings : laws_FnPairings.Pure := by
  intro b hb _ _
  unfold maxLen at hb
  by_cases hbig : (b.length : Int) > 1048576
  · exact ⟨0, by simp only [laws_FnPairings.f, laws_big.f, Option.bind_some]; rw [if_pos (decide_eq_true hbig)]⟩
  obtain ⟨a, e, c, K1, h1⟩ := drawgroup_ev b (by omega)
  obtain ⟨ps, hp, hr, K2, h2⟩ := Go.Proofs.Ytmbjefdkjdemhaa.Draw.places_ev b (by omega)
  obtain ⟨k, hk⟩ : ∃ k, k = K1 + K2 + 100 := ⟨_, rfl⟩
  refine ⟨k, ?_⟩
  have g1 := h1 k (by omega)
  have g2 := h2 k (by omega)
  dsimp only at g1 g2
  have m1 : 0 ≤ Int.tmod (rd ps 0) 1009 ∧ Int.tmod (rd ps 0) 1009 < 1009 := by
    have h0 : 0 ≤ rd ps 0 := by
      have : 0 < ps.length := by omega
      have e : rd ps 0 = ps[0] := by unfold rd; rw [List.getD_eq_getElem?_getD, show (0 : Int).toNat = 0 from rfl, List.getElem?_eq_getElem this, Option.getD_some]
      rw [e]; exact (hr _ (List.getElem_mem this)).1
    rw [Int.tmod_eq_emod_of_nonneg h0]; omega
  have m2 : 0 ≤ Int.tmod (rd ps 1) 1009 ∧ Int.tmod (rd ps 1) 1009 < 1009 := by
    have h0 : 0 ≤ rd ps 1 := by
      have : 1 < ps.length := by omega
      have e : rd ps 1 = ps[1] := by unfold rd; rw [List.getD_eq_getElem?_getD, show (1 : Int).toNat = 1 from rfl, List.getElem?_eq_getElem this, Option.getD_some]
      rw [e]; exact (hr _ (List.getElem_mem this)).1
    rw [Int.tmod_eq_emod_of_nonneg h0]; omega
  obtain ⟨m, hm⟩ : ∃ m, Int.tmod (rd ps 0) 1009 = m := ⟨_, rfl⟩
  obtain ⟨n, hn⟩ : ∃ n, Int.tmod (rd ps 1) 1009 = n := ⟨_, rfl⟩
  rw [hm] at m1
  rw [hn] at m2
  obtain ⟨m, rfl⟩ : ∃ j : Nat, m = (j : Int) := ⟨m.toNat, by omega⟩
  obtain ⟨n, rfl⟩ : ∃ j : Nat, n = (j : Int) := ⟨n.toNat, by omega⟩
  have o1 : often (m : Int) = m := by unfold often; omega
  have o2 : often (n : Int) = n := by unfold often; omega
  have mn : (m : Int) * (n : Int) ≤ 1016064 := by
    have := Nat.mul_le_mul (show m ≤ 1008 by omega) (show n ≤ 1008 by omega)
    have e : (m : Int) * (n : Int) = ((m * n : Nat) : Int) := by simp
    omega
  have mn0 : 0 ≤ (m : Int) * (n : Int) := Int.mul_nonneg (by omega) (by omega)
  have w : Int.tmod (wrap64 ((m : Int) * (n : Int))) 1009 = ((m * n % 1009 : Nat) : Int) := by
    rw [wrap_in (by omega) (by omega), Int.tmod_eq_emod_of_nonneg mn0]; simp
  have dm : ∀ j, dec (tr (mul j Base)).1 (tr (mul j Base)).2.1 (tr (mul j Base)).2.2 = some (mul j Base) := fun j => dec_tr _ (Ok_mul Ok_Base j)
  have pm : ∀ i j, pairO (some (mul i Base)) (some (mul j Base)) = tpow G (i * j) := fun i j => by rw [pairO_eq _ _ (base_mult i) (base_mult j), pair_mult]
  have ad : ∀ i j, add (mul i Base) (mul j Base) = mul (i + j) Base := fun i j => (mul_add Ok_Base i j).symm
  have mm : ∀ i j, mul j (mul i Base) = mul (i * j) Base := fun i j => (mul_mul Ok_Base i j).symm
  have t1 := fun (x y : Int) => impl_TwoPow_eq k x y (m * n % 1009) 10 (Nat.lt_of_lt_of_le (Nat.mod_lt _ (by decide)) (by decide)) (by decide) (by omega)
  obtain ⟨q, hq⟩ : ∃ q, q = 1009 := ⟨_, rfl⟩
  have t2 : ∀ x y : Int, impl_TwoPow.f k x y 1009 = some (I2 (tpow (R x, R y) q)) := by
    intro x y
    have := impl_TwoPow_eq k x y q 10 (by rw [hq]; decide) (by decide) (by omega)
    rw [show (q : Int) = 1009 by omega] at this
    exact this
  have addm : addO (some (mul a Base)) (some (mul c Base)) = mul (a + c) Base := ad a c
  simp only [laws_FnPairings.f, laws_big.f, Option.bind_some, g1, g2]
  rw [if_neg (by simpa using hbig), if_pos (by omega), if_pos (by omega)]
  simp only [impl_Pairing_eq k (by omega), spec_Pairing_eq k (by omega), impl_PointTimes_eq k (by omega), impl_PointAdd_eq k (by omega), Option.bind_some, dm, hm, hn, timesO, o1, o2, mm, addm, pm, w, t1, t2, impl_TwoMul_eq, R2, ← tpow_mul, ← tpow_add]
  have x1 : tpow G (a * m * (e * n)) = tpow G (a * e * (m * n % 1009)) := by
    rw [G_mod, G_mod (a * e * (m * n % 1009))]
    congr 1
    rw [show a * m * (e * n) = a * e * (m * n) by simp only [Nat.mul_assoc, Nat.mul_left_comm, Nat.mul_comm], Nat.mul_mod_mod]
  have x2 : tpow G ((a + c) * e) = tpow G (a * e + c * e) := by rw [Nat.add_mul]
  have x3 : tpow G (a * e * q) = one := by rw [Nat.mul_comm, tpow_mul, hq, G_order, tpow_one]
  rw [x1, x2, x3, Nat.mul_comm e a]
  simp [I2, one, I_zero, I_one]
end Go.Proofs.Ytmbjefdkjdemhaa.Pure
end
section
namespace Go.Proofs.Ytmbjefdkjdemhaa.fnPairings
open Go.ChangeShapes Go.WideShapes Go.ChangeAt Go.RowKit
open Go.ChangeMaps (open_string shut_string)
set_option linter.unusedVariables false
theorem own : ownKnob Try.prog.godebug = none := by kernel_rfl
theorem laidOut : laidOutB Try.prog = true := by kernel_rfl
def IsRow (k : IntKind) (w : World) (a : Option Addr) (len cap : Nat) (zs : List Int) : Prop :=
  (a = none ∧ len = 0 ∧ cap = 0 ∧ zs = []) ∨
  ∃ x, a = some x ∧ len ≤ cap ∧ cap ≤ maxLen ∧ zs.length = cap ∧ (∀ i, i < zs.length → w.cell? (x.add i) = some (.int k (zs.getD i 0))) ∧ ∀ n ∈ zs, (Lit.int k n).wf = true
set_option maxRecDepth 100000 in
theorem lifted (os : Os) (started : os.Started) (H : Type) (enc : TypeId × Value → H) :
    ReturnsInHanded {} Try.checked os 3 .any (Rows.fnPairingsSpec.pre6 enc Try.prog Try.f3 Rows.fnPairingsRow.domain false) (Rows.fnPairingsSpec.post enc Try.prog Try.f3 false true false false) := by
  refine returnsInHanded_of_change_sized (C := Try.checked) own started (by kernel_rfl) Try.func3
    (ChangeSpec.witness6 (enc := enc) (C := Try.checked) false ⟨#[], #[.slice none 0 0], []⟩ 8 (by kernel_rfl) (by kernel_rfl) (by kernel_rfl) (by kernel_rfl)) ?_
  intro W base args ds gs before hval0 hW hcnd hsz0 _
  have hsz : (DataW.weightsEach Try.prog (Try.f3.params.toList ++ Rows.fnPairingsSpec.plain.varTypes Try.prog) (ds ++ gs)).all (· ≤ reachBytes) = true := hsz0
  have hval : ∀ (j : Nat) t v, Try.f3.params[j]? = some t → args[j]? = some v → Value.okWide Try.prog W .any base t v := hval0
  have hW' := hW
  obtain ⟨p, q, hA0, hV, rfl, hfz, hnd⟩ := hW
  have hA : DataW.TrodAll enc Try.prog W 0 (fun _ => true) true Try.f3.params.toList args.toList ds p := hA0
  rw [Try.params3] at hA hval hsz
  obtain ⟨v0, vs0, d0, ds0, p0, q0, hargs, rfl, rfl, h0, r0⟩ := trodAll_cons hA
  obtain ⟨rfl, rfl, rfl⟩ := trodAll_nil r0
  obtain rfl : args = #[v0] := by cases args; simp_all
  obtain ⟨rfl, rfl⟩ := trodVars_none hV
  obtain ⟨a0, len0, cap0, rfl⟩ := okWide_slice Try.underlying22 (hval 0 22 v0 rfl rfl)
  have k0 := h0
  have lt0 : ∀ x ∈ p0, x.block < W.heap.size := by obtain ⟨m, hm⟩ := k0; exact DataW.trod_lt m _ _ _ hm
  obtain ⟨z0, w0⟩ : ∃ zs, IsRow .u8 W a0 len0 cap0 zs := by
    obtain ⟨fuel, hf⟩ := h0
    rcases open_ints Try.underlying22 Try.underlying5 (by kernel_rfl) hf with ⟨hcs, _⟩ | ⟨x, l, c, zs, hcs, _, hl, hm, hz, _, hcell, hwz⟩
    · simp [Value.cells] at hcs
      obtain ⟨rfl, rfl, rfl⟩ := hcs
      exact ⟨[], .inl ⟨rfl, rfl, rfl, rfl⟩⟩
    · simp [Value.cells] at hcs
      obtain ⟨rfl, rfl, rfl⟩ := hcs
      exact ⟨zs, .inr ⟨_, rfl, hl, hm, by simpa using hz, hcell, hwz⟩⟩
  have y0 : len0 * 1 ≤ 140737488351232 := Go.Proofs.YtmbjefdkjdemhaaW.PrintWords.sized_ints hsz (j := 0) (t := 22) rfl rfl Try.underlying22 Try.underlying5 (by kernel_rfl) (by kernel_rfl) h0
  clear hA0 hval0 hsz0 hsz
  refine (Pf.laws_FnPairings.walk Pure.FnPairings a0 len0 cap0 z0 W w0 y0).mono fun e W' ⟨he, bel⟩ => ?_
  subst he
  exact ⟨_, rfl, _, _, _, [], _, [], hW', trodAll_mk1 (shut_bool Try.underlying4 _), (trodAll_cons_mk (Below.trod laidOut (by kernel_rfl) (of_decide_eq_true (by kernel_rfl)) k0 bel lt0) trodAll_mk0), rfl, bel.frame _, fun h => by cases h⟩
theorem over : Rows.fnPairingsRow.holds Try.pinned (OpenSpec.ofChange Rows.fnPairingsSpec) :=
  OpenClaim.holds_of_wide 3 Try.f3 rfl rfl rfl rfl rfl rfl rfl ⟨rfl, rfl, rfl, rfl, rfl⟩ rfl rfl rfl rfl rfl (by kernel_rfl) Try.func3 (by kernel_rfl)
    (of_decide_eq_true (by kernel_rfl)) (by unfold Func.isWrapper; first | (rw [if_pos (by decide +kernel)]; kernel_rfl) | (rw [if_neg (by decide +kernel)]; exact ⟨rfl, rfl⟩))
    (fun os started H enc _ => lifted os started H enc)
theorem proved : Rows.FnPairingsSaid := over
#print axioms proved
end Go.Proofs.Ytmbjefdkjdemhaa.fnPairings
namespace Go.Proofs.Ytmbjefdkjdemhaa
/-- The row, under a short name, for the claim. -/
theorem fnPairings_holds : Rows.FnPairingsSaid := fnPairings.proved
end Go.Proofs.Ytmbjefdkjdemhaa
end
