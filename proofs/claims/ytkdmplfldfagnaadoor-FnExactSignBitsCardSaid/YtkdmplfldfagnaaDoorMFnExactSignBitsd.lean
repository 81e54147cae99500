/- What is proved here: part 4 of 4 of the proof of the given statement FnExactSignBits: the contracts of the Go functions that it reaches, the plain facts on lists and numbers, and (in the last part) the statement itself. No conditions beyond the given ones. -/
import Derived.Test.YtkdmplfldfagnaaDoorMFnExactSignBitsc
import Derived.Test.YtkdmplfldfagnaaDoorMFnExactSignBitsa
import Derived.Test.YtkdmplfldfagnaaDoorMFnExactSignBitswSlim
import Derived.Test.YtkdmplfldfagnaaDoorMFnExactSignBitsb
import Derived.Test.YtkdmplfldfagnaaDoorMFnExactSignBitswMore
import Derived.Deep.Slices
import Derived.ChangeArms
import Derived.DataReads
import Derived.ChangeShapes
import Derived.Test.YtkdmplfldfagnaaDoorRows
import Derived.ProofKit
import Derived.LaidMore
import Derived.OpenShut
import Derived.Stop.Joined
import Derived.Test.YtkdmplfldfagnaaDoorTie
import Derived.Test.YtkdmplfldfagnaaDoorCards
import Derived.WalkKit
import Derived.ShutString
import Derived.ChangeOld
import Derived.Below
import Derived.SizedLaws
import Derived.OpenVars
import Derived.SevenTiedAt

section
/- What is proved here: what PointTimes answers, of the program and of the reference alike: the multiple of the point, counted modulo 12108. No conditions. -/
set_option linter.unusedVariables false
set_option linter.unusedSimpArgs false
namespace Go.Proofs.YtkdmplfldfagnaaDoor.Link
open Go.RowKit Go.Proofs.YtkdmplfldfagnaaDoor.Pf Go.Proofs.YtkdmplfldfagnaaDoorW.PrintWords Go.Proofs.YtkdmplfldfagnaaDoor.Crv
open Go.Proofs.YtkdmplfldfagnaaDoor.Crv.Pt
set_option maxRecDepth 4000


/-- how often -/
def often (n : Int) : Nat := (n % 12108).toNat
def timesO (n : Nat) : Option Pt → Pt
  | some A => mul n A
  | none => O
theorem Ok_times (n : Nat) (x y : Int) (z : Bool) : Ok (timesO n (dec x y z)) := by
  cases h : dec x y z with
  | none => trivial
  | some A => exact Ok_mul (dec_ok h).1 n
theorem impl_times_l0 : ∀ (f k : Nat) (n : Nat) (A out : Pt), Ok A → Ok out → n < 2 ^ f → f ≤ 20 → f + 21 ≤ k →
    impl_PointTimes.l0 k (n : Int) (tr A).1 (tr A).2.1 (tr A).2.2 (tr out).1 (tr out).2.1 (tr out).2.2 = some (tr (ptl f n out A))
  | 0, k, n, A, out, hA, ho, h, _, hk => by
    obtain rfl : n = 0 := by simp at h; exact h
    obtain ⟨k, rfl⟩ : ∃ m, k = m + 1 := ⟨k - 1, by omega⟩
    simp only [impl_PointTimes.l0]
    rw [if_neg (by omega), ptl]
  | f + 1, k, n, A, out, hA, ho, h, hf, hk => by
    obtain ⟨k, rfl⟩ : ∃ m, k = m + 1 := ⟨k - 1, by omega⟩
    have hb : 2 ^ (f + 1) ≤ 2 ^ 20 := Nat.pow_le_pow_right (by decide) hf
    simp only [impl_PointTimes.l0]
    rw [ptl]
    by_cases c : n = 0
    · subst c; rw [if_neg (by omega), if_pos rfl]
    rw [if_pos (by omega), if_neg c, halve n (by omega), impl_add_eq k (by omega) A A hA hA]
    rw [Nat.pow_succ] at h
    by_cases d : n % 2 = 1
    · rw [if_pos ((odd n).mpr d), if_pos d, impl_add_eq k (by omega) out A ho hA]
      exact impl_times_l0 f k _ _ _ (Ok_add hA hA) (Ok_add ho hA) (by omega) (by omega) (by omega)
    · rw [if_neg (fun e => d ((odd n).mp e)), if_neg d]
      exact impl_times_l0 f k _ _ _ (Ok_add hA hA) ho (by omega) (by omega) (by omega)
theorem spec_times_l0 : ∀ (f k : Nat) (n : Nat) (A out : Pt), Ok A → Ok out → n < 2 ^ f → f ≤ 20 → f + 21 ≤ k →
    spec_PointTimes.l0 k (n : Int) (tr A).1 (tr A).2.1 (tr A).2.2 (tr out).1 (tr out).2.1 (tr out).2.2 = some (tr (ptl f n out A))
  | 0, k, n, A, out, hA, ho, h, _, hk => by
    obtain rfl : n = 0 := by simp at h; exact h
    obtain ⟨k, rfl⟩ : ∃ m, k = m + 1 := ⟨k - 1, by omega⟩
    simp only [spec_PointTimes.l0]
    rw [if_neg (by omega), ptl]
  | f + 1, k, n, A, out, hA, ho, h, hf, hk => by
    obtain ⟨k, rfl⟩ : ∃ m, k = m + 1 := ⟨k - 1, by omega⟩
    have hb : 2 ^ (f + 1) ≤ 2 ^ 20 := Nat.pow_le_pow_right (by decide) hf
    simp only [spec_PointTimes.l0]
    rw [ptl]
    by_cases c : n = 0
    · subst c; rw [if_neg (by omega), if_pos rfl]
    rw [if_pos (by omega), if_neg c, halve n (by omega), spec_add_eq k (by omega) A A hA hA]
    rw [Nat.pow_succ] at h
    by_cases d : n % 2 = 1
    · rw [if_pos ((odd n).mpr d), if_pos d, spec_add_eq k (by omega) out A ho hA]
      exact spec_times_l0 f k _ _ _ (Ok_add hA hA) (Ok_add ho hA) (by omega) (by omega) (by omega)
    · rw [if_neg (fun e => d ((odd n).mp e)), if_neg d]
      exact spec_times_l0 f k _ _ _ (Ok_add hA hA) ho (by omega) (by omega) (by omega)
theorem impl_PointTimes_eq (k : Nat) (hk : 40 ≤ k) (n x y : Int) (z : Bool) : impl_PointTimes.f k n x y z = some (tr (timesO (often n) (dec x y z))) := by
  unfold impl_PointTimes.f
  rw [impl_PointOk_eq]
  simp only [Option.bind_some]
  cases h : dec x y z with
  | none => rfl
  | some A =>
    obtain ⟨hA, rfl, rfl, rfl⟩ := dec_ok h
    have e : impl_remainder.f n 12108 = some ((often n : Nat) : Int) := by
      unfold impl_remainder.f often
      rw [if_neg (by decide)]
      rcases tmod_two n 12108 (by decide) with h | ⟨h, h2⟩
      · rw [h, if_neg (by omega)]; congr 1; omega
      · rw [h, if_pos (by omega), wrap_in (by omega) (by omega)]; congr 1; omega
    have e2 := impl_times_l0 14 k (often n) A O hA trivial (by unfold often; omega) (by omega) (by omega)
    rw [ptl_eq 14 (often n) O A trivial hA (by unfold often; omega), zero_add] at e2
    rw [Option.isSome_some, if_pos rfl, e]
    exact e2
theorem spec_PointNeg_eq (A : Pt) : spec_PointNeg.f (tr A).1 (tr A).2.1 (tr A).2.2 = some (tr (neg A)) := by
  cases A with
  | O => rfl
  | P a a' =>
    unfold spec_PointNeg.f
    rw [if_neg (by simp [tr])]
    have e : (0 : F) - a' = -a' := by grobner
    simp only [tr, spec_FpSub_eq, Option.bind_some, R_I, R_zero, neg, e]
theorem mul_other (A : Pt) (hA : Ok A) (m : Nat) (hm : m ≤ 12108) : mul m (neg A) = mul (12108 - m) A := by
  rw [mul_neg hA]
  symm
  apply neg_of_add
  rw [← mul_add hA, show m + (12108 - m) = 12108 by omega, all_order A hA]
theorem spec_PointTimes_eq (k : Nat) (hk : 41 ≤ k) (n x y : Int) (z : Bool) : spec_PointTimes.f k n x y z = some (tr (timesO (often n) (dec x y z))) := by
  obtain ⟨k, rfl⟩ : ∃ m, k = m + 1 := ⟨k - 1, by omega⟩
  unfold spec_PointTimes.f
  rw [spec_PointOk_eq]
  simp only [Option.bind_some]
  cases h : dec x y z with
  | none => rfl
  | some A =>
    obtain ⟨hA, rfl, rfl, rfl⟩ := dec_ok h
    rw [Option.isSome_some, if_pos rfl]
    have main : ∀ (B : Pt) (m : Nat), Ok B → m < 2 ^ 14 → spec_PointTimes.j0 (k + 1) (m : Int) (tr B).1 (tr B).2.1 (tr B).2.2 = some (tr (mul m B)) := by
      intro B m hB hm
      have e2 := spec_times_l0 14 k m B O hB trivial hm (by omega) (by omega)
      rw [ptl_eq 14 m O B trivial hB hm, zero_add] at e2
      simp only [spec_PointTimes.j0, spec_l07Zero.f, Option.bind_some]
      exact e2
    unfold timesO
    rcases tmod_two n 12108 (by decide) with h | ⟨h, h2⟩
    · rw [h, if_neg (by omega), show n % 12108 = ((often n : Nat) : Int) by unfold often; omega]
      exact main A _ hA (by unfold often; omega)
    · rw [h, if_pos (by omega), spec_PointNeg_eq]
      simp only [Option.bind_some]
      rw [wrap_in (by omega) (by omega), show -(n % 12108 - 12108) = ((12108 - often n : Nat) : Int) by unfold often; omega, main (neg A) _ (Ok_neg hA) (by omega), mul_other A hA _ (by omega)]
      congr 3
      unfold often; omega

end Go.Proofs.YtkdmplfldfagnaaDoor.Link
end
section
/- What is proved here: what InGroup answers, of the program and of the reference alike. No conditions. -/
set_option linter.unusedVariables false
set_option linter.unusedSimpArgs false
namespace Go.Proofs.YtkdmplfldfagnaaDoor.Link
open Go.RowKit Go.Proofs.YtkdmplfldfagnaaDoor.Pf Go.Proofs.YtkdmplfldfagnaaDoorW.PrintWords Go.Proofs.YtkdmplfldfagnaaDoor.Crv
open Go.Proofs.YtkdmplfldfagnaaDoor.Crv.Pt
set_option maxRecDepth 4000


def isO : Pt → Bool
  | O => true
  | _ => false
theorem isO_iff (A : Pt) : isO A = true ↔ A = O := by cases A <;> simp [isO]
theorem tr_isO (A : Pt) : (tr A).2.2 = isO A := by cases A <;> rfl
def inG : Option Pt → Bool
  | some A => isO (mul 1009 A)
  | none => false
theorem often_1009 : often 1009 = 1009 := by decide

theorem impl_InGroup_eq (k : Nat) (hk : 41 ≤ k) (x y : Int) (z : Bool) : impl_InGroup.f k x y z = some (inG (dec x y z)) := by
  unfold impl_InGroup.f
  simp only [impl_PointOk_eq, impl_PointTimes_eq k (by omega), Option.bind_some, tr_isO, often_1009]
  cases h : dec x y z with
  | none => rfl
  | some A => rw [Option.isSome_some, if_pos rfl]; rfl

theorem spec_InGroup_eq (k : Nat) (hk : 41 ≤ k) (x y : Int) (z : Bool) : spec_InGroup.f k x y z = some (inG (dec x y z)) := by
  unfold spec_InGroup.f
  simp only [spec_PointOk_eq, spec_PointTimes_eq k (by omega), Option.bind_some, tr_isO, often_1009]
  cases h : dec x y z with
  | none => rfl
  | some A => rw [Option.isSome_some, if_pos rfl]; rfl

end Go.Proofs.YtkdmplfldfagnaaDoor.Link
end
section
namespace Go.Proofs.YtkdmplfldfagnaaDoor.Pf
open Go.RowKit Go.Proofs.YtkdmplfldfagnaaDoorW.PrintWords Go.Proofs.YtkdmplfldfagnaaDoorW.PrintLast Go.Proofs.YtkdmplfldfagnaaDoorW.PrintMore
attribute [local go_sem] max2_int min2_int max_two min_two max_three min_three max_four min_four   -- for this text's walks alone
set_option linter.unusedVariables false
set_option linter.unusedSimpArgs false
/-! ### impl_DigestPair: function 129 -/
def impl_DigestPair.f (a0 : ByteArray) (a1 : ByteArray) : Option (ByteArray) := if a0.size + a1.size ≤ 9223372036854775807 then ((impl_Digest.f (a0 ++ a1)).bind fun t458 => (some t458)) else (none)
set_option maxHeartbeats 8000000 in
set_option maxRecDepth 100000 in
theorem impl_DigestPair.calls (a0 : ByteArray) (a1 : ByteArray) (r : ByteArray) (w : World) (hT : Kp.Tab w) (h : impl_DigestPair.f a0 a1 = some r) :
  Calls Tryd.prog 129 #[.string a0, .string a1] w fun e w' => e = .returned (.string r) ∧ Below w.heap.size w w' := by
 have HT := Aside0.mk hT
 clear hT
 have HB := Aside0.mk (Below.refl w.heap.size w)
 have H : (if a0.size + a1.size ≤ 9223372036854775807 then ((impl_Digest.f (a0 ++ a1)).bind fun t458 => (some t458)) else (none)) = some r := h
 clear h
 by_cases c3 : a0.size + a1.size ≤ 9223372036854775807
 ·rw [if_pos c3] at H
  have c3b0 := eq_true c3
  have c3b1 : decide (a0.size + a1.size ≤ 9223372036854775807) = true := decide_eq_true c3
  try have c3b2 : (9223372036854775807 < a0.size + a1.size) = False := eq_false (Nat.not_lt.2 c3)
  try simp only [ByteArray.size_append] at c3b2
  replace H := Option.bind_eq_some_iff.mp H
  obtain ⟨t458, A40, H⟩ := H
  have A4 := Aside0.mk A40
  clear A40
  obtain rfl := Option.some.inj H
  go_enter Tryd.func129, Tryd.ntmps129
  go_wp2_with (first | ((with_reducible refine gate_callee (f := 47) rfl ?_); refine gL (some 8) Tryd.func47 #[.string (a0 ++ a1)] ?_; (with_reducible refine (impl_Digest.calls (a0 ++ a1) t458 _ (Kp.Tab.below HT.out (bZ HB)) A4.out).mono ?_); rintro e w5 ⟨rfl, hb⟩; refine ⟨_, rfl, ?_⟩; replace HB := bS HB hb; (try clear hb)))
  go_ret
  exact ⟨rR, bZ HB⟩
 ·rw [if_neg c3] at H
  exact absurd H (by simp)
/-! ### spec_DigestPair: function 128 -/
def spec_DigestPair.f (a0 : ByteArray) (a1 : ByteArray) : Option (ByteArray) := if a0.size + a1.size ≤ 9223372036854775807 then ((spec_Digest.f (a0 ++ a1)).bind fun t404 => (some t404)) else (none)
set_option maxHeartbeats 8000000 in
set_option maxRecDepth 100000 in
theorem spec_DigestPair.calls (a0 : ByteArray) (a1 : ByteArray) (r : ByteArray) (w : World) (h : spec_DigestPair.f a0 a1 = some r) :
  Calls Tryd.prog 128 #[.string a0, .string a1] w fun e w' => e = .returned (.string r) ∧ Below w.heap.size w w' := by
 have HB := Aside0.mk (Below.refl w.heap.size w)
 have H : (if a0.size + a1.size ≤ 9223372036854775807 then ((spec_Digest.f (a0 ++ a1)).bind fun t404 => (some t404)) else (none)) = some r := h
 clear h
 by_cases c3 : a0.size + a1.size ≤ 9223372036854775807
 ·rw [if_pos c3] at H
  have c3b0 := eq_true c3
  have c3b1 : decide (a0.size + a1.size ≤ 9223372036854775807) = true := decide_eq_true c3
  try have c3b2 : (9223372036854775807 < a0.size + a1.size) = False := eq_false (Nat.not_lt.2 c3)
  try simp only [ByteArray.size_append] at c3b2
  replace H := Option.bind_eq_some_iff.mp H
  obtain ⟨t404, A40, H⟩ := H
  have A4 := Aside0.mk A40
  clear A40
  obtain rfl := Option.some.inj H
  go_enter Tryd.func128, Tryd.ntmps128
  go_wp2_with (first | ((with_reducible refine gate_callee (f := 41) rfl ?_); refine gL (some 8) Tryd.func41 #[.string (a0 ++ a1)] ?_; (with_reducible refine (spec_Digest.calls (a0 ++ a1) t404 _ A4.out).mono ?_); rintro e w5 ⟨rfl, hb⟩; refine ⟨_, rfl, ?_⟩; replace HB := bS HB hb; (try clear hb)))
  go_ret
  exact ⟨rR, bZ HB⟩
 ·rw [if_neg c3] at H
  exact absurd H (by simp)
end Go.Proofs.YtkdmplfldfagnaaDoor.Pf
end
section
/- What is proved here: the digest of a text is 32 bytes, the same by the program and by the reference; so is the digest of a pair. No conditions but that the texts are no longer than 100000000 bytes. -/
set_option linter.unusedVariables false
set_option linter.unusedSimpArgs false
namespace Go.Proofs.YtkdmplfldfagnaaDoor.Tree
open Go.RowKit Go.Proofs.YtkdmplfldfagnaaDoor.Pf Go.Proofs.YtkdmplfldfagnaaDoorW.PrintWords
def D (t : ByteArray) : ByteArray := Kp.digI t
theorem D_size (t : ByteArray) : (D t).size = 32 := by
  unfold D Kp.digI
  rw [ByteArray.size_extract, Kp.tx_size]
  decide
theorem impl_D {t : ByteArray} (h : t.size ≤ 100000000) : impl_Digest.f t = some (D t) := by
  unfold impl_Digest.f Kp.impl_Digest.f
  rw [if_pos (by omega)]
  rfl
theorem spec_D {t : ByteArray} (h : t.size ≤ 100000000) : spec_Digest.f t = some (D t) := by
  rw [← impl_D h]
  exact (Kp.digest_eq t).symm
theorem impl_pair {a b : ByteArray} (ha : a.size ≤ 40000000) (hb : b.size ≤ 40000000) : impl_DigestPair.f a b = some (D (a ++ b)) := by
  unfold impl_DigestPair.f
  rw [if_pos (by omega), impl_D (by rw [ByteArray.size_append]; omega)]
  rfl
theorem spec_pair {a b : ByteArray} (ha : a.size ≤ 40000000) (hb : b.size ≤ 40000000) : spec_DigestPair.f a b = some (D (a ++ b)) := by
  unfold spec_DigestPair.f
  rw [if_pos (by omega), spec_D (by rw [ByteArray.size_append]; omega)]
  rfl
attribute [irreducible] D
end Go.Proofs.YtkdmplfldfagnaaDoor.Tree
end
section
/- What is proved here: what HashPoint and SignWith answer, of the program and of the reference alike. No conditions but that the text is no longer than 2^20 bytes. -/
set_option linter.unusedVariables false
set_option linter.unusedSimpArgs false
namespace Go.Proofs.YtkdmplfldfagnaaDoor.Sgn
open Go.RowKit Go.Proofs.YtkdmplfldfagnaaDoor.Pf Go.Proofs.YtkdmplfldfagnaaDoorW.PrintWords Go.Proofs.YtkdmplfldfagnaaDoor.Crv Go.Proofs.YtkdmplfldfagnaaDoor.Link
open Go.Proofs.YtkdmplfldfagnaaDoor.Tree (D D_size impl_D spec_D)
open Go.Proofs.YtkdmplfldfagnaaDoor.Crv.Pt
/-- the root that is taken -/
def sroot (c : F) : F := if I (0 - root c) < I (root c) then 0 - root c else root c
theorem impl_root_eq (k : Nat) (hk : 15 ≤ k) (a : Int) : impl_FpRoot.f k a = some (if root (R a) * root (R a) = R a then (I (sroot (R a)), true) else (0, false)) := by
  have h := impl_power_eq k a 3027 12 (by decide) (by decide) (by omega)
  rw [show ((3027 : Nat) : Int) = 3027 from rfl] at h
  unfold impl_FpRoot.f
  rw [h]
  simp only [Option.bind_some, impl_FpMul_eq, impl_FpOf_eq, R_I]
  rw [show pwl 12 (R a) 3027 1 = root (R a) from rfl]
  have hw : wrap64 (-I (root (R a))) = -I (root (R a)) := by
    have h1 := I_nn (root (R a))
    have h2 := I_lt (root (R a))
    exact wrap_in (by omega) (by omega)
  have hn : R (-I (root (R a))) = 0 - root (R a) := by
    have := R_sub 0 (I (root (R a)))
    rw [R_zero, R_I, Int.zero_sub] at this
    exact this
  by_cases c : root (R a) * root (R a) = R a
  · rw [if_pos c, c, if_pos rfl, hw, hn]
    unfold mn sroot
    by_cases d : I (0 - root (R a)) < I (root (R a))
    · rw [if_pos d, if_pos d]
    · rw [if_neg d, if_neg d]
  · rw [if_neg c, if_neg (fun h => c (I_inj h))]
theorem spec_root_eq (k : Nat) (hk : 15 ≤ k) (a : Int) : spec_FpRoot.f k a = some (if root (R a) * root (R a) = R a then (I (sroot (R a)), true) else (0, false)) := by
  have h := spec_power_eq k a 3027 12 (by decide) (by decide) (by omega)
  rw [show ((3027 : Nat) : Int) = 3027 from rfl] at h
  unfold spec_FpRoot.f
  rw [h]
  simp only [Option.bind_some, spec_FpMul_eq, spec_FpOf_eq, spec_FpSub_eq, R_I, R_zero]
  rw [show pwl 12 (R a) 3027 1 = root (R a) from rfl]
  by_cases c : root (R a) * root (R a) = R a
  · rw [if_pos c, c, if_pos rfl]
    unfold sroot
    by_cases d : I (0 - root (R a)) < I (root (R a))
    · rw [if_pos d, if_pos d]
    · rw [if_neg d, if_neg d]
  · rw [if_neg c, if_neg (fun h => c (I_inj h))]
theorem sroot_sq (c : F) (h : root c * root c = c) : sroot c * sroot c = c := by
  unfold sroot
  split
  · grobner
  · exact h
theorem base_dec : dec 8445 859 false = some Base := by
  have h := dec_tr Base Ok_Base
  have e : tr Base = ((8445 : Int), (859 : Int), false) := by decide
  rw [e] at h
  exact h
theorem impl_ScOf_eq (n : Int) : impl_ScOf.f n = some (n % 1009) := by
  unfold impl_ScOf.f impl_remainder.f
  rw [if_neg (by decide)]
  rcases tmod_two n 1009 (by decide) with h | ⟨h, h2⟩
  · rw [h, if_neg (by omega)]; rfl
  · rw [h, if_pos (by omega), wrap_in (by omega) (by omega)]
    simp
theorem spec_ScOf_eq (n : Int) : spec_ScOf.f n = some (n % 1009) := by
  unfold spec_ScOf.f
  rcases tmod_two n 1009 (by decide) with h | ⟨h, h2⟩
  · rw [h, if_neg (by omega)]
  · rw [h, if_pos (by omega), wrap_in (by omega) (by omega)]
    simp
/-- the number that the first four bytes of a digest make -/
def hx (d : ByteArray) : Int := Go.bits .or .i64 (Go.bits .or .i64 (Go.bits .or .i64 (wrap64 ((wrap64 (bt d 0)) * 16777216)) (wrap64 ((wrap64 (bt d 1)) * 65536))) (wrap64 ((wrap64 (bt d 2)) * 256))) (wrap64 (bt d 3))
theorem hx_def (d : ByteArray) : hx d = Go.bits .or .i64 (Go.bits .or .i64 (Go.bits .or .i64 (wrap64 ((wrap64 (bt d 0)) * 16777216)) (wrap64 ((wrap64 (bt d 1)) * 65536))) (wrap64 ((wrap64 (bt d 2)) * 256))) (wrap64 (bt d 3)) := rfl
def hX (t : ByteArray) (n : Nat) : F := R (hx (D (strOfNums [(n : Int) % 256] ++ t)))
def cv (x : F) : F := x * x * x + x
theorem hX_def (t : ByteArray) (n : Nat) : hX t n = R (hx (D (strOfNums [(n : Int) % 256] ++ t))) := rfl
theorem cv_def (x : F) : cv x = x * x * x + x := rfl
def hp : Nat → Nat → ByteArray → Pt
  | 0, _, _ => Base
  | f + 1, n, t => if root (cv (hX t n)) * root (cv (hX t n)) = cv (hX t n) then (if isO (mul 12 (P (hX t n) (sroot (cv (hX t n))))) = true then hp f (n + 1) t else mul 12 (P (hX t n) (sroot (cv (hX t n))))) else hp f (n + 1) t
theorem on_root {x : F} (h : root (cv x) * root (cv x) = cv x) : Ok (P x (sroot (cv x))) := sroot_sq (cv x) h
theorem times_12 {x : F} (h : root (cv x) * root (cv x) = cv x) : timesO (often 12) (dec (I x) (I (sroot (cv x))) false) = mul 12 (P x (sroot (cv x))) := by
  have e := dec_tr (P x (sroot (cv x))) (on_root h)
  rw [show (tr (P x (sroot (cv x)))).1 = I x from rfl, show (tr (P x (sroot (cv x)))).2.1 = I (sroot (cv x)) from rfl, show (tr (P x (sroot (cv x)))).2.2 = false from rfl] at e
  rw [e, show often 12 = 12 by decide]
  rfl
theorem one_size (d : Int) : (strOfNums [d]).size = 1 := by simp [strOfNums, ByteArray.size]
theorem tr_eta (A : Pt) : ((tr A).1, (tr A).2.1, (tr A).2.2) = tr A := by cases A <;> rfl
theorem impl_hp_l0 (t : ByteArray) (ht : t.size ≤ 1048576) (f : Nat) : ∀ (n k : Nat), n + f = 64 → f + 60 ≤ k → impl_HashPoint.l0 k t (n : Int) = some (tr (hp f n t)) := by
  induction f with
  | zero =>
    intro n k hn hk
    obtain ⟨k, rfl⟩ : ∃ m, k = m + 1 := ⟨k - 1, by omega⟩
    rw [impl_HashPoint.l0, if_neg (by omega)]
    rfl
  | succ f ih =>
    intro n k hn hk
    obtain ⟨k, rfl⟩ : ∃ m, k = m + 1 := ⟨k - 1, by omega⟩
    have hD := D_size (strOfNums [(n : Int) % 256] ++ t)
    rw [impl_HashPoint.l0, if_pos (by omega), Option.bind_some, if_pos (by rw [one_size]; omega), impl_D (by rw [ByteArray.size_append, one_size]; omega), Option.bind_some, if_pos (by rw [hD]; decide), if_pos (by rw [hD]; decide), if_pos (by rw [hD]; decide), if_pos (by rw [hD]; decide),
      ← hx_def, impl_FpOf_eq, ← hX_def, Option.bind_some, impl_curve_eq, R_I, ← cv_def, Option.bind_some, impl_root_eq k (by omega), R_I, Option.bind_some, wrap_in (i := (n : Int) + 1) (by omega) (by omega), show (n : Int) + 1 = ((n + 1 : Nat) : Int) by omega, ih (n + 1) k (by omega) (by omega), hp]
    generalize hX t n = X
    generalize hp f (n + 1) t = Q
    by_cases c : root (cv X) * root (cv X) = cv X
    · rw [if_pos c, if_pos c]
      dsimp only
      rw [if_pos rfl, impl_PointTimes_eq k (by omega), times_12 c, Option.bind_some, tr_isO]
      by_cases d : isO (mul 12 (P X (sroot (cv X)))) = true
      · rw [if_pos d, if_pos d]
      · rw [if_neg d, if_neg d, ← tr_isO, tr_eta]
    · simp only [if_neg c, Bool.false_eq_true, if_false]
theorem spec_hp_l0 (t : ByteArray) (ht : t.size ≤ 1048576) (f : Nat) : ∀ (n k : Nat), n + f = 64 → f + 60 ≤ k → spec_HashPoint.l0 k t (n : Int) = some (tr (hp f n t)) := by
  induction f with
  | zero =>
    intro n k hn hk
    obtain ⟨k, rfl⟩ : ∃ m, k = m + 1 := ⟨k - 1, by omega⟩
    rw [spec_HashPoint.l0, if_neg (by omega)]
    rfl
  | succ f ih =>
    intro n k hn hk
    obtain ⟨k, rfl⟩ : ∃ m, k = m + 1 := ⟨k - 1, by omega⟩
    have hD := D_size (strOfNums [(n : Int) % 256] ++ t)
    rw [spec_HashPoint.l0, if_pos (by omega), Option.bind_some, if_pos (by rw [one_size]; omega), spec_D (by rw [ByteArray.size_append, one_size]; omega), Option.bind_some, if_pos (by rw [hD]; decide), if_pos (by rw [hD]; decide), if_pos (by rw [hD]; decide), if_pos (by rw [hD]; decide),
      ← hx_def, spec_FpOf_eq, ← hX_def, Option.bind_some, spec_curve_eq, R_I, ← cv_def, Option.bind_some, spec_root_eq k (by omega), R_I, Option.bind_some, wrap_in (i := (n : Int) + 1) (by omega) (by omega), show (n : Int) + 1 = ((n + 1 : Nat) : Int) by omega, ih (n + 1) k (by omega) (by omega), hp]
    generalize hX t n = X
    generalize hp f (n + 1) t = Q
    by_cases c : root (cv X) * root (cv X) = cv X
    · rw [if_pos c, if_pos c]
      dsimp only
      rw [spec_PointTimes_eq k (by omega), times_12 c, Option.bind_some, if_pos rfl, tr_isO]
      by_cases d : isO (mul 12 (P X (sroot (cv X)))) = true
      · rw [if_pos d, if_pos d]
      · rw [if_neg d, if_neg d, ← tr_isO, tr_eta]
    · simp only [if_neg c, spec_PointTimes_eq k (by omega), Option.bind_some, Bool.false_eq_true, if_false]
/-- each is a multiple of Base, and none is Zero -/
theorem hp_in (t : ByteArray) : ∀ f n, ∃ j, j < 1009 ∧ j ≠ 0 ∧ hp f n t = mul j Base
  | 0, n => ⟨1, by decide, by decide, (mul_one Base).symm⟩
  | f + 1, n => by
    rw [hp]
    split
    next c =>
      split
      next d => exact hp_in t f (n + 1)
      next d =>
        obtain ⟨j, hj, e⟩ := twelve_in _ (on_root c)
        refine ⟨j, hj, ?_, e⟩
        intro h0
        rw [e, h0] at d
        exact d rfl
    next c => exact hp_in t f (n + 1)
attribute [irreducible] hp
def H (t : ByteArray) : Pt := hp 64 0 t
theorem impl_H (t : ByteArray) (ht : t.size ≤ 1048576) (k : Nat) (hk : 130 ≤ k) : impl_HashPoint.f k t = some (tr (H t)) := by
  have h := impl_hp_l0 t ht 64 0 k (by omega) (by omega)
  unfold impl_HashPoint.f H
  exact h
theorem spec_H (t : ByteArray) (ht : t.size ≤ 1048576) (k : Nat) (hk : 130 ≤ k) : spec_HashPoint.f k t = some (tr (H t)) := by
  have h := spec_hp_l0 t ht 64 0 k (by omega) (by omega)
  unfold spec_HashPoint.f H
  exact h
theorem H_in (t : ByteArray) : ∃ j, j < 1009 ∧ j ≠ 0 ∧ H t = mul j Base := by
  unfold H
  exact hp_in t 64 0
theorem Ok_H (t : ByteArray) : Ok (H t) := by
  obtain ⟨j, _, _, e⟩ := H_in t
  rw [e]
  exact Ok_mul Ok_Base j
theorem often_sc (n : Int) : often (n % 1009) = (n % 1009).toNat := by unfold often; omega
def sw (n : Int) (t : ByteArray) : Pt := mul (n % 1009).toNat (H t)
theorem impl_sw (n : Int) (t : ByteArray) (ht : t.size ≤ 1048576) (k : Nat) (hk : 130 ≤ k) : impl_SignWith.f k n t = some (tr (sw n t)) := by
  simp only [impl_SignWith.f, impl_ScOf_eq, impl_H t ht k hk, Option.bind_some, impl_PointTimes_eq k (by omega), dec_tr _ (Ok_H t), timesO, often_sc, sw]
theorem spec_sw (n : Int) (t : ByteArray) (ht : t.size ≤ 1048576) (k : Nat) (hk : 130 ≤ k) : spec_SignWith.f k n t = some (tr (sw n t)) := by
  simp only [spec_SignWith.f, spec_ScOf_eq, spec_H t ht k hk, Option.bind_some, spec_PointTimes_eq k (by omega), dec_tr _ (Ok_H t), timesO, often_sc, sw]
theorem eqPoint_same (x y : Int) (z : Bool) : laws_eqPoint.f x y z x y z = some true := by simp [laws_eqPoint.f]
end Go.Proofs.YtkdmplfldfagnaaDoor.Sgn
end
section
/- What is proved here: what SignBits answers, of the program and of the reference alike. No conditions but that the text is no longer than 2^20 bytes. -/
set_option linter.unusedVariables false
set_option linter.unusedSimpArgs false
namespace Go.Proofs.YtkdmplfldfagnaaDoor.Sgn
open Go.RowKit Go.Proofs.YtkdmplfldfagnaaDoor.Pf Go.Proofs.YtkdmplfldfagnaaDoorW.PrintWords Go.Proofs.YtkdmplfldfagnaaDoor.Crv Go.Proofs.YtkdmplfldfagnaaDoor.Link
open Go.Proofs.YtkdmplfldfagnaaDoor.Crv.Pt
theorem spec_ScAdd_eq (a b : Int) : spec_ScAdd.f a b = some ((a % 1009 + b % 1009) % 1009) := by
  simp only [spec_ScAdd.f, spec_ScOf_eq, Option.bind_some]
  rw [wrap_in (by omega) (by omega)]
theorem mul_H_1009 (t : ByteArray) : mul 1009 (H t) = O := by
  obtain ⟨j, _, _, e⟩ := H_in t
  rw [e, ← mul_mul Ok_Base, Nat.mul_comm, mul_mul Ok_Base, order, mul_O]
theorem mul_H_mod (t : ByteArray) (n : Nat) : mul n (H t) = mul (n % 1009) (H t) := by
  have h : mul n (H t) = mul (1009 * (n / 1009) + n % 1009) (H t) := by rw [Nat.div_add_mod]
  rw [h, mul_add (Ok_H t), mul_mul (Ok_H t), mul_H_1009, mul_O, zero_add]
def jb (n i : Nat) : Bool := decide (n / 2 ^ i % 2 = 1)
theorem bit_dec : ∀ n : Nat, n < 256 → ∀ i : Nat, i < 8 → 0 ≤ IntKind.u64.wrap (i : Int) ∧ (Go.bits .and .i64 (shr .i64 (n : Int) (IntKind.u64.wrap (i : Int))) 1 = 1 ↔ jb n i = true) ∧ (Int.tmod (shr .i64 (n : Int) (IntKind.u64.wrap (i : Int))) 2 = 1 ↔ jb n i = true) := by decide +kernel
/-- the sum of the secrets that are told -/
def tot (n : Nat) : List Int → Nat → Nat → Nat
  | [], _, S => S
  | x :: r, i, S => tot n r (i + 1) (if jb n i then S + (x % 1009).toNat else S)
theorem rdI (xs : List Int) (n : Nat) (h : n < xs.length) : rd xs (n : Int) = xs[n] := by
  unfold rd
  rw [Int.toNat_natCast, List.getD_eq_getElem?_getD, List.getElem?_eq_getElem h]
  rfl
theorem impl_sb_l0 (n : Nat) (hn : n < 256) (t : ByteArray) (ht : t.size ≤ 1048576) (xs : List Int) (hl : xs.length = 8) : ∀ (d i k : Nat) (S : Nat), i + d = 8 → d + 160 ≤ k →
    impl_SignBits.l0 k (n : Int) t xs (xs.length : Int) (i : Int) (tr (mul S (H t))).1 (tr (mul S (H t))).2.1 (tr (mul S (H t))).2.2 = some (tr (mul (tot n (xs.drop i) i S) (H t)))
  | 0, i, k, S, hi, hk => by
    obtain ⟨k, rfl⟩ : ∃ m, k = m + 1 := ⟨k - 1, by omega⟩
    rw [impl_SignBits.l0, if_neg (by omega), List.drop_of_length_le (by omega)]
    rfl
  | d + 1, i, k, S, hi, hk => by
    obtain ⟨k, rfl⟩ : ∃ m, k = m + 1 := ⟨k - 1, by omega⟩
    have h1 : i < xs.length := by omega
    obtain ⟨b0, b1, _⟩ := bit_dec n hn i (by omega)
    rw [impl_SignBits.l0, if_pos (by omega), if_pos (by omega), if_pos (by omega), if_pos b0, wrap_in (by omega) (by omega), show (i : Int) + 1 = ((i + 1 : Nat) : Int) by omega, List.drop_eq_getElem_cons h1]
    by_cases c : jb n i = true
    · rw [if_pos (b1.2 c), impl_sw _ t ht k (by omega), Option.bind_some, impl_PointAdd_eq k (by omega), Option.bind_some, dec_tr _ (Ok_mul (Ok_H t) S), sw, dec_tr _ (Ok_mul (Ok_H t) _), rdI xs i h1]
      simp only [addO]
      rw [← mul_add (Ok_H t), impl_sb_l0 n hn t ht xs hl d (i + 1) k _ (by omega) (by omega), tot, if_pos c]
    · rw [if_neg (fun e => c (b1.1 e)), impl_sb_l0 n hn t ht xs hl d (i + 1) k _ (by omega) (by omega), tot, if_neg c]
theorem spec_sb_l0 (n : Nat) (hn : n < 256) (t : ByteArray) (ht : t.size ≤ 1048576) (xs : List Int) (hl : xs.length = 8) : ∀ (d i k : Nat) (S : Nat), i + d = 8 → d + 160 ≤ k →
    spec_SignBits.l0 k (n : Int) t xs ((S % 1009 : Nat) : Int) (i : Int) = some (tr (mul (tot n (xs.drop i) i S) (H t)))
  | 0, i, k, S, hi, hk => by
    obtain ⟨k, rfl⟩ : ∃ m, k = m + 1 := ⟨k - 1, by omega⟩
    rw [spec_SignBits.l0, if_neg (by omega), List.drop_of_length_le (by omega), spec_sw _ t ht k (by omega), Option.bind_some]
    have e : sw ((S % 1009 : Nat) : Int) t = mul S (H t) := by
      unfold sw
      rw [mul_H_mod t S]
      congr 1
      omega
    rw [e]
    rfl
  | d + 1, i, k, S, hi, hk => by
    obtain ⟨k, rfl⟩ : ∃ m, k = m + 1 := ⟨k - 1, by omega⟩
    have h1 : i < xs.length := by omega
    obtain ⟨b0, _, b1⟩ := bit_dec n hn i (by omega)
    rw [spec_SignBits.l0, if_pos (by omega), if_pos b0, wrap_in (by omega) (by omega), show (i : Int) + 1 = ((i + 1 : Nat) : Int) by omega, List.drop_eq_getElem_cons h1]
    by_cases c : jb n i = true
    · have e : (((S % 1009 : Nat) : Int) % 1009 + xs[i] % 1009) % 1009 = (((S + (xs[i] % 1009).toNat) % 1009 : Nat) : Int) := by omega
      rw [if_pos (b1.2 c), if_pos (by omega), spec_ScAdd_eq, Option.bind_some, rdI xs i h1, e, spec_sb_l0 n hn t ht xs hl d (i + 1) k _ (by omega) (by omega), tot, if_pos c]
    · rw [if_neg (fun e => c (b1.1 e)), spec_sb_l0 n hn t ht xs hl d (i + 1) k _ (by omega) (by omega), tot, if_neg c]
theorem secrets_loop (k : Nat) : ∀ n xs i, spec_SecretsOf.l0 k n xs i = impl_SecretsOf.l0 k n xs i := by
  induction k with
  | zero => intros; rfl
  | succ k ih => intro n xs i; simp only [spec_SecretsOf.l0, impl_SecretsOf.l0, ih]
theorem secrets_same (k : Nat) (n : Int) : spec_SecretsOf.f (k + 1) n = impl_SecretsOf.f k n := by
  unfold spec_SecretsOf.f impl_SecretsOf.f impl_remainder.f
  by_cases h : Int.tmod n 1000 < 0
  · simp [h, spec_SecretsOf.j0, secrets_loop]
  · simp [h, spec_SecretsOf.j0, secrets_loop]
theorem secrets_some (n : Int) : ∃ xs, xs.length = 8 ∧ impl_SecretsOf.f 9 n = some xs := by
  have h : ∀ m, ∃ xs, xs.length = 8 ∧ impl_SecretsOf.l0 9 m [] 0 = some xs := by
    intro m
    simp [impl_SecretsOf.l0, wrap64]
  unfold impl_SecretsOf.f impl_remainder.f
  by_cases h1 : Int.tmod n 1000 < 0
  · obtain ⟨xs, h2, h3⟩ := h (wrap64 (Int.tmod n 1000 + 1000))
    exact ⟨xs, h2, by simp [h1, h3]⟩
  · obtain ⟨xs, h2, h3⟩ := h (Int.tmod n 1000)
    exact ⟨xs, h2, by simp [h1, h3]⟩
theorem secrets_ev (n : Int) : ∃ xs, xs.length = 8 ∧ ∀ k, 10 ≤ k → impl_SecretsOf.f k n = some xs ∧ spec_SecretsOf.f k n = some xs := by
  obtain ⟨xs, hl, hx⟩ := secrets_some n
  refine ⟨xs, hl, fun k hk => ⟨at_rounds (g := fun k => impl_SecretsOf.f k n) (fun k => impl_SecretsOf.mono n k) (k := 9) (by omega) hx, ?_⟩⟩
  obtain ⟨k, rfl⟩ : ∃ m, k = m + 1 := ⟨k - 1, by omega⟩
  rw [secrets_same]
  exact at_rounds (g := fun k => impl_SecretsOf.f k n) (fun k => impl_SecretsOf.mono n k) (k := 9) (by omega) hx
theorem isBits_eq (a : Int) : impl_isBits.f a = some (decide (0 ≤ a ∧ a ≤ 255)) := by
  unfold impl_isBits.f
  by_cases h : a ≥ 0
  · rw [if_pos h]; congr 1; apply decide_eq_decide.2; omega
  · rw [if_neg h, decide_eq_false (by omega)]
theorem l01In_eq (a b c : Int) : spec_l01In.f a b c = some (decide (b ≤ a ∧ a ≤ c)) := by
  unfold spec_l01In.f
  by_cases h : a ≥ b
  · rw [if_pos h]; congr 1; apply decide_eq_decide.2; omega
  · rw [if_neg h, decide_eq_false (by omega)]
/-- what SignBits answers -/
def sbits (xs : List Int) (n : Int) (t : ByteArray) : Pt := if 0 ≤ n ∧ n ≤ 255 then mul (tot n.toNat xs 0 0) (H t) else O
theorem signbits_eq (a n : Int) (t : ByteArray) (ht : t.size ≤ 1048576) : ∃ xs : List Int, xs.length = 8 ∧ (∀ k, 10 ≤ k → impl_SecretsOf.f k a = some xs) ∧ ∀ k, 300 ≤ k → impl_SignBits.f k a n t = some (tr (sbits xs n t)) ∧ spec_SignBits.f k a n t = some (tr (sbits xs n t)) := by
  obtain ⟨xs, hl, hx⟩ := secrets_ev a
  refine ⟨xs, hl, fun k hk => (hx k hk).1, fun k hk => ?_⟩
  obtain ⟨x1, x2⟩ := hx k (by omega)
  unfold sbits
  by_cases c : 0 ≤ n ∧ n ≤ 255
  · obtain ⟨m, rfl⟩ : ∃ m : Nat, n = (m : Int) := ⟨n.toNat, by omega⟩
    have e1 := impl_sb_l0 m (by omega) t ht xs hl 8 0 k 0 (by omega) (by omega)
    have e2 := spec_sb_l0 m (by omega) t ht xs hl 8 0 k 0 (by omega) (by omega)
    rw [List.drop_zero] at e1 e2
    rw [if_pos c, Int.toNat_natCast]
    constructor
    · unfold impl_SignBits.f
      rw [isBits_eq, Option.bind_some, decide_eq_true c, if_pos rfl, x1, Option.bind_some]
      exact e1
    · unfold spec_SignBits.f
      rw [l01In_eq, Option.bind_some, decide_eq_true c, if_pos rfl, x2, Option.bind_some]
      exact e2
  · rw [if_neg c]
    constructor
    · unfold impl_SignBits.f
      rw [isBits_eq, Option.bind_some, decide_eq_false c, if_neg (by decide)]
      rfl
    · unfold spec_SignBits.f
      rw [l01In_eq, Option.bind_some, decide_eq_false c, if_neg (by decide)]
      rfl
end Go.Proofs.YtkdmplfldfagnaaDoor.Sgn
end
section
/- What is proved here: the program's SignBits and the reference's answer the same, whatever they are told. No conditions. -/
set_option linter.unusedVariables false
set_option linter.unusedSimpArgs false
namespace Go.Proofs.YtkdmplfldfagnaaDoor.Pure
open Go.RowKit Go.Proofs.YtkdmplfldfagnaaDoor.Pf Go.Proofs.YtkdmplfldfagnaaDoorW.PrintWords Go.Proofs.YtkdmplfldfagnaaDoor.Crv Go.Proofs.YtkdmplfldfagnaaDoor.Link Go.Proofs.YtkdmplfldfagnaaDoor.Sgn
theorem FnExactSignBits : laws_FnExactSignBits.Pure := by
  intro a n t _ _ _
  refine ⟨300, ?_⟩
  unfold laws_FnExactSignBits.f
  by_cases c : (t.size : Int) > 1048576
  · rw [if_pos c]
  rw [if_neg c]
  obtain ⟨xs, _, _, h⟩ := signbits_eq a n t (by omega)
  obtain ⟨e1, e2⟩ := h 300 (by decide)
  simp only [e1, e2, Option.bind_some, eqPoint_same, if_true]
end Go.Proofs.YtkdmplfldfagnaaDoor.Pure
end
section
/- What is proved here: a value of a Go type that reads as data opens into the print's own kinds (Kd), for whole numbers, bools, strings, slices and structs. No conditions. -/
set_option linter.unusedVariables false
set_option linter.unusedSimpArgs false
namespace Go.Proofs.YtkdmplfldfagnaaDoor.Open
open Go.RowKit Go.Proofs.YtkdmplfldfagnaaDoorW.PrintWords Go.ChangeShapes Go.WideShapes

def Opens (P : Program) (t : TypeId) {α : Type} (d : Kd α) (g : α → Prop) : Prop :=
  ∀ {H : Type} (enc : TypeId × Value → H) (w : World) (base : Nat) (spare : Nat → Bool) (held : Bool) (fuel : Nat) (cs : List Value) (x : DataW H × List MemPlace),
    DataW.trod enc P w base spare held fuel t cs = some x → ∃ a, d.K w a cs ∧ g a

theorem list_of {α : Type} {p : Nat → α → Prop} : ∀ n, (∀ i, i < n → ∃ y, p i y) → ∃ ys : List α, ys.length = n ∧ ∀ i y, ys[i]? = some y → p i y
  | 0, _ => ⟨[], rfl, fun i y h => by simp at h⟩
  | n + 1, h => by
    obtain ⟨ys, hl, hy⟩ := list_of n (fun i hi => h i (by omega))
    obtain ⟨y, hy'⟩ := h n (by omega)
    refine ⟨ys ++ [y], by simp [hl], fun i z hz => ?_⟩
    rcases Nat.lt_or_ge i n with hi | hi
    · rw [List.getElem?_append_left (by omega)] at hz
      exact hy i z hz
    · have h1 := (List.getElem?_eq_some_iff.1 hz).1
      rw [List.length_append, List.length_singleton] at h1
      have h2 : i = n := by omega
      subst h2
      rw [List.getElem?_append_right (by omega), hl, Nat.sub_self] at hz
      simp at hz
      subst hz
      exact hy'

section
variable {P : Program} {t : TypeId}
theorem opens_int {k : IntKind} (h : P.underlying t = some (.int k)) : Opens P t (Kd.int k) (fun n => (Lit.int k n).wf = true) := by
  intro H enc w base spare held fuel cs x hx
  obtain ⟨n, rfl, _, hw⟩ := DataW.trod_int h hx
  exact ⟨n, rfl, hw⟩
theorem opens_bool (h : P.underlying t = some .bool) : Opens P t Kd.bool (fun _ => True) := by
  intro H enc w base spare held fuel cs x hx
  obtain ⟨b, hb⟩ : ∃ b, cs = [.bool b] := by
    cases fuel with
    | zero => simp [DataW.trod] at hx
    | succ n =>
      unfold DataW.trod at hx
      rw [h] at hx
      split at hx <;> simp_all
  exact ⟨b, hb, trivial⟩
theorem opens_string (h : P.underlying t = some .string) : Opens P t Kd.string (fun s => s.size ≤ maxLen) := by
  intro H enc w base spare held fuel cs x hx
  obtain ⟨n, rfl, _, hw⟩ := DataW.trod_string h hx
  exact ⟨n, rfl, hw⟩
theorem opens_slice {e : TypeId} {α : Type} {d : Kd α} {g : α → Prop} (ht : P.underlying t = some (.slice e)) (hc : P.cellsOf e = d.sz) (he : Opens P e d g) :
    Opens P t (Kd.slice e d) (fun xs => xs.length ≤ 9223372036854775807 ∧ ∀ x ∈ xs, g x) := by
  intro H enc w base spare held fuel cs x h
  rcases Go.Deep.open_slice ht h with ⟨rfl, _⟩ | ⟨a, len, cap, m, n, D, Pl, rfl, hb, hl, hm, hmm, _, hx⟩
  · exact ⟨[], ⟨none, 0, rfl, Nat.le_refl _, Kd.C_nil d w⟩, by simp, fun x hx => by cases hx⟩
  · have hlm : len ≤ m := by rw [hmm]; split <;> omega
    obtain ⟨ys, hy1, hy2⟩ := list_of (p := fun i y => ∃ c, w.cells? base (a.add (i * P.cellsOf e)) (P.cellsOf e) = some c ∧ d.K w y c ∧ g y) len (fun i hi => by
      obtain ⟨c, h1, h2⟩ := hx i (by omega)
      obtain ⟨y, h3, h4⟩ := he _ _ _ _ _ _ _ _ h2
      exact ⟨y, c, h1, h3, h4⟩)
    unfold maxLen at hm
    refine ⟨ys, ⟨some a, cap, by rw [hy1], by omega, rfl, by omega, fun _ => ⟨a, rfl, fun j p hp => ?_⟩⟩, by omega, fun y hy => ?_⟩
    · obtain ⟨c, h1, h2, h3⟩ := hy2 j p hp
      obtain ⟨_, hlen, hcell⟩ := World.cells?_some h1
      refine ⟨c, by rw [hlen, hc], h2, fun i u hu => ?_⟩
      have hi := (List.getElem?_eq_some_iff.1 hu).1
      have := hcell i (by omega)
      rw [Go.Deep.add_add, hc] at this
      rw [this, hu]
    · obtain ⟨i, hi⟩ := List.mem_iff_getElem?.1 hy
      obtain ⟨c, h1, h2, h3⟩ := hy2 i y hi
      exact h3
theorem opens_iso {α β : Type} {d : Kd α} {g : α → Prop} (f : β → α) (mk : α → β) (hf : ∀ a, f (mk a) = a) (h : Opens P t d g) : Opens P t (Kd.iso d f) (fun x => g (f x)) := by
  intro H enc w base spare held fuel cs x hx
  obtain ⟨a, h1, h2⟩ := h enc w base spare held fuel cs x hx
  exact ⟨mk a, by show d.K w (f (mk a)) cs; rw [hf]; exact h1, by show g (f (mk a)); rw [hf]; exact h2⟩
theorem struct_field {fs : Array Field} {H : Type} {enc : TypeId × Value → H} {w : World} {base : Nat} {spare : Nat → Bool} {held : Bool} {n : Nat} {cs : List Value} {xs : List (DataW H × List MemPlace)} (hl : xs.length = fs.size)
    (hf : ∀ (i : Nat) (f : Field), fs[i]? = some f → DataW.trod enc P w base spare held n f.type ((cs.drop f.offset).take (P.cellsOf f.type)) = xs[i]?) {i : Nat} {f : Field} (hi : fs[i]? = some f) {α : Type} {d : Kd α} {g : α → Prop} (ho : Opens P f.type d g) :
    ∃ a, d.K w a ((cs.drop f.offset).take (P.cellsOf f.type)) ∧ g a := by
  have h1 := hf i f hi
  have h2 : i < xs.length := by rw [hl]; exact (Array.getElem?_eq_some_iff.1 hi).1
  rw [List.getElem?_eq_getElem h2] at h1
  exact ho _ _ _ _ _ _ _ _ h1
theorem opens_struct1 {f0 : Field} {α : Type} {d0 : Kd α} {g0 : α → Prop} (ht : P.underlying t = some (.struct #[f0])) (h0 : Opens P f0.type d0 g0)
    (s0 : P.cellsOf f0.type = d0.sz) (o0 : f0.offset = 0) (st : P.cellsOf t = d0.sz) : Opens P t d0 g0 := by
  intro H enc w base spare held fuel cs x hx
  obtain ⟨xs, n, _, _, hlen, hl, hf⟩ := DataW.trod_struct ht hx
  obtain ⟨a, ha, hg⟩ := struct_field hl hf (i := 0) (f := f0) rfl h0
  rw [o0, s0, List.drop_zero, List.take_of_length_le (by omega)] at ha
  exact ⟨a, ha, hg⟩
theorem opens_struct2 {f0 f1 : Field} {α β : Type} {d0 : Kd α} {d1 : Kd β} {g0 : α → Prop} {g1 : β → Prop} (ht : P.underlying t = some (.struct #[f0, f1])) (h0 : Opens P f0.type d0 g0) (h1 : Opens P f1.type d1 g1)
    (s0 : P.cellsOf f0.type = d0.sz) (s1 : P.cellsOf f1.type = d1.sz) (o0 : f0.offset = 0) (o1 : f1.offset = d0.sz) (st : P.cellsOf t = d0.sz + d1.sz) : Opens P t (Kd.pair d0 d1) (fun x => g0 x.1 ∧ g1 x.2) := by
  intro H enc w base spare held fuel cs x hx
  obtain ⟨xs, n, _, _, hlen, hl, hf⟩ := DataW.trod_struct ht hx
  obtain ⟨a, ha, ga⟩ := struct_field hl hf (i := 0) (f := f0) rfl h0
  obtain ⟨b, hb, gb⟩ := struct_field hl hf (i := 1) (f := f1) rfl h1
  rw [o0, s0, List.drop_zero] at ha
  rw [o1, s1, List.take_of_length_le (by rw [List.length_drop]; omega)] at hb
  exact ⟨(a, b), ⟨_, _, (List.take_append_drop d0.sz cs).symm, ha, hb⟩, ga, gb⟩
theorem opens_struct3 {f0 f1 f2 : Field} {α β γ : Type} {d0 : Kd α} {d1 : Kd β} {d2 : Kd γ} {g0 : α → Prop} {g1 : β → Prop} {g2 : γ → Prop} (ht : P.underlying t = some (.struct #[f0, f1, f2])) (h0 : Opens P f0.type d0 g0) (h1 : Opens P f1.type d1 g1) (h2 : Opens P f2.type d2 g2)
    (s0 : P.cellsOf f0.type = d0.sz) (s1 : P.cellsOf f1.type = d1.sz) (s2 : P.cellsOf f2.type = d2.sz) (o0 : f0.offset = 0) (o1 : f1.offset = d0.sz) (o2 : f2.offset = d0.sz + d1.sz) (st : P.cellsOf t = d0.sz + d1.sz + d2.sz) :
    Opens P t (Kd.pair d0 (Kd.pair d1 d2)) (fun x => g0 x.1 ∧ g1 x.2.1 ∧ g2 x.2.2) := by
  intro H enc w base spare held fuel cs x hx
  obtain ⟨xs, n, _, _, hlen, hl, hf⟩ := DataW.trod_struct ht hx
  obtain ⟨a, ha, ga⟩ := struct_field hl hf (i := 0) (f := f0) rfl h0
  obtain ⟨b, hb, gb⟩ := struct_field hl hf (i := 1) (f := f1) rfl h1
  obtain ⟨c, hc, gc⟩ := struct_field hl hf (i := 2) (f := f2) rfl h2
  rw [o0, s0, List.drop_zero] at ha
  rw [o1, s1] at hb
  rw [o2, s2, List.take_of_length_le (by rw [List.length_drop]; omega)] at hc
  refine ⟨(a, b, c), ⟨_, _, (List.take_append_drop d0.sz cs).symm, ha, _, _, (List.take_append_drop d1.sz _).symm, hb, ?_⟩, ga, gb, gc⟩
  rw [List.drop_drop]
  exact hc
theorem opens_struct4 {f0 f1 f2 f3 : Field} {α β γ δ : Type} {d0 : Kd α} {d1 : Kd β} {d2 : Kd γ} {d3 : Kd δ} {g0 : α → Prop} {g1 : β → Prop} {g2 : γ → Prop} {g3 : δ → Prop} (ht : P.underlying t = some (.struct #[f0, f1, f2, f3]))
    (h0 : Opens P f0.type d0 g0) (h1 : Opens P f1.type d1 g1) (h2 : Opens P f2.type d2 g2) (h3 : Opens P f3.type d3 g3)
    (s0 : P.cellsOf f0.type = d0.sz) (s1 : P.cellsOf f1.type = d1.sz) (s2 : P.cellsOf f2.type = d2.sz) (s3 : P.cellsOf f3.type = d3.sz) (o0 : f0.offset = 0) (o1 : f1.offset = d0.sz) (o2 : f2.offset = d0.sz + d1.sz) (o3 : f3.offset = d0.sz + d1.sz + d2.sz)
    (st : P.cellsOf t = d0.sz + d1.sz + d2.sz + d3.sz) :
    Opens P t (Kd.pair d0 (Kd.pair d1 (Kd.pair d2 d3))) (fun x => g0 x.1 ∧ g1 x.2.1 ∧ g2 x.2.2.1 ∧ g3 x.2.2.2) := by
  intro H enc w base spare held fuel cs x hx
  obtain ⟨xs, n, _, _, hlen, hl, hf⟩ := DataW.trod_struct ht hx
  obtain ⟨a, ha, ga⟩ := struct_field hl hf (i := 0) (f := f0) rfl h0
  obtain ⟨b, hb, gb⟩ := struct_field hl hf (i := 1) (f := f1) rfl h1
  obtain ⟨c, hc, gc⟩ := struct_field hl hf (i := 2) (f := f2) rfl h2
  obtain ⟨d, hd, gd⟩ := struct_field hl hf (i := 3) (f := f3) rfl h3
  rw [o0, s0, List.drop_zero] at ha
  rw [o1, s1] at hb
  rw [o2, s2] at hc
  rw [o3, s3, List.take_of_length_le (by rw [List.length_drop]; omega)] at hd
  refine ⟨(a, b, c, d), ⟨_, _, (List.take_append_drop d0.sz cs).symm, ha, _, _, (List.take_append_drop d1.sz _).symm, hb, _, _, (List.take_append_drop d2.sz _).symm, ?_, ?_⟩, ga, gb, gc, gd⟩
  · rw [List.drop_drop]
    exact hc
  · rw [List.drop_drop, List.drop_drop, ← Nat.add_assoc]
    exact hd
end
end Go.Proofs.YtkdmplfldfagnaaDoor.Open
end
section
/- What is proved here: the listed tables, as the row's condition lays them, stand in memory; the door's own heap meets the condition. No conditions but those that each theorem names. -/
namespace Go.Proofs.YtkdmplfldfagnaaDoor.Laid
open Go.ChangeShapes Go.WideShapes Go.ChangeAt Go.RowKit
set_option maxRecDepth 100000
theorem arr_cells {P : Program} {H : Type} {enc : TypeId × Value → H} {w : World} {spare : Nat → Bool} {held : Bool} {fuel : Nat} {t e : TypeId} {n : Nat} {k : IntKind} {cs : List Value} {L : List Int} {p : List MemPlace}
    (ht : P.underlying t = some (.array n e)) (he : P.underlying e = some (.int k)) (c1 : P.cellsOf e = 1)
    (hd : DataW.trod enc P w 0 spare held fuel t cs = some (.agg (L.map fun z => .lit (.int k z)), p)) :
    ∀ i : Nat, i < n → cs[i]? = some (.int k (Kp.ga L i)) := by
  intro i hi
  obtain ⟨xs, m, rfl, hx, hlen, hn, hel⟩ := DataW.trod_array ht hd
  have h1 := hel i hi
  rw [c1, Nat.mul_one] at h1
  have hi' : i < xs.length := hn.symm ▸ hi
  rw [List.getElem?_eq_getElem hi'] at h1
  obtain ⟨z, hz, hz2, _⟩ := DataW.trod_int he h1
  simp only [Prod.mk.injEq, DataW.agg.injEq] at hx
  have hL : (L.map fun z => (DataW.lit (.int k z) : DataW H))[i]? = (xs.map (·.1))[i]? := by rw [hx.1]
  rw [List.getElem?_map, List.getElem?_map, List.getElem?_eq_getElem hi', hz2] at hL
  have hLz : Kp.ga L i = z := by
    unfold Kp.ga
    rw [List.getD_eq_getElem?_getD]
    cases hq : L[i]? with
    | none => rw [hq] at hL; simp at hL
    | some y => rw [hq] at hL; simpa using hL
  rw [hLz]
  have h2 : ((cs.drop i).take 1)[0]? = some (.int k z) := by rw [hz]; rfl
  simpa using h2
theorem gR : Tryd.prog.globalNamed "loop.example/g00321/impl.roundConstants" = some 1 := by kernel_rfl
theorem gT : Tryd.prog.globalNamed "loop.example/g00321/impl.turns" = some 0 := by kernel_rfl
theorem tR : (Tryd.prog.globals[1]?).map (·.type) = some 113 := by kernel_rfl
theorem tT : (Tryd.prog.globals[0]?).map (·.type) = some 137 := by kernel_rfl
abbrev laidL : List (String × DataW Unit) := [("loop.example/g00321/impl.roundConstants", Rows.laid_loop_example_g00321_impl_roundConstants), ("loop.example/g00321/impl.turns", Rows.laid_loop_example_g00321_impl_turns)]
theorem cell_lt {W : World} {g i : Nat} {v : Value} (h : W.cell? ⟨g, i, none⟩ = some v) : g < W.heap.size := by
  unfold World.cell? at h
  by_cases hg : g < W.heap.size
  · exact hg
  · simp [hg] at h
theorem tab {W : World} (h : laidMetH Tryd.prog laidL W) : Kp.Tab W := by
  rw [MakeChecks.laidMetH_plain _ _ _ (by kernel_rfl)] at h
  obtain ⟨ps, ⟨g0, t0, cs0, f0, p0, q0, hg0, ht0, hv0, hd0, ⟨g1, t1, cs1, f1, p1, q1, hg1, ht1, hv1, hd1, _, _⟩, _⟩, _, _⟩ := h
  obtain rfl := Option.some.inj (gR.symm.trans hg0)
  obtain rfl := Option.some.inj (gT.symm.trans hg1)
  obtain rfl := Option.some.inj (tR.symm.trans ht0)
  obtain rfl := Option.some.inj (tT.symm.trans ht1)
  have r : ∀ i : Nat, i < 24 → W.cell? ⟨1, i, none⟩ = some (.int .u64 (Kp.ga Kp.rcL i)) := fun i hi => by
    rw [World.var?_cell hg0 hv0 i, ← Array.getElem?_toList]
    exact arr_cells (L := Kp.rcL) Tryd.underlying113 Tryd.underlying91 (by kernel_rfl) hd0 i hi
  have t : ∀ i : Nat, i < 25 → W.cell? ⟨0, i, none⟩ = some (.int .i64 (Kp.ga Kp.turnsL i)) := fun i hi => by
    rw [World.var?_cell hg1 hv1 i, ← Array.getElem?_toList]
    exact arr_cells (L := Kp.turnsL) Tryd.underlying137 Tryd.underlying3 (by kernel_rfl) hd1 i hi
  exact ⟨t, r, cell_lt (t 0 (by decide)), cell_lt (r 0 (by decide))⟩
/-- The door's own heap meets the condition. -/
theorem door_met (os : Os) (args : Array Value) : laidMetH Tryd.prog laidL ((World.doorLaid Tryd.prog 400 os).forCall (fun _ _ => 0) ⟨#[], args, []⟩).memory :=
  laidMetH_of_parts3 (fuel := 8) (laidMet_of_run' 8 (by kernel_rfl) (by kernel_rfl)) (by kernel_rfl) (by kernel_rfl)
#print axioms door_met
#print axioms tab
end Go.Proofs.YtkdmplfldfagnaaDoor.Laid
end
section
namespace Go.Proofs.YtkdmplfldfagnaaDoor.fnExactSignBits
open Go.ChangeShapes Go.WideShapes Go.ChangeAt Go.RowKit Go.Proofs.YtkdmplfldfagnaaDoorW.PrintWords Go.Proofs.YtkdmplfldfagnaaDoor.Open Go.Proofs.YtkdmplfldfagnaaDoor.Pf
open Go.ChangeMaps (open_string shut_string)
set_option linter.unusedVariables false
set_option linter.unusedSimpArgs false
theorem own : ownKnob Tryd.prog.godebug = none := by kernel_rfl
theorem laidOut : laidOutB Tryd.prog = true := by kernel_rfl
set_option maxRecDepth 100000 in
theorem lifted (os : Os) (started : os.Started) (H : Type) (enc : TypeId × Value → H) :
  ReturnsInHanded {} Tryd.checked os 5 .any (fun w args => (Rows.fnExactSignBitsSpec.pre enc Tryd.prog Tryd.f5 [] false w args ∧ laidMetH Tryd.prog Laid.laidL w) ∧ sizedMet enc Tryd.prog Tryd.f5 (OpenSpec.ofChange Rows.fnExactSignBitsSpec) false w args)
   (Rows.fnExactSignBitsSpec.post enc Tryd.prog Tryd.f5 false true false false) := by
 refine returnsInHanded_of_change_and (C := Tryd.checked) (X := fun w _ => laidMetH Tryd.prog Laid.laidL w) (fun _ _ _ hh h => h.of_heap hh) own started (by kernel_rfl) Tryd.func5
  (ChangeSpec.witness_shaped (enc := enc) (C := Tryd.checked) (os := os) (X := fun w _ => laidMetH Tryd.prog Laid.laidL w) false (World.doorLaid Tryd.prog 400 os) #[.int .i64 0, .int .i64 0, .string ByteArray.empty] 8 rfl (World.shaped_of_RefB (by kernel_rfl) (by kernel_rfl)) (by kernel_rfl) (by kernel_rfl) (by kernel_rfl) (Laid.door_met os _)) ?_
 intro W base args ds gs before hval0 hW hcnd hsz0 hL _
 have hT := Laid.tab hL
 have hsz : (DataW.weightsEach Tryd.prog (Tryd.f5.params.toList ++ Rows.fnExactSignBitsSpec.plain.varTypes Tryd.prog) (ds ++ gs)).all (· ≤ reachBytes) = true := hsz0
 have hval : ∀ (j : Nat) t v, Tryd.f5.params[j]? = some t → args[j]? = some v → Value.okWide Tryd.prog W .any base t v := hval0
 have hW' := hW
 obtain ⟨p, q, hA0, hV, rfl, hfz, hnd⟩ := hW
 have hA : DataW.TrodAll enc Tryd.prog W 0 (fun _ => true) true Tryd.f5.params.toList args.toList ds p := hA0
 rw [Tryd.params5] at hA hval hsz
 obtain ⟨v0, vs0, d0, ds0, p0, q0, hargs, rfl, rfl, h0, r0⟩ := trodAll_cons hA
 obtain ⟨v1, vs1, d1, ds1, p1, q1, rfl, rfl, rfl, h1, r1⟩ := trodAll_cons r0
 obtain ⟨v2, vs2, d2, ds2, p2, q2, rfl, rfl, rfl, h2, r2⟩ := trodAll_cons r1
 obtain ⟨rfl, rfl, rfl⟩ := trodAll_nil r2
 obtain rfl : args = #[v0, v1, v2] := by cases args; simp_all
 have hV2 : DataW.TrodVars enc Tryd.prog W (fun _ => true) ["loop.example/g00321/impl.turns", "loop.example/g00321/impl.roundConstants"] gs q := hV
 obtain ⟨_, _, _, _, dv0, _, _, _, _, _, dv1, _, rfl, _⟩ := trodVars_two hV2
 obtain ⟨a0, rfl, rfl, rfl, g0⟩ := open_int Tryd.underlying3 (hval 0 3 v0 rfl rfl) h0
 obtain ⟨a1, rfl, rfl, rfl, g1⟩ := open_int Tryd.underlying3 (hval 1 3 v1 rfl rfl) h1
 obtain ⟨a2, rfl, rfl, rfl, y2⟩ := open_string Tryd.underlying9 (hval 2 9 v2 rfl rfl) h2
 have g2 : a2.size ≤ 140737488351232 := by
  have z := sized_string hsz (j := 2) (t := 9) rfl rfl
  rw [Array.length_toList] at z
  exact z
 clear hA0 hval0 hsz0 hsz
 obtain ⟨k, h⟩ := Pure.FnExactSignBits a0 a1 a2 g0 g1 g2
 refine (laws_FnExactSignBits.calls k a0 a1 a2 true W hT ⟨rfl⟩ h).mono fun e W' ⟨he, bel0⟩ => ?_
 have bel : Below W.heap.size W W' := bel0
 subst he
 exact ⟨_, rfl, _, _, _, [], _, _, hW', trodAll_mk1 (shut_bool Tryd.underlying4 _), (trodAll_cons_mk (shut_int Tryd.underlying3 g0) (trodAll_cons_mk (shut_int Tryd.underlying3 g1) (trodAll_cons_mk (shut_string Tryd.underlying9 y2) trodAll_mk0))), Below.trodVars laidOut bel (by kernel_rfl) hV2, bel.frame _, fun h => by cases h⟩
theorem over : Rows.fnExactSignBitsRow.holds Tryd.pinned (OpenSpec.ofChange Rows.fnExactSignBitsSpec) :=
 OpenClaim.holds_of_wide 5 Tryd.f5 rfl rfl rfl rfl rfl rfl rfl ⟨rfl, rfl, rfl, rfl, rfl⟩ rfl rfl rfl rfl rfl (by kernel_rfl) Tryd.func5 (by kernel_rfl)
  (of_decide_eq_true (by kernel_rfl)) (by unfold Func.isWrapper; first | (rw [if_pos (by decide +kernel)]; kernel_rfl) | (rw [if_neg (by decide +kernel)]; exact ⟨rfl, rfl⟩))
  (fun os started H enc _ => lifted os started H enc)
theorem proved : Rows.FnExactSignBitsSaid := over
theorem card : Rows.FnExactSignBitsCardSaid :=
 Claim7.holds_tied_plain_at .later [] [.data, .data] true (true, "78db0a5578644ad6e4d7857560735192eebfd685c977ce1785b74e22dff30b79") false
  over (fun _ h => by cases h) (by kernel_rfl) (fun _ h => by cases h) fnExactSignBits_row_tie rfl ⟨rfl, rfl⟩ (by kernel_rfl) rfl
  (fun f fn hf hfn => by
   obtain rfl : f = 5 := Option.some.inj ((show Tryd.prog.funcNamed "loop.example/g00321/laws.FnExactSignBits" = some 5 by kernel_rfl).symm.trans hf) |>.symm
   obtain rfl : fn = Tryd.f5 := (Option.some.inj (Tryd.func5.symm.trans hfn)).symm
   exact ⟨by kernel_rfl, fun j t ht => by
    rw [Tryd.params5] at ht
    have hm : t ∈ [3, 3, 9] := by simpa using Array.mem_of_getElem? ht
    have hall : ([3, 3, 9].all fun u => !Tryd.prog.wantsStandIn u) = true := by kernel_rfl
    exact (show Tryd.prog.wantsStandIn t = false by simpa using List.all_eq_true.1 hall t hm)⟩)
  (by kernel_rfl)
#print axioms card
end Go.Proofs.YtkdmplfldfagnaaDoor.fnExactSignBits
namespace Go.Proofs.YtkdmplfldfagnaaDoor
/-- The row, under a short name, for the claim. -/
theorem fnExactSignBits_holds : Rows.FnExactSignBitsCardSaid := fnExactSignBits.card
end Go.Proofs.YtkdmplfldfagnaaDoor
end
