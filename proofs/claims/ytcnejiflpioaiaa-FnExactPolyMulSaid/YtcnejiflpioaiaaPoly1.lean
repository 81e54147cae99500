/- What is proved here: what scalars and PolyAt and PolyTrim answer, of the program and of the reference alike, as plain functions on lists. No conditions but that a list fits into memory. -/
import Derived.Test.YtcnejiflpioaiaaPfx10
import Derived.Test.YtcnejiflpioaiaaPfx4
import Derived.Test.YtcnejiflpioaiaaPfx14
import Derived.Test.YtcnejiflpioaiaaPfx13
import Derived.Test.YtcnejiflpioaiaaPfx9
import Derived.Test.YtcnejiflpioaiaaPfx2
import Derived.Test.YtcnejiflpioaiaaPfx8
import Derived.Test.YtcnejiflpioaiaaPfx3
import Derived.Test.YtcnejiflpioaiaaInts
namespace Go.Proofs.Ytcnejiflpioaiaa.Poly
open Go.RowKit Go.Proofs.Ytcnejiflpioaiaa.Pf Go.Proofs.YtcnejiflpioaiaaW.PrintWords Go.Proofs.Ytcnejiflpioaiaa.Ints

theorem tmod_two (n : Int) (m : Int) (hm : 0 < m) : Int.tmod n m = n % m ∨ (Int.tmod n m = n % m - m ∧ n % m ≠ 0) := by
  rw [Int.tmod_eq_emod]
  split
  · left; omega
  · rename_i h
    right
    refine ⟨by omega, fun e => h (Or.inr (Int.dvd_of_emod_eq_zero e))⟩

theorem Ev.one {α : Type} {g : Nat → Option α} {r : α} (h : ∀ k, g (k + 1) = some r) : Ev g r :=
  ⟨1, fun k hk => by obtain ⟨k, rfl⟩ : ∃ m, k = m + 1 := ⟨k - 1, by omega⟩; exact h k⟩

theorem mul_bound (a b : Int) : 0 ≤ (a % 1009) * (b % 1009) ∧ (a % 1009) * (b % 1009) ≤ 1016064 := by
  have h1 : 0 ≤ a % 1009 := Int.emod_nonneg _ (by decide)
  have h2 : 0 ≤ b % 1009 := Int.emod_nonneg _ (by decide)
  have h3 : a % 1009 ≤ 1008 := by omega
  have h4 : b % 1009 ≤ 1008 := by omega
  refine ⟨Int.mul_nonneg h1 h2, ?_⟩
  have := Int.mul_le_mul h3 h4 h2 (by decide)
  omega

theorem rd_nat (xs : List Int) (n : Nat) (h : n < xs.length) : rd xs (n : Int) = xs[n] := by
  unfold rd
  rw [Int.toNat_natCast, List.getD_eq_getElem?_getD, List.getElem?_eq_getElem h, Option.getD_some]

/-- the value of a polynomial, from the last number on -/
def pat (xs : List Int) (x : Int) : Int := xs.foldr (fun c acc => (acc * x + c) % 1009) 0
/-- without noughts at its end -/
def cut (xs : List Int) : List Int := (xs.reverse.dropWhile (fun c => decide (c = 0))).reverse
def trim (xs : List Int) : List Int := cut (xs.map (· % 1009))
theorem cut_nil : cut [] = [] := rfl
theorem cut_zero (xs : List Int) : cut (xs ++ [0]) = cut xs := by simp [cut]
theorem cut_other (xs : List Int) (c : Int) (h : c ≠ 0) : cut (xs ++ [c]) = xs ++ [c] := by simp [cut, h]
theorem cut_length (xs : List Int) : (cut xs).length ≤ xs.length := by
  unfold cut
  rw [List.length_reverse]
  have := (List.dropWhile_suffix (fun c : Int => decide (c = 0)) (l := xs.reverse)).length_le
  simpa using this
theorem trim_length (xs : List Int) : (trim xs).length ≤ xs.length := by
  have := cut_length (xs.map (· % 1009))
  simpa [trim] using this

theorem impl_ScOf_eq (n : Int) : impl_ScOf.f n = some (n % 1009) := by
  unfold impl_ScOf.f impl_remainder.f
  rw [if_neg (by decide)]
  rcases tmod_two n 1009 (by decide) with h | ⟨h, h2⟩
  · rw [h, if_neg (by omega)]; rfl
  · rw [h, if_pos (by omega), wrap_in (by omega) (by omega)]
    simp
theorem impl_ScAdd_eq (a b : Int) : impl_ScAdd.f a b = some ((a + b) % 1009) := by
  simp only [impl_ScAdd.f, impl_ScOf_eq, Option.bind_some]
  rw [wrap_in (by omega) (by omega)]
  simp only [Option.some.injEq]
  omega
theorem impl_ScMul_eq (a b : Int) : impl_ScMul.f a b = some ((a * b) % 1009) := by
  have h := mul_bound a b
  simp only [impl_ScMul.f, impl_ScOf_eq, Option.bind_some]
  rw [wrap_in (by omega) (by omega), ← Int.mul_emod]

theorem impl_PolyAt_l0 (xs : List Int) (x : Int) (hl : xs.length ≤ 9223372036854775807) : ∀ n, n ≤ xs.length → Ev (fun k => impl_PolyAt.l0 k xs x (pat (xs.drop n) x) ((n : Int) - 1)) (pat xs x)
  | 0, _ => Ev.one fun k => by
    simp only [impl_PolyAt.l0]
    rw [if_neg (by omega)]
    simp
  | n + 1, hn => by
    refine Ev.step (fun k => ?_) (impl_PolyAt_l0 xs x hl n (by omega))
    have h1 : n < xs.length := by omega
    simp only [impl_PolyAt.l0]
    rw [show ((n + 1 : Nat) : Int) - 1 = (n : Int) by omega, if_pos (by omega), impl_ScMul_eq, Option.bind_some, if_pos (by omega), if_pos (by omega), impl_ScAdd_eq, Option.bind_some, wrap_in (by omega) (by omega), rd_nat xs n h1]
    congr 1
    rw [List.drop_eq_getElem_cons h1]
    simp only [pat, List.foldr_cons]
    omega
theorem impl_PolyAt_ev (xs : List Int) (x : Int) (hl : xs.length ≤ 9223372036854775807) : Ev (fun k => impl_PolyAt.f k xs x) (pat xs x) := by
  have h := impl_PolyAt_l0 xs x hl xs.length (Nat.le_refl _)
  rw [List.drop_length] at h
  simp only [impl_PolyAt.f]
  rw [wrap_in (by omega) (by omega)]
  exact h

theorem impl_PolyTrim_l1 : ∀ (n : Nat) (xs : List Int), xs.length = n → n ≤ 9223372036854775807 → Ev (fun k => impl_PolyTrim.l1 k xs) (cut xs)
  | 0, xs, h, _ => Ev.one fun k => by
    obtain rfl : xs = [] := List.eq_nil_of_length_eq_zero h
    simp only [impl_PolyTrim.l1]
    rw [if_neg (by simp)]
    rfl
  | n + 1, xs, h, hn => by
    obtain ⟨ys, c, rfl⟩ : ∃ ys c, xs = ys ++ [c] := ⟨xs.dropLast, xs.getLast (by intro e; simp [e] at h), (List.dropLast_concat_getLast _).symm⟩
    rw [List.length_append, List.length_singleton] at h
    have hy : ys.length = n := by omega
    have hr : rd (ys ++ [c]) (n : Int) = c := by rw [rd_nat _ n (by simp <;> omega)]; simp [← hy]
    have hw : wrap64 ((((ys ++ [c]).length : Nat) : Int) - 1) = (n : Int) := by rw [wrap_in (by simp <;> omega) (by simp <;> omega)]; simp; omega
    by_cases hc : c = 0
    · subst hc
      rw [cut_zero]
      refine Ev.step (fun k => ?_) (impl_PolyTrim_l1 n ys hy (by omega))
      simp only [impl_PolyTrim.l1]
      rw [hw, if_pos (by simp <;> omega), if_pos (by omega), if_pos (by simp <;> omega), hr, if_pos rfl, if_pos (by simp <;> omega), Int.toNat_natCast, ← hy, List.take_left]
    · rw [cut_other ys c hc]
      refine Ev.one fun k => ?_
      simp only [impl_PolyTrim.l1]
      rw [hw, if_pos (by simp <;> omega), if_pos (by omega), if_pos (by simp <;> omega), hr, if_neg hc]

theorem impl_PolyTrim_l0 (xs : List Int) (hl : xs.length ≤ 17592186044416) (d : Nat) : ∀ i, i + d = xs.length → Ev (fun k => impl_PolyTrim.l0 k ((xs.take i).map (· % 1009)) xs (xs.length : Int) (i : Int)) (trim xs) := by
  induction d with
  | zero =>
    intro i hi
    refine Ev.step (fun k => ?_) (impl_PolyTrim_l1 _ (xs.map (· % 1009)) rfl (by simp <;> omega))
    simp only [impl_PolyTrim.l0]
    rw [if_neg (by omega), List.take_of_length_le (by omega)]
  | succ d ih =>
    intro i hi
    have h1 : i < xs.length := by omega
    refine Ev.step (fun k => ?_) (ih (i + 1) (by omega))
    simp only [impl_PolyTrim.l0]
    rw [if_pos (by omega), if_pos (by omega), if_pos (by omega), impl_ScOf_eq, Option.bind_some, if_pos (by simp <;> omega), wrap_in (by omega) (by omega), rd_nat xs i h1, List.take_succ_eq_append_getElem h1, List.map_append]
    rfl
theorem impl_PolyTrim_ev (xs : List Int) (hl : xs.length ≤ 17592186044416) : Ev (fun k => impl_PolyTrim.f k xs) (trim xs) := impl_PolyTrim_l0 xs hl xs.length 0 (by omega)

theorem spec_ScOf_eq (n : Int) : spec_ScOf.f n = some (n % 1009) := by
  unfold spec_ScOf.f
  rcases tmod_two n 1009 (by decide) with h | ⟨h, h2⟩
  · rw [h, if_neg (by omega)]
  · rw [h, if_pos (by omega), wrap_in (by omega) (by omega)]
    simp
theorem spec_ScAdd_eq (a b : Int) : spec_ScAdd.f a b = some ((a + b) % 1009) := by
  simp only [spec_ScAdd.f, spec_ScOf_eq, Option.bind_some]
  rw [wrap_in (by omega) (by omega)]
  simp only [Option.some.injEq]
  omega
theorem spec_ScMul_eq (a b : Int) : spec_ScMul.f a b = some ((a * b) % 1009) := by
  have h := mul_bound a b
  simp only [spec_ScMul.f, spec_ScOf_eq, Option.bind_some]
  rw [wrap_in (by omega) (by omega), ← Int.mul_emod]

theorem spec_PolyAt_l0 (xs : List Int) (x : Int) (hl : xs.length ≤ 9223372036854775807) : ∀ n, n ≤ xs.length → Ev (fun k => spec_PolyAt.l0 k xs x (pat (xs.drop n) x) ((n : Int) - 1)) (pat xs x)
  | 0, _ => Ev.one fun k => by
    simp only [spec_PolyAt.l0]
    rw [if_neg (by omega)]
    simp
  | n + 1, hn => by
    refine Ev.step (fun k => ?_) (spec_PolyAt_l0 xs x hl n (by omega))
    have h1 : n < xs.length := by omega
    simp only [spec_PolyAt.l0]
    rw [show ((n + 1 : Nat) : Int) - 1 = (n : Int) by omega, if_pos (by omega), spec_ScMul_eq, Option.bind_some, if_pos (by omega), if_pos (by omega), spec_ScAdd_eq, Option.bind_some, wrap_in (by omega) (by omega), rd_nat xs n h1]
    congr 1
    rw [List.drop_eq_getElem_cons h1]
    simp only [pat, List.foldr_cons]
    omega
theorem spec_PolyAt_ev (xs : List Int) (x : Int) (hl : xs.length ≤ 9223372036854775807) : Ev (fun k => spec_PolyAt.f k xs x) (pat xs x) := by
  have h := spec_PolyAt_l0 xs x hl xs.length (Nat.le_refl _)
  rw [List.drop_length] at h
  simp only [spec_PolyAt.f]
  rw [wrap_in (by omega) (by omega)]
  exact h

theorem spec_PolyTrim_l1 : ∀ (n : Nat) (xs : List Int), xs.length = n → n ≤ 9223372036854775807 → Ev (fun k => spec_PolyTrim.l1 k xs) (cut xs)
  | 0, xs, h, _ => Ev.one fun k => by
    obtain rfl : xs = [] := List.eq_nil_of_length_eq_zero h
    simp only [spec_PolyTrim.l1]
    rw [if_neg (by simp)]
    rfl
  | n + 1, xs, h, hn => by
    obtain ⟨ys, c, rfl⟩ : ∃ ys c, xs = ys ++ [c] := ⟨xs.dropLast, xs.getLast (by intro e; simp [e] at h), (List.dropLast_concat_getLast _).symm⟩
    rw [List.length_append, List.length_singleton] at h
    have hy : ys.length = n := by omega
    have hr : rd (ys ++ [c]) (n : Int) = c := by rw [rd_nat _ n (by simp <;> omega)]; simp [← hy]
    have hw : wrap64 ((((ys ++ [c]).length : Nat) : Int) - 1) = (n : Int) := by rw [wrap_in (by simp <;> omega) (by simp <;> omega)]; simp; omega
    by_cases hc : c = 0
    · subst hc
      rw [cut_zero]
      refine Ev.step (fun k => ?_) (spec_PolyTrim_l1 n ys hy (by omega))
      simp only [spec_PolyTrim.l1]
      rw [hw, if_pos (by simp <;> omega), if_pos (by omega), if_pos (by simp <;> omega), hr, if_pos rfl, if_pos (by simp <;> omega), Int.toNat_natCast, ← hy, List.take_left]
    · rw [cut_other ys c hc]
      refine Ev.one fun k => ?_
      simp only [spec_PolyTrim.l1]
      rw [hw, if_pos (by simp <;> omega), if_pos (by omega), if_pos (by simp <;> omega), hr, if_neg hc]

theorem spec_PolyTrim_l0 (xs : List Int) (hl : xs.length ≤ 17592186044416) (d : Nat) : ∀ i, i + d = xs.length → Ev (fun k => spec_PolyTrim.l0 k xs ((xs.take i).map (· % 1009)) (i : Int)) (trim xs) := by
  induction d with
  | zero =>
    intro i hi
    refine Ev.step (fun k => ?_) (spec_PolyTrim_l1 _ (xs.map (· % 1009)) rfl (by simp <;> omega))
    simp only [spec_PolyTrim.l0]
    rw [if_neg (by omega), List.take_of_length_le (by omega)]
  | succ d ih =>
    intro i hi
    have h1 : i < xs.length := by omega
    refine Ev.step (fun k => ?_) (ih (i + 1) (by omega))
    simp only [spec_PolyTrim.l0]
    rw [if_pos (by omega), if_pos (by omega), spec_ScOf_eq, Option.bind_some, if_pos (by simp <;> omega), wrap_in (by omega) (by omega), rd_nat xs i h1, List.take_succ_eq_append_getElem h1, List.map_append]
    rfl
theorem spec_PolyTrim_ev (xs : List Int) (hl : xs.length ≤ 17592186044416) : Ev (fun k => spec_PolyTrim.f k xs) (trim xs) := spec_PolyTrim_l0 xs hl xs.length 0 (by omega)
end Go.Proofs.Ytcnejiflpioaiaa.Poly
