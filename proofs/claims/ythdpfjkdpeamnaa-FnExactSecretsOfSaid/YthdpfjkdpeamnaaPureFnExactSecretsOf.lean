/- What is proved here: for every whole number the program's SecretsOf and the reference's answer the same list, new each time. No conditions. -/
import Derived.Test.YthdpfjkdpeamnaaPfx18
import Derived.Test.YthdpfjkdpeamnaaInts
namespace Go.Proofs.Ythdpfjkdpeamnaa.Pure
open Go.RowKit Go.Proofs.Ythdpfjkdpeamnaa.Pf Go.Proofs.YthdpfjkdpeamnaaW.PrintWords Go.Proofs.Ythdpfjkdpeamnaa.Ints

theorem secrets_loop (k : Nat) : ∀ n xs i, spec_SecretsOf.l0 k n xs i = impl_SecretsOf.l0 k n xs i := by
  induction k with
  | zero => intros; rfl
  | succ k ih => intro n xs i; simp only [spec_SecretsOf.l0, impl_SecretsOf.l0, ih]

theorem secrets_same (k : Nat) (n : Int) : spec_SecretsOf.f (k + 1) n = impl_SecretsOf.f k n := by
  unfold spec_SecretsOf.f impl_SecretsOf.f impl_remainder.f
  by_cases h : Int.tmod n 1000 < 0
  · simp [h, spec_SecretsOf.j0, secrets_loop]
  · simp [h, spec_SecretsOf.j0, secrets_loop]

theorem secrets_some (n : Int) : ∃ xs, xs.length = 8 ∧ impl_SecretsOf.f 9 n = some xs := by
  have h : ∀ m, ∃ xs, xs.length = 8 ∧ impl_SecretsOf.l0 9 m [] 0 = some xs := by
    intro m
    simp [impl_SecretsOf.l0, wrap64]
  unfold impl_SecretsOf.f impl_remainder.f
  by_cases h1 : Int.tmod n 1000 < 0
  · obtain ⟨xs, h2, h3⟩ := h (wrap64 (Int.tmod n 1000 + 1000))
    exact ⟨xs, h2, by simp [h1, h3]⟩
  · obtain ⟨xs, h2, h3⟩ := h (Int.tmod n 1000)
    exact ⟨xs, h2, by simp [h1, h3]⟩

theorem FnExactSecretsOf : laws_FnExactSecretsOf.Pure := by
  intro a0 h
  obtain ⟨xs, hl, hx⟩ := secrets_some a0
  refine ⟨10, ?_⟩
  have h1 : impl_SecretsOf.f 10 a0 = some xs := at_rounds (g := fun k => impl_SecretsOf.f k a0) (fun k => impl_SecretsOf.mono a0 k) (k := 9) (by omega) hx
  have h2 : spec_SecretsOf.f 10 a0 = some xs := by rw [secrets_same]; exact hx
  have e1 := eqIntS_same xs (by omega) 10 (by omega)
  have e2 := markIntS_f 1 (by omega) (by omega) xs (by omega) 10 (by omega)
  have e3 := heldIntS_f 1 (by omega) (by omega) xs.length (by omega) 10 (by omega)
  rw [hl] at e2 e3
  simp [laws_FnExactSecretsOf.f, h1, h2, e1, e2, e3]
end Go.Proofs.Ythdpfjkdpeamnaa.Pure
