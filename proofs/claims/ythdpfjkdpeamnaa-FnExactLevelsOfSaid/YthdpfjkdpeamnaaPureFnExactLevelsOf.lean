/- What is proved here: for every whole number the program's LevelsOf and the reference's answer the same. No conditions. -/
import Derived.Test.YthdpfjkdpeamnaaPfx4
namespace Go.Proofs.Ythdpfjkdpeamnaa.Pure
open Go.RowKit Go.Proofs.Ythdpfjkdpeamnaa.Pf Go.Proofs.YthdpfjkdpeamnaaW.PrintWords

theorem levels_small : ∀ n : Fin 33, laws_FnExactLevelsOf.f 10 (n.val : Int) = some true := by decide +kernel

theorem FnExactLevelsOf : laws_FnExactLevelsOf.Pure := by
  intro a0 h
  by_cases h1 : a0 < 0
  · refine ⟨1, ?_⟩
    simp [laws_FnExactLevelsOf.f, spec_LevelsOf.f, impl_LevelsOf.f, impl_LevelsOf.j0, spec_l01In.f, h1, show ¬ (0 ≤ a0) by omega]
  · by_cases h2 : 32 < a0
    · refine ⟨1, ?_⟩
      simp [laws_FnExactLevelsOf.f, spec_LevelsOf.f, impl_LevelsOf.f, impl_LevelsOf.j0, spec_l01In.f, h1, h2, show 0 ≤ a0 by omega, show ¬ (a0 ≤ 32) by omega]
    · refine ⟨10, ?_⟩
      have h3 := levels_small ⟨a0.toNat, by omega⟩
      rwa [show (((⟨a0.toNat, by omega⟩ : Fin 33)).val : Int) = a0 by simp; omega] at h3
end Go.Proofs.Ythdpfjkdpeamnaa.Pure
