/- What is proved here: for every whole number the program's CountBits and the reference's answer the same. No conditions. -/
import Derived.Test.YthdpfjkdpeamnaaPfx25
namespace Go.Proofs.Ythdpfjkdpeamnaa.Pure
open Go.RowKit Go.Proofs.Ythdpfjkdpeamnaa.Pf Go.Proofs.YthdpfjkdpeamnaaW.PrintWords

theorem bits_small : ∀ n : Fin 256, laws_FnExactCountBits.f 10 (n.val : Int) = some true := by decide +kernel

theorem FnExactCountBits : laws_FnExactCountBits.Pure := by
  intro a0 h
  refine ⟨10, ?_⟩
  by_cases h1 : 0 ≤ a0 ∧ a0 ≤ 255
  · have h3 := bits_small ⟨a0.toNat, by omega⟩
    rwa [show (((⟨a0.toNat, by omega⟩ : Fin 256)).val : Int) = a0 by simp; omega] at h3
  · by_cases h2 : 0 ≤ a0
    · simp [laws_FnExactCountBits.f, spec_CountBits.f, impl_CountBits.f, impl_isBits.f, spec_l01In.f, h2, show ¬ (a0 ≤ 255) by omega]
    · simp [laws_FnExactCountBits.f, spec_CountBits.f, impl_CountBits.f, impl_isBits.f, spec_l01In.f, h2]
end Go.Proofs.Ythdpfjkdpeamnaa.Pure
