/- What is proved here: for every list and every number the program's PolyAt and the reference's answer the same, and the list stays as it was. No conditions. -/
import Derived.Test.YtcnejiflpioaiaaPfx12
import Derived.Test.YtcnejiflpioaiaaPoly1
namespace Go.Proofs.Ytcnejiflpioaiaa.Pure
open Go.RowKit Go.Proofs.Ytcnejiflpioaiaa.Pf Go.Proofs.YtcnejiflpioaiaaW.PrintWords Go.Proofs.Ytcnejiflpioaiaa.Ints Go.Proofs.Ytcnejiflpioaiaa.Poly

theorem FnExactPolyAt : laws_FnExactPolyAt.Pure := by
  intro xs x hl _ _ _
  unfold maxLen at hl
  by_cases h : (xs.length : Int) > 1048576
  · exact ⟨0, by simp only [laws_FnExactPolyAt.f]; rw [if_pos h]⟩
  · obtain ⟨K1, h1⟩ := spec_PolyAt_ev xs x (by omega)
    obtain ⟨K2, h2⟩ := impl_PolyAt_ev xs x (by omega)
    refine ⟨K1 + K2 + xs.length + 1, ?_⟩
    have t := toIntS_f xs (by omega) (K1 + K2 + xs.length + 1) (by omega)
    have e := eqIntS_same xs (by omega) (K1 + K2 + xs.length + 1) (by omega)
    simp only [laws_FnExactPolyAt.f]
    rw [if_neg h]
    simp [t, h1 _ (show K1 ≤ K1 + K2 + xs.length + 1 by omega), h2 _ (show K2 ≤ K1 + K2 + xs.length + 1 by omega), e]
end Go.Proofs.Ytcnejiflpioaiaa.Pure
