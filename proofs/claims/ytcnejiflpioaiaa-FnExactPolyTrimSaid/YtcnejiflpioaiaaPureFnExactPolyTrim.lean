/- What is proved here: for every list the program's PolyTrim and the reference's answer the same list, new each time, and the argument stays as it was. No conditions. -/
import Derived.Test.YtcnejiflpioaiaaPfx17
import Derived.Test.YtcnejiflpioaiaaPoly1
namespace Go.Proofs.Ytcnejiflpioaiaa.Pure
open Go.RowKit Go.Proofs.Ytcnejiflpioaiaa.Pf Go.Proofs.YtcnejiflpioaiaaW.PrintWords Go.Proofs.Ytcnejiflpioaiaa.Ints Go.Proofs.Ytcnejiflpioaiaa.Poly

theorem FnExactPolyTrim : laws_FnExactPolyTrim.Pure := by
  intro xs hl _ _
  unfold maxLen at hl
  by_cases h : (xs.length : Int) > 1048576
  · exact ⟨0, by simp only [laws_FnExactPolyTrim.f]; rw [if_pos h]⟩
  · obtain ⟨K1, h1⟩ := spec_PolyTrim_ev xs (by omega)
    obtain ⟨K2, h2⟩ := impl_PolyTrim_ev xs (by omega)
    have hn := trim_length xs
    generalize trim xs = ys at *
    have hk : ∀ k, K1 + K2 + xs.length < k → laws_FnExactPolyTrim.f (k + 1) xs = some true := by
      intro k hk
      have t := toIntS_f xs (by omega) (k + 1) (by omega)
      have t' := toIntS_f xs (by omega) k (by omega)
      have e := eqIntS_same xs (by omega) (k + 1) (by omega)
      have e1 := eqIntS_same ys (by omega) (k + 1) (by omega)
      have e2 := eqIntS_same ys (by omega) k (by omega)
      have m := markIntS_f 1 (by omega) (by omega) xs (by omega) (k + 1) (by omega)
      have m1 := markIntS_f 1 (by omega) (by omega) ys (by omega) k (by omega)
      have q := heldIntS_f 1 (by omega) (by omega) ys.length (by omega) k (by omega)
      simp only [laws_FnExactPolyTrim.f]
      rw [if_neg h]
      simp only [t, Option.bind_some, h1 _ (show K1 ≤ k + 1 by omega), h2 _ (show K2 ≤ k + 1 by omega), e, e1, if_true, m]
      rw [if_neg (by omega)]
      simp only [laws_FnExactPolyTrim.j0, Bool.not_true, m1, q, t', h2 _ (show K2 ≤ k by omega), e2, Option.bind_some, if_true]
      rw [if_neg (by simp), if_neg (by omega), if_neg (by omega)]
    exact ⟨_, hk (K1 + K2 + xs.length + 1) (by omega)⟩
end Go.Proofs.Ytcnejiflpioaiaa.Pure
