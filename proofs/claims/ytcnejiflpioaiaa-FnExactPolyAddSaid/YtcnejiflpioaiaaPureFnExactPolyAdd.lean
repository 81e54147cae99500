/- What is proved here: for every two lists the program's PolyAdd and the reference's answer the same list, new each time, and the arguments stay as they were. No conditions. -/
import Derived.Test.YtcnejiflpioaiaaPfx53
import Derived.Test.YtcnejiflpioaiaaPoly3
namespace Go.Proofs.Ytcnejiflpioaiaa.Pure
open Go.RowKit Go.Proofs.Ytcnejiflpioaiaa.Pf Go.Proofs.YtcnejiflpioaiaaW.PrintWords Go.Proofs.Ytcnejiflpioaiaa.Ints Go.Proofs.Ytcnejiflpioaiaa.Poly

theorem FnExactPolyAdd : laws_FnExactPolyAdd.Pure := by
  intro xs ys hl _ _ hl2 _ _
  unfold maxLen at hl hl2
  by_cases h : (xs.length : Int) > 1048576
  · exact ⟨0, by simp only [laws_FnExactPolyAdd.f]; rw [if_pos h]⟩
  by_cases h' : (ys.length : Int) > 1048576
  · exact ⟨0, by simp only [laws_FnExactPolyAdd.f]; rw [if_neg h, if_pos h']⟩
  obtain ⟨K1, h1⟩ := spec_PolyAdd_ev xs ys (by omega) (by omega)
  obtain ⟨K2, h2⟩ := impl_PolyAdd_ev xs ys (by omega) (by omega)
  have hn := padd_length xs ys
  generalize padd xs ys = zs at *
  have hk : ∀ k, K1 + K2 + xs.length + ys.length + 128 < k → laws_FnExactPolyAdd.f (k + 1) xs ys = some true := by
    intro k hk
    have t := toIntS_f xs (by omega) (k + 1) (by omega)
    have t' := toIntS_f xs (by omega) k (by omega)
    have u := toIntS_f ys (by omega) (k + 1) (by omega)
    have u' := toIntS_f ys (by omega) k (by omega)
    have e := eqIntS_same xs (by omega) (k + 1) (by omega)
    have e' := eqIntS_same ys (by omega) (k + 1) (by omega)
    have e1 := eqIntS_same zs (by omega) (k + 1) (by omega)
    have e2 := eqIntS_same zs (by omega) k (by omega)
    have m := markIntS_f 1 (by omega) (by omega) xs (by omega) (k + 1) (by omega)
    have m' := markIntS_f (1 + (xs.length : Int)) (by omega) (by omega) ys (by omega) (k + 1) (by omega)
    have m1 := markIntS_f 1 (by omega) (by omega) zs (by omega) k (by omega)
    have q := heldIntS_f 1 (by omega) (by omega) zs.length (by omega) k (by omega)
    simp only [laws_FnExactPolyAdd.f]
    rw [if_neg h, if_neg h']
    simp only [t, u, Option.bind_some, h1 _ (show K1 ≤ k + 1 by omega), h2 _ (show K2 ≤ k + 1 by omega), e, e', e1, if_true, m, m']
    rw [if_neg (by omega)]
    simp only [laws_FnExactPolyAdd.j0, Bool.not_true, m1, q, t', u', h2 _ (show K2 ≤ k by omega), e2, Option.bind_some, if_true]
    rw [if_neg (by simp), if_neg (by omega), if_neg (by omega)]
  exact ⟨_, hk (K1 + K2 + xs.length + ys.length + 129) (by omega)⟩
end Go.Proofs.Ytcnejiflpioaiaa.Pure
