/- What is proved here: for every whole number the program's PublicOf and the reference's answer the same list, new each time. No conditions. -/
import Derived.Test.YthdpfjkdpeamnaaPfx33
import Derived.Test.YthdpfjkdpeamnaaInts
namespace Go.Proofs.Ythdpfjkdpeamnaa.Pure
open Go.RowKit Go.Proofs.Ythdpfjkdpeamnaa.Pf Go.Proofs.YthdpfjkdpeamnaaW.PrintWords Go.Proofs.Ythdpfjkdpeamnaa.Ints

theorem count_small : ∀ n : Fin 256, ∃ v : Int, spec_CountBits.f 10 (n.val : Int) = some v ∧ impl_CountBits.f (n.val : Int) = some v := by
  have h : ∀ n : Fin 256, spec_CountBits.f 10 (n.val : Int) = impl_CountBits.f (n.val : Int) ∧ (impl_CountBits.f (n.val : Int)).isSome = true := by decide +kernel
  intro n
  obtain ⟨h1, h2⟩ := h n
  obtain ⟨v, hv⟩ := Option.isSome_iff_exists.1 h2
  exact ⟨v, h1.trans hv, hv⟩

theorem count_any (a0 : Int) : ∃ v : Int, spec_CountBits.f 10 a0 = some v ∧ impl_CountBits.f a0 = some v := by
  by_cases h1 : 0 ≤ a0 ∧ a0 ≤ 255
  · have h3 := count_small ⟨a0.toNat, by omega⟩
    rwa [show (((⟨a0.toNat, by omega⟩ : Fin 256)).val : Int) = a0 by simp; omega] at h3
  · by_cases h2 : 0 ≤ a0
    · exact ⟨0, by simp [spec_CountBits.f, spec_l01In.f, h2, show ¬ (a0 ≤ 255) by omega], by simp [impl_CountBits.f, impl_isBits.f, h2, show ¬ (a0 ≤ 255) by omega]⟩
    · exact ⟨0, by simp [spec_CountBits.f, spec_l01In.f, h2], by simp [impl_CountBits.f, impl_isBits.f, h2]⟩

theorem FnExactPublicOf : laws_FnExactPublicOf.Pure := by
  intro a0 h
  obtain ⟨v, h1, h2⟩ := count_any a0
  refine ⟨10, ?_⟩
  have h3 : spec_PublicOf.f 10 a0 = some [a0, v] := by simp [spec_PublicOf.f, h1]
  have h4 : impl_PublicOf.f a0 = some [a0, v] := by simp [impl_PublicOf.f, h2]
  have e1 := eqIntS_same [a0, v] (by simp) 10 (by simp)
  have e2 := markIntS_f 1 (by omega) (by omega) [a0, v] (by simp) 10 (by simp)
  have e3 := heldIntS_f 1 (by omega) (by omega) ([a0, v] : List Int).length (by simp) 10 (by simp)
  simp only [laws_FnExactPublicOf.f, h3, h4, Option.bind_some, e1, e2, e3]
  simp
end Go.Proofs.Ythdpfjkdpeamnaa.Pure
