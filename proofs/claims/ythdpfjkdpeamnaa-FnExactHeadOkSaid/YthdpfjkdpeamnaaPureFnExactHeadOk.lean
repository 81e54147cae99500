/- What is proved here: for every head the program's HeadOk and the reference's answer the same. No conditions. -/
import Derived.Test.YthdpfjkdpeamnaaPfx11
namespace Go.Proofs.Ythdpfjkdpeamnaa.Pure
open Go.RowKit Go.Proofs.Ythdpfjkdpeamnaa.Pf Go.Proofs.YthdpfjkdpeamnaaW.PrintWords

theorem FnExactHeadOk : laws_FnExactHeadOk.Pure := by
  intro s a b c hs ha hb hc
  have hz : ∃ z, laws_szHead.f s a b c 1048576 = some z := by
    unfold laws_szHead.f
    repeat' split
    all_goals exact ⟨_, rfl⟩
  obtain ⟨z, hz⟩ := hz
  have he : ∃ v, spec_HeadOk.f s a b c = some v ∧ impl_HeadOk.f s a b c = some v := by
    unfold spec_HeadOk.f impl_HeadOk.f spec_l01In.f impl_isSlot.f impl_isDigest.f
    by_cases h0 : s ≥ 0 <;> by_cases h1 : s ≤ 10000 <;> by_cases h2 : (a.size : Int) = 32 <;> by_cases h3 : (b.size : Int) = 32 <;> by_cases h4 : (c.size : Int) = 32 <;> simp [h0, h1, h2, h3, h4]
  obtain ⟨v, h1, h2⟩ := he
  simp [laws_FnExactHeadOk.f, hz, laws_toHead.f, h1, h2]
end Go.Proofs.Ythdpfjkdpeamnaa.Pure
