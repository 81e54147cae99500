/- What is proved here: for every head the program's HeadText and the reference's answer the same. No conditions. -/
import Derived.Test.YthdpfjkdpeamnaaPfx30
namespace Go.Proofs.Ythdpfjkdpeamnaa.Pure
open Go.RowKit Go.Proofs.Ythdpfjkdpeamnaa.Pf Go.Proofs.YthdpfjkdpeamnaaW.PrintWords

theorem var_loop (k : Nat) : ∀ n xs, impl_varText.l0 k n xs = spec_l01Var.l0 k n xs := by
  induction k with
  | zero => intros; rfl
  | succ k ih => intro n xs; simp only [spec_l01Var.l0, impl_varText.l0, ih, Int.add_comm 128]

theorem var_some (n : Int) (h0 : 0 ≤ n) (h1 : n ≤ 10000) : ∃ v, v.size ≤ 2 ∧ spec_l01Var.f 2 n = some v := by
  unfold spec_l01Var.f
  by_cases h : n > 127
  · refine ⟨strOfNums ([] ++ [wrap64 (Int.tmod n 128 + 128) % 256] ++ [wrap64 (Int.tdiv n 128) % 256]), ?_, ?_⟩
    · simp [strOfNums, ByteArray.size]
    · have h2 : Int.tdiv n 128 = n / 128 := Int.tdiv_eq_ediv_of_nonneg h0
      have h3 : ¬ (wrap64 (Int.tdiv n 128) > 127) := by rw [h2]; unfold wrap64; omega
      simp only [spec_l01Var.l0]
      rw [if_pos h, if_pos (by simp), if_neg h3, if_pos (by simp)]
  · refine ⟨strOfNums ([] ++ [n % 256]), ?_, ?_⟩
    · simp [strOfNums, ByteArray.size]
    · simp only [spec_l01Var.l0]
      rw [if_neg h, if_pos (by simp)]

theorem FnExactHeadText : laws_FnExactHeadText.Pure := by
  intro s a b c hs ha hb hc
  have hz : ∃ z, laws_szHead.f s a b c 1048576 = some z := by
    unfold laws_szHead.f
    repeat' split
    all_goals exact ⟨_, rfl⟩
  obtain ⟨z, hz⟩ := hz
  refine ⟨2, ?_⟩
  by_cases h : (0 ≤ s ∧ s ≤ 10000) ∧ (a.size : Int) = 32 ∧ (b.size : Int) = 32 ∧ (c.size : Int) = 32
  · obtain ⟨⟨h0, h1⟩, h2, h3, h4⟩ := h
    obtain ⟨v, hv, hv2⟩ := var_some s h0 h1
    have hw : impl_varText.f 2 s = some v := by unfold impl_varText.f; rw [var_loop]; exact hv2
    have e1 : spec_HeadOk.f s a b c = some true := by simp [spec_HeadOk.f, spec_l01In.f, h0, h1, h2, h3, h4]
    have e2 : impl_HeadOk.f s a b c = some true := by simp [impl_HeadOk.f, impl_isSlot.f, impl_isDigest.f, h0, h1, h2, h3, h4]
    have g1 : v.size + a.size ≤ 9223372036854775807 := by omega
    have g2 : (v ++ a).size + b.size ≤ 9223372036854775807 := by rw [ByteArray.size_append]; omega
    have g3 : (v ++ a ++ b).size + c.size ≤ 9223372036854775807 := by rw [ByteArray.size_append, ByteArray.size_append]; omega
    have f1 : spec_HeadText.f 2 s a b c = some (v ++ a ++ b ++ c, true) := by
      simp only [spec_HeadText.f, e1, Option.bind_some, if_true, hv2]
      rw [if_pos g1, if_pos g2, if_pos g3]
    have f2 : impl_HeadText.f 2 s a b c = some (v ++ a ++ b ++ c, true) := by
      simp only [impl_HeadText.f, e2, Option.bind_some, if_true, hw]
      rw [if_pos g1, if_pos g2, if_pos g3]
    simp [laws_FnExactHeadText.f, hz, laws_toHead.f, f1, f2]
  · have e : spec_HeadOk.f s a b c = some false ∧ impl_HeadOk.f s a b c = some false := by
      unfold spec_HeadOk.f impl_HeadOk.f spec_l01In.f impl_isSlot.f impl_isDigest.f
      by_cases h0 : s ≥ 0 <;> by_cases h1 : s ≤ 10000 <;> by_cases h2 : (a.size : Int) = 32 <;> by_cases h3 : (b.size : Int) = 32 <;> by_cases h4 : (c.size : Int) = 32 <;> simp [h0, h1, h2, h3, h4] <;> exact h ⟨⟨h0, h1⟩, h2, h3, h4⟩
    have f1 : spec_HeadText.f 2 s a b c = some ((⟨#[]⟩ : ByteArray), false) := by simp [spec_HeadText.f, e.1]
    have f2 : impl_HeadText.f 2 s a b c = some ((⟨#[]⟩ : ByteArray), false) := by simp [impl_HeadText.f, e.2]
    simp [laws_FnExactHeadText.f, hz, laws_toHead.f, f1, f2]
end Go.Proofs.Ythdpfjkdpeamnaa.Pure
