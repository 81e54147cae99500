/- What is proved here: part 4 of 4 of the proof of the given statement FnExactSatisfied: the contracts of the Go functions that it reaches, the plain facts on lists and numbers, and (in the last part) the statement itself. No conditions beyond the given ones. -/
import Derived.Test.YthdpfjkdpeamnaaMFnExactSatisfiedc
import Derived.Test.YthdpfjkdpeamnaaMFnExactSatisfieda
import Derived.Test.YthdpfjkdpeamnaaMFnExactSatisfiedb
import Derived.OpenShut
import Derived.Test.YthdpfjkdpeamnaaMFnExactSatisfiedwMore
import Derived.Deep.Slices
import Derived.ChangeArms
import Derived.DataReads
import Derived.ChangeShapes
import Derived.Test.YthdpfjkdpeamnaaRows
import Derived.WalkKit
import Derived.ProofKit
import Derived.ShutString
import Derived.ChangeOld
import Derived.Below
import Derived.SizedLaws

section
/- What is proved here: what the helpers over systems answer (a copy is the system, a system equals itself, its size), and that SystemOk and Satisfied of the program and of the reference are one plain function. No conditions but sizes. -/
set_option linter.unusedVariables false
set_option linter.unusedSimpArgs false
namespace Go.Proofs.Ythdpfjkdpeamnaa.Sys
open Go.RowKit Go.Proofs.Ythdpfjkdpeamnaa.Pf Go.Proofs.YthdpfjkdpeamnaaW.PrintWords Go.Proofs.Ythdpfjkdpeamnaa.Ints
set_option maxRecDepth 4000

abbrev RT := S75
abbrev RA := S100
def conv (x : RA) : RT := ⟨x.f0, x.f1, x.f2⟩
def fits (x : RA) : Prop := x.f0.length ≤ 1048576 ∧ x.f1.length ≤ 1048576 ∧ x.f2.length ≤ 1048576
def fitsT (x : RT) : Prop := x.f0.length ≤ 1048576 ∧ x.f1.length ≤ 1048576 ∧ x.f2.length ≤ 1048576

theorem rdA {xs : List RA} {i : Nat} (h : i < xs.length) : rd_T100 xs (i : Int) = xs[i] := by
  unfold rd_T100
  rw [Int.toNat_natCast, List.getD_eq_getElem?_getD, List.getElem?_eq_getElem h]; rfl
theorem rdT {xs : List RT} {i : Nat} (h : i < xs.length) : rd_T75 xs (i : Int) = xs[i] := by
  unfold rd_T75
  rw [Int.toNat_natCast, List.getD_eq_getElem?_getD, List.getElem?_eq_getElem h]; rfl

theorem szIntS_f (xs : List Int) (a : Int) (h0 : 0 ≤ a) (h1 : a ≤ 1048576) (hn : xs.length ≤ 9223372036854775807) :
    ∃ z, laws_szIntS.f xs a = some z ∧ (z < 0 ∨ (0 ≤ z ∧ z ≤ a ∧ xs.length ≤ 1048576)) := by
  unfold laws_szIntS.f
  rw [wrap_in (by omega) (by omega)]
  by_cases h : a - (xs.length : Int) < 0
  · rw [if_pos h]; exact ⟨_, rfl, Or.inl (by decide)⟩
  · rw [if_neg h]; exact ⟨_, rfl, Or.inr ⟨by omega, by omega, by omega⟩⟩

theorem szRow_f (a b c : List Int) (n : Int) (h0 : 0 ≤ n) (h1 : n ≤ 1048576) (ha : a.length ≤ 9223372036854775807) (hb : b.length ≤ 9223372036854775807) (hc : c.length ≤ 9223372036854775807) :
    ∃ z, laws_szRow.f a b c n = some z ∧ (z < 0 ∨ (0 ≤ z ∧ z ≤ n ∧ a.length ≤ 1048576 ∧ b.length ≤ 1048576 ∧ c.length ≤ 1048576)) := by
  unfold laws_szRow.f
  obtain ⟨z1, e1, g1⟩ := szIntS_f a n h0 h1 ha
  rw [e1]; simp only [Option.bind_some]
  rcases g1 with g1 | ⟨g1, g1', g1''⟩
  · rw [if_pos g1]; exact ⟨_, rfl, Or.inl (by decide)⟩
  rw [if_neg (by omega)]
  obtain ⟨z2, e2, g2⟩ := szIntS_f b z1 g1 (by omega) hb
  rw [e2]; simp only [Option.bind_some]
  rcases g2 with g2 | ⟨g2, g2', g2''⟩
  · rw [if_pos g2]; exact ⟨_, rfl, Or.inl (by decide)⟩
  rw [if_neg (by omega)]
  obtain ⟨z3, e3, g3⟩ := szIntS_f c z2 g2 (by omega) hc
  rw [e3]; simp only [Option.bind_some]
  rcases g3 with g3 | ⟨g3, g3', g3''⟩
  · rw [if_pos g3]; exact ⟨_, rfl, Or.inl (by decide)⟩
  rw [if_neg (by omega)]
  exact ⟨_, rfl, Or.inr ⟨by omega, by omega, by omega, by omega, by omega⟩⟩

theorem szRowS_l0 (xs : List RA) (hx : ∀ y ∈ xs, y.f0.length ≤ 9223372036854775807 ∧ y.f1.length ≤ 9223372036854775807 ∧ y.f2.length ≤ 9223372036854775807) (hn : xs.length ≤ 1048576) (d : Nat) : ∀ (i : Nat) (n : Int), i + d = xs.length → 0 ≤ n → n ≤ 1048576 →
    ∃ z, (∀ k, d < k → laws_szRowS.l0 k xs n (i : Int) = some z) ∧ (z < 0 ∨ (0 ≤ z ∧ ∀ y ∈ xs.drop i, fits y)) := by
  induction d with
  | zero =>
    intro i n hi h0 h1
    refine ⟨n, fun k hk => ?_, Or.inr ⟨h0, fun y hy => ?_⟩⟩
    · obtain ⟨k, rfl⟩ : ∃ m, k = m + 1 := ⟨k - 1, by omega⟩
      simp only [laws_szRowS.l0]
      rw [if_neg (by omega)]
    · rw [List.drop_of_length_le (by omega)] at hy; simp at hy
  | succ d ih =>
    intro i n hi h0 h1
    have hlt : i < xs.length := by omega
    obtain ⟨q0, q1, q2⟩ := hx xs[i] (List.getElem_mem hlt)
    obtain ⟨z, e, g⟩ := szRow_f xs[i].f0 xs[i].f1 xs[i].f2 n h0 h1 q0 q1 q2
    rcases g with g | ⟨g0, g1, g2, g3, g4⟩
    · refine ⟨-1, fun k hk => ?_, Or.inl (by decide)⟩
      obtain ⟨k, rfl⟩ : ∃ m, k = m + 1 := ⟨k - 1, by omega⟩
      simp only [laws_szRowS.l0]
      rw [if_pos (by omega), if_pos (by omega), rdA hlt, e]
      simp only [Option.bind_some]
      rw [if_pos g]
    · obtain ⟨z', e', g'⟩ := ih (i + 1) z (by omega) g0 (by omega)
      refine ⟨z', fun k hk => ?_, ?_⟩
      · obtain ⟨k, rfl⟩ : ∃ m, k = m + 1 := ⟨k - 1, by omega⟩
        simp only [laws_szRowS.l0]
        rw [if_pos (by omega), if_pos (by omega), rdA hlt, e]
        simp only [Option.bind_some]
        rw [if_neg (by omega), wrap_in (by omega) (by omega), show (i : Int) + 1 = ((i + 1 : Nat) : Int) by omega]
        exact e' k (by omega)
      · rcases g' with g' | ⟨g', g''⟩
        · exact Or.inl g'
        · refine Or.inr ⟨g', fun y hy => ?_⟩
          rw [List.drop_eq_getElem_cons hlt, List.mem_cons] at hy
          rcases hy with rfl | hy
          · exact ⟨g2, g3, g4⟩
          · exact g'' y hy

theorem szSystem_f (a b : Int) (xs : List RA) (hx : ∀ y ∈ xs, y.f0.length ≤ 9223372036854775807 ∧ y.f1.length ≤ 9223372036854775807 ∧ y.f2.length ≤ 9223372036854775807) (hn : xs.length ≤ 9223372036854775807) :
    ∃ z, (∀ k, 1048577 < k → laws_szSystem.f k a b xs 1048576 = some z) ∧ (z < 0 ∨ (0 ≤ z ∧ xs.length ≤ 1048576 ∧ ∀ y ∈ xs, fits y)) := by
  unfold laws_szSystem.f laws_szRowS.f
  rw [wrap_in (by omega) (by omega)]
  by_cases h : (1048576 : Int) - (xs.length : Int) < 0
  · refine ⟨-1, fun k hk => ?_, Or.inl (by decide)⟩
    rw [if_pos h]; rfl
  · obtain ⟨z, e, g⟩ := szRowS_l0 xs hx (by omega) xs.length 0 (1048576 - (xs.length : Int)) (by omega) (by omega) (by omega)
    rcases g with g | ⟨g, g'⟩
    · refine ⟨-1, fun k hk => ?_, Or.inl (by decide)⟩
      rw [if_neg h, show (0 : Int) = ((0 : Nat) : Int) from rfl, e k (by omega)]
      simp only [Option.bind_some]
      rw [if_pos (by omega)]
    · refine ⟨z, fun k hk => ?_, Or.inr ⟨g, by omega, fun y hy => g' y (by simpa using hy)⟩⟩
      rw [if_neg h, show (0 : Int) = ((0 : Nat) : Int) from rfl, e k (by omega)]
      simp only [Option.bind_some]
      rw [if_neg (by omega)]

theorem toRowS_l0 (xs : List RA) (hx : ∀ y ∈ xs, fits y) (hn : xs.length ≤ 1048576) (d : Nat) : ∀ (i k : Nat), i + d = xs.length → d + 1048578 < k →
    laws_toRowS.l0 k xs ((xs.take i).map conv ++ List.replicate d z75) (i : Int) = some (xs.map conv) := by
  induction d with
  | zero =>
    intro i k hi hk
    obtain ⟨k, rfl⟩ : ∃ m, k = m + 1 := ⟨k - 1, by omega⟩
    simp only [laws_toRowS.l0]
    rw [if_neg (by omega), List.take_of_length_le (by omega)]
    simp
  | succ d ih =>
    intro i k hi hk
    obtain ⟨k, rfl⟩ : ∃ m, k = m + 1 := ⟨k - 1, by omega⟩
    have hlt : i < xs.length := by omega
    obtain ⟨q0, q1, q2⟩ := hx xs[i] (List.getElem_mem hlt)
    have e : laws_toRow.f k xs[i].f0 xs[i].f1 xs[i].f2 = some (xs[i].f0, xs[i].f1, xs[i].f2) := by
      unfold laws_toRow.f
      rw [toIntS_f _ (by omega) k (by omega), toIntS_f _ (by omega) k (by omega), toIntS_f _ (by omega) k (by omega)]
      rfl
    simp only [laws_toRowS.l0]
    rw [if_pos (by omega), if_pos (by omega), rdA hlt, e]
    simp only [Option.bind_some]
    rw [if_pos (by simp; omega), Int.toNat_natCast, wrap_in (by omega) (by omega)]
    have hs : ((xs.take i).map conv ++ List.replicate (d + 1) z75).set i (⟨xs[i].f0, xs[i].f1, xs[i].f2⟩ : RT) = (xs.take (i + 1)).map conv ++ List.replicate d z75 := by
      rw [List.set_append_right _ _ (by simp; omega)]
      rw [List.take_succ_eq_append_getElem hlt, List.length_map, List.length_take, Nat.min_eq_left (by omega), Nat.sub_self, List.replicate_succ, List.set_cons_zero, List.map_append, List.append_assoc]
      rfl
    rw [hs, show (i : Int) + 1 = ((i + 1 : Nat) : Int) by omega]
    exact ih (i + 1) k (by omega) (by omega)

theorem toSystem_f (a b : Int) (xs : List RA) (hx : ∀ y ∈ xs, fits y) (hn : xs.length ≤ 1048576) (k : Nat) (hk : 2097154 < k) : laws_toSystem.f k a b xs = some (a, b, xs.map conv) := by
  unfold laws_toSystem.f laws_toRowS.f
  rw [if_pos (by omega), Int.toNat_natCast, if_pos (by omega)]
  have h := toRowS_l0 xs hx hn xs.length 0 k (by omega) (by omega)
  simp only [List.take_zero, List.map_nil, List.nil_append] at h
  rw [show (0 : Int) = ((0 : Nat) : Int) from rfl, h]
  rfl

theorem eqRow_same (x : RT) (h : fitsT x) (k : Nat) (hk : 1048577 < k) : laws_eqRow.f k x.f0 x.f1 x.f2 x.f0 x.f1 x.f2 = some true := by
  obtain ⟨h0, h1, h2⟩ := h
  unfold laws_eqRow.f
  rw [eqIntS_same _ (by omega) k (by omega), eqIntS_same _ (by omega) k (by omega), eqIntS_same _ (by omega) k (by omega)]
  rfl

theorem eqRowS_l0 (xs : List RT) (hx : ∀ y ∈ xs, fitsT y) (hn : xs.length ≤ 1048576) (d : Nat) : ∀ (i k : Nat), i + d = xs.length → d + 1048578 < k → laws_eqRowS.l0 k xs xs (i : Int) = some true := by
  induction d with
  | zero =>
    intro i k hi hk
    obtain ⟨k, rfl⟩ : ∃ m, k = m + 1 := ⟨k - 1, by omega⟩
    simp only [laws_eqRowS.l0]
    rw [if_neg (by omega)]
  | succ d ih =>
    intro i k hi hk
    obtain ⟨k, rfl⟩ : ∃ m, k = m + 1 := ⟨k - 1, by omega⟩
    have hlt : i < xs.length := by omega
    simp only [laws_eqRowS.l0]
    rw [if_pos (by omega), if_pos (by omega), if_pos (by omega), rdT hlt, eqRow_same _ (hx _ (List.getElem_mem hlt)) k (by omega)]
    simp only [Option.bind_some]
    rw [if_pos trivial, wrap_in (by omega) (by omega), show (i : Int) + 1 = ((i + 1 : Nat) : Int) by omega]
    exact ih (i + 1) k (by omega) (by omega)

theorem eqSystem_same (a b : Int) (xs : List RT) (hx : ∀ y ∈ xs, fitsT y) (hn : xs.length ≤ 1048576) (k : Nat) (hk : 2097154 < k) : laws_eqSystem.f k a b xs a b xs = some true := by
  unfold laws_eqSystem.f laws_eqRowS.f
  rw [if_pos rfl, if_pos rfl, if_pos rfl, show (0 : Int) = ((0 : Nat) : Int) from rfl, eqRowS_l0 xs hx hn xs.length 0 k (by omega) (by omega)]
  rfl

theorem conv_fits {xs : List RA} (h : ∀ y ∈ xs, fits y) : ∀ y ∈ xs.map conv, fitsT y := by
  intro y hy
  obtain ⟨x, hx, rfl⟩ := List.mem_map.1 hy
  exact h x hx

def inb (x : Int) : Bool := decide (0 ≤ x) && decide (x ≤ 1008)
def wide (xs : List Int) (n : Int) : Bool := xs.all inb && ((xs.length : Int) == n)

theorem rdI {xs : List Int} {i : Nat} (h : i < xs.length) : rd xs (i : Int) = xs[i] := by
  unfold rd
  rw [Int.toNat_natCast, List.getD_eq_getElem?_getD, List.getElem?_eq_getElem h]; rfl

theorem l01In_f (x : Int) : spec_l01In.f x 0 1008 = some (inb x) := by
  unfold spec_l01In.f inb
  by_cases h : x ≥ 0
  · rw [if_pos h]; simp [show (0 : Int) ≤ x from h]
  · rw [if_neg h]; simp [show ¬ (0 : Int) ≤ x from h]

theorem l13Wide_l0 (xs : List Int) (n : Int) (hn : xs.length ≤ 1048576) (d : Nat) : ∀ (i k : Nat), i + d = xs.length → d < k → spec_l13Wide.l0 k xs n (i : Int) = some ((xs.drop i).all inb && ((xs.length : Int) == n)) := by
  induction d with
  | zero =>
    intro i k hi hk
    obtain ⟨k, rfl⟩ : ∃ m, k = m + 1 := ⟨k - 1, by omega⟩
    simp only [spec_l13Wide.l0]
    rw [if_neg (by omega), List.drop_of_length_le (by omega)]; simp
  | succ d ih =>
    intro i k hi hk
    obtain ⟨k, rfl⟩ : ∃ m, k = m + 1 := ⟨k - 1, by omega⟩
    have hlt : i < xs.length := by omega
    simp only [spec_l13Wide.l0]
    rw [if_pos (by omega), if_pos (by omega), rdI hlt, l01In_f, List.drop_eq_getElem_cons hlt, List.all_cons]
    simp only [Option.bind_some]
    cases hb : inb xs[i]
    · rw [if_neg (by decide)]; simp
    · rw [if_pos rfl, wrap_in (by omega) (by omega), show (i : Int) + 1 = ((i + 1 : Nat) : Int) by omega, ih (i + 1) k (by omega) (by omega)]; simp

theorem l13Wide_f (xs : List Int) (n : Int) (hn : xs.length ≤ 1048576) (k : Nat) (hk : 1048577 < k) : spec_l13Wide.f k xs n = some (wide xs n) := by
  unfold spec_l13Wide.f
  rw [show (0 : Int) = ((0 : Nat) : Int) from rfl, l13Wide_l0 xs n hn xs.length 0 k (by omega) (by omega)]; rfl

theorem isScalar_f (x : Int) : impl_isScalar.f x = some (inb x) := by
  unfold impl_isScalar.f inb
  by_cases h : x ≥ 0
  · rw [if_pos h]
    have : decide (x < 1009) = decide (x ≤ 1008) := by rw [decide_eq_decide]; omega
    rw [this]; simp [show (0 : Int) ≤ x from h]
  · rw [if_neg h]; simp [show ¬ (0 : Int) ≤ x from h]

theorem areScalars_l0 (xs : List Int) (hn : xs.length ≤ 1048576) (d : Nat) : ∀ (i k : Nat), i + d = xs.length → d < k → impl_areScalars.l0 k xs (xs.length : Int) (i : Int) = some ((xs.drop i).all inb) := by
  induction d with
  | zero =>
    intro i k hi hk
    obtain ⟨k, rfl⟩ : ∃ m, k = m + 1 := ⟨k - 1, by omega⟩
    simp only [impl_areScalars.l0]
    rw [if_neg (by omega), List.drop_of_length_le (by omega)]; simp
  | succ d ih =>
    intro i k hi hk
    obtain ⟨k, rfl⟩ : ∃ m, k = m + 1 := ⟨k - 1, by omega⟩
    have hlt : i < xs.length := by omega
    simp only [impl_areScalars.l0]
    rw [if_pos (by omega), if_pos (by omega), if_pos (by omega), rdI hlt, isScalar_f, List.drop_eq_getElem_cons hlt, List.all_cons]
    simp only [Option.bind_some]
    cases hb : inb xs[i]
    · rw [if_neg (by decide)]; simp
    · rw [if_pos rfl, wrap_in (by omega) (by omega), show (i : Int) + 1 = ((i + 1 : Nat) : Int) by omega, ih (i + 1) k (by omega) (by omega)]; simp

theorem areScalars_f (xs : List Int) (hn : xs.length ≤ 1048576) (k : Nat) (hk : 1048577 < k) : impl_areScalars.f k xs = some (xs.all inb) := by
  unfold impl_areScalars.f
  have h := areScalars_l0 xs hn xs.length 0 k (by omega) (by omega)
  rw [List.drop_zero] at h
  exact h

def rowOk (n : Int) (x : RT) : Bool := wide x.f0 n && wide x.f1 n && wide x.f2 n
def sysOk (a b : Int) (xs : List RT) : Bool := decide (1 ≤ a) && decide (a ≤ 20) && decide (0 ≤ b) && decide (b ≤ a - 1) && decide (1 ≤ xs.length) && decide (xs.length ≤ 16) && xs.all (rowOk a)

theorem specOk_l0 (a b : Int) (xs : List RT) (hx : ∀ y ∈ xs, fitsT y) (hn : xs.length ≤ 1048576) (d : Nat) : ∀ (i k : Nat), i + d = xs.length → d + 1048578 < k →
    spec_SystemOk.l0 k (i : Int) a b xs = some ((xs.drop i).all (rowOk a)) := by
  induction d with
  | zero =>
    intro i k hi hk
    obtain ⟨k, rfl⟩ : ∃ m, k = m + 1 := ⟨k - 1, by omega⟩
    simp only [spec_SystemOk.l0]
    rw [if_neg (by omega), List.drop_of_length_le (by omega)]; simp
  | succ d ih =>
    intro i k hi hk
    obtain ⟨k, rfl⟩ : ∃ m, k = m + 1 := ⟨k - 1, by omega⟩
    have hlt : i < xs.length := by omega
    obtain ⟨q0, q1, q2⟩ := hx xs[i] (List.getElem_mem hlt)
    simp only [spec_SystemOk.l0]
    rw [if_pos (by omega), if_pos (by omega), rdT hlt, l13Wide_f _ _ q0 k (by omega), l13Wide_f _ _ q1 k (by omega), l13Wide_f _ _ q2 k (by omega), List.drop_eq_getElem_cons hlt, List.all_cons]
    simp only [Option.bind_some]
    rw [wrap_in (by omega) (by omega), show (i : Int) + 1 = ((i + 1 : Nat) : Int) by omega, ih (i + 1) k (by omega) (by omega)]
    unfold rowOk
    cases wide xs[i].f0 a <;> cases wide xs[i].f1 a <;> cases wide xs[i].f2 a <;> simp

theorem specOk_f (a b : Int) (xs : List RT) (ha : -9223372036854775808 ≤ a) (hx : ∀ y ∈ xs, fitsT y) (hn : xs.length ≤ 1048576) (k : Nat) (hk : 2097156 < k) : spec_SystemOk.f k a b xs = some (sysOk a b xs) := by
  obtain ⟨k, rfl⟩ : ∃ m, k = m + 1 := ⟨k - 1, by omega⟩
  have h0 := specOk_l0 a b xs hx hn xs.length 0 k (by omega) (by omega)
  rw [List.drop_zero, Int.ofNat_zero] at h0
  unfold spec_SystemOk.f spec_l01In.f sysOk
  by_cases c1 : a ≥ 1
  · rw [if_pos c1, decide_eq_true (show 1 ≤ a from c1)]
    simp only [Option.bind_some]
    by_cases c2 : a ≤ 20
    · rw [decide_eq_true c2, if_pos rfl, wrap_in (by omega) (by omega)]
      by_cases c3 : b ≥ 0
      · rw [if_pos c3, decide_eq_true (show 0 ≤ b from c3)]
        simp only [Option.bind_some]
        by_cases c4 : b ≤ a - 1
        · rw [decide_eq_true c4, if_pos rfl]
          by_cases c5 : 1 ≤ xs.length
          · rw [if_pos (by omega), decide_eq_true c5]
            simp only [Option.bind_some, spec_SystemOk.j0]
            by_cases c6 : xs.length ≤ 16
            · rw [decide_eq_true (show (xs.length : Int) ≤ 16 by omega), decide_eq_true c6, if_neg (by decide), h0]; simp
            · rw [decide_eq_false (show ¬ (xs.length : Int) ≤ 16 by omega), decide_eq_false c6, if_pos (by decide)]; simp
          · rw [if_neg (by omega), decide_eq_false c5]
            simp [spec_SystemOk.j0]
        · rw [decide_eq_false c4, if_neg (by decide)]; simp [spec_SystemOk.j0]
      · rw [if_neg c3, decide_eq_false (show ¬ 0 ≤ b from c3)]; simp [spec_SystemOk.j0]
    · rw [decide_eq_false c2, if_neg (by decide)]; simp [spec_SystemOk.j0]
  · rw [if_neg c1, decide_eq_false (show ¬ 1 ≤ a from c1)]; simp [spec_SystemOk.j0]

theorem implOk_l0 (a b : Int) (xs zs : List RT) (hx : ∀ y ∈ xs, fitsT y) (hn : xs.length ≤ 1048576) (d : Nat) : ∀ (i k : Nat), i + d = xs.length → 3 * d + 1048590 < k →
    impl_SystemOk.l0 k xs (xs.length : Int) (i : Int) a b zs = some ((xs.drop i).all (rowOk a)) := by
  induction d with
  | zero =>
    intro i k hi hk
    obtain ⟨k, rfl⟩ : ∃ m, k = m + 1 := ⟨k - 1, by omega⟩
    simp only [impl_SystemOk.l0]
    rw [if_neg (by omega), List.drop_of_length_le (by omega)]; simp
  | succ d ih =>
    intro i k hi hk
    obtain ⟨k, rfl⟩ : ∃ m, k = m + 3 := ⟨k - 3, by omega⟩
    have hlt : i < xs.length := by omega
    obtain ⟨q0, q1, q2⟩ := hx xs[i] (List.getElem_mem hlt)
    simp only [impl_SystemOk.l0, impl_SystemOk.j3, impl_SystemOk.j4]
    rw [if_pos (by omega), if_pos (by omega), if_pos (by omega), rdT hlt, areScalars_f _ q0 (k + 2) (by omega), areScalars_f _ q1 (k + 1) (by omega), areScalars_f _ q2 k (by omega), List.drop_eq_getElem_cons hlt, List.all_cons]
    simp only [Option.bind_some]
    rw [wrap_in (by omega) (by omega), show (i : Int) + 1 = ((i + 1 : Nat) : Int) by omega, ih (i + 1) k (by omega) (by omega)]
    unfold rowOk wide
    by_cases c0 : (xs[i].f0.length : Int) = a <;> by_cases c1 : (xs[i].f1.length : Int) = a <;> by_cases c2 : (xs[i].f2.length : Int) = a <;>
      cases xs[i].f0.all inb <;> cases xs[i].f1.all inb <;> cases xs[i].f2.all inb <;> simp [c0, c1, c2]

theorem implOk_f (a b : Int) (xs : List RT) (ha : -9223372036854775808 ≤ a) (hx : ∀ y ∈ xs, fitsT y) (hn : xs.length ≤ 1048576) (k : Nat) (hk : 4194400 < k) : impl_SystemOk.f k a b xs = some (sysOk a b xs) := by
  obtain ⟨k, rfl⟩ : ∃ m, k = m + 2 := ⟨k - 2, by omega⟩
  have h0 := implOk_l0 a b xs xs hx hn xs.length 0 k (by omega) (by omega)
  rw [List.drop_zero, Int.ofNat_zero] at h0
  unfold impl_SystemOk.f sysOk
  by_cases c1 : 1 ≤ a
  · rw [if_neg (by omega), decide_eq_true c1]
    by_cases c2 : a ≤ 20
    · rw [if_neg (by omega), decide_eq_true c2, wrap_in (by omega) (by omega)]
      by_cases c3 : 0 ≤ b
      · rw [if_neg (by omega), decide_eq_true c3]
        simp only [impl_SystemOk.j0, impl_SystemOk.j1]
        by_cases c4 : b ≤ a - 1
        · rw [decide_eq_false (show ¬ b > a - 1 by omega), decide_eq_true c4, if_neg (by decide)]
          by_cases c5 : 1 ≤ xs.length
          · rw [if_neg (by omega), decide_eq_true c5]
            by_cases c6 : xs.length ≤ 16
            · rw [decide_eq_false (show ¬ (xs.length : Int) > 16 by omega), decide_eq_true c6, if_neg (by decide), h0]; simp
            · rw [decide_eq_true (show (xs.length : Int) > 16 by omega), decide_eq_false c6]; simp
          · rw [if_pos (by omega), decide_eq_false c5]; simp
        · rw [decide_eq_true (show b > a - 1 by omega), decide_eq_false c4]; simp
      · rw [if_pos (by omega), decide_eq_false c3]; simp [impl_SystemOk.j0]
    · rw [if_pos (by omega), decide_eq_false c2]; simp [impl_SystemOk.j0]
  · rw [if_pos (by omega), decide_eq_false c1]; simp [impl_SystemOk.j0]
end Go.Proofs.Ythdpfjkdpeamnaa.Sys
end
section
/- What is proved here: that Satisfied of the program and of the reference are one plain function. No conditions but sizes. -/
set_option linter.unusedVariables false
set_option linter.unusedSimpArgs false
namespace Go.Proofs.Ythdpfjkdpeamnaa.Sys
open Go.RowKit Go.Proofs.Ythdpfjkdpeamnaa.Pf Go.Proofs.YthdpfjkdpeamnaaW.PrintWords Go.Proofs.Ythdpfjkdpeamnaa.Ints
set_option maxRecDepth 4000

def sc (a : Int) : Int := if Int.tmod a 1009 < 0 then wrap64 (Int.tmod a 1009 + 1009) else Int.tmod a 1009
def smul (a b : Int) : Int := sc (wrap64 (sc a * sc b))
def sadd (a b : Int) : Int := sc (wrap64 (sc a + sc b))
theorem specSc (a : Int) : spec_ScOf.f a = some (sc a) := by
  unfold spec_ScOf.f sc; split <;> rfl
theorem implSc (a : Int) : impl_ScOf.f a = some (sc a) := by
  unfold impl_ScOf.f impl_remainder.f sc
  rw [if_neg (by decide)]; split <;> rfl
theorem specMul (a b : Int) : spec_ScMul.f a b = some (smul a b) := by
  unfold spec_ScMul.f smul; rw [specSc, specSc]; simp only [Option.bind_some, specSc]
theorem implMul (a b : Int) : impl_ScMul.f a b = some (smul a b) := by
  unfold impl_ScMul.f smul; rw [implSc, implSc]; simp only [Option.bind_some, implSc]
theorem specAdd (a b : Int) : spec_ScAdd.f a b = some (sadd a b) := by
  unfold spec_ScAdd.f sadd; rw [specSc, specSc]; simp only [Option.bind_some, specSc]
theorem implAdd (a b : Int) : impl_ScAdd.f a b = some (sadd a b) := by
  unfold impl_ScAdd.f sadd; rw [implSc, implSc]; simp only [Option.bind_some, implSc]

def dot : List Int → List Int → Int → Int
  | x :: xs, y :: ys, a => dot xs ys (sadd a (smul x y))
  | _, _, a => a

theorem dot_stop (xs ys : List Int) (a : Int) (h : ¬ (0 < xs.length ∧ 0 < ys.length)) : dot xs ys a = a := by
  cases xs with
  | nil => rfl
  | cons x xs => cases ys with
    | nil => rfl
    | cons y ys => exact absurd ⟨by simp, by simp⟩ h

theorem specDot_l0 (xs ys : List Int) (hn : xs.length ≤ 1048576) (d : Nat) : ∀ (i k : Nat) (a : Int), i + d = xs.length → 2 * d + 1 < k →
    spec_ScDot.l0 k xs ys a (i : Int) = some (dot (xs.drop i) (ys.drop i) a) := by
  induction d with
  | zero =>
    intro i k a hi hk
    obtain ⟨k, rfl⟩ : ∃ m, k = m + 2 := ⟨k - 2, by omega⟩
    simp only [spec_ScDot.l0, spec_ScDot.j1]
    rw [if_neg (by omega), if_neg (by decide), dot_stop _ _ _ (by simp; omega)]
  | succ d ih =>
    intro i k a hi hk
    obtain ⟨k, rfl⟩ : ∃ m, k = m + 2 := ⟨k - 2, by omega⟩
    have hlt : i < xs.length := by omega
    simp only [spec_ScDot.l0, spec_ScDot.j1]
    rw [if_pos (by omega)]
    by_cases hy : i < ys.length
    · rw [if_pos (decide_eq_true (by omega)), if_pos (by omega), if_pos (by omega), if_pos (by omega), rdI hlt, rdI hy, specMul]
      simp only [Option.bind_some, specAdd]
      rw [wrap_in (by omega) (by omega), show (i : Int) + 1 = ((i + 1 : Nat) : Int) by omega, ih (i + 1) k _ (by omega) (by omega), List.drop_eq_getElem_cons hlt, List.drop_eq_getElem_cons hy]
      rfl
    · rw [if_neg (by rw [decide_eq_true_eq]; omega), dot_stop _ _ _ (by simp; omega)]

theorem implDot_l0 (xs ys : List Int) (hn : xs.length ≤ 1048576) (d : Nat) : ∀ (i k : Nat) (a : Int), i + d = min xs.length ys.length → d < k →
    impl_ScDot.l0 k xs ys a (mn (xs.length : Int) (ys.length : Int)) (i : Int) = some (dot (xs.drop i) (ys.drop i) a) := by
  have hm : mn (xs.length : Int) (ys.length : Int) = ((min xs.length ys.length : Nat) : Int) := by unfold mn; omega
  rw [hm]
  induction d with
  | zero =>
    intro i k a hi hk
    obtain ⟨k, rfl⟩ : ∃ m, k = m + 1 := ⟨k - 1, by omega⟩
    simp only [impl_ScDot.l0]
    rw [if_neg (by omega), dot_stop _ _ _ (by simp; omega)]
  | succ d ih =>
    intro i k a hi hk
    obtain ⟨k, rfl⟩ : ∃ m, k = m + 1 := ⟨k - 1, by omega⟩
    have hlt : i < xs.length := by omega
    have hy : i < ys.length := by omega
    simp only [impl_ScDot.l0]
    rw [if_pos (by omega), if_pos (by omega), if_pos (by omega), if_pos (by omega), rdI hlt, rdI hy, implMul]
    simp only [Option.bind_some, implAdd]
    rw [wrap_in (by omega) (by omega), show (i : Int) + 1 = ((i + 1 : Nat) : Int) by omega, ih (i + 1) k _ (by omega) (by omega), List.drop_eq_getElem_cons hlt, List.drop_eq_getElem_cons hy]
    rfl

theorem specDot_f (xs ys : List Int) (hn : xs.length ≤ 1048576) (k : Nat) (hk : 2097154 < k) : spec_ScDot.f k xs ys = some (dot xs ys 0) := by
  unfold spec_ScDot.f
  have h := specDot_l0 xs ys hn xs.length 0 k 0 (by omega) (by omega)
  simpa using h
theorem implDot_f (xs ys : List Int) (hn : xs.length ≤ 1048576) (k : Nat) (hk : 2097154 < k) : impl_ScDot.f k xs ys = some (dot xs ys 0) := by
  unfold impl_ScDot.f
  have h := implDot_l0 xs ys hn (min xs.length ys.length) 0 k 0 (by omega) (by omega)
  simpa using h

def rowSat (w : List Int) (x : RT) : Bool := decide (smul (dot x.f0 w 0) (dot x.f1 w 0) = dot x.f2 w 0)

theorem specSat_l0 (a b : Int) (xs : List RT) (w : List Int) (hx : ∀ y ∈ xs, fitsT y) (hn : xs.length ≤ 1048576) (d : Nat) : ∀ (i k : Nat), i + d = xs.length → d + 2097156 < k →
    spec_Satisfied.l0 k w (i : Int) a b xs = some ((xs.drop i).all (rowSat w)) := by
  induction d with
  | zero =>
    intro i k hi hk
    obtain ⟨k, rfl⟩ : ∃ m, k = m + 1 := ⟨k - 1, by omega⟩
    simp only [spec_Satisfied.l0]
    rw [if_neg (by omega), List.drop_of_length_le (by omega)]; simp
  | succ d ih =>
    intro i k hi hk
    obtain ⟨k, rfl⟩ : ∃ m, k = m + 1 := ⟨k - 1, by omega⟩
    have hlt : i < xs.length := by omega
    obtain ⟨q0, q1, q2⟩ := hx xs[i] (List.getElem_mem hlt)
    simp only [spec_Satisfied.l0]
    rw [if_pos (by omega), if_pos (by omega), rdT hlt, specDot_f _ _ q0 k (by omega), specDot_f _ _ q1 k (by omega), specDot_f _ _ q2 k (by omega), List.drop_eq_getElem_cons hlt, List.all_cons]
    simp only [Option.bind_some, specMul]
    rw [wrap_in (by omega) (by omega), show (i : Int) + 1 = ((i + 1 : Nat) : Int) by omega, ih (i + 1) k (by omega) (by omega)]
    unfold rowSat
    by_cases c : smul (dot xs[i].f0 w 0) (dot xs[i].f1 w 0) = dot xs[i].f2 w 0
    · rw [if_pos c, decide_eq_true c]; simp
    · rw [if_neg c, decide_eq_false c]; simp

theorem implSat_l0 (xs : List RT) (w : List Int) (hx : ∀ y ∈ xs, fitsT y) (hn : xs.length ≤ 1048576) (d : Nat) : ∀ (i k : Nat), i + d = xs.length → d + 2097156 < k →
    impl_Satisfied.l0 k w xs (xs.length : Int) (i : Int) = some ((xs.drop i).all (rowSat w)) := by
  induction d with
  | zero =>
    intro i k hi hk
    obtain ⟨k, rfl⟩ : ∃ m, k = m + 1 := ⟨k - 1, by omega⟩
    simp only [impl_Satisfied.l0]
    rw [if_neg (by omega), List.drop_of_length_le (by omega)]; simp
  | succ d ih =>
    intro i k hi hk
    obtain ⟨k, rfl⟩ : ∃ m, k = m + 1 := ⟨k - 1, by omega⟩
    have hlt : i < xs.length := by omega
    obtain ⟨q0, q1, q2⟩ := hx xs[i] (List.getElem_mem hlt)
    simp only [impl_Satisfied.l0]
    rw [if_pos (by omega), if_pos (by omega), if_pos (by omega), rdT hlt, implDot_f _ _ q0 k (by omega), implDot_f _ _ q1 k (by omega), implDot_f _ _ q2 k (by omega), List.drop_eq_getElem_cons hlt, List.all_cons]
    simp only [Option.bind_some, implMul]
    rw [wrap_in (by omega) (by omega), show (i : Int) + 1 = ((i + 1 : Nat) : Int) by omega, ih (i + 1) k (by omega) (by omega)]
    unfold rowSat
    by_cases c : smul (dot xs[i].f0 w 0) (dot xs[i].f1 w 0) = dot xs[i].f2 w 0
    · rw [if_pos c, decide_eq_true c]; simp
    · rw [if_neg c, decide_eq_false c]; simp

def sat (a b : Int) (xs : List RT) (w : List Int) : Bool := sysOk a b xs && wide w a && decide (w.getD 0 0 = 1) && xs.all (rowSat w)

theorem sysOk_le {a b : Int} {xs : List RT} (h : sysOk a b xs = true) : 1 ≤ a := by
  unfold sysOk at h
  simp only [Bool.and_eq_true, decide_eq_true_eq] at h
  exact h.1.1.1.1.1.1

theorem specSat_f (a b : Int) (xs : List RT) (w : List Int) (ha : -9223372036854775808 ≤ a) (hx : ∀ y ∈ xs, fitsT y) (hn : xs.length ≤ 1048576) (hw : w.length ≤ 1048576) (k : Nat) (hk : 4194410 < k) : spec_Satisfied.f k a b xs w = some (sat a b xs w) := by
  obtain ⟨k, rfl⟩ : ∃ m, k = m + 1 := ⟨k - 1, by omega⟩
  have h0 := specSat_l0 a b xs w hx hn xs.length 0 k (by omega) (by omega)
  rw [List.drop_zero, Int.ofNat_zero] at h0
  unfold spec_Satisfied.f sat
  rw [specOk_f a b xs ha hx hn (k + 1) (by omega)]
  simp only [Option.bind_some]
  cases hs : sysOk a b xs with
  | false => simp [spec_Satisfied.j0]
  | true =>
    have h1 := sysOk_le hs
    rw [if_pos rfl, l13Wide_f w a hw (k + 1) (by omega)]
    simp only [Option.bind_some]
    cases hv : wide w a with
    | false => simp [spec_Satisfied.j0]
    | true =>
      have h2 : (w.length : Int) = a := by
        unfold wide at hv; simp only [Bool.and_eq_true, beq_iff_eq] at hv; exact hv.2
      rw [if_pos rfl, if_pos (by omega)]
      have h3 : rd w 0 = w.getD 0 0 := rfl
      rw [h3]
      by_cases c : w.getD 0 0 = 1
      · rw [decide_eq_true c, c]; simp only [spec_Satisfied.j0]; rw [if_neg (by decide), h0]; simp
      · rw [decide_eq_false c]; simp only [spec_Satisfied.j0]; rw [if_pos (by simpa using c)]; simp

theorem implSat_f (a b : Int) (xs : List RT) (w : List Int) (ha : -9223372036854775808 ≤ a) (hx : ∀ y ∈ xs, fitsT y) (hn : xs.length ≤ 1048576) (hw : w.length ≤ 1048576) (k : Nat) (hk : 4194410 < k) : impl_Satisfied.f k a b xs w = some (sat a b xs w) := by
  obtain ⟨k, rfl⟩ : ∃ m, k = m + 1 := ⟨k - 1, by omega⟩
  have h0 := implSat_l0 xs w hx hn xs.length 0 k (by omega) (by omega)
  rw [List.drop_zero, Int.ofNat_zero] at h0
  unfold impl_Satisfied.f sat
  rw [implOk_f a b xs ha hx hn (k + 1) (by omega)]
  simp only [Option.bind_some]
  cases hs : sysOk a b xs with
  | false => simp [impl_Satisfied.j0]
  | true =>
    have h1 := sysOk_le hs
    have hW : impl_isWitness.f (k + 1) a b xs w = some (wide w a) := by
      unfold impl_isWitness.f wide
      rw [areScalars_f w hw (k + 1) (by omega)]
      by_cases c : (w.length : Int) = a
      · rw [if_pos c, c]; simp
      · rw [if_neg c]; simp [c]
    rw [if_pos rfl, hW]
    simp only [Option.bind_some]
    cases hv : wide w a with
    | false => simp [impl_Satisfied.j0]
    | true =>
      have h2 : (w.length : Int) = a := by
        unfold wide at hv; simp only [Bool.and_eq_true, beq_iff_eq] at hv; exact hv.2
      rw [if_pos rfl, if_pos (by omega)]
      have h3 : rd w 0 = w.getD 0 0 := rfl
      rw [h3]
      by_cases c : w.getD 0 0 = 1
      · rw [decide_eq_true c, c]; simp only [impl_Satisfied.j0]; rw [if_neg (by decide), h0]; simp
      · rw [decide_eq_false c]; simp only [impl_Satisfied.j0]; rw [if_pos (by simpa using c)]; simp
end Go.Proofs.Ythdpfjkdpeamnaa.Sys
end
section
/- What is proved here: for every system and every list the program's Satisfied and the reference's answer the same, and both stay as they were. No conditions. -/
set_option linter.unusedVariables false
set_option linter.unusedSimpArgs false
namespace Go.Proofs.Ythdpfjkdpeamnaa.Pure
open Go.RowKit Go.Proofs.Ythdpfjkdpeamnaa.Pf Go.Proofs.YthdpfjkdpeamnaaW.PrintWords Go.Proofs.Ythdpfjkdpeamnaa.Sys Go.Proofs.Ythdpfjkdpeamnaa.Ints

theorem FnExactSatisfied : laws_FnExactSatisfied.Pure := by
  intro a b xs w ha hb hx hw
  have hwf : -9223372036854775808 ≤ a := (by first | exact (Go.bounds_i64 ha).1 | exact (Go.OpenShut.bounds_i64 ha).1)
  obtain ⟨z, e, g⟩ := szSystem_f a b xs (fun y hy => ⟨(hx.2 y hy).1.1, (hx.2 y hy).2.1.1, (hx.2 y hy).2.2.1⟩) hx.1
  refine ⟨5000000, ?_⟩
  unfold laws_FnExactSatisfied.f
  by_cases hl1 : (w.length : Int) > 1048576
  · rw [if_pos hl1]
  rw [if_neg hl1, e _ (by decide)]
  simp only [Option.bind_some]
  rcases g with g | ⟨g0, g1, g2⟩
  · rw [if_pos g]
  have hw1 : w.length ≤ 1048576 := by omega
  rw [if_neg (by omega), toSystem_f a b xs g2 g1 _ (by decide), toIntS_f w (by omega) _ (by omega)]
  simp only [Option.bind_some]
  have hl : (xs.map conv).length ≤ 1048576 := by rw [List.length_map]; exact g1
  rw [specSat_f a b _ w hwf (conv_fits g2) hl hw1 _ (by decide), implSat_f a b _ w hwf (conv_fits g2) hl hw1 _ (by decide), eqSystem_same a b _ (conv_fits g2) hl _ (by decide), eqIntS_same w (by omega) _ (by omega)]
  simp
end Go.Proofs.Ythdpfjkdpeamnaa.Pure
end
section
/- What is proved here: a value of a Go type that reads as data opens into the print's own kinds (Kd), for whole numbers, bools, strings, slices and structs. No conditions. -/
set_option linter.unusedVariables false
set_option linter.unusedSimpArgs false
namespace Go.Proofs.Ythdpfjkdpeamnaa.Open
open Go.RowKit Go.Proofs.YthdpfjkdpeamnaaW.PrintWords Go.ChangeShapes Go.WideShapes

def Opens (P : Program) (t : TypeId) {α : Type} (d : Kd α) (g : α → Prop) : Prop :=
  ∀ {H : Type} (enc : TypeId × Value → H) (w : World) (base : Nat) (spare : Nat → Bool) (held : Bool) (fuel : Nat) (cs : List Value) (x : DataW H × List MemPlace),
    DataW.trod enc P w base spare held fuel t cs = some x → ∃ a, d.K w a cs ∧ g a

theorem list_of {α : Type} {p : Nat → α → Prop} : ∀ n, (∀ i, i < n → ∃ y, p i y) → ∃ ys : List α, ys.length = n ∧ ∀ i y, ys[i]? = some y → p i y
  | 0, _ => ⟨[], rfl, fun i y h => by simp at h⟩
  | n + 1, h => by
    obtain ⟨ys, hl, hy⟩ := list_of n (fun i hi => h i (by omega))
    obtain ⟨y, hy'⟩ := h n (by omega)
    refine ⟨ys ++ [y], by simp [hl], fun i z hz => ?_⟩
    rcases Nat.lt_or_ge i n with hi | hi
    · rw [List.getElem?_append_left (by omega)] at hz
      exact hy i z hz
    · have h1 := (List.getElem?_eq_some_iff.1 hz).1
      rw [List.length_append, List.length_singleton] at h1
      have h2 : i = n := by omega
      subst h2
      rw [List.getElem?_append_right (by omega), hl, Nat.sub_self] at hz
      simp at hz
      subst hz
      exact hy'

section
variable {P : Program} {t : TypeId}
theorem opens_int {k : IntKind} (h : P.underlying t = some (.int k)) : Opens P t (Kd.int k) (fun n => (Lit.int k n).wf = true) := by
  intro H enc w base spare held fuel cs x hx
  obtain ⟨n, rfl, _, hw⟩ := DataW.trod_int h hx
  exact ⟨n, rfl, hw⟩
theorem opens_bool (h : P.underlying t = some .bool) : Opens P t Kd.bool (fun _ => True) := by
  intro H enc w base spare held fuel cs x hx
  obtain ⟨b, hb⟩ : ∃ b, cs = [.bool b] := by
    cases fuel with
    | zero => simp [DataW.trod] at hx
    | succ n =>
      unfold DataW.trod at hx
      rw [h] at hx
      split at hx <;> simp_all
  exact ⟨b, hb, trivial⟩
theorem opens_string (h : P.underlying t = some .string) : Opens P t Kd.string (fun s => s.size ≤ maxLen) := by
  intro H enc w base spare held fuel cs x hx
  obtain ⟨n, rfl, _, hw⟩ := DataW.trod_string h hx
  exact ⟨n, rfl, hw⟩
theorem opens_slice {e : TypeId} {α : Type} {d : Kd α} {g : α → Prop} (ht : P.underlying t = some (.slice e)) (hc : P.cellsOf e = d.sz) (he : Opens P e d g) :
    Opens P t (Kd.slice e d) (fun xs => xs.length ≤ 9223372036854775807 ∧ ∀ x ∈ xs, g x) := by
  intro H enc w base spare held fuel cs x h
  rcases Go.Deep.open_slice ht h with ⟨rfl, _⟩ | ⟨a, len, cap, m, n, D, Pl, rfl, hb, hl, hm, hmm, _, hx⟩
  · exact ⟨[], ⟨none, 0, rfl, Nat.le_refl _, Kd.C_nil d w⟩, by simp, fun x hx => by cases hx⟩
  · have hlm : len ≤ m := by rw [hmm]; split <;> omega
    obtain ⟨ys, hy1, hy2⟩ := list_of (p := fun i y => ∃ c, w.cells? base (a.add (i * P.cellsOf e)) (P.cellsOf e) = some c ∧ d.K w y c ∧ g y) len (fun i hi => by
      obtain ⟨c, h1, h2⟩ := hx i (by omega)
      obtain ⟨y, h3, h4⟩ := he _ _ _ _ _ _ _ _ h2
      exact ⟨y, c, h1, h3, h4⟩)
    unfold maxLen at hm
    refine ⟨ys, ⟨some a, cap, by rw [hy1], by omega, rfl, by omega, fun _ => ⟨a, rfl, fun j p hp => ?_⟩⟩, by omega, fun y hy => ?_⟩
    · obtain ⟨c, h1, h2, h3⟩ := hy2 j p hp
      obtain ⟨_, hlen, hcell⟩ := World.cells?_some h1
      refine ⟨c, by rw [hlen, hc], h2, fun i u hu => ?_⟩
      have hi := (List.getElem?_eq_some_iff.1 hu).1
      have := hcell i (by omega)
      rw [Go.Deep.add_add, hc] at this
      rw [this, hu]
    · obtain ⟨i, hi⟩ := List.mem_iff_getElem?.1 hy
      obtain ⟨c, h1, h2, h3⟩ := hy2 i y hi
      exact h3
theorem opens_iso {α β : Type} {d : Kd α} {g : α → Prop} (f : β → α) (mk : α → β) (hf : ∀ a, f (mk a) = a) (h : Opens P t d g) : Opens P t (Kd.iso d f) (fun x => g (f x)) := by
  intro H enc w base spare held fuel cs x hx
  obtain ⟨a, h1, h2⟩ := h enc w base spare held fuel cs x hx
  exact ⟨mk a, by show d.K w (f (mk a)) cs; rw [hf]; exact h1, by show g (f (mk a)); rw [hf]; exact h2⟩
theorem struct_field {fs : Array Field} {H : Type} {enc : TypeId × Value → H} {w : World} {base : Nat} {spare : Nat → Bool} {held : Bool} {n : Nat} {cs : List Value} {xs : List (DataW H × List MemPlace)} (hl : xs.length = fs.size)
    (hf : ∀ (i : Nat) (f : Field), fs[i]? = some f → DataW.trod enc P w base spare held n f.type ((cs.drop f.offset).take (P.cellsOf f.type)) = xs[i]?) {i : Nat} {f : Field} (hi : fs[i]? = some f) {α : Type} {d : Kd α} {g : α → Prop} (ho : Opens P f.type d g) :
    ∃ a, d.K w a ((cs.drop f.offset).take (P.cellsOf f.type)) ∧ g a := by
  have h1 := hf i f hi
  have h2 : i < xs.length := by rw [hl]; exact (Array.getElem?_eq_some_iff.1 hi).1
  rw [List.getElem?_eq_getElem h2] at h1
  exact ho _ _ _ _ _ _ _ _ h1
theorem opens_struct1 {f0 : Field} {α : Type} {d0 : Kd α} {g0 : α → Prop} (ht : P.underlying t = some (.struct #[f0])) (h0 : Opens P f0.type d0 g0)
    (s0 : P.cellsOf f0.type = d0.sz) (o0 : f0.offset = 0) (st : P.cellsOf t = d0.sz) : Opens P t d0 g0 := by
  intro H enc w base spare held fuel cs x hx
  obtain ⟨xs, n, _, _, hlen, hl, hf⟩ := DataW.trod_struct ht hx
  obtain ⟨a, ha, hg⟩ := struct_field hl hf (i := 0) (f := f0) rfl h0
  rw [o0, s0, List.drop_zero, List.take_of_length_le (by omega)] at ha
  exact ⟨a, ha, hg⟩
theorem opens_struct2 {f0 f1 : Field} {α β : Type} {d0 : Kd α} {d1 : Kd β} {g0 : α → Prop} {g1 : β → Prop} (ht : P.underlying t = some (.struct #[f0, f1])) (h0 : Opens P f0.type d0 g0) (h1 : Opens P f1.type d1 g1)
    (s0 : P.cellsOf f0.type = d0.sz) (s1 : P.cellsOf f1.type = d1.sz) (o0 : f0.offset = 0) (o1 : f1.offset = d0.sz) (st : P.cellsOf t = d0.sz + d1.sz) : Opens P t (Kd.pair d0 d1) (fun x => g0 x.1 ∧ g1 x.2) := by
  intro H enc w base spare held fuel cs x hx
  obtain ⟨xs, n, _, _, hlen, hl, hf⟩ := DataW.trod_struct ht hx
  obtain ⟨a, ha, ga⟩ := struct_field hl hf (i := 0) (f := f0) rfl h0
  obtain ⟨b, hb, gb⟩ := struct_field hl hf (i := 1) (f := f1) rfl h1
  rw [o0, s0, List.drop_zero] at ha
  rw [o1, s1, List.take_of_length_le (by rw [List.length_drop]; omega)] at hb
  exact ⟨(a, b), ⟨_, _, (List.take_append_drop d0.sz cs).symm, ha, hb⟩, ga, gb⟩
theorem opens_struct3 {f0 f1 f2 : Field} {α β γ : Type} {d0 : Kd α} {d1 : Kd β} {d2 : Kd γ} {g0 : α → Prop} {g1 : β → Prop} {g2 : γ → Prop} (ht : P.underlying t = some (.struct #[f0, f1, f2])) (h0 : Opens P f0.type d0 g0) (h1 : Opens P f1.type d1 g1) (h2 : Opens P f2.type d2 g2)
    (s0 : P.cellsOf f0.type = d0.sz) (s1 : P.cellsOf f1.type = d1.sz) (s2 : P.cellsOf f2.type = d2.sz) (o0 : f0.offset = 0) (o1 : f1.offset = d0.sz) (o2 : f2.offset = d0.sz + d1.sz) (st : P.cellsOf t = d0.sz + d1.sz + d2.sz) :
    Opens P t (Kd.pair d0 (Kd.pair d1 d2)) (fun x => g0 x.1 ∧ g1 x.2.1 ∧ g2 x.2.2) := by
  intro H enc w base spare held fuel cs x hx
  obtain ⟨xs, n, _, _, hlen, hl, hf⟩ := DataW.trod_struct ht hx
  obtain ⟨a, ha, ga⟩ := struct_field hl hf (i := 0) (f := f0) rfl h0
  obtain ⟨b, hb, gb⟩ := struct_field hl hf (i := 1) (f := f1) rfl h1
  obtain ⟨c, hc, gc⟩ := struct_field hl hf (i := 2) (f := f2) rfl h2
  rw [o0, s0, List.drop_zero] at ha
  rw [o1, s1] at hb
  rw [o2, s2, List.take_of_length_le (by rw [List.length_drop]; omega)] at hc
  refine ⟨(a, b, c), ⟨_, _, (List.take_append_drop d0.sz cs).symm, ha, _, _, (List.take_append_drop d1.sz _).symm, hb, ?_⟩, ga, gb, gc⟩
  rw [List.drop_drop]
  exact hc
theorem opens_struct4 {f0 f1 f2 f3 : Field} {α β γ δ : Type} {d0 : Kd α} {d1 : Kd β} {d2 : Kd γ} {d3 : Kd δ} {g0 : α → Prop} {g1 : β → Prop} {g2 : γ → Prop} {g3 : δ → Prop} (ht : P.underlying t = some (.struct #[f0, f1, f2, f3]))
    (h0 : Opens P f0.type d0 g0) (h1 : Opens P f1.type d1 g1) (h2 : Opens P f2.type d2 g2) (h3 : Opens P f3.type d3 g3)
    (s0 : P.cellsOf f0.type = d0.sz) (s1 : P.cellsOf f1.type = d1.sz) (s2 : P.cellsOf f2.type = d2.sz) (s3 : P.cellsOf f3.type = d3.sz) (o0 : f0.offset = 0) (o1 : f1.offset = d0.sz) (o2 : f2.offset = d0.sz + d1.sz) (o3 : f3.offset = d0.sz + d1.sz + d2.sz)
    (st : P.cellsOf t = d0.sz + d1.sz + d2.sz + d3.sz) :
    Opens P t (Kd.pair d0 (Kd.pair d1 (Kd.pair d2 d3))) (fun x => g0 x.1 ∧ g1 x.2.1 ∧ g2 x.2.2.1 ∧ g3 x.2.2.2) := by
  intro H enc w base spare held fuel cs x hx
  obtain ⟨xs, n, _, _, hlen, hl, hf⟩ := DataW.trod_struct ht hx
  obtain ⟨a, ha, ga⟩ := struct_field hl hf (i := 0) (f := f0) rfl h0
  obtain ⟨b, hb, gb⟩ := struct_field hl hf (i := 1) (f := f1) rfl h1
  obtain ⟨c, hc, gc⟩ := struct_field hl hf (i := 2) (f := f2) rfl h2
  obtain ⟨d, hd, gd⟩ := struct_field hl hf (i := 3) (f := f3) rfl h3
  rw [o0, s0, List.drop_zero] at ha
  rw [o1, s1] at hb
  rw [o2, s2] at hc
  rw [o3, s3, List.take_of_length_le (by rw [List.length_drop]; omega)] at hd
  refine ⟨(a, b, c, d), ⟨_, _, (List.take_append_drop d0.sz cs).symm, ha, _, _, (List.take_append_drop d1.sz _).symm, hb, _, _, (List.take_append_drop d2.sz _).symm, ?_, ?_⟩, ga, gb, gc, gd⟩
  · rw [List.drop_drop]
    exact hc
  · rw [List.drop_drop, List.drop_drop, ← Nat.add_assoc]
    exact hd
end
end Go.Proofs.Ythdpfjkdpeamnaa.Open
end
section
namespace Go.Proofs.Ythdpfjkdpeamnaa.fnExactSatisfied
open Go.ChangeShapes Go.WideShapes Go.ChangeAt Go.RowKit Go.Proofs.YthdpfjkdpeamnaaW.PrintWords Go.Proofs.Ythdpfjkdpeamnaa.Open Go.Proofs.Ythdpfjkdpeamnaa.Pf
open Go.ChangeMaps (open_string shut_string)
set_option linter.unusedVariables false
set_option linter.unusedSimpArgs false
theorem own : ownKnob Try.prog.godebug = none := by kernel_rfl
theorem laidOut : laidOutB Try.prog = true := by kernel_rfl
set_option maxRecDepth 100000 in
theorem lifted (os : Os) (started : os.Started) (H : Type) (enc : TypeId × Value → H) :
    ReturnsInHanded {} Try.checked os 13 .any (Rows.fnExactSatisfiedSpec.pre6 enc Try.prog Try.f13 Rows.fnExactSatisfiedRow.domain false) (Rows.fnExactSatisfiedSpec.post enc Try.prog Try.f13 false true false false) := by
  refine returnsInHanded_of_change_sized (C := Try.checked) own started (by kernel_rfl) Try.func13
    (ChangeSpec.witness6 (enc := enc) (C := Try.checked) false ⟨#[], #[.agg #[.int .i64 0, .int .i64 0, .slice none 0 0], .slice none 0 0], []⟩ 8 (by kernel_rfl) (by kernel_rfl) (by kernel_rfl) (by kernel_rfl)) ?_
  intro W base args ds gs before hval0 hW hcnd hsz0 _
  have hsz : (DataW.weightsEach Try.prog (Try.f13.params.toList ++ Rows.fnExactSatisfiedSpec.plain.varTypes Try.prog) (ds ++ gs)).all (· ≤ reachBytes) = true := hsz0
  have hval : ∀ (j : Nat) t v, Try.f13.params[j]? = some t → args[j]? = some v → Value.okWide Try.prog W .any base t v := hval0
  have hW' := hW
  obtain ⟨p, q, hA0, hV, rfl, hfz, hnd⟩ := hW
  have hA : DataW.TrodAll enc Try.prog W 0 (fun _ => true) true Try.f13.params.toList args.toList ds p := hA0
  rw [Try.params13] at hA hval hsz
  obtain ⟨v0, vs0, d0, ds0, p0, q0, hargs, rfl, rfl, h0, r0⟩ := trodAll_cons hA
  obtain ⟨v1, vs1, d1, ds1, p1, q1, rfl, rfl, rfl, h1, r1⟩ := trodAll_cons r0
  obtain ⟨rfl, rfl, rfl⟩ := trodAll_nil r1
  obtain rfl : args = #[v0, v1] := by cases args; simp_all
  obtain ⟨rfl, rfl⟩ := trodVars_none hV
  obtain ⟨cs0, rfl, hz0⟩ := okWide_struct Try.underlying50 (hval 0 50 v0 rfl rfl)
  have k0 := h0
  have lt0 : ∀ x ∈ p0, x.block < W.heap.size := by obtain ⟨m, hm⟩ := k0; exact DataW.trod_lt m _ _ _ hm
  obtain ⟨x0, hK0, g0⟩ := (show ∃ a, (Kd.pair (Kd.int .i64) (Kd.pair (Kd.int .i64) (Kd.slice 100 k100))).K W a cs0.toList ∧ _ from h0.elim fun fuel hf => (opens_struct3 Try.underlying50 (opens_int Try.underlying3) (opens_int Try.underlying3) (opens_slice Try.underlying48 (by kernel_rfl) (opens_iso (fun x : S100 => (x.f0, x.f1, x.f2)) (fun p => ⟨p.1, p.2.1, p.2.2⟩) (fun _ => rfl) (opens_struct3 Try.underlying100 (opens_slice Try.underlying31 (by kernel_rfl) (opens_int Try.underlying3)) (opens_slice Try.underlying31 (by kernel_rfl) (opens_int Try.underlying3)) (opens_slice Try.underlying31 (by kernel_rfl) (opens_int Try.underlying3)) (by kernel_rfl) (by kernel_rfl) (by kernel_rfl) (by kernel_rfl) (by kernel_rfl) (by kernel_rfl) (by kernel_rfl)))) (by kernel_rfl) (by kernel_rfl) (by kernel_rfl) (by kernel_rfl) (by kernel_rfl) (by kernel_rfl) (by kernel_rfl)) enc W 0 (fun _ => true) true fuel cs0.toList _ hf)
  obtain ⟨a0_0, a0_1, l0_2⟩ := x0
  obtain ⟨g0_0, g0_1, g0_2⟩ := g0
  obtain ⟨_, _, E0, rfl, _, _, rfl, rfl, ⟨A0_2, c0_2, rfl, hc0_2, hr0_2⟩⟩ := hK0
  obtain rfl : cs0 = #[.int .i64 a0_0, .int .i64 a0_1, .slice A0_2 l0_2.length c0_2] := Array.toList_inj.1 E0
  obtain ⟨a1, len1, cap1, rfl⟩ := okWide_slice Try.underlying31 (hval 1 31 v1 rfl rfl)
  have k1 := h1
  have lt1 : ∀ x ∈ p1, x.block < W.heap.size := by obtain ⟨m, hm⟩ := k1; exact DataW.trod_lt m _ _ _ hm
  obtain ⟨l1, ⟨A1, c1, e1, hc1, hr1⟩, g1⟩ := (show ∃ a, (Kd.slice 3 (Kd.int .i64)).K W a [.slice a1 len1 cap1] ∧ _ from h1.elim fun fuel hf => (opens_slice Try.underlying31 (by kernel_rfl) (opens_int Try.underlying3)) enc W 0 (fun _ => true) true fuel [.slice a1 len1 cap1] _ hf)
  obtain ⟨rfl, rfl, rfl⟩ : a1 = A1 ∧ len1 = l1.length ∧ cap1 = c1 := by simpa using e1
  clear hA0 hval0 hsz0 hsz
  obtain ⟨k, h⟩ := Pure.FnExactSatisfied a0_0 a0_1 l0_2 l1 g0_0 g0_1 g0_2 g1
  refine (laws_FnExactSatisfied.calls k a0_0 a0_1 _ _ l0_2 _ _ l1 true W hr0_2 hc0_2 hr1 hc1 ⟨rfl⟩ h).mono fun e W' ⟨he, bel0⟩ => ?_
  have bel : Below W.heap.size W W' := bel0
  subst he
  exact ⟨_, rfl, _, _, _, [], _, [], hW', trodAll_mk1 (shut_bool Try.underlying4 _), (trodAll_cons_mk (Below.trod laidOut (by kernel_rfl) (of_decide_eq_true (by kernel_rfl)) k0 bel lt0) (trodAll_cons_mk (Below.trod laidOut (by kernel_rfl) (of_decide_eq_true (by kernel_rfl)) k1 bel lt1) trodAll_mk0)), rfl, bel.frame _, fun h => by cases h⟩
theorem over : Rows.fnExactSatisfiedRow.holds Try.pinned (OpenSpec.ofChange Rows.fnExactSatisfiedSpec) :=
  OpenClaim.holds_of_wide 13 Try.f13 rfl rfl rfl rfl rfl rfl rfl ⟨rfl, rfl, rfl, rfl, rfl⟩ rfl rfl rfl rfl rfl (by kernel_rfl) Try.func13 (by kernel_rfl)
    (of_decide_eq_true (by kernel_rfl)) (by unfold Func.isWrapper; first | (rw [if_pos (by decide +kernel)]; kernel_rfl) | (rw [if_neg (by decide +kernel)]; exact ⟨rfl, rfl⟩))
    (fun os started H enc _ => lifted os started H enc)
theorem proved : Rows.FnExactSatisfiedSaid := over
#print axioms proved
end Go.Proofs.Ythdpfjkdpeamnaa.fnExactSatisfied
namespace Go.Proofs.Ythdpfjkdpeamnaa
/-- The row, under a short name, for the claim. -/
theorem fnExactSatisfied_holds : Rows.FnExactSatisfiedSaid := fnExactSatisfied.proved
end Go.Proofs.Ythdpfjkdpeamnaa
end
