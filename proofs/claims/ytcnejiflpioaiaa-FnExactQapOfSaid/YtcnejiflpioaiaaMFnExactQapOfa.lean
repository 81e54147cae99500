/- What is proved here: part 1 of 5 of the proof of the given statement FnExactQapOf: the contracts of the Go functions that it reaches, the plain facts on lists and numbers, and (in the last part) the statement itself. No conditions beyond the given ones. -/
import Derived.Test.YtcnejiflpioaiaaProg
import Derived.Below
import Derived.Deep.Draws
import Derived.Deep.AppendLies
import Derived.Maps.AppendAt
import Derived.OwnWalk
import Derived.Laws.BytesArg
import Derived.Laws.MakeOwn
import Derived.Laws.OwnMore
import Derived.Deep.OwnRows
import Derived.Tactics
import Derived.Lib.ConvBytes
import Derived.Laws.Slices
import Derived.WalkKit
import Derived.KernelRfl
import Derived.RowKit3
import Derived.Deep.LoopGhost
import Derived.Deep.QuietTactic
import Derived.BigQuiet
import Derived.WideLaws
import Derived.Deep.DeepCutAuto
import Derived.Deep.CutBlock
import Derived.Deep.RegionHeld3
import Derived.Laws.Rows
import Derived.Lib.AppendStr
import Derived.ArgAppend
import Derived.Laws.IdiomCopy
import Derived.OrdersHeld
import Derived.Laws.BitsLemmas
import Derived.RowKit
import Derived.Test.YtcnejiflpioaiaaMFnExactQapOfwWords
import Derived.Test.YtcnejiflpioaiaaMFnExactQapOfwLast
import Derived.Test.YtcnejiflpioaiaaMFnExactQapOfwTab
import Derived.Test.YtcnejiflpioaiaaMFnExactQapOfwFour
import Derived.Test.YtcnejiflpioaiaaMFnExactQapOfwQPut
import Derived.Test.YtcnejiflpioaiaaMFnExactQapOfwApart
import Derived.Test.YtcnejiflpioaiaaMFnExactQapOfwArr
import Derived.Test.YtcnejiflpioaiaaMFnExactQapOfwZeros
import Derived.Test.YtcnejiflpioaiaaMFnExactQapOfwFoot
import Derived.Test.YtcnejiflpioaiaaMFnExactQapOfwKept
import Derived.Test.YtcnejiflpioaiaaMFnExactQapOfwShare
import Derived.Test.YtcnejiflpioaiaaMFnExactQapOfwN
import Derived.Test.YtcnejiflpioaiaaMFnExactQapOfwFootNe
import Derived.Test.YtcnejiflpioaiaaMFnExactQapOfwAt
import Derived.Test.YtcnejiflpioaiaaMFnExactQapOfwEqStruct
import Derived.Test.YtcnejiflpioaiaaMFnExactQapOfwRepsOne
import Derived.Test.YtcnejiflpioaiaaMFnExactQapOfwInv
import Derived.Test.YtcnejiflpioaiaaMFnExactQapOfwInvWords
import Derived.Test.YtcnejiflpioaiaaMFnExactQapOfwGuard
import Derived.Test.YtcnejiflpioaiaaMFnExactQapOfwNEv
import Derived.Test.YtcnejiflpioaiaaMFnExactQapOfwMore
import Derived.Test.YtcnejiflpioaiaaMFnExactQapOfwSlim

section
namespace Go.Proofs.Ytcnejiflpioaiaa.Pf
open Go.RowKit Go.Proofs.YtcnejiflpioaiaaW.PrintWords Go.Proofs.YtcnejiflpioaiaaW.PrintLast Go.Proofs.YtcnejiflpioaiaaW.PrintMore
attribute [local go_sem] max2_int min2_int max_two min_two max_three min_three max_four min_four   -- for this text's walks alone
set_option linter.unusedVariables false
set_option linter.unusedSimpArgs false
def errW : Option Int → Value
  | none => .nilIface
  | some c => .iface 0 (.int .i64 c)
theorem errW_none : errW none = .nilIface := rfl
theorem errW_some (c : Int) : errW (some c) = .iface 0 (.int .i64 c) := rfl

theorem info3 : (Try.prog.info? 3).map (fun i => (i.zero, i.size, i.bytes)) = some (some (.int .i64 0), 1, 8) := by kernel_rfl
theorem info22 : (Try.prog.info? 22).map (fun i => (i.zero, i.size, i.bytes)) = some (some (.slice none 0 0), 1, 24) := by kernel_rfl
theorem info40 : (Try.prog.info? 40).map (fun i => (i.zero, i.size, i.bytes)) = some (some (.agg #[(.slice none 0 0), (.slice none 0 0), (.slice none 0 0)]), 3, 72) := by kernel_rfl
-- the values' own types
def rd_L1 (xs : List (List Int)) (i : Int) : (List Int) := xs.getD i.toNat ([] : List Int)
theorem at_L1 {w : World} {A : Option Addr} {n : Nat} {xs : List (List Int)} (h : Kd.C (Kd.slice 3 (Kd.int .i64)) w A n xs) (i : Int) (h0 : 0 ≤ i) (h1 : i < n) : ∃ ad A0 c0, A = some ad ∧ w.cell? (ad.add i.toNat) = some (.slice A0 (rd_L1 xs i).length c0) ∧ (rd_L1 xs i).length ≤ c0 ∧ (Kd.int .i64).C w A0 (rd_L1 xs i).length (rd_L1 xs i) := by
  obtain ⟨ad, c, e, _, hK, hc0⟩ := Kd.C_get h ([] : List Int) i h0 h1
  have hc : ∀ j u, c[j]? = some u → w.cell? (ad.add (i.toNat * 1 + j)) = some u := hc0
  obtain ⟨A0, c0, rfl, l0, g0⟩ := hK
  exact ⟨ad, A0, c0, e, by have hq := hc 0 _ rfl; rwa [Nat.mul_one, Nat.add_zero] at hq, l0, g0⟩

/-! #### struct type 92 -/
/-- Two parts whose blocks are apart. -/
def pairA {α β : Type} (a : Kd α) (b : Kd β) : Kd (α × β) where
  sz := a.sz + b.sz
  E := a.E ++ b.E
  K := fun w x cs => ∃ c0 c1, cs = c0 ++ c1 ∧ a.K w x.1 c0 ∧ b.K w x.2 c1
  M := fun w base ok x cs => ∃ o0 o1 : Nat → Prop, (∀ k, o0 k → ok k) ∧ (∀ k, o1 k → ok k) ∧ (∀ k, o0 k → ¬ o1 k) ∧ ∃ c0 c1, cs = c0 ++ c1 ∧ a.M w base o0 x.1 c0 ∧ b.M w base o1 x.2 c1
  K_len := by
    rintro w x cs ⟨c0, c1, rfl, h0, h1⟩
    rw [List.length_append, a.K_len h0, b.K_len h1]
  K_one := by
    rintro w x cs ⟨c0, c1, rfl, h0, h1⟩ u hu
    rcases List.mem_append.1 hu with hu | hu
    · exact a.K_one h0 u hu
    · exact b.K_one h1 u hu
  K_below := by
    rintro w w1 x cs hb ⟨c0, c1, rfl, h0, h1⟩
    exact ⟨c0, c1, rfl, a.K_below hb h0, b.K_below hb h1⟩
  K_of_M := by
    rintro w base ok x cs ⟨o0, o1, _, _, _, c0, c1, rfl, h0, h1⟩
    exact ⟨c0, c1, rfl, a.K_of_M h0, b.K_of_M h1⟩
  M_mono := by
    rintro w base ok ok' x cs hok ⟨o0, o1, i0, i1, ap, c0, c1, rfl, h0, h1⟩
    exact ⟨o0, o1, fun k hk => hok k (i0 k hk), fun k hk => hok k (i1 k hk), ap, c0, c1, rfl, h0, h1⟩
  M_bound := by
    rintro w base ok x cs ⟨o0, o1, i0, i1, ap, c0, c1, rfl, h0, h1⟩
    refine ⟨_, _, ?_, ?_, ?_, c0, c1, rfl, a.M_bound h0, b.M_bound h1⟩
    · rintro k ⟨h2, h3, h4, q, hq, hc⟩
      exact ⟨i0 k h2, h3, h4, q, List.mem_append_left _ hq, hc⟩
    · rintro k ⟨h2, h3, h4, q, hq, hc⟩
      exact ⟨i1 k h2, h3, h4, q, List.mem_append_right _ hq, hc⟩
    · exact fun k h2 h3 => ap k h2.1 h3.1
  M_move := by
    rintro w w1 base ok x cs hm ⟨o0, o1, i0, i1, ap, c0, c1, rfl, h0, h1⟩
    exact ⟨o0, o1, i0, i1, ap, c0, c1, rfl, a.M_move (fun k hk => hm k (i0 k hk)) h0, b.M_move (fun k hk => hm k (i1 k hk)) h1⟩
  M_lower := by
    rintro w base base' ok x cs hb ⟨o0, o1, i0, i1, ap, c0, c1, rfl, h0, h1⟩
    exact ⟨o0, o1, i0, i1, ap, c0, c1, rfl, a.M_lower hb h0, b.M_lower hb h1⟩
theorem rowA {k : IntKind} {w : World} {base e : Nat} {ok : Nat → Prop} {v : Value} {xs : List Int} (h : (Kd.int k).R e w base ok v xs) : (Kd.int k).R e w base (fun k => some k = v.ownBlock ∧ ok k) v xs := Kd.R_tight2 rfl h
structure S92 where
  f0 : (List Int)
  f1 : (List Int)
  f2 : (List Int)
def z92 : S92 := ⟨([] : List Int), ([] : List Int), ([] : List Int)⟩
def k92 : Kd S92 := Kd.iso (pairA (Kd.slice 3 (Kd.int .i64)) (pairA (Kd.slice 3 (Kd.int .i64)) (Kd.slice 3 (Kd.int .i64)))) (fun x : S92 => (x.f0, x.f1, x.f2))
theorem k92_open {w : World} {x : S92} {cs : List Value} (h : k92.K w x cs) : ∃ A0 c0 A1 c1 A2 c2, cs = [.slice A0 x.f0.length c0, .slice A1 x.f1.length c1, .slice A2 x.f2.length c2] ∧ x.f0.length ≤ c0 ∧ (Kd.int .i64).C w A0 x.f0.length x.f0 ∧ x.f1.length ≤ c1 ∧ (Kd.int .i64).C w A1 x.f1.length x.f1 ∧ x.f2.length ≤ c2 ∧ (Kd.int .i64).C w A2 x.f2.length x.f2 := by
  obtain ⟨_, _, rfl, ⟨A0, c0, rfl, l0, g0⟩, ⟨_, _, rfl, ⟨A1, c1, rfl, l1, g1⟩, ⟨A2, c2, rfl, l2, g2⟩⟩⟩ := h
  exact ⟨A0, c0, A1, c1, A2, c2, rfl, l0, g0, l1, g1, l2, g2⟩
theorem k92_openA {w : World} {base : Nat} {ok : Nat → Prop} {x : S92} {cs : List Value} (h : k92.M w base ok x cs) : ∃ v0 v1 v2, cs = [v0, v1, v2] ∧ ∃ o0 o1 o2 : Nat → Prop, (∀ k, o0 k → ok k) ∧ (∀ k, o1 k → ok k) ∧ (∀ k, o2 k → ok k) ∧ (∀ k, o0 k → ¬ o1 k) ∧ (∀ k, o0 k → ¬ o2 k) ∧ (∀ k, o1 k → ¬ o2 k) ∧ (Kd.int .i64).R 3 w base o0 v0 x.f0 ∧ (Kd.int .i64).R 3 w base o1 v1 x.f1 ∧ (Kd.int .i64).R 3 w base o2 v2 x.f2 := by
  obtain ⟨o0, o1, i0, i1, ap, _, _, rfl, ⟨v0, rfl, g0⟩, ⟨p0, p1, j0, j1, aq, _, _, rfl, ⟨v1, rfl, g1⟩, ⟨v2, rfl, g2⟩⟩⟩ := h
  exact ⟨v0, v1, v2, rfl, o0, p0, p1, i0, fun k hk => i1 k (j0 k hk), fun k hk => i1 k (j1 k hk), fun k h h2 => ap k h (j0 k h2), fun k h h2 => ap k h (j1 k h2), aq, g0, g1, g2⟩
theorem k92_openM {w : World} {base : Nat} {ok : Nat → Prop} {x : S92} {cs : List Value} (h : k92.M w base ok x cs) : ∃ v0 v1 v2, cs = [v0, v1, v2] ∧ (Kd.int .i64).R 3 w base ok v0 x.f0 ∧ (Kd.int .i64).R 3 w base ok v1 x.f1 ∧ (Kd.int .i64).R 3 w base ok v2 x.f2 := by
  obtain ⟨v0, v1, v2, rfl, o0, o1, o2, i0, i1, i2, _, _, _, g0, g1, g2⟩ := k92_openA h
  exact ⟨v0, v1, v2, rfl, Kd.R_mono g0 i0, Kd.R_mono g1 i1, Kd.R_mono g2 i2⟩
theorem k92_mk (w : World) (x : S92) {A0 : Option Addr} {c0 : Nat} (l0 : x.f0.length ≤ c0) (g0 : (Kd.int .i64).C w A0 x.f0.length x.f0) {A1 : Option Addr} {c1 : Nat} (l1 : x.f1.length ≤ c1) (g1 : (Kd.int .i64).C w A1 x.f1.length x.f1) {A2 : Option Addr} {c2 : Nat} (l2 : x.f2.length ≤ c2) (g2 : (Kd.int .i64).C w A2 x.f2.length x.f2) : k92.K w x [.slice A0 x.f0.length c0, .slice A1 x.f1.length c1, .slice A2 x.f2.length c2] := ⟨[.slice A0 x.f0.length c0], [.slice A1 x.f1.length c1, .slice A2 x.f2.length c2], rfl, ⟨A0, c0, rfl, l0, g0⟩, ⟨[.slice A1 x.f1.length c1], [.slice A2 x.f2.length c2], rfl, ⟨A1, c1, rfl, l1, g1⟩, ⟨A2, c2, rfl, l2, g2⟩⟩⟩
theorem k92_mkA (w : World) (base : Nat) (ok o0 o1 o2 : Nat → Prop) (x : S92) {v0 v1 v2 : Value} (i0 : ∀ k, o0 k → ok k) (i1 : ∀ k, o1 k → ok k) (i2 : ∀ k, o2 k → ok k) (a01 : ∀ k, o0 k → ¬ o1 k) (a02 : ∀ k, o0 k → ¬ o2 k) (a12 : ∀ k, o1 k → ¬ o2 k) (g0 : (Kd.int .i64).R 3 w base o0 v0 x.f0) (g1 : (Kd.int .i64).R 3 w base o1 v1 x.f1) (g2 : (Kd.int .i64).R 3 w base o2 v2 x.f2) : k92.M w base ok x [v0, v1, v2] :=
  ⟨o0, fun k => o1 k ∨ o2 k, i0, fun k h => h.elim (i1 k) (i2 k), fun k h h2 => h2.elim (a01 k h) (a02 k h), [v0], [v1, v2], rfl, ⟨v0, rfl, g0⟩, ⟨o1, o2, fun _ h => .inl h, fun _ h => .inr h, a12, [v1], [v2], rfl, ⟨v1, rfl, g1⟩, ⟨v2, rfl, g2⟩⟩⟩
theorem k92_mkM (w : World) (base : Nat) (ok : Nat → Prop) (x : S92) {v0 : Value} (g0 : (Kd.int .i64).R 3 w base ok v0 x.f0) {v1 : Value} (g1 : (Kd.int .i64).R 3 w base ok v1 x.f1) {v2 : Value} (g2 : (Kd.int .i64).R 3 w base ok v2 x.f2) (a01 : ∀ k, v0.ownBlock = some k → v1.ownBlock ≠ some k) (a02 : ∀ k, v0.ownBlock = some k → v2.ownBlock ≠ some k) (a12 : ∀ k, v1.ownBlock = some k → v2.ownBlock ≠ some k) : k92.M w base ok x [v0, v1, v2] :=
  k92_mkA w base ok _ _ _ x (fun _ h => h.2) (fun _ h => h.2) (fun _ h => h.2) (fun k h h2 => a01 k h.1.symm h2.1.symm) (fun k h h2 => a02 k h.1.symm h2.1.symm) (fun k h h2 => a12 k h.1.symm h2.1.symm) (rowA g0) (rowA g1) (rowA g2)
def rd_T92 (xs : List S92) (i : Int) : S92 := xs.getD i.toNat z92
theorem at_T92 {w : World} {A : Option Addr} {n : Nat} {xs : List S92} (h : Kd.C k92 w A n xs) (i : Int) (h0 : 0 ≤ i) (h1 : i < n) : ∃ ad A0 c0 A1 c1 A2 c2, A = some ad ∧ w.cell? (ad.add (i.toNat * 3)) = some (.slice A0 (rd_T92 xs i).f0.length c0) ∧ w.cell? ⟨(ad.add (i.toNat * 3)).block, (ad.add (i.toNat * 3)).off + 1, none⟩ = some (.slice A1 (rd_T92 xs i).f1.length c1) ∧ w.cell? ⟨(ad.add (i.toNat * 3)).block, (ad.add (i.toNat * 3)).off + 2, none⟩ = some (.slice A2 (rd_T92 xs i).f2.length c2) ∧ (rd_T92 xs i).f0.length ≤ c0 ∧ (Kd.int .i64).C w A0 (rd_T92 xs i).f0.length (rd_T92 xs i).f0 ∧ (rd_T92 xs i).f1.length ≤ c1 ∧ (Kd.int .i64).C w A1 (rd_T92 xs i).f1.length (rd_T92 xs i).f1 ∧ (rd_T92 xs i).f2.length ≤ c2 ∧ (Kd.int .i64).C w A2 (rd_T92 xs i).f2.length (rd_T92 xs i).f2 := by
  obtain ⟨ad, c, e, _, hK, hc0⟩ := Kd.C_get h z92 i h0 h1
  have hc : ∀ j u, c[j]? = some u → w.cell? (ad.add (i.toNat * 3 + j)) = some u := hc0
  obtain ⟨A0, c0, A1, c1, A2, c2, rfl, l0, g0, l1, g1, l2, g2⟩ := k92_open hK
  exact ⟨ad, A0, c0, A1, c1, A2, c2, e, hc 0 _ rfl, by rw [← add_field _ _ 1 (by omega)]; exact hc 1 _ rfl, by rw [← add_field _ _ 2 (by omega)]; exact hc 2 _ rfl, l0, g0, l1, g1, l2, g2⟩

/-! #### struct type 40 -/
structure S40 where
  f0 : (List Int)
  f1 : (List Int)
  f2 : (List Int)
def z40 : S40 := ⟨([] : List Int), ([] : List Int), ([] : List Int)⟩
def k40 : Kd S40 := Kd.iso (pairA (Kd.slice 3 (Kd.int .i64)) (pairA (Kd.slice 3 (Kd.int .i64)) (Kd.slice 3 (Kd.int .i64)))) (fun x : S40 => (x.f0, x.f1, x.f2))
theorem k40_open {w : World} {x : S40} {cs : List Value} (h : k40.K w x cs) : ∃ A0 c0 A1 c1 A2 c2, cs = [.slice A0 x.f0.length c0, .slice A1 x.f1.length c1, .slice A2 x.f2.length c2] ∧ x.f0.length ≤ c0 ∧ (Kd.int .i64).C w A0 x.f0.length x.f0 ∧ x.f1.length ≤ c1 ∧ (Kd.int .i64).C w A1 x.f1.length x.f1 ∧ x.f2.length ≤ c2 ∧ (Kd.int .i64).C w A2 x.f2.length x.f2 := by
  obtain ⟨_, _, rfl, ⟨A0, c0, rfl, l0, g0⟩, ⟨_, _, rfl, ⟨A1, c1, rfl, l1, g1⟩, ⟨A2, c2, rfl, l2, g2⟩⟩⟩ := h
  exact ⟨A0, c0, A1, c1, A2, c2, rfl, l0, g0, l1, g1, l2, g2⟩
theorem k40_openA {w : World} {base : Nat} {ok : Nat → Prop} {x : S40} {cs : List Value} (h : k40.M w base ok x cs) : ∃ v0 v1 v2, cs = [v0, v1, v2] ∧ ∃ o0 o1 o2 : Nat → Prop, (∀ k, o0 k → ok k) ∧ (∀ k, o1 k → ok k) ∧ (∀ k, o2 k → ok k) ∧ (∀ k, o0 k → ¬ o1 k) ∧ (∀ k, o0 k → ¬ o2 k) ∧ (∀ k, o1 k → ¬ o2 k) ∧ (Kd.int .i64).R 3 w base o0 v0 x.f0 ∧ (Kd.int .i64).R 3 w base o1 v1 x.f1 ∧ (Kd.int .i64).R 3 w base o2 v2 x.f2 := by
  obtain ⟨o0, o1, i0, i1, ap, _, _, rfl, ⟨v0, rfl, g0⟩, ⟨p0, p1, j0, j1, aq, _, _, rfl, ⟨v1, rfl, g1⟩, ⟨v2, rfl, g2⟩⟩⟩ := h
  exact ⟨v0, v1, v2, rfl, o0, p0, p1, i0, fun k hk => i1 k (j0 k hk), fun k hk => i1 k (j1 k hk), fun k h h2 => ap k h (j0 k h2), fun k h h2 => ap k h (j1 k h2), aq, g0, g1, g2⟩
theorem k40_openM {w : World} {base : Nat} {ok : Nat → Prop} {x : S40} {cs : List Value} (h : k40.M w base ok x cs) : ∃ v0 v1 v2, cs = [v0, v1, v2] ∧ (Kd.int .i64).R 3 w base ok v0 x.f0 ∧ (Kd.int .i64).R 3 w base ok v1 x.f1 ∧ (Kd.int .i64).R 3 w base ok v2 x.f2 := by
  obtain ⟨v0, v1, v2, rfl, o0, o1, o2, i0, i1, i2, _, _, _, g0, g1, g2⟩ := k40_openA h
  exact ⟨v0, v1, v2, rfl, Kd.R_mono g0 i0, Kd.R_mono g1 i1, Kd.R_mono g2 i2⟩
theorem k40_mk (w : World) (x : S40) {A0 : Option Addr} {c0 : Nat} (l0 : x.f0.length ≤ c0) (g0 : (Kd.int .i64).C w A0 x.f0.length x.f0) {A1 : Option Addr} {c1 : Nat} (l1 : x.f1.length ≤ c1) (g1 : (Kd.int .i64).C w A1 x.f1.length x.f1) {A2 : Option Addr} {c2 : Nat} (l2 : x.f2.length ≤ c2) (g2 : (Kd.int .i64).C w A2 x.f2.length x.f2) : k40.K w x [.slice A0 x.f0.length c0, .slice A1 x.f1.length c1, .slice A2 x.f2.length c2] := ⟨[.slice A0 x.f0.length c0], [.slice A1 x.f1.length c1, .slice A2 x.f2.length c2], rfl, ⟨A0, c0, rfl, l0, g0⟩, ⟨[.slice A1 x.f1.length c1], [.slice A2 x.f2.length c2], rfl, ⟨A1, c1, rfl, l1, g1⟩, ⟨A2, c2, rfl, l2, g2⟩⟩⟩
theorem k40_mkA (w : World) (base : Nat) (ok o0 o1 o2 : Nat → Prop) (x : S40) {v0 v1 v2 : Value} (i0 : ∀ k, o0 k → ok k) (i1 : ∀ k, o1 k → ok k) (i2 : ∀ k, o2 k → ok k) (a01 : ∀ k, o0 k → ¬ o1 k) (a02 : ∀ k, o0 k → ¬ o2 k) (a12 : ∀ k, o1 k → ¬ o2 k) (g0 : (Kd.int .i64).R 3 w base o0 v0 x.f0) (g1 : (Kd.int .i64).R 3 w base o1 v1 x.f1) (g2 : (Kd.int .i64).R 3 w base o2 v2 x.f2) : k40.M w base ok x [v0, v1, v2] :=
  ⟨o0, fun k => o1 k ∨ o2 k, i0, fun k h => h.elim (i1 k) (i2 k), fun k h h2 => h2.elim (a01 k h) (a02 k h), [v0], [v1, v2], rfl, ⟨v0, rfl, g0⟩, ⟨o1, o2, fun _ h => .inl h, fun _ h => .inr h, a12, [v1], [v2], rfl, ⟨v1, rfl, g1⟩, ⟨v2, rfl, g2⟩⟩⟩
theorem k40_mkM (w : World) (base : Nat) (ok : Nat → Prop) (x : S40) {v0 : Value} (g0 : (Kd.int .i64).R 3 w base ok v0 x.f0) {v1 : Value} (g1 : (Kd.int .i64).R 3 w base ok v1 x.f1) {v2 : Value} (g2 : (Kd.int .i64).R 3 w base ok v2 x.f2) (a01 : ∀ k, v0.ownBlock = some k → v1.ownBlock ≠ some k) (a02 : ∀ k, v0.ownBlock = some k → v2.ownBlock ≠ some k) (a12 : ∀ k, v1.ownBlock = some k → v2.ownBlock ≠ some k) : k40.M w base ok x [v0, v1, v2] :=
  k40_mkA w base ok _ _ _ x (fun _ h => h.2) (fun _ h => h.2) (fun _ h => h.2) (fun k h h2 => a01 k h.1.symm h2.1.symm) (fun k h h2 => a02 k h.1.symm h2.1.symm) (fun k h h2 => a12 k h.1.symm h2.1.symm) (rowA g0) (rowA g1) (rowA g2)
def rd_T40 (xs : List S40) (i : Int) : S40 := xs.getD i.toNat z40
theorem at_T40 {w : World} {A : Option Addr} {n : Nat} {xs : List S40} (h : Kd.C k40 w A n xs) (i : Int) (h0 : 0 ≤ i) (h1 : i < n) : ∃ ad A0 c0 A1 c1 A2 c2, A = some ad ∧ w.cell? (ad.add (i.toNat * 3)) = some (.slice A0 (rd_T40 xs i).f0.length c0) ∧ w.cell? ⟨(ad.add (i.toNat * 3)).block, (ad.add (i.toNat * 3)).off + 1, none⟩ = some (.slice A1 (rd_T40 xs i).f1.length c1) ∧ w.cell? ⟨(ad.add (i.toNat * 3)).block, (ad.add (i.toNat * 3)).off + 2, none⟩ = some (.slice A2 (rd_T40 xs i).f2.length c2) ∧ (rd_T40 xs i).f0.length ≤ c0 ∧ (Kd.int .i64).C w A0 (rd_T40 xs i).f0.length (rd_T40 xs i).f0 ∧ (rd_T40 xs i).f1.length ≤ c1 ∧ (Kd.int .i64).C w A1 (rd_T40 xs i).f1.length (rd_T40 xs i).f1 ∧ (rd_T40 xs i).f2.length ≤ c2 ∧ (Kd.int .i64).C w A2 (rd_T40 xs i).f2.length (rd_T40 xs i).f2 := by
  obtain ⟨ad, c, e, _, hK, hc0⟩ := Kd.C_get h z40 i h0 h1
  have hc : ∀ j u, c[j]? = some u → w.cell? (ad.add (i.toNat * 3 + j)) = some u := hc0
  obtain ⟨A0, c0, A1, c1, A2, c2, rfl, l0, g0, l1, g1, l2, g2⟩ := k40_open hK
  exact ⟨ad, A0, c0, A1, c1, A2, c2, e, hc 0 _ rfl, by rw [← add_field _ _ 1 (by omega)]; exact hc 1 _ rfl, by rw [← add_field _ _ 2 (by omega)]; exact hc 2 _ rfl, l0, g0, l1, g1, l2, g2⟩

def rd_L4 (xs : List (List S92)) (i : Int) : (List S92) := xs.getD i.toNat ([] : List S92)
theorem at_L4 {w : World} {A : Option Addr} {n : Nat} {xs : List (List S92)} (h : Kd.C (Kd.slice 92 k92) w A n xs) (i : Int) (h0 : 0 ≤ i) (h1 : i < n) : ∃ ad A0 c0, A = some ad ∧ w.cell? (ad.add i.toNat) = some (.slice A0 (rd_L4 xs i).length c0) ∧ (rd_L4 xs i).length ≤ c0 ∧ k92.C w A0 (rd_L4 xs i).length (rd_L4 xs i) := by
  obtain ⟨ad, c, e, _, hK, hc0⟩ := Kd.C_get h ([] : List S92) i h0 h1
  have hc : ∀ j u, c[j]? = some u → w.cell? (ad.add (i.toNat * 1 + j)) = some u := hc0
  obtain ⟨A0, c0, rfl, l0, g0⟩ := hK
  exact ⟨ad, A0, c0, e, by have hq := hc 0 _ rfl; rwa [Nat.mul_one, Nat.add_zero] at hq, l0, g0⟩

/-- Elements whose blocks bear the mark i. -/
def own {α : Type} (F : Nat → Nat) (i : Nat) (d : Kd α) : Kd α where
  sz := d.sz
  E := d.E
  K := d.K
  M := fun w base ok x cs => d.M w base (fun k => ok k ∧ F k = i) x cs
  K_len := fun h => d.K_len h
  K_one := fun h => d.K_one h
  K_below := fun hb h => d.K_below hb h
  K_of_M := fun h => d.K_of_M h
  M_mono := fun hok h => d.M_mono (fun k hk => ⟨hok k hk.1, hk.2⟩) h
  M_bound := fun h => d.M_mono (fun _ hk => ⟨⟨hk.1.1, hk.2⟩, hk.1.2⟩) (d.M_bound h)
  M_move := fun hm h => d.M_move (fun k hk => hm k hk.1) h
  M_lower := fun hb h => d.M_lower hb h
def upF (F : Nat → Nat) (n j : Nat) : Nat → Nat := fun k => if k < n then F k else j
theorem upF_new {F : Nat → Nat} {n j k : Nat} (h : n ≤ k) : upF F n j k = j := if_neg (Nat.not_lt.2 h)
theorem upF_old {F : Nat → Nat} {n j k : Nat} (h : k < n) : upF F n j k = F k := if_pos h
/-- Behind a world all blocks of which are told: what is new may bear any mark. -/
theorem ownUp {α : Type} {d : Kd α} {F : Nat → Nat} {i e base : Nat} {W : World} {ok : Nat → Prop} {v : Value} {xs : List α} (j : Nat) (h : Kd.S (own F i d) e W base ok v xs) : Kd.S (own (upF F W.heap.size j) i d) e W base ok v xs := by
  obtain ⟨f, h0, inner, ho, hr⟩ := h
  exact ⟨f, h0, inner, ho, hr.imp_ (fun p cs hp => d.M_mono (fun k hk => ⟨hk.1.1, (upF_old hk.2.2.1).trans hk.1.2⟩) (d.M_bound hp))⟩
theorem ownM {α : Type} {d : Kd α} {F : Nat → Nat} {i base : Nat} {W : World} {ok : Nat → Prop} {x : α} {cs : List Value} (h : d.M W base (fun k => ok k ∧ F k = i) x cs) : (own F i d).M W base ok x cs := h
theorem ownE {α : Type} {d : Kd α} {F : Nat → Nat} {i e t : Nat} (h : ∀ q, q ∈ e :: d.E → q ≠ t) : ∀ q, q ∈ e :: (own F i d).E → q ≠ t := h
/-- The row's own block, and blocks of its mark. -/
theorem ownS {α : Type} {d : Kd α} {F : Nat → Nat} {i e base : Nat} {W : World} {ok : Nat → Prop} {v : Value} {xs : List α} (h : Kd.S (own F i d) e W base ok v xs) : Kd.S d e W base (fun k => ok k ∧ (some k = v.ownBlock ∨ F k = i)) v xs := by
  obtain ⟨f, h0, inner, ho, hr⟩ := h
  exact ⟨f, fun k hk => ⟨h0 k hk, .inl hk.symm⟩, inner, ho, hr.imp_ (fun p cs hp => d.M_mono (fun k hk => ⟨⟨⟨hk.1.1.1, .inr hk.2⟩, hk.1.1.2⟩, hk.1.2⟩) hp)⟩
theorem ownD {α : Type} {d : Kd α} {F : Nat → Nat} {i e base : Nat} {W : World} {ok : Nat → Prop} {v : Value} {xs : List α} (h : Kd.S (own F i d) e W base ok v xs) : Kd.S d e W base ok v xs := Kd.S_mono (ownS h) (fun _ hk => hk.1)
theorem ownTriv {α : Type} {d : Kd α} {i e base : Nat} {W : World} {ok : Nat → Prop} {v : Value} {xs : List α} (h : Kd.S d e W base ok v xs) : Kd.S (own (fun _ => i) i d) e W base ok v xs := by
  obtain ⟨f, h0, inner, ho, hr⟩ := h
  exact ⟨f, h0, inner, ho, hr.imp_ (fun p cs hp => d.M_mono (fun k hk => ⟨hk, rfl⟩) hp)⟩
theorem ownNew {α : Type} {d : Kd α} {F : Nat → Nat} {j e N : Nat} {w : World} {ok : Nat → Prop} {v : Value} {xs : List α} (h : Kd.S d e w N ok v xs) : Kd.S (own (upF F N j) j d) e w N ok v xs := by
  obtain ⟨f, h0, inner, ho, hr⟩ := h
  exact ⟨f, h0, inner, ho, hr.imp_ (fun p cs hp => d.M_mono (fun k hk => ⟨hk.1, upF_new hk.2.1⟩) (d.M_bound hp))⟩
def mixF (F G : Nat → Nat) (n : Nat) : Nat → Nat := fun k => if k < n then F k else G k
theorem ownOld {α : Type} {d : Kd α} {F G : Nat → Nat} {i e base : Nat} {W : World} {ok : Nat → Prop} {v : Value} {xs : List α} (h : Kd.S (own F i d) e W base ok v xs) : Kd.S (own (mixF F G W.heap.size) i d) e W base ok v xs := by
  obtain ⟨f, h0, inner, ho, hr⟩ := h
  exact ⟨f, h0, inner, ho, hr.imp_ (fun p cs hp => d.M_mono (fun k hk => ⟨hk.1.1, (if_pos hk.2.2.1 : mixF F G W.heap.size k = F k).trans hk.1.2⟩) (d.M_bound hp))⟩
theorem ownYng {α : Type} {d : Kd α} {F G : Nat → Nat} {i e N : Nat} {w : World} {ok : Nat → Prop} {v : Value} {xs : List α} (h : Kd.S (own G i d) e w N ok v xs) : Kd.S (own (mixF F G N) i d) e w N ok v xs := by
  obtain ⟨f, h0, inner, ho, hr⟩ := h
  exact ⟨f, h0, inner, ho, hr.imp_ (fun p cs hp => d.M_mono (fun k hk => ⟨hk.1.1, (if_neg (Nat.not_lt.2 hk.2.1) : mixF F G N k = G k).trans hk.1.2⟩) (d.M_bound hp))⟩
theorem mark1 {α β : Type} {d : Kd α} {dx : Kd β} {e ex b0 b1 b2 : Nat} {W w1 : World} {o0 o1 o2 ox : Nat → Prop} {v0 v1 v2 vx : Value} {x0 x1 x2 : List α} {xx : List β} (h0 : Kd.S d e W b0 o0 v0 x0) (h1 : Kd.S d e W b1 o1 v1 x1) (h2 : Kd.S d e W b2 o2 v2 x2) (hx : Kd.S dx ex w1 W.heap.size ox vx xx) :
    ∃ F, Kd.S (own F 9 d) e W b0 o0 v0 x0 ∧ Kd.S (own F 9 d) e W b1 o1 v1 x1 ∧ Kd.S (own F 9 d) e W b2 o2 v2 x2 ∧ Kd.S (own F 3 dx) ex w1 W.heap.size ox vx xx := ⟨upF (fun _ => 9) W.heap.size 3, ownUp 3 (ownTriv h0), ownUp 3 (ownTriv h1), ownUp 3 (ownTriv h2), ownNew hx⟩
theorem mark2 {α β : Type} {d d' : Kd α} {dx : Kd β} {e e' ex b0 b1 b2 bx : Nat} {F G : Nat → Nat} {W w1 : World} {o0 o1 o2 ox p0 p1 p2 : Nat → Prop} {v0 v1 v2 vx u0 u1 u2 : Value} {x0 x1 x2 y0 y1 y2 : List α} {xx : List β} (h0 : Kd.S (own F 9 d) e W b0 o0 v0 x0) (h1 : Kd.S (own F 9 d) e W b1 o1 v1 x1) (h2 : Kd.S (own F 9 d) e W b2 o2 v2 x2) (hx : Kd.S (own F 3 dx) ex W bx ox vx xx)
    (g0 : Kd.S (own G 0 d') e' w1 W.heap.size p0 u0 y0) (g1 : Kd.S (own G 1 d') e' w1 W.heap.size p1 u1 y1) (g2 : Kd.S (own G 2 d') e' w1 W.heap.size p2 u2 y2) :
    ∃ H, Kd.S (own H 9 d) e W b0 o0 v0 x0 ∧ Kd.S (own H 9 d) e W b1 o1 v1 x1 ∧ Kd.S (own H 9 d) e W b2 o2 v2 x2 ∧ Kd.S (own H 3 dx) ex W bx ox vx xx ∧ Kd.S (own H 0 d') e' w1 W.heap.size p0 u0 y0 ∧ Kd.S (own H 1 d') e' w1 W.heap.size p1 u1 y1 ∧ Kd.S (own H 2 d') e' w1 W.heap.size p2 u2 y2 :=
  ⟨mixF F G W.heap.size, ownOld h0, ownOld h1, ownOld h2, ownOld hx, ownYng g0, ownYng g1, ownYng g2⟩
/-- The blocks that marking writes: rows' own blocks, and blocks of a mark and of the elements' types. -/
def blkP (Fp vp : Nat → Prop) (dE : List Nat) (W : World) : Nat → Prop := fun k => vp k ∨ (Fp k ∧ ∃ q, q ∈ dE ∧ ∃ cells, W.heap[k]? = some (.cells cells q (0, 0)))
theorem ownB {α : Type} {d : Kd α} {F : Nat → Nat} {i e base : Nat} {W : World} {ok : Nat → Prop} {v : Value} {xs : List α} (h : Kd.S (own F i d) e W base ok v xs) : Kd.S d e W base (fun k => ok k ∧ blkP (fun k => F k = i) (fun k => some k = v.ownBlock) d.E W k) v xs := by
  obtain ⟨f, h0, inner, ho, hr⟩ := h
  exact ⟨f, fun k hk => ⟨h0 k hk, .inl hk.symm⟩, inner, ho, hr.imp_ (fun p cs hp => d.M_mono (fun k hk => ⟨⟨⟨hk.1.1.1.1, .inr ⟨hk.1.2, hk.2.2.2⟩⟩, hk.1.1.1.2⟩, hk.1.1.2⟩) (d.M_bound hp))⟩
theorem ownBack {α : Type} {d : Kd α} {F : Nat → Nat} {i e base : Nat} {dE : List Nat} {W W2 : World} {ok : Nat → Prop} {v : Value} {xs : List α} (h : Kd.S d e W2 base (fun k => ok k ∧ blkP (fun k => F k = i) (fun k => some k = v.ownBlock) dE W k) v xs) : Kd.S (own F i d) e W2 base ok v xs := by
  obtain ⟨f, h0, inner, ho, hr⟩ := h
  exact ⟨f, fun k hk => (h0 k hk).1, inner, ho, hr.imp_ (fun p cs hp => d.M_mono (fun k hk => ⟨⟨⟨hk.1.1.1, hk.1.2⟩, hk.2⟩, hk.1.1.2.elim (fun h => absurd h hk.1.2) (fun h => h.1)⟩) hp)⟩
theorem ownK {α : Type} {d : Kd α} {F : Nat → Nat} {i e base : Nat} {dE : List Nat} {Fp vp okx : Nat → Prop} {W W2 : World} {ok : Nat → Prop} {v : Value} {xs : List α} (h : Kd.S (own F i d) e W base ok v xs) (hk : Kept W W2 (fun k => okx k ∧ blkP Fp vp dE W k)) (hij : ∀ k, F k = i → ¬ Fp k) (h1 : ∀ q, q ∈ dE → q ≠ e) (h2 : ∀ k, v.ownBlock = some k → ¬ vp k) (h4 : ∀ k, vp k → ∀ q, q ∈ d.E → ∀ cells, W.heap[k]? ≠ some (.cells cells q (0, 0))) : Kd.S (own F i d) e W2 base ok v xs := by
  obtain ⟨f, h0, inner, ho, hr⟩ := h
  refine ⟨f, h0, inner, own_move ho (fun k hv => ?_), hr.imp_ (fun p cs hp => d.M_mono (fun k hk => hk.1) (d.M_move (fun k hk' => ?_) (d.M_bound hp)))⟩
  · obtain ⟨cells, hc⟩ := own_typed ho k hv
    refine hk.2 k (own_lt ho k hv) (fun hb => hb.2.elim (h2 k hv) (fun hb => ?_))
    obtain ⟨_, q, hq, cells2, hc2⟩ := hb
    rw [hc] at hc2
    injection hc2 with hc2
    injection hc2 with _ hc2 _
    exact h1 q hq hc2.symm
  · obtain ⟨⟨_, hF⟩, _, hlt, q, hq, cells, hc⟩ := hk'
    exact hk.2 k hlt (fun hb => hb.2.elim (fun hv => h4 k hv q hq cells hc) (fun hb => hij k hF hb.1))
theorem typNe {α : Type} {d : Kd α} {e base : Nat} {dE : List Nat} {W : World} {ok : Nat → Prop} {v : Value} {xs : List α} (h : Kd.S d e W base ok v xs) (hne : ∀ q, q ∈ dE → q ≠ e) : ∀ k, some k = v.ownBlock → ∀ q, q ∈ dE → ∀ cells, W.heap[k]? ≠ some (.cells cells q (0, 0)) := fun k hk q hq cells hc => by
  obtain ⟨c2, h2⟩ := Kd.S_typed h k hk.symm
  rw [h2] at hc
  injection hc with hc
  injection hc with _ hc _
  exact hne q hq hc.symm
theorem typNe1 {α : Type} {d : Kd α} {e base t : Nat} {W : World} {ok : Nat → Prop} {v : Value} {xs : List α} (h : Kd.S d e W base ok v xs) (hne : e ≠ t) : ∀ k, some k = v.ownBlock → ∀ cells, W.heap[k]? ≠ some (.cells cells t (0, 0)) := fun k hk cells hc => by
  obtain ⟨c2, h2⟩ := Kd.S_typed h k hk.symm
  rw [h2] at hc
  injection hc with hc
  injection hc with _ hc _
  exact hne hc
theorem tyNe2 {α β : Type} {d : Kd α} {d' : Kd β} {e e' base base' : Nat} {W : World} {ok ok' : Nat → Prop} {v v' : Value} {xs : List α} {ys : List β} (h : Kd.S d e W base ok v xs) (h' : Kd.S d' e' W base' ok' v' ys) (hne : e ≠ e') : ∀ k, v.ownBlock = some k → ¬ some k = v'.ownBlock := fun k hv hk => by
  obtain ⟨c1, h1⟩ := Kd.S_typed h k hv
  obtain ⟨c2, h2⟩ := Kd.S_typed h' k hk.symm
  rw [h1] at h2
  injection h2 with h2
  injection h2 with _ h2 _
  exact hne h2
theorem blkKeep {g t : Nat} {cs : Array Value} {dE : List Nat} {Fp vp okx : Nat → Prop} {W W2 : World} (hb : W.heap[g]? = some (.cells cs t (0, 0))) (hk : Kept W W2 (fun k => okx k ∧ blkP Fp vp dE W k)) (h1 : ∀ q, q ∈ dE → q ≠ t) (h4 : ∀ k, vp k → ∀ cells, W.heap[k]? ≠ some (.cells cells t (0, 0))) : W2.heap[g]? = some (.cells cs t (0, 0)) :=
  blk_kept hb hk (fun h => h.2.elim (fun hv => h4 g hv cs hb) (fun h => by
    obtain ⟨_, q, hq, cells, hc⟩ := h
    rw [hb] at hc
    injection hc with hc
    injection hc with _ hc _
    exact h1 q hq hc.symm))
theorem keptP {Fp vp Fp' vp' okx : Nat → Prop} {dE : List Nat} {w W W2 : World} (h : Kept w W (fun k => True ∧ blkP Fp vp dE w k)) (hk : Kept W W2 (fun k => okx k ∧ blkP Fp' vp' dE W k)) (hF : ∀ k, Fp' k → Fp k) (hv : ∀ k, vp' k → vp k) : Kept w W2 (fun k => True ∧ blkP Fp vp dE w k) :=
  h.then_ hk (fun k hb => by
    by_cases hp : blkP Fp vp dE w k
    · exact .inl ⟨trivial, hp⟩
    · by_cases hlt : k < w.heap.size
      · refine .inl ⟨trivial, hb.2.elim (fun z => .inl (hv k z)) (fun z => ?_)⟩
        obtain ⟨z1, q, hq, cells, hc⟩ := z
        exact .inr ⟨hF k z1, q, hq, cells, (h.2 k hlt (fun z => hp z.2)).symm.trans hc⟩
      · exact .inr (Nat.le_of_not_lt hlt))
theorem sOk {α : Type} {d : Kd α} {e base : Nat} {W : World} {ok : Nat → Prop} {v : Value} {xs : List α} (h : Kd.S d e W base ok v xs) : ∀ k, v.ownBlock = some k → ok k := (Kd.S_R h).1
/-! ### laws_szIntS: function 75 -/
def laws_szIntS.f (l0 : List Int) (a1 : Int) : Option (Int) := if (wrap64 (a1 - (l0.length : Int))) < 0 then (some (-1)) else (some (wrap64 (a1 - (l0.length : Int))))
set_option maxHeartbeats 8000000 in
set_option maxRecDepth 100000 in
theorem laws_szIntS.calls (A0 : Option Addr) (c0 : Nat) (l0 : List Int) (a1 : Int) (r : Int) (w : World) (hr0 : Kd.C (Kd.int .i64) w A0 l0.length l0) (hc0 : l0.length ≤ c0) (h : laws_szIntS.f l0 a1 = some r) :
  Calls Try.prog 75 #[.slice A0 l0.length c0, .int .i64 a1] w fun e w' => e = .returned (.int .i64 r) ∧ Drawn0 w w' := by
 have HR0 := Aside0.mk hr0
 have HC0 := Aside0.mk hc0
 clear hr0 hc0
 have H : (if (wrap64 (a1 - (l0.length : Int))) < 0 then (some (-1)) else (some (wrap64 (a1 - (l0.length : Int))))) = some r := h
 clear h
 by_cases c3 : (wrap64 (a1 - (l0.length : Int))) < 0
 ·rw [if_pos c3] at H
  have c3b0 := decide_eq_true c3
  clear c3
  obtain rfl := Option.some.inj H
  go_enter Try.func75, Try.ntmps75
  go_wp2
  go_ret
  exact ⟨rS, rD⟩
 ·rw [if_neg c3] at H
  have c3b0 := decide_eq_false c3
  clear c3
  obtain rfl := Option.some.inj H
  go_enter Try.func75, Try.ntmps75
  go_wp2
  go_ret
  exact ⟨rS, rD⟩
/-! ### laws_szRow: function 94 -/
def laws_szRow.f (l0_0 : List Int) (l0_1 : List Int) (l0_2 : List Int) (a1 : Int) : Option (Int) := (laws_szIntS.f l0_0 a1).bind fun t102 => (if t102 < 0 then (some (-1)) else ((laws_szIntS.f l0_1 t102).bind fun t103 => (if t103 < 0 then (some (-1)) else ((laws_szIntS.f l0_2 t103).bind fun t104 => (if t104 < 0 then (some (-1)) else (some t104))))))
set_option maxHeartbeats 8000000 in
set_option maxRecDepth 100000 in
theorem laws_szRow.calls (A0_0 : Option Addr) (c0_0 : Nat) (l0_0 : List Int) (A0_1 : Option Addr) (c0_1 : Nat) (l0_1 : List Int) (A0_2 : Option Addr) (c0_2 : Nat) (l0_2 : List Int) (a1 : Int) (r : Int) (w : World) (hr0_0 : Kd.C (Kd.int .i64) w A0_0 l0_0.length l0_0) (hc0_0 : l0_0.length ≤ c0_0) (hr0_1 : Kd.C (Kd.int .i64) w A0_1 l0_1.length l0_1) (hc0_1 : l0_1.length ≤ c0_1) (hr0_2 : Kd.C (Kd.int .i64) w A0_2 l0_2.length l0_2) (hc0_2 : l0_2.length ≤ c0_2) (h : laws_szRow.f l0_0 l0_1 l0_2 a1 = some r) :
  Calls Try.prog 94 #[.agg #[.slice A0_0 l0_0.length c0_0, .slice A0_1 l0_1.length c0_1, .slice A0_2 l0_2.length c0_2], .int .i64 a1] w fun e w' => e = .returned (.int .i64 r) ∧ Below w.heap.size w w' := by
 have hu92 := Try.underlying92
 have HR0_0 := Aside0.mk hr0_0
 have HC0_0 := Aside0.mk hc0_0
 clear hr0_0 hc0_0
 have HR0_1 := Aside0.mk hr0_1
 have HC0_1 := Aside0.mk hc0_1
 clear hr0_1 hc0_1
 have HR0_2 := Aside0.mk hr0_2
 have HC0_2 := Aside0.mk hc0_2
 clear hr0_2 hc0_2
 have HB := Aside0.mk (Below.refl w.heap.size w)
 have H : ((laws_szIntS.f l0_0 a1).bind fun t102 => (if t102 < 0 then (some (-1)) else ((laws_szIntS.f l0_1 t102).bind fun t103 => (if t103 < 0 then (some (-1)) else ((laws_szIntS.f l0_2 t103).bind fun t104 => (if t104 < 0 then (some (-1)) else (some t104))))))) = some r := h
 clear h
 replace H := Option.bind_eq_some_iff.mp H
 obtain ⟨t102, A30, H⟩ := H
 have A3 := Aside0.mk A30
 clear A30
 by_cases c4 : t102 < 0
 ·rw [if_pos c4] at H
  have c4b0 := decide_eq_true c4
  clear c4
  obtain rfl := Option.some.inj H
  go_enter Try.func94, Try.ntmps94
  go_wp2_with (first | (refine gB 2 #[.slice A0_0 l0_0.length c0_0, .slice A0_1 l0_1.length c0_1, .slice A0_2 l0_2.length c0_2] 92 ?_; intro gb101 hg w5 BK101 hb; have GW101 := bG HB hg; replace HB := bS HB hb; clear hb hg; obtain ⟨hcz6_0, hcz6_1, hcz6_2, hfz6_0, hfz6_1, hfz6_2⟩ := bK3 (w := w5) BK101) | (refine gC (some 8) Try.func75 #[.slice A0_0 l0_0.length c0_0, .int .i64 a1] ?_; (with_reducible refine (laws_szIntS.calls _ _ l0_0 a1 t102 _ ?side1 ?side2 A3.out).mono ?_); (case side1 => exact cP (Kd.C_below HR0_0.out HB.out)); (case side2 => exact HC0_0.out); rintro e w' ⟨rfl, ⟨nd, rfl⟩⟩; refine ⟨_, rfl, ?_⟩))
  go_ret
  exact ⟨rR, bZ HB⟩
 ·rw [if_neg c4] at H
  have c4b0 := decide_eq_false c4
  clear c4
  replace H := Option.bind_eq_some_iff.mp H
  obtain ⟨t103, A70, H⟩ := H
  have A7 := Aside0.mk A70
  clear A70
  by_cases c8 : t103 < 0
  ·rw [if_pos c8] at H
   have c8b0 := decide_eq_true c8
   clear c8
   obtain rfl := Option.some.inj H
   go_enter Try.func94, Try.ntmps94
   go_wp2_with (first | (refine gB 2 #[.slice A0_0 l0_0.length c0_0, .slice A0_1 l0_1.length c0_1, .slice A0_2 l0_2.length c0_2] 92 ?_; intro gb101 hg w9 BK101 hb; have GW101 := bG HB hg; replace HB := bS HB hb; clear hb hg; obtain ⟨hcz10_0, hcz10_1, hcz10_2, hfz10_0, hfz10_1, hfz10_2⟩ := bK3 (w := w9) BK101) | (refine gC (some 8) Try.func75 #[.slice A0_0 l0_0.length c0_0, .int .i64 a1] ?_; (with_reducible refine (laws_szIntS.calls _ _ l0_0 a1 t102 _ ?side1 ?side2 A3.out).mono ?_); (case side1 => exact cP (Kd.C_below HR0_0.out HB.out)); (case side2 => exact HC0_0.out); rintro e w' ⟨rfl, ⟨nd, rfl⟩⟩; refine ⟨_, rfl, ?_⟩) | (refine gC (some 14) Try.func75 #[.slice A0_1 l0_1.length c0_1, .int .i64 t102] ?_; (with_reducible refine (laws_szIntS.calls _ _ l0_1 t102 t103 _ ?side1 ?side2 A7.out).mono ?_); (case side1 => exact cP (Kd.C_below HR0_1.out (bZ HB))); (case side2 => exact HC0_1.out); rintro e w' ⟨rfl, ⟨nd, rfl⟩⟩; refine ⟨_, rfl, ?_⟩))
   go_ret
   exact ⟨rR, bZ HB⟩
  ·rw [if_neg c8] at H
   have c8b0 := decide_eq_false c8
   clear c8
   replace H := Option.bind_eq_some_iff.mp H
   obtain ⟨t104, A110, H⟩ := H
   have A11 := Aside0.mk A110
   clear A110
   by_cases c12 : t104 < 0
   ·rw [if_pos c12] at H
    have c12b0 := decide_eq_true c12
    clear c12
    obtain rfl := Option.some.inj H
    go_enter Try.func94, Try.ntmps94
    go_wp2_with (first | (refine gB 2 #[.slice A0_0 l0_0.length c0_0, .slice A0_1 l0_1.length c0_1, .slice A0_2 l0_2.length c0_2] 92 ?_; intro gb101 hg w13 BK101 hb; have GW101 := bG HB hg; replace HB := bS HB hb; clear hb hg; obtain ⟨hcz14_0, hcz14_1, hcz14_2, hfz14_0, hfz14_1, hfz14_2⟩ := bK3 (w := w13) BK101) | (refine gC (some 8) Try.func75 #[.slice A0_0 l0_0.length c0_0, .int .i64 a1] ?_; (with_reducible refine (laws_szIntS.calls _ _ l0_0 a1 t102 _ ?side1 ?side2 A3.out).mono ?_); (case side1 => exact cP (Kd.C_below HR0_0.out HB.out)); (case side2 => exact HC0_0.out); rintro e w' ⟨rfl, ⟨nd, rfl⟩⟩; refine ⟨_, rfl, ?_⟩) | (refine gC (some 14) Try.func75 #[.slice A0_1 l0_1.length c0_1, .int .i64 t102] ?_; (with_reducible refine (laws_szIntS.calls _ _ l0_1 t102 t103 _ ?side1 ?side2 A7.out).mono ?_); (case side1 => exact cP (Kd.C_below HR0_1.out (bZ HB))); (case side2 => exact HC0_1.out); rintro e w' ⟨rfl, ⟨nd, rfl⟩⟩; refine ⟨_, rfl, ?_⟩) | (refine gC (some 20) Try.func75 #[.slice A0_2 l0_2.length c0_2, .int .i64 t103] ?_; (with_reducible refine (laws_szIntS.calls _ _ l0_2 t103 t104 _ ?side1 ?side2 A11.out).mono ?_); (case side1 => exact cP (Kd.C_below HR0_2.out (bZ HB))); (case side2 => exact HC0_2.out); rintro e w' ⟨rfl, ⟨nd, rfl⟩⟩; refine ⟨_, rfl, ?_⟩))
    go_ret
    exact ⟨rR, bZ HB⟩
   ·rw [if_neg c12] at H
    have c12b0 := decide_eq_false c12
    clear c12
    obtain rfl := Option.some.inj H
    go_enter Try.func94, Try.ntmps94
    go_wp2_with (first | (refine gB 2 #[.slice A0_0 l0_0.length c0_0, .slice A0_1 l0_1.length c0_1, .slice A0_2 l0_2.length c0_2] 92 ?_; intro gb101 hg w15 BK101 hb; have GW101 := bG HB hg; replace HB := bS HB hb; clear hb hg; obtain ⟨hcz16_0, hcz16_1, hcz16_2, hfz16_0, hfz16_1, hfz16_2⟩ := bK3 (w := w15) BK101) | (refine gC (some 8) Try.func75 #[.slice A0_0 l0_0.length c0_0, .int .i64 a1] ?_; (with_reducible refine (laws_szIntS.calls _ _ l0_0 a1 t102 _ ?side1 ?side2 A3.out).mono ?_); (case side1 => exact cP (Kd.C_below HR0_0.out HB.out)); (case side2 => exact HC0_0.out); rintro e w' ⟨rfl, ⟨nd, rfl⟩⟩; refine ⟨_, rfl, ?_⟩) | (refine gC (some 14) Try.func75 #[.slice A0_1 l0_1.length c0_1, .int .i64 t102] ?_; (with_reducible refine (laws_szIntS.calls _ _ l0_1 t102 t103 _ ?side1 ?side2 A7.out).mono ?_); (case side1 => exact cP (Kd.C_below HR0_1.out (bZ HB))); (case side2 => exact HC0_1.out); rintro e w' ⟨rfl, ⟨nd, rfl⟩⟩; refine ⟨_, rfl, ?_⟩) | (refine gC (some 20) Try.func75 #[.slice A0_2 l0_2.length c0_2, .int .i64 t103] ?_; (with_reducible refine (laws_szIntS.calls _ _ l0_2 t103 t104 _ ?side1 ?side2 A11.out).mono ?_); (case side1 => exact cP (Kd.C_below HR0_2.out (bZ HB))); (case side2 => exact HC0_2.out); rintro e w' ⟨rfl, ⟨nd, rfl⟩⟩; refine ⟨_, rfl, ?_⟩))
    go_ret
    exact ⟨rR, bZ HB⟩
/-! ### laws_szRowS: function 80 -/
def laws_szRowS.l0 : Nat → List (S92) → Int → Int → Option (Int)
 | 0, _, _, _ => none
 | k + 1, x0, x1, x5 => if x5 < (x0.length : Int) then (if 0 ≤ x5 then ((laws_szRow.f ((rd_T92 x0 x5).f0) ((rd_T92 x0 x5).f1) ((rd_T92 x0 x5).f2) x1).bind fun t106 => (if t106 < 0 then (some (-1)) else (laws_szRowS.l0 k x0 t106 (wrap64 (x5 + 1))))) else (none)) else (some x1)
def laws_szRowS.f (k : Nat) (l0 : List (S92)) (a1 : Int) : Option (Int) := if (wrap64 (a1 - (l0.length : Int))) < 0 then (some (-1)) else (laws_szRowS.l0 k l0 (wrap64 (a1 - (l0.length : Int))) 0)
theorem laws_szRowS.mono_l : ∀ k, (∀ y0 y1 y2, LeO (laws_szRowS.l0 k y0 y1 y2) (laws_szRowS.l0 (k + 1) y0 y1 y2))
 | 0 => fun _ _ _ r h => by simp [laws_szRowS.l0] at h
 | k + 1 => by
  have ih0 := laws_szRowS.mono_l k
  ·intro y0 y1 y2
   unfold laws_szRowS.l0
   with_reducible repeat' first | exact ih0 _ _ _ | exact LeO.refl _ | exact LeO.none _ | refine LeO.ite ?_ ?_ | refine LeO.bind ?_ (fun _ => ?_)
theorem laws_szRowS.mono : ∀ a0 a1 k, LeO (laws_szRowS.f k a0 a1) (laws_szRowS.f (k + 1) a0 a1) := by
 intro a0 a1 k
 have ih0 := laws_szRowS.mono_l k
 unfold laws_szRowS.f
 with_reducible repeat' first | exact ih0 _ _ _ | exact LeO.refl _ | exact LeO.none _ | refine LeO.ite ?_ ?_ | refine LeO.bind ?_ (fun _ => ?_)
set_option maxHeartbeats 8000000 in
set_option maxRecDepth 100000 in
theorem laws_szRowS.calls (k : Nat) (A0 : Option Addr) (c0 : Nat) (l0 : List (S92)) (a1 : Int) (r : Int) (w : World) (hr0 : Kd.C k92 w A0 l0.length l0) (hc0 : l0.length ≤ c0) (h : laws_szRowS.f k l0 a1 = some r) :
  Calls Try.prog 80 #[.slice A0 l0.length c0, .int .i64 a1] w fun e w' => e = .returned (.int .i64 r) ∧ Below w.heap.size w w' := by
 have hu92 := Try.underlying92
 have HR0 := Aside0.mk hr0
 have HC0 := Aside0.mk hc0
 clear hr0 hc0
 have HB := Aside0.mk (Below.refl w.heap.size w)
 have H : (if (wrap64 (a1 - (l0.length : Int))) < 0 then (some (-1)) else (laws_szRowS.l0 k l0 (wrap64 (a1 - (l0.length : Int))) 0)) = some r := h
 clear h
 by_cases c3 : (wrap64 (a1 - (l0.length : Int))) < 0
 ·rw [if_pos c3] at H
  have c3b0 := decide_eq_true c3
  clear c3
  obtain rfl := Option.some.inj H
  go_enter Try.func80, Try.ntmps80
  go_wp2
  go_ret
  exact ⟨rR, bZ HB⟩
 ·rw [if_neg c3] at H
  have c3b0 := decide_eq_false c3
  clear c3
  have H' := Aside0.mk H
  clear H
  go_enter Try.func80, Try.ntmps80
  go_wp2
  go_loopg [1, 5] k (fun kq v1 v5 w' => ∃ (x1_1 : Int) (x5_1 : Int), v1 = .int .i64 x1_1 ∧ v5 = .int .i64 x5_1 ∧ Aside0 (laws_szRowS.l0 kq l0 x1_1 x5_1 = some r) ∧ Aside0 (kq ≤ k) ∧ Aside0 (Below w.heap.size w w'))
  case atStart => exact ⟨(wrap64 (a1 - (l0.length : Int))), (0), rS, rS, H', ⟨Nat.le_refl _⟩, ⟨bZ HB⟩⟩
  case round =>
   clear H'
   try clear p2
   try clear c3
   try clear c3b0
   obtain ⟨x1_1, x5_1, rfl, rfl, HA, HK1, HB⟩ := hrel
   cases gk with
   | zero => exact absurd HA.out (by simp [laws_szRowS.l0])
   | succ k1 =>
    have H := HA.out
    clear HA
    simp only [laws_szRowS.l0] at H
    by_cases c4 : x5_1 < (l0.length : Int)
    ·rw [if_pos c4] at H
     have c4b0 := decide_eq_true c4
     clear c4
     by_cases c5 : 0 ≤ x5_1
     ·rw [if_pos c5] at H
      have c5b0 := decide_eq_true c5
      clear c5
      replace H := Option.bind_eq_some_iff.mp H
      obtain ⟨t106, A60, H⟩ := H
      have A6 := Aside0.mk A60
      clear A60
      by_cases c7 : t106 < 0
      ·rw [if_pos c7] at H
       have c7b0 := decide_eq_true c7
       clear c7
       obtain rfl := Option.some.inj H
       have p105 : 0 ≤ (x5_1 : Int) := of_decide_eq_true (by first | (with_reducible assumption) | assumption)
       have q105 : x5_1 < (l0.length : Int) := of_decide_eq_true (by first | (with_reducible assumption) | assumption)
       obtain ⟨ad105, A105_0, c105_0, A105_1, c105_1, A105_2, c105_2, e105, hx105_0, hx105_1, hx105_2, hl105_0, hi105_0, hl105_1, hi105_1, hl105_2, hi105_2⟩ := at_T92 HR0.out x5_1 p105 q105
       cases e105
       replace hx105_0 := (hC HB hx105_0 :)
       replace hx105_1 := (hC HB hx105_1 :)
       replace hx105_2 := (hC HB hx105_2 :)
       have HR105_0 := Aside0.mk hi105_0
       have HC105_0 := Aside0.mk hl105_0
       clear hi105_0 hl105_0
       have HR105_1 := Aside0.mk hi105_1
       have HC105_1 := Aside0.mk hl105_1
       clear hi105_1 hl105_1
       have HR105_2 := Aside0.mk hi105_2
       have HC105_2 := Aside0.mk hl105_2
       clear hi105_2 hl105_2
       replace p105 := eq_true p105
       replace q105 := eq_true q105
       go_wp2_with (first | (refine gC (some 23) Try.func94 #[.agg #[.slice A105_0 ((rd_T92 l0 x5_1).f0).length c105_0, .slice A105_1 ((rd_T92 l0 x5_1).f1).length c105_1, .slice A105_2 ((rd_T92 l0 x5_1).f2).length c105_2], .int .i64 x1_1] ?_; (with_reducible refine (laws_szRow.calls _ _ ((rd_T92 l0 x5_1).f0) _ _ ((rd_T92 l0 x5_1).f1) _ _ ((rd_T92 l0 x5_1).f2) x1_1 t106 _ ?side1 ?side2 ?side3 ?side4 ?side5 ?side6 A6.out).mono ?_); (case side1 => exact cP (Kd.C_below HR105_0.out HB.out)); (case side2 => exact HC105_0.out); (case side3 => exact cP (Kd.C_below HR105_1.out HB.out)); (case side4 => exact HC105_1.out); (case side5 => exact cP (Kd.C_below HR105_2.out HB.out)); (case side6 => exact HC105_2.out); rintro e w8 ⟨rfl, hb⟩; refine ⟨_, rfl, ?_⟩; replace HB := bS HB hb; (try clear hb)))
       go_ret
       exact ⟨rR, bZ HB⟩
      ·rw [if_neg c7] at H
       have c7b0 := decide_eq_false c7
       clear c7
       have H' := Aside0.mk H
       clear H
       have p105 : 0 ≤ (x5_1 : Int) := of_decide_eq_true (by first | (with_reducible assumption) | assumption)
       have q105 : x5_1 < (l0.length : Int) := of_decide_eq_true (by first | (with_reducible assumption) | assumption)
       obtain ⟨ad105, A105_0, c105_0, A105_1, c105_1, A105_2, c105_2, e105, hx105_0, hx105_1, hx105_2, hl105_0, hi105_0, hl105_1, hi105_1, hl105_2, hi105_2⟩ := at_T92 HR0.out x5_1 p105 q105
       cases e105
       replace hx105_0 := (hC HB hx105_0 :)
       replace hx105_1 := (hC HB hx105_1 :)
       replace hx105_2 := (hC HB hx105_2 :)
       have HR105_0 := Aside0.mk hi105_0
       have HC105_0 := Aside0.mk hl105_0
       clear hi105_0 hl105_0
       have HR105_1 := Aside0.mk hi105_1
       have HC105_1 := Aside0.mk hl105_1
       clear hi105_1 hl105_1
       have HR105_2 := Aside0.mk hi105_2
       have HC105_2 := Aside0.mk hl105_2
       clear hi105_2 hl105_2
       replace p105 := eq_true p105
       replace q105 := eq_true q105
       go_wp2_with (first | (refine gC (some 23) Try.func94 #[.agg #[.slice A105_0 ((rd_T92 l0 x5_1).f0).length c105_0, .slice A105_1 ((rd_T92 l0 x5_1).f1).length c105_1, .slice A105_2 ((rd_T92 l0 x5_1).f2).length c105_2], .int .i64 x1_1] ?_; (with_reducible refine (laws_szRow.calls _ _ ((rd_T92 l0 x5_1).f0) _ _ ((rd_T92 l0 x5_1).f1) _ _ ((rd_T92 l0 x5_1).f2) x1_1 t106 _ ?side1 ?side2 ?side3 ?side4 ?side5 ?side6 A6.out).mono ?_); (case side1 => exact cP (Kd.C_below HR105_0.out HB.out)); (case side2 => exact HC105_0.out); (case side3 => exact cP (Kd.C_below HR105_1.out HB.out)); (case side4 => exact HC105_1.out); (case side5 => exact cP (Kd.C_below HR105_2.out HB.out)); (case side6 => exact HC105_2.out); rintro e w9 ⟨rfl, hb⟩; refine ⟨_, rfl, ?_⟩; replace HB := bS HB hb; (try clear hb)))
       go_roundg k1
       case measure => have := HK1.out; omega
       case rel => exact ⟨(t106), (wrap64 (x5_1 + 1)), rS, rS, H', ⟨by have := HK1.out; omega⟩, ⟨bZ HB⟩⟩
     ·rw [if_neg c5] at H
      exact absurd H (by simp)
    ·rw [if_neg c4] at H
     have c4b0 := decide_eq_false c4
     clear c4
     obtain rfl := Option.some.inj H
     go_wp2
     go_ret
     exact ⟨rR, bZ HB⟩
/-! ### laws_szSystem: function 54 -/
def laws_szSystem.f (k : Nat) (a0_0 : Int) (a0_1 : Int) (l0_2 : List (S92)) (a1 : Int) : Option (Int) := (laws_szRowS.f k l0_2 a1).bind fun t108 => (if t108 < 0 then (some (-1)) else (some t108))
theorem laws_szSystem.mono : ∀ a0 a1 a2 a3 k, LeO (laws_szSystem.f k a0 a1 a2 a3) (laws_szSystem.f (k + 1) a0 a1 a2 a3) := by
 intro a0 a1 a2 a3 k
 unfold laws_szSystem.f
 with_reducible repeat' first | exact laws_szRowS.mono _ _ _ | exact LeO.refl _ | exact LeO.none _ | refine LeO.ite ?_ ?_ | refine LeO.bind ?_ (fun _ => ?_)
set_option maxHeartbeats 8000000 in
set_option maxRecDepth 100000 in
theorem laws_szSystem.calls (k : Nat) (a0_0 : Int) (a0_1 : Int) (A0_2 : Option Addr) (c0_2 : Nat) (l0_2 : List (S92)) (a1 : Int) (r : Int) (w : World) (hr0_2 : Kd.C k92 w A0_2 l0_2.length l0_2) (hc0_2 : l0_2.length ≤ c0_2) (h : laws_szSystem.f k a0_0 a0_1 l0_2 a1 = some r) :
  Calls Try.prog 54 #[.agg #[.int .i64 a0_0, .int .i64 a0_1, .slice A0_2 l0_2.length c0_2], .int .i64 a1] w fun e w' => e = .returned (.int .i64 r) ∧ Below w.heap.size w w' := by
 have hu58 := Try.underlying58
 have HR0_2 := Aside0.mk hr0_2
 have HC0_2 := Aside0.mk hc0_2
 clear hr0_2 hc0_2
 have HB := Aside0.mk (Below.refl w.heap.size w)
 have H : ((laws_szRowS.f k l0_2 a1).bind fun t108 => (if t108 < 0 then (some (-1)) else (some t108))) = some r := h
 clear h
 replace H := Option.bind_eq_some_iff.mp H
 obtain ⟨t108, A30, H⟩ := H
 have A3 := Aside0.mk A30
 clear A30
 by_cases c4 : t108 < 0
 ·rw [if_pos c4] at H
  have c4b0 := decide_eq_true c4
  clear c4
  obtain rfl := Option.some.inj H
  go_enter Try.func54, Try.ntmps54
  go_wp2_with (first | (refine gB 2 #[.int .i64 a0_0, .int .i64 a0_1, .slice A0_2 l0_2.length c0_2] 58 ?_; intro gb107 hg w5 BK107 hb; have GW107 := bG HB hg; replace HB := bS HB hb; clear hb hg; obtain ⟨hcz6_0, hcz6_1, hcz6_2, hfz6_0, hfz6_1, hfz6_2⟩ := bK3 (w := w5) BK107) | (refine gC (some 8) Try.func80 #[.slice A0_2 l0_2.length c0_2, .int .i64 a1] ?_; (with_reducible refine (laws_szRowS.calls k _ _ l0_2 a1 t108 _ ?side1 ?side2 A3.out).mono ?_); (case side1 => exact cP (Kd.C_below HR0_2.out HB.out)); (case side2 => exact HC0_2.out); rintro e w7 ⟨rfl, hb⟩; refine ⟨_, rfl, ?_⟩; replace BK107 := bB BK107 hb; replace HB := bS HB hb; (try clear hb)))
  go_ret
  exact ⟨rR, bZ HB⟩
 ·rw [if_neg c4] at H
  have c4b0 := decide_eq_false c4
  clear c4
  obtain rfl := Option.some.inj H
  go_enter Try.func54, Try.ntmps54
  go_wp2_with (first | (refine gB 2 #[.int .i64 a0_0, .int .i64 a0_1, .slice A0_2 l0_2.length c0_2] 58 ?_; intro gb107 hg w8 BK107 hb; have GW107 := bG HB hg; replace HB := bS HB hb; clear hb hg; obtain ⟨hcz9_0, hcz9_1, hcz9_2, hfz9_0, hfz9_1, hfz9_2⟩ := bK3 (w := w8) BK107) | (refine gC (some 8) Try.func80 #[.slice A0_2 l0_2.length c0_2, .int .i64 a1] ?_; (with_reducible refine (laws_szRowS.calls k _ _ l0_2 a1 t108 _ ?side1 ?side2 A3.out).mono ?_); (case side1 => exact cP (Kd.C_below HR0_2.out HB.out)); (case side2 => exact HC0_2.out); rintro e w10 ⟨rfl, hb⟩; refine ⟨_, rfl, ?_⟩; replace BK107 := bB BK107 hb; replace HB := bS HB hb; (try clear hb)))
  go_ret
  exact ⟨rR, bZ HB⟩
/-! ### spec_ScOf: function 47 -/
def spec_ScOf.f (a0 : Int) : Option (Int) := if (Int.tmod a0 1009) < 0 then (some (wrap64 ((Int.tmod a0 1009) + 1009))) else (some (Int.tmod a0 1009))
set_option maxHeartbeats 8000000 in
set_option maxRecDepth 100000 in
theorem spec_ScOf.calls (a0 : Int) (r : Int) (w : World) (h : spec_ScOf.f a0 = some r) :
  Calls Try.prog 47 #[.int .i64 a0] w fun e w' => e = .returned (.int .i64 r) ∧ Drawn0 w w' := by
 have H : (if (Int.tmod a0 1009) < 0 then (some (wrap64 ((Int.tmod a0 1009) + 1009))) else (some (Int.tmod a0 1009))) = some r := h
 clear h
 by_cases c2 : (Int.tmod a0 1009) < 0
 ·rw [if_pos c2] at H
  have c2b0 := decide_eq_true c2
  clear c2
  obtain rfl := Option.some.inj H
  go_enter Try.func47, Try.ntmps47
  go_wp2
  go_ret
  exact ⟨rS, rD⟩
 ·rw [if_neg c2] at H
  have c2b0 := decide_eq_false c2
  clear c2
  obtain rfl := Option.some.inj H
  go_enter Try.func47, Try.ntmps47
  go_wp2
  go_ret
  exact ⟨rS, rD⟩
/-! ### spec_ScMul: function 28 -/
def spec_ScMul.f (a0 : Int) (a1 : Int) : Option (Int) := (spec_ScOf.f a0).bind fun t109 => ((spec_ScOf.f a1).bind fun t110 => ((spec_ScOf.f (wrap64 (t109 * t110))).bind fun t111 => (some t111)))
set_option maxHeartbeats 8000000 in
set_option maxRecDepth 100000 in
theorem spec_ScMul.calls (a0 : Int) (a1 : Int) (r : Int) (w : World) (h : spec_ScMul.f a0 a1 = some r) :
  Calls Try.prog 28 #[.int .i64 a0, .int .i64 a1] w fun e w' => e = .returned (.int .i64 r) ∧ Drawn0 w w' := by
 have H : ((spec_ScOf.f a0).bind fun t109 => ((spec_ScOf.f a1).bind fun t110 => ((spec_ScOf.f (wrap64 (t109 * t110))).bind fun t111 => (some t111)))) = some r := h
 clear h
 replace H := Option.bind_eq_some_iff.mp H
 obtain ⟨t109, A30, H⟩ := H
 have A3 := Aside0.mk A30
 clear A30
 replace H := Option.bind_eq_some_iff.mp H
 obtain ⟨t110, A40, H⟩ := H
 have A4 := Aside0.mk A40
 clear A40
 replace H := Option.bind_eq_some_iff.mp H
 obtain ⟨t111, A50, H⟩ := H
 have A5 := Aside0.mk A50
 clear A50
 obtain rfl := Option.some.inj H
 go_enter Try.func28, Try.ntmps28
 go_wp2_with (first | (refine gC (some 6) Try.func47 #[.int .i64 a0] ?_; (with_reducible refine (spec_ScOf.calls a0 t109 _ A3.out).mono ?_); rintro e w' ⟨rfl, ⟨nd, rfl⟩⟩; refine ⟨_, rfl, ?_⟩) | (refine gC (some 8) Try.func47 #[.int .i64 a1] ?_; (with_reducible refine (spec_ScOf.calls a1 t110 _ A4.out).mono ?_); rintro e w' ⟨rfl, ⟨nd, rfl⟩⟩; refine ⟨_, rfl, ?_⟩) | (refine gC (some 10) Try.func47 #[.int .i64 (wrap64 (t109 * t110))] ?_; (with_reducible refine (spec_ScOf.calls (wrap64 (t109 * t110)) t111 _ A5.out).mono ?_); rintro e w' ⟨rfl, ⟨nd, rfl⟩⟩; refine ⟨_, rfl, ?_⟩))
 go_ret
 exact ⟨rS, rD⟩
end Go.Proofs.Ytcnejiflpioaiaa.Pf
end
section
namespace Go.Proofs.Ytcnejiflpioaiaa.Pf
open Go.RowKit Go.Proofs.YtcnejiflpioaiaaW.PrintWords Go.Proofs.YtcnejiflpioaiaaW.PrintLast Go.Proofs.YtcnejiflpioaiaaW.PrintMore
attribute [local go_sem] max2_int min2_int max_two min_two max_three min_three max_four min_four   -- for this text's walks alone
set_option linter.unusedVariables false
set_option linter.unusedSimpArgs false

/-! ### spec_PolyTrim: function 19 -/
mutual
def spec_PolyTrim.l0 : Nat → List Int → List Int → Int → Option (List Int)
 | 0, _, _, _ => none
 | k + 1, x0, x3, x4 => if x4 < (x0.length : Int) then (if 0 ≤ x4 then ((spec_ScOf.f (rd x0 x4)).bind fun t116 => (if x3.length < 17592186044416 then (spec_PolyTrim.l0 k x0 (x3 ++ [t116]) (wrap64 (x4 + 1))) else (none))) else (none)) else (spec_PolyTrim.l1 k x3)
def spec_PolyTrim.l1 : Nat → List Int → Option (List Int)
 | 0, _ => none
 | k + 1, x3 => if (x3.length : Int) > 0 then (if 0 ≤ (wrap64 ((x3.length : Int) - 1)) then (if (wrap64 ((x3.length : Int) - 1)) < (x3.length : Int) then (if (rd x3 (wrap64 ((x3.length : Int) - 1))) = 0 then (if (wrap64 ((x3.length : Int) - 1)) ≤ (x3.length : Int) then (spec_PolyTrim.l1 k (x3.take ((wrap64 ((x3.length : Int) - 1)) : Int).toNat)) else (none)) else (some x3)) else (none)) else (none)) else (some x3)
end
def spec_PolyTrim.f (k : Nat) (l0 : List Int) : Option (List Int) := spec_PolyTrim.l0 k l0 (([] : List Int)) 0
theorem spec_PolyTrim.mono_l : ∀ k, (∀ y0 y1 y2, LeO (spec_PolyTrim.l0 k y0 y1 y2) (spec_PolyTrim.l0 (k + 1) y0 y1 y2)) ∧ (∀ y0, LeO (spec_PolyTrim.l1 k y0) (spec_PolyTrim.l1 (k + 1) y0))
 | 0 => ⟨fun _ _ _ r h => by simp [spec_PolyTrim.l0] at h, fun _ r h => by simp [spec_PolyTrim.l1] at h⟩
 | k + 1 => by
  obtain ⟨ih0, ih1⟩ := spec_PolyTrim.mono_l k
  refine ⟨?_, ?_⟩
  ·intro y0 y1 y2
   unfold spec_PolyTrim.l0
   with_reducible repeat' first | exact ih0 _ _ _ | exact ih1 _ | exact LeO.refl _ | exact LeO.none _ | refine LeO.ite ?_ ?_ | refine LeO.bind ?_ (fun _ => ?_)
  ·intro y0
   unfold spec_PolyTrim.l1
   with_reducible repeat' first | exact ih0 _ _ _ | exact ih1 _ | exact LeO.refl _ | exact LeO.none _ | refine LeO.ite ?_ ?_ | refine LeO.bind ?_ (fun _ => ?_)
theorem spec_PolyTrim.mono : ∀ a0 k, LeO (spec_PolyTrim.f k a0) (spec_PolyTrim.f (k + 1) a0) := by
 intro a0 k
 obtain ⟨ih0, ih1⟩ := spec_PolyTrim.mono_l k
 unfold spec_PolyTrim.f
 with_reducible repeat' first | exact ih0 _ _ _ | exact ih1 _ | exact LeO.refl _ | exact LeO.none _ | refine LeO.ite ?_ ?_ | refine LeO.bind ?_ (fun _ => ?_)
set_option maxHeartbeats 8000000 in
set_option maxRecDepth 100000 in
theorem spec_PolyTrim.calls (k : Nat) (A0 : Option Addr) (c0 : Nat) (l0 : List Int) (r : List Int) (w : World) (hr0 : Kd.C (Kd.int .i64) w A0 l0.length l0) (hc0 : l0.length ≤ c0) (h : spec_PolyTrim.f k l0 = some r) :
  Calls Try.prog 19 #[.slice A0 l0.length c0] w fun e w' => ∃ v0_ : Value, e = .returned (v0_) ∧ Kd.R (Kd.int .i64) 3 w' w.heap.size (fun _ => True) v0_ r ∧ Below w.heap.size w w' := by
 have HR0 := Aside0.mk hr0
 have HC0 := Aside0.mk hc0
 clear hr0 hc0
 have HB := Aside0.mk (Below.refl w.heap.size w)
 have H : (spec_PolyTrim.l0 k l0 (([] : List Int)) 0) = some r := h
 clear h
 obtain ⟨y112, hy112⟩ : ∃ y_ : List Int, y_ = (([] : List Int)) := ⟨_, rfl⟩
 replace H : (spec_PolyTrim.l0 k l0 y112 0) = some r := by first | (rw [hy112]; with_reducible exact H) | (have H2_ := (Option.bind_some _ _).symm.trans H; rw [hy112]; with_reducible exact H2_) | (have H2_ := (Option.bind_some _ _).symm.trans H; with_reducible exact H2_) | with_reducible exact H | (rw [hy112]; exact H) | exact H
 have Ny112 := Aside0.mk hy112
 clear hy112
 have H' := Aside0.mk H
 clear H
 go_enter Try.func19, Try.ntmps19
 go_wp2_with (first | ((with_reducible refine gate_dst (N := 5) rfl ?_); (try (refine gate_guard (by rfl) ?_; dsimp only)); refine Kd.R_lit (Kd.int .i64) _ 3 ?hg (N := 5) ?hd (xs := ([] : List Int)) (inner := []) (ok := fun _ => True) (okp := fun _ => True) ?hr ?hp (fun _ hk => hk) trivial (Below.refl _ _) (Nat.le_refl _) (by simp) ?_; (case hd => rfl); (case hg => rfl); (case hr => first | (go_simp; done) | (go_simp; rfl)); (case hp => exact (Reps.none _ _)); intro v113 w2 ho3 hb hg_ hnew_; clear hg_ hnew_; (first | rw [← Ny112.out] at ho3 | (simp only [Int.reduceToNat] at ho3; rw [← Ny112.out] at ho3)); have HO114 := Aside0.mk (Kd.R_lower ho3 (below_size (bZ HB))); replace HB := bS HB hb; clear hb ho3))
 go_loopg [3, 4] k (fun kq v3 v4 w' => ∃ (x3_1 : List Int) (x4_1 : Int), v4 = .int .i64 x4_1 ∧ Aside0 (spec_PolyTrim.l0 kq l0 x3_1 x4_1 = some r) ∧ Aside0 (kq ≤ k) ∧ Aside0 (Kd.R (Kd.int .i64) 3 w' w.heap.size (fun _ => True) v3 x3_1) ∧ Aside0 (Below w.heap.size w w'))
 case atStart => exact ⟨(y112), (0), rS, H', ⟨Nat.le_refl _⟩, ⟨rP HO114⟩, ⟨bZ HB⟩⟩
 case round =>
  clear H'
  try clear c1
  try clear p2
  obtain ⟨x3_1, x4_1, rfl, HA, HK1, HO_3, HB⟩ := hrel
  cases gk with
  | zero => exact absurd HA.out (by simp [spec_PolyTrim.l0])
  | succ k1 =>
   have H := HA.out
   clear HA
   simp only [spec_PolyTrim.l0] at H
   by_cases c4 : x4_1 < (l0.length : Int)
   ·rw [if_pos c4] at H
    have c4b0 := decide_eq_true c4
    clear c4
    by_cases c5 : 0 ≤ x4_1
    ·rw [if_pos c5] at H
     have c5b0 := decide_eq_true c5
     clear c5
     replace H := Option.bind_eq_some_iff.mp H
     obtain ⟨t116, A60, H⟩ := H
     have A6 := Aside0.mk A60
     clear A60
     by_cases c7 : x3_1.length < 17592186044416
     ·rw [if_pos c7] at H
      have LMc7 := Aside0.mk c7
      clear c7
      obtain ⟨y117, hy117⟩ : ∃ y_ : List Int, y_ = (x3_1 ++ [t116]) := ⟨_, rfl⟩
      replace H : (spec_PolyTrim.l0 k1 l0 y117 (wrap64 (x4_1 + 1))) = some r := by first | (rw [hy117]; with_reducible exact H) | (have H2_ := (Option.bind_some _ _).symm.trans H; rw [hy117]; with_reducible exact H2_) | (have H2_ := (Option.bind_some _ _).symm.trans H; with_reducible exact H2_) | with_reducible exact H | (rw [hy117]; exact H) | exact H
      have Ny117 := Aside0.mk hy117
      clear hy117
      have H' := Aside0.mk H
      clear H
      have p115 : 0 ≤ (x4_1 : Int) := of_decide_eq_true (by first | (with_reducible assumption) | assumption)
      have q115 : x4_1 < (l0.length : Int) := of_decide_eq_true (by first | (with_reducible assumption) | assumption)
      obtain ⟨ad115, e115, hx115_0⟩ := Kd.at_int HR0.out x4_1 p115 q115
      cases e115
      replace hx115_0 := (hC HB hx115_0 :)
      replace p115 := eq_true p115
      replace q115 := eq_true q115
      go_wp2_with (first | (refine gC (some 17) Try.func47 #[.int .i64 (rd l0 x4_1)] ?_; (with_reducible refine (spec_ScOf.calls (rd l0 x4_1) t116 _ A6.out).mono ?_); rintro e w' ⟨rfl, ⟨nd, rfl⟩⟩; refine ⟨_, rfl, ?_⟩) | ((with_reducible refine gate_builtin (b := .append) (xs := #[.tmp 12, .tmp 18]) rfl ?_); (try (refine gate_guard (by rfl) ?_; dsimp only)); at_builtin; refine Kd.R_append (Kd.int .i64) (w0 := w) w.heap.size rfl (.tmp 12) (.tmp 18) 22 3 (.int .i64 0) 8 rfl Try.underlying22 info3 rfl (by decide) (by omega) u3 x3_1 t116 [.int .i64 t116] (fun _ => True) (fun _ => False) rfl rfl ?aP (fun _ hk => hk.elim) ?aF ?aO ?aB ?aS ?aL ?_; (case aP => exact rfl); (case aB => exact (bZ HB)); (case aF => exact (fun _ _ => trivial)); (case aO => exact (rP HO_3)); (case aS => exact (below_size (bZ HB))); (case aL => have := LMc7.out; omega); intro v118 w8 ho hb hg hat; rw [← Ny117.out] at ho; replace HB := Aside0.mk (hb); have HO119 := Aside0.mk (ho); clear HO_3; clear ho hb hg hat))
      go_roundg k1
      case measure => have := HK1.out; omega
      case rel => exact ⟨(y117), (wrap64 (x4_1 + 1)), rS, H', ⟨by have := HK1.out; omega⟩, ⟨rP HO119⟩, ⟨bZ HB⟩⟩
     ·rw [if_neg c7] at H
      exact absurd H (by simp)
    ·rw [if_neg c5] at H
     exact absurd H (by simp)
   ·rw [if_neg c4] at H
    have c4b0 := decide_eq_false c4
    clear c4
    have H' := Aside0.mk H
    clear H
    go_wp2
    go_loopg [3] k1 (fun kq v3 w' => ∃ (x3_2 : List Int), Aside0 (spec_PolyTrim.l1 kq x3_2 = some r) ∧ Aside0 (kq ≤ k1) ∧ Aside0 (Kd.R (Kd.int .i64) 3 w' w.heap.size (fun _ => True) v3 x3_2) ∧ Aside0 (Below w.heap.size w w'))
    case atStart => exact ⟨(x3_1), H', ⟨Nat.le_refl _⟩, ⟨rP HO_3⟩, ⟨bZ HB⟩⟩
    case round =>
     clear H'
     try clear c1
     try clear p1
     try clear q1
     try clear hx1
     try clear p2
     try clear c4
     try clear c4b0
     try clear c5
     try clear c5b0
     try clear p6
     try clear c7
     try clear hx115_0
     try clear p115
     try clear p2
     try clear q115
     obtain ⟨x3_2, HA, HK2, HO_3, HB⟩ := hrel
     cases gk with
     | zero => exact absurd HA.out (by simp [spec_PolyTrim.l1])
     | succ k2 =>
      have H := HA.out
      clear HA
      simp only [spec_PolyTrim.l1] at H
      by_cases c9 : (x3_2.length : Int) > 0
      ·rw [if_pos c9] at H
       have c9b0 := decide_eq_true c9
       have c9b1 : decide (0 < x3_2.length) = true := decide_eq_true (by omega)
       clear c9
       obtain ⟨ji10, hji10⟩ : ∃ j_ : Int, (wrap64 ((x3_2.length : Int) - 1)) = j_ := ⟨_, rfl⟩
       replace H : (if 0 ≤ (ji10) then (if (ji10) < (x3_2.length : Int) then (if (rd x3_2 (ji10)) = 0 then (if (ji10) ≤ (x3_2.length : Int) then (spec_PolyTrim.l1 k2 (x3_2.take ((ji10) : Int).toNat)) else (none)) else (some x3_2)) else (none)) else (none)) = some r := by first | (rw [hji10] at H; exact H) | (simp only [hji10] at H ⊢; exact H)
       have hji10w : (IntKind.i64.wrap ((x3_2.length : Int) - 1)) = ji10 := (i64_w _).trans hji10
       by_cases c11 : 0 ≤ (ji10)
       ·rw [if_pos c11] at H
        have c11b0 := decide_eq_true c11
        clear c11
        by_cases c12 : (ji10) < (x3_2.length : Int)
        ·rw [if_pos c12] at H
         have c12b0 := decide_eq_true c12
         clear c12
         by_cases c13 : (rd x3_2 (ji10)) = 0
         ·rw [if_pos c13] at H
          have c13b0 : ((rd x3_2 (ji10)) == 0) = true := beq_iff_eq.mpr c13
          have c13b1 : ((rd x3_2 (ji10)) != 0) = false := bne_eq_false_iff_eq.mpr c13
          clear c13
          by_cases c14 : (ji10) ≤ (x3_2.length : Int)
          ·rw [if_pos c14] at H
           have c14b0 := eq_true c14
           have c14b1 := decide_eq_true c14
           clear c14
           obtain ⟨y121, hy121⟩ : ∃ y_ : List Int, y_ = (x3_2.take ((ji10) : Int).toNat) := ⟨_, rfl⟩
           replace H : (spec_PolyTrim.l1 k2 y121) = some r := by first | (rw [hy121]; with_reducible exact H) | (have H2_ := (Option.bind_some _ _).symm.trans H; rw [hy121]; with_reducible exact H2_) | (have H2_ := (Option.bind_some _ _).symm.trans H; with_reducible exact H2_) | with_reducible exact H | (rw [hy121]; exact H) | exact H
           have Ny121 := Aside0.mk hy121
           clear hy121
           have H' := Aside0.mk H
           clear H
           obtain ⟨Ao15, co15, eo15⟩ := Kd.R_slice HO_3.out
           subst eo15
           have p120 : 0 ≤ ((ji10) : Int) := of_decide_eq_true (by first | (with_reducible assumption) | assumption)
           have q120 : (ji10) < (x3_2.length : Int) := of_decide_eq_true (by first | (with_reducible assumption) | assumption)
           obtain ⟨ad120, e120, hx120_0⟩ := Kd.at_int (Kd.R_reads' HO_3.out).2.2 (ji10) p120 q120
           cases e120
           replace p120 := eq_true p120
           replace q120 := eq_true q120
           have q16 : ((ji10) : Int) ≤ ((x3_2.length : Int) : Int) := of_decide_eq_true (by first | (with_reducible assumption) | assumption)
           obtain ⟨i016, hi016, _, hsz16, _⟩ := info_parts info3
           have hcut16 := cut_to (P := Try.prog) 22 3 .i64 Try.underlying22 hi016 (some ad120) x3_2.length co15 (ji10) (of_decide_eq_true (by first | (with_reducible assumption) | assumption)) q16 (Kd.R_reads' HO_3.out).2.1
           have hr16 := Kd.R_take (m := ((ji10) : Int).toNat) HO_3.out (by omega)
           have hy16 : y121.length = ((ji10) : Int).toNat := (by rw [Ny121.out, List.length_take]; omega)
           rw [← Ny121.out] at hr16
           rw [← hy16] at hr16 hcut16
           clear hy16 hi016 hsz16 HO_3
           have HO123 := Aside0.mk hr16
           clear hr16
           replace q16 := eq_true q16
           go_wp2
           go_roundg k2
           case measure => have := HK1.out; have := HK2.out; omega
           case rel => exact ⟨(y121), H', ⟨by have := HK1.out; have := HK2.out; omega⟩, ⟨rP HO123⟩, ⟨bZ HB⟩⟩
          ·rw [if_neg c14] at H
           exact absurd H (by simp)
         ·rw [if_neg c13] at H
          have c13b0 : ((rd x3_2 (ji10)) == 0) = false := beq_eq_false_iff_ne.mpr c13
          have c13b1 : ((rd x3_2 (ji10)) != 0) = true := bne_iff_ne.mpr c13
          obtain rfl := Option.some.inj H
          obtain ⟨Ao17, co17, eo17⟩ := Kd.R_slice HO_3.out
          subst eo17
          have p120 : 0 ≤ ((ji10) : Int) := of_decide_eq_true (by first | (with_reducible assumption) | assumption)
          have q120 : (ji10) < (x3_2.length : Int) := of_decide_eq_true (by first | (with_reducible assumption) | assumption)
          obtain ⟨ad120, e120, hx120_0⟩ := Kd.at_int (Kd.R_reads' HO_3.out).2.2 (ji10) p120 q120
          cases e120
          replace p120 := eq_true p120
          replace q120 := eq_true q120
          go_wp2
          go_ret
          exact ⟨_, by first | rfl | (simp [errW_none, errW_some] <;> rfl) | (simp only [← hji10]; first | rfl | (simp [errW_none, errW_some] <;> rfl)) | (simp [*, errW_none, errW_some] <;> rfl), by (with_reducible repeat (first | apply Kd.R_alloc | apply Kd.R_drewN | apply Kd.R_drew)); exact HO_3.out, bZ HB⟩
        ·rw [if_neg c12] at H
         exact absurd H (by simp)
       ·rw [if_neg c11] at H
        exact absurd H (by simp)
      ·rw [if_neg c9] at H
       have c9b0 := decide_eq_false c9
       have c9b1 : decide (0 < x3_2.length) = false := decide_eq_false (by omega)
       clear c9
       obtain rfl := Option.some.inj H
       obtain ⟨Ao18, co18, eo18⟩ := Kd.R_slice HO_3.out
       subst eo18
       go_wp2
       go_ret
       exact ⟨_, by first | rfl | (simp [errW_none, errW_some] <;> rfl) | (simp [*, errW_none, errW_some] <;> rfl), by (with_reducible repeat (first | apply Kd.R_alloc | apply Kd.R_drewN | apply Kd.R_drew)); exact HO_3.out, bZ HB⟩

end Go.Proofs.Ytcnejiflpioaiaa.Pf
end
section
namespace Go.Proofs.Ytcnejiflpioaiaa.Pf
open Go.RowKit Go.Proofs.YtcnejiflpioaiaaW.PrintWords Go.Proofs.YtcnejiflpioaiaaW.PrintLast Go.Proofs.YtcnejiflpioaiaaW.PrintMore
attribute [local go_sem] max2_int min2_int max_two min_two max_three min_three max_four min_four   -- for this text's walks alone
set_option linter.unusedVariables false
set_option linter.unusedSimpArgs false
/-! ### spec_ScAdd: function 27 -/
def spec_ScAdd.f (a0 : Int) (a1 : Int) : Option (Int) := (spec_ScOf.f a0).bind fun t124 => ((spec_ScOf.f a1).bind fun t125 => ((spec_ScOf.f (wrap64 (t124 + t125))).bind fun t126 => (some t126)))
set_option maxHeartbeats 8000000 in
set_option maxRecDepth 100000 in
theorem spec_ScAdd.calls (a0 : Int) (a1 : Int) (r : Int) (w : World) (h : spec_ScAdd.f a0 a1 = some r) :
  Calls Try.prog 27 #[.int .i64 a0, .int .i64 a1] w fun e w' => e = .returned (.int .i64 r) ∧ Drawn0 w w' := by
 have H : ((spec_ScOf.f a0).bind fun t124 => ((spec_ScOf.f a1).bind fun t125 => ((spec_ScOf.f (wrap64 (t124 + t125))).bind fun t126 => (some t126)))) = some r := h
 clear h
 replace H := Option.bind_eq_some_iff.mp H
 obtain ⟨t124, A30, H⟩ := H
 have A3 := Aside0.mk A30
 clear A30
 replace H := Option.bind_eq_some_iff.mp H
 obtain ⟨t125, A40, H⟩ := H
 have A4 := Aside0.mk A40
 clear A40
 replace H := Option.bind_eq_some_iff.mp H
 obtain ⟨t126, A50, H⟩ := H
 have A5 := Aside0.mk A50
 clear A50
 obtain rfl := Option.some.inj H
 go_enter Try.func27, Try.ntmps27
 go_wp2_with (first | (refine gC (some 6) Try.func47 #[.int .i64 a0] ?_; (with_reducible refine (spec_ScOf.calls a0 t124 _ A3.out).mono ?_); rintro e w' ⟨rfl, ⟨nd, rfl⟩⟩; refine ⟨_, rfl, ?_⟩) | (refine gC (some 8) Try.func47 #[.int .i64 a1] ?_; (with_reducible refine (spec_ScOf.calls a1 t125 _ A4.out).mono ?_); rintro e w' ⟨rfl, ⟨nd, rfl⟩⟩; refine ⟨_, rfl, ?_⟩) | (refine gC (some 10) Try.func47 #[.int .i64 (wrap64 (t124 + t125))] ?_; (with_reducible refine (spec_ScOf.calls (wrap64 (t124 + t125)) t126 _ A5.out).mono ?_); rintro e w' ⟨rfl, ⟨nd, rfl⟩⟩; refine ⟨_, rfl, ?_⟩))
 go_ret
 exact ⟨rS, rD⟩
end Go.Proofs.Ytcnejiflpioaiaa.Pf
end
section
namespace Go.Proofs.Ytcnejiflpioaiaa.Pf
open Go.RowKit Go.Proofs.YtcnejiflpioaiaaW.PrintWords Go.Proofs.YtcnejiflpioaiaaW.PrintLast Go.Proofs.YtcnejiflpioaiaaW.PrintMore
attribute [local go_sem] max2_int min2_int max_two min_two max_three min_three max_four min_four   -- for this text's walks alone
set_option linter.unusedVariables false
set_option linter.unusedSimpArgs false

/-! ### spec_PolyAdd: function 31 -/
mutual
def spec_PolyAdd.j0 : Nat → List Int → List Int → Int → Option (List Int)
 | 0, _, _, _ => none
 | k + 1, x0, x1, x5 => if 0 ≤ x5 then (if (x5 : Int).toNat ≤ 35184372088832 then (spec_PolyAdd.l0 k x0 x1 x5 (List.replicate (x5 : Int).toNat 0) 0) else (none)) else (none)
def spec_PolyAdd.l0 : Nat → List Int → List Int → Int → List Int → Int → Option (List Int)
 | 0, _, _, _, _, _ => none
 | k + 1, x0, x1, x5, x6, x7 => if x7 < x5 then (if x7 < (x0.length : Int) then (if 0 ≤ x7 then (if x7 < (x6.length : Int) then ((spec_ScAdd.f (rd x6 x7) (rd x0 x7)).bind fun t135 => ((some (x6.set (x7 : Int).toNat t135 : List Int)).bind fun y136 => (if x7 < (x1.length : Int) then ((spec_ScAdd.f (rd y136 x7) (rd x1 x7)).bind fun t139 => (spec_PolyAdd.l0 k x0 x1 x5 (y136.set (x7 : Int).toNat t139) (wrap64 (x7 + 1)))) else (spec_PolyAdd.l0 k x0 x1 x5 y136 (wrap64 (x7 + 1)))))) else (none)) else (none)) else (if x7 < (x1.length : Int) then (if 0 ≤ x7 then (if x7 < (x6.length : Int) then ((spec_ScAdd.f (rd x6 x7) (rd x1 x7)).bind fun t143 => (spec_PolyAdd.l0 k x0 x1 x5 (x6.set (x7 : Int).toNat t143) (wrap64 (x7 + 1)))) else (none)) else (none)) else (spec_PolyAdd.l0 k x0 x1 x5 x6 (wrap64 (x7 + 1))))) else ((spec_PolyTrim.f k x6).bind fun t130 => (some t130))
end
def spec_PolyAdd.f (k : Nat) (l0 : List Int) (l1 : List Int) : Option (List Int) := if (l1.length : Int) > (l0.length : Int) then (spec_PolyAdd.j0 k l0 l1 (l1.length : Int)) else (spec_PolyAdd.j0 k l0 l1 (l0.length : Int))
theorem spec_PolyAdd.mono_l : ∀ k, (∀ y0 y1 y2, LeO (spec_PolyAdd.j0 k y0 y1 y2) (spec_PolyAdd.j0 (k + 1) y0 y1 y2)) ∧ (∀ y0 y1 y2 y3 y4, LeO (spec_PolyAdd.l0 k y0 y1 y2 y3 y4) (spec_PolyAdd.l0 (k + 1) y0 y1 y2 y3 y4))
 | 0 => ⟨fun _ _ _ r h => by simp [spec_PolyAdd.j0] at h, fun _ _ _ _ _ r h => by simp [spec_PolyAdd.l0] at h⟩
 | k + 1 => by
  obtain ⟨ih0, ih1⟩ := spec_PolyAdd.mono_l k
  refine ⟨?_, ?_⟩
  ·intro y0 y1 y2
   unfold spec_PolyAdd.j0
   with_reducible repeat' first | exact ih0 _ _ _ | exact ih1 _ _ _ _ _ | exact spec_PolyTrim.mono _ _ | exact LeO.refl _ | exact LeO.none _ | refine LeO.ite ?_ ?_ | refine LeO.bind ?_ (fun _ => ?_)
  ·intro y0 y1 y2 y3 y4
   unfold spec_PolyAdd.l0
   with_reducible repeat' first | exact ih0 _ _ _ | exact ih1 _ _ _ _ _ | exact spec_PolyTrim.mono _ _ | exact LeO.refl _ | exact LeO.none _ | refine LeO.ite ?_ ?_ | refine LeO.bind ?_ (fun _ => ?_)
theorem spec_PolyAdd.mono : ∀ a0 a1 k, LeO (spec_PolyAdd.f k a0 a1) (spec_PolyAdd.f (k + 1) a0 a1) := by
 intro a0 a1 k
 obtain ⟨ih0, ih1⟩ := spec_PolyAdd.mono_l k
 unfold spec_PolyAdd.f
 with_reducible repeat' first | exact ih0 _ _ _ | exact ih1 _ _ _ _ _ | exact spec_PolyTrim.mono _ _ | exact LeO.refl _ | exact LeO.none _ | refine LeO.ite ?_ ?_ | refine LeO.bind ?_ (fun _ => ?_)
def spec_PolyAdd.T9 : Bool × List (List Nat × List Nat) := (true, [([], []), ([], []), ([], []), ([], []), ([2, 3], [2, 3]), ([4], [4]), ([], []), ([], []), ([6, 7], [6, 7]), ([8], [8]), ([5, 9], [5, 9]), ([0, 1, 0, 1, 2, 3, 4, 5, 6, 7, 8, 9, 10], [0, 1]), ([11, 10, 10, 0, 1, 2, 3, 4, 5, 6, 7, 8, 9, 10], [10, 11])])
def spec_PolyAdd.B9 : List Nat := [0, 0, 0, 0, 12, 28, 0, 0, 192, 448, 1020, 2047, 4095]
theorem spec_PolyAdd.tab9 : rtab .any (opsOf Try.f31 9) = spec_PolyAdd.T9 := by kernel_rfl
theorem spec_PolyAdd.bits9 : waitsOk spec_PolyAdd.T9.2 spec_PolyAdd.B9 = true := by kernel_rfl
def spec_PolyAdd.T11 : Bool × List (List Nat × List Nat) := (true, [([], []), ([], []), ([], []), ([], []), ([2, 3], [2, 3]), ([4], [4]), ([], []), ([], []), ([6, 7], [6, 7]), ([8], [8]), ([5, 9], [5, 9]), ([0, 1, 0, 1, 2, 3, 4, 5, 6, 7, 8, 9, 10], [0, 1]), ([11, 10, 10, 0, 1, 2, 3, 4, 5, 6, 7, 8, 9, 10], [10, 11])])
def spec_PolyAdd.B11 : List Nat := [0, 0, 0, 0, 12, 28, 0, 0, 192, 448, 1020, 2047, 4095]
theorem spec_PolyAdd.tab11 : rtab .any (opsOf Try.f31 11) = spec_PolyAdd.T11 := by kernel_rfl
theorem spec_PolyAdd.bits11 : waitsOk spec_PolyAdd.T11.2 spec_PolyAdd.B11 = true := by kernel_rfl
set_option maxHeartbeats 8000000 in
set_option maxRecDepth 100000 in
theorem spec_PolyAdd.calls (k : Nat) (A0 : Option Addr) (c0 : Nat) (l0 : List Int) (A1 : Option Addr) (c1 : Nat) (l1 : List Int) (r : List Int) (w : World) (hr0 : Kd.C (Kd.int .i64) w A0 l0.length l0) (hc0 : l0.length ≤ c0) (hr1 : Kd.C (Kd.int .i64) w A1 l1.length l1) (hc1 : l1.length ≤ c1) (h : spec_PolyAdd.f k l0 l1 = some r) :
  Calls Try.prog 31 #[.slice A0 l0.length c0, .slice A1 l1.length c1] w fun e w' => ∃ v0_ : Value, e = .returned (v0_) ∧ Kd.R (Kd.int .i64) 3 w' w.heap.size (fun _ => True) v0_ r ∧ Below w.heap.size w w' := by
 have HR0 := Aside0.mk hr0
 have HC0 := Aside0.mk hc0
 clear hr0 hc0
 have HR1 := Aside0.mk hr1
 have HC1 := Aside0.mk hc1
 clear hr1 hc1
 have HB := Aside0.mk (Below.refl w.heap.size w)
 have H : (if (l1.length : Int) > (l0.length : Int) then (spec_PolyAdd.j0 k l0 l1 (l1.length : Int)) else (spec_PolyAdd.j0 k l0 l1 (l0.length : Int))) = some r := h
 clear h
 have HC3 := Aside0.mk H
 clear H
 go_enter Try.func31, Try.ntmps31
 go_upto_if 13 with (fail)
 go_cut [5] (fun v5 wc => ∃ (kq : Nat) (x5_2 : Int), v5 = .int .i64 x5_2 ∧ Aside0 (spec_PolyAdd.j0 kq l0 l1 x5_2 = some r) ∧ Aside0 (kq ≤ k) ∧ Aside0 (Below w.heap.size w wc))
 case first =>
  have H := HC3.out
  clear HC3
  by_cases c4 : (l1.length : Int) > (l0.length : Int)
  ·rw [if_pos c4] at H
   have c4b0 := decide_eq_true c4
   have c4b1 : decide (l0.length < l1.length) = true := decide_eq_true (Int.ofNat_lt.mp c4)
   clear c4
   (first | rw [c4b0] | (simp only [i64_w, i32_w]; rw [c4b0]) | rw [c4b1] | skip)
   have H' := Aside0.mk H
   clear H
   go_wp2
   go_meet
   case rel => exact ⟨_, ((l1.length : Int)), rS, H', ⟨by first | omega | exact Nat.le_refl _⟩, ⟨bZ HB⟩⟩
  ·rw [if_neg c4] at H
   have c4b0 := decide_eq_false c4
   have c4b1 : decide (l0.length < l1.length) = false := decide_eq_false (fun h => c4 (Int.ofNat_lt.mpr h))
   clear c4
   (first | rw [c4b0] | (simp only [i64_w, i32_w]; rw [c4b0]) | rw [c4b1] | skip)
   have H' := Aside0.mk H
   clear H
   go_wp2
   go_meet
   case rel => exact ⟨_, ((l0.length : Int)), rS, H', ⟨by first | omega | exact Nat.le_refl _⟩, ⟨bZ HB⟩⟩
 case rest =>
  clear HC3
  try clear c1
  try clear p2
  try clear c3
  try clear c4
  try clear c4b0
  try clear c4b1
  obtain ⟨kq, x5_2, rfl, HA, HJ2, HB⟩ := hcut
  cases kq with
  | zero => exact absurd HA.out (by simp [spec_PolyAdd.j0])
  | succ kj2 =>
   have H := HA.out
   clear HA
   simp only [spec_PolyAdd.j0] at H
   by_cases c5 : 0 ≤ x5_2
   ·rw [if_pos c5] at H
    have c5b0 := eq_true c5
    have c5b1 := decide_eq_true c5
    clear c5
    by_cases c6 : (x5_2 : Int).toNat ≤ 35184372088832
    ·rw [if_pos c6] at H
     have c6b0 := eq_true c6
     have c6b1 := decide_eq_true c6
     clear c6
     obtain ⟨y127, hy127⟩ : ∃ y_ : List Int, y_ = (List.replicate (x5_2 : Int).toNat 0) := ⟨_, rfl⟩
     replace H : (spec_PolyAdd.l0 kj2 l0 l1 x5_2 y127 0) = some r := by first | (rw [hy127]; with_reducible exact H) | (have H2_ := (Option.bind_some _ _).symm.trans H; rw [hy127]; with_reducible exact H2_) | (have H2_ := (Option.bind_some _ _).symm.trans H; with_reducible exact H2_) | with_reducible exact H | (rw [hy127]; exact H) | exact H
     have Ny127 := Aside0.mk hy127
     clear hy127
     have H' := Aside0.mk H
     clear H
     go_wp2_with (first | ((with_reducible refine gate_dst (N := 17) rfl ?_); refine Kd.R_make (Kd.int .i64) _ 3 rfl (N := 17) rfl 22 _ _ rfl x5_2 rfl rfl Try.underlying22 (.int .i64 0) 8 info3 rfl (by decide) (by omega) 0 (ok := fun _ => True) (okp := fun _ => True) rfl (fun _ hk => hk) trivial (of_decide_eq_true (by first | (with_reducible assumption) | assumption)) (Nat.le_trans (Nat.mul_le_mul_right _ (of_decide_eq_true (by first | (with_reducible assumption) | assumption) : x5_2.toNat ≤ 35184372088832)) (by omega)) (Below.refl _ _) (Nat.le_refl _) ?_; intro v128 w7 ho8 hb hg_ hnew_; clear hg_ hnew_; (first | rw [← Ny127.out] at ho8 | (simp only [Int.reduceToNat] at ho8; rw [← Ny127.out] at ho8)); have HO129 := Aside0.mk (Kd.R_lower ho8 (below_size (bZ HB))); replace HB := bS HB hb; clear hb ho8))
     go_loopg [7] kj2 (fun kq v7 w' => ∃ (x6_2 : List Int) (x7_2 : Int), v7 = .int .i64 x7_2 ∧ Aside0 (spec_PolyAdd.l0 kq l0 l1 x5_2 x6_2 x7_2 = some r) ∧ Aside0 (kq ≤ kj2) ∧ Aside0 (Kd.R (Kd.int .i64) 3 w' w.heap.size (fun _ => True) v128 x6_2) ∧ Aside0 (Below w.heap.size w w'))
     case atStart => exact ⟨(y127), (0), rS, H', ⟨Nat.le_refl _⟩, ⟨rP HO129⟩, ⟨bZ HB⟩⟩
     case round =>
      clear H'
      try clear c1
      try clear p2
      try clear c3
      try clear c4
      try clear c4b0
      try clear c4b1
      try clear c5
      try clear c5b0
      try clear c5b1
      try clear c6
      try clear c6b0
      try clear c6b1
      try clear p2
      obtain ⟨x6_2, x7_2, rfl, HA, HK2, HO_6, HB⟩ := hrel
      cases gk with
      | zero => exact absurd HA.out (by simp [spec_PolyAdd.l0])
      | succ k2 =>
       have H := HA.out
       clear HA
       simp only [spec_PolyAdd.l0] at H
       by_cases c9 : x7_2 < x5_2
       ·rw [if_pos c9] at H
        have c9b0 := decide_eq_true c9
        clear c9
        by_cases c10 : x7_2 < (l0.length : Int)
        ·rw [if_pos c10] at H
         have c10b0 := decide_eq_true c10
         clear c10
         by_cases c11 : 0 ≤ x7_2
         ·rw [if_pos c11] at H
          have c11b0 := decide_eq_true c11
          clear c11
          by_cases c12 : x7_2 < (x6_2.length : Int)
          ·rw [if_pos c12] at H
           have c12b0 := decide_eq_true c12
           clear c12
           replace H := Option.bind_eq_some_iff.mp H
           obtain ⟨t135, A130, H⟩ := H
           have A13 := Aside0.mk A130
           clear A130
           obtain ⟨y136, hy136⟩ : ∃ y_ : List Int, y_ = (x6_2.set (x7_2 : Int).toNat t135) := ⟨_, rfl⟩
           replace H : (if x7_2 < (l1.length : Int) then ((spec_ScAdd.f (rd y136 x7_2) (rd l1 x7_2)).bind fun t139 => (spec_PolyAdd.l0 k2 l0 l1 x5_2 (y136.set (x7_2 : Int).toNat t139) (wrap64 (x7_2 + 1)))) else (spec_PolyAdd.l0 k2 l0 l1 x5_2 y136 (wrap64 (x7_2 + 1)))) = some r := by first | (rw [hy136]; with_reducible exact H) | (have H2_ := (Option.bind_some _ _).symm.trans H; rw [hy136]; with_reducible exact H2_) | (have H2_ := (Option.bind_some _ _).symm.trans H; with_reducible exact H2_) | with_reducible exact H | (rw [hy136]; exact H) | exact H
           have Ny136 := Aside0.mk hy136
           clear hy136
           by_cases c15 : x7_2 < (l1.length : Int)
           ·rw [if_pos c15] at H
            have c15b0 := decide_eq_true c15
            clear c15
            replace H := Option.bind_eq_some_iff.mp H
            obtain ⟨t139, A160, H⟩ := H
            have A16 := Aside0.mk A160
            clear A160
            obtain ⟨y140, hy140⟩ : ∃ y_ : List Int, y_ = (y136.set (x7_2 : Int).toNat t139) := ⟨_, rfl⟩
            replace H : (spec_PolyAdd.l0 k2 l0 l1 x5_2 y140 (wrap64 (x7_2 + 1))) = some r := by first | (rw [hy140]; with_reducible exact H) | (have H2_ := (Option.bind_some _ _).symm.trans H; rw [hy140]; with_reducible exact H2_) | (have H2_ := (Option.bind_some _ _).symm.trans H; with_reducible exact H2_) | with_reducible exact H | (rw [hy140]; exact H) | exact H
            have Ny140 := Aside0.mk hy140
            clear hy140
            have H' := Aside0.mk H
            clear H
            try go_wp2
            replace HO_6 := Aside0.mk (Kd.R_drew HO_6.out)
            replace HB := Aside0.mk (below_drew1 HB.out)
            obtain ⟨Ao19, co19, eo19⟩ := Kd.R_slice HO_6.out
            (first | subst eo19 | (injection eo19 with f1_ f2_ f3_; have f4_ := f1_.symm; have f5_ := f3_.symm; clear f1_ f2_ f3_; subst f4_; subst f5_))
            have p133 : 0 ≤ (x7_2 : Int) := of_decide_eq_true (by first | (with_reducible assumption) | assumption)
            have q133 : x7_2 < (x6_2.length : Int) := of_decide_eq_true (by first | (with_reducible assumption) | assumption)
            obtain ⟨ad133, e133, hx133_0⟩ := Kd.at_int (Kd.R_reads' HO_6.out).2.2 x7_2 p133 q133
            cases e133
            replace p133 := eq_true p133
            replace q133 := eq_true q133
            have p134 : 0 ≤ (x7_2 : Int) := of_decide_eq_true (by first | (with_reducible assumption) | assumption)
            have q134 : x7_2 < (l0.length : Int) := of_decide_eq_true (by first | (with_reducible assumption) | assumption)
            obtain ⟨ad134, e134, hx134_0⟩ := Kd.at_int HR0.out x7_2 p134 q134
            have hw134_0 := hx134_0
            cases e134
            replace hx134_0 := (hC HB hx134_0 :)
            replace p134 := eq_true p134
            replace q134 := eq_true q134
            refine start_ (n := 13) (S := fun w' => w'.cell? (ad133.add (x7_2).toNat) = some (.int .i64 (rd x6_2 x7_2)) ∧ w'.cell? (ad134.add (x7_2).toNat) = some (.int .i64 (rd l0 x7_2))) (ds := [12]) #[false, false, false, false, false, false, false, false, false, false, false, false, false] (by kernel_rfl) rfl rfl ⟨hx133_0, ((hC HB hw134_0 :))⟩ (fun hHeld => ?_); refine with_tabW spec_PolyAdd.tab9 spec_PolyAdd.bits9 (fun HT_ HW_ => ?_)
            generalize wr.drew = w18 at HO_6 HB hx133_0 hx134_0 hHeld ⊢
            refine pI 0 (some 27) HT_.out ?_
            refine pI 1 (some 28) HT_.out ?_
            refine pI 2 (some 29) HT_.out ?_
            refine pI 3 (some 30) HT_.out ?_
            refine pI 4 (some 31) HT_.out ?_
            refine pI 6 (some 33) HT_.out ?_
            refine pI 7 (some 34) HT_.out ?_
            refine pI 8 (some 35) HT_.out ?_
            refine tI2 5 (some 32) HT_.out HW_.out hHeld ?_
            refine tI2 9 (some 36) HT_.out HW_.out hHeld ?_
            refine oI 10 (some 37) HT_.out (fun K hK => ?_)
            refine gO Try.func27 #[.int .i64 (rd x6_2 x7_2), .int .i64 (rd l0 x7_2)] ?_
            with_reducible refine (spec_ScAdd.calls (rd x6_2 x7_2) (rd l0 x7_2) t135 _ A13.out).mono ?_
            rintro e w' ⟨rfl, ⟨nd, rfl⟩⟩
            refine ⟨_, rfl, ?_⟩
            have p14 : 0 ≤ (x7_2 : Int) := of_decide_eq_true (by first | (with_reducible assumption) | assumption)
            have q14 : (x7_2 : Int) < ((x6_2.length : Int) : Int) := of_decide_eq_true (by first | (with_reducible assumption) | assumption)
            obtain ⟨go14, co14, eo14, gb14, gl14, cl14, HG14⟩ := Kd.R_form HO_6.out (by omega)
            (first | cases eo14 | (injection eo14 with ea_ en_ ec_; (first | subst ea_ | (injection ea_ with ea_; subst ea_)); subst ec_; clear en_))
            have GB14 := Aside0.mk gb14
            have GG14 := Aside0.mk HG14
            clear gb14 gl14 HG14
            (first | simp only [add_plain] at hx133_0 | skip)
            obtain ⟨hx14_0, hf14_0⟩ := Kd.R_celln 0 HO_6.out (x7_2 : Int) p14 q14
            replace p14 := eq_true p14
            replace q14 := eq_true q14
            have HP20 := Kd.R_putn HO_6.out (x7_2 : Int) t135
            rw [← Ny136.out] at HP20
            have HQ20 := Aside0.mk HP20
            clear HP20
            refine hK.out _ _ ⟨hHeld.1, ((hC HB hw134_0 :))⟩ (fun hHeld => ?_)
            clear hK K
            refine nO (some 37) ?_
            refine pI 11 (some 38) HT_.out ?_
            refine last_ (i := 12) (N := none) #[true, true, true, true, true, true, true, true, true, true, true, true, true] rfl rfl (one_of HT_.out (by kernel_rfl)) (by decide) (fun K hK => ?_)
            refine skip_ (w1 := ?_) (by rfl) rfl ?_ ?_
            rotate_left
            ·go_simp
             rfl
            refine hK.out _ _ ?_
            clear hK K
            refine done_ (done_of HT_.out (by kernel_rfl)) ?_
            try go_wp2
            obtain ⟨w21, hW_⟩ : ∃ W_ : World, W_ = (w18.setCell ⟨go14, (x7_2 : Int).toNat, none⟩ (.int .i64 t135)) := ⟨_, rfl⟩
            have n0_ : Aside0 (Kd.R (Kd.int .i64) 3 (w18.setCell ⟨go14, (x7_2 : Int).toNat, none⟩ (.int .i64 t135)) w.heap.size (fun _ => True) (.slice (some ⟨go14, 0, none⟩) x6_2.length co19) y136) := ⟨rP HQ20⟩
            rw [← hW_] at n0_
            have n1_ : Aside0 (Below w.heap.size w (w18.setCell ⟨go14, (x7_2 : Int).toNat, none⟩ (.int .i64 t135))) := ⟨by repeat (first | (with_reducible first | exact HB.out | apply below_alloc | apply pw_below_drewN | apply below_drew1 | refine below_set ?_ GB14.out) | exact HB.out)⟩
            rw [← hW_] at n1_
            (try clear HO_6)
            (try clear HB)
            have HO_6 := n0_
            clear n0_
            have HB := n1_
            clear n1_
            (try rw [show ∀ (w_ : World) (n_ : Nat) (p_ : Addr) (v_ : Value), (w_.drewN n_).setCell p_ v_ = (w_.setCell p_ v_).drewN n_ from fun _ _ _ _ => rfl])
            rw [← hW_]
            clear hW_
            (try simp only [World.drewN_drewN]); (try (rw [drewN_self w21]; generalize hq_ : World.drewN w21 _ = w21; replace HO_6 : Aside0 (Kd.R (Kd.int .i64) 3 w21 w.heap.size (fun _ => True) (.slice (some ⟨go14, 0, none⟩) x6_2.length co19) y136) := ⟨by rw [← hq_]; exact (rP HO_6)⟩; replace HB : Aside0 (Below w.heap.size w w21) := ⟨by rw [← hq_]; exact (bZ HB)⟩; clear hq_))
            replace HO_6 := Aside0.mk (Kd.R_drew HO_6.out)
            replace HB := Aside0.mk (below_drew1 HB.out)
            have p137 : 0 ≤ (x7_2 : Int) := of_decide_eq_true (by first | (with_reducible assumption) | assumption)
            have q137 : x7_2 < (y136.length : Int) := (by have h_ : (x7_2 : Int) < ((x6_2.length : Int) : Int) := of_decide_eq_true (by first | (with_reducible assumption) | assumption); first | (have e_ := (Kd.R_reads' HO_6.out).1; omega) | simpa only [Ny136.out, List.length_set] using h_)
            have ql137 : ((x7_2 : Int) < ((x6_2.length : Int) : Int)) = True := eq_true (of_decide_eq_true (by first | (with_reducible assumption) | assumption))
            obtain ⟨ad137, e137, hx137_0⟩ := Kd.at_int (Kd.R_reads' HO_6.out).2.2 x7_2 p137 q137
            obtain rfl : (⟨go14, 0, none⟩ : Addr) = ad137 := (by injection e137)
            (first | simp only [add_plain] at hx137_0 | simp only [add_at] at hx137_0 | simp only [Addr.add, Nat.zero_add] at hx137_0 | skip)
            replace p137 := eq_true p137
            replace q137 := eq_true q137
            have p138 : 0 ≤ (x7_2 : Int) := of_decide_eq_true (by first | (with_reducible assumption) | assumption)
            have q138 : x7_2 < (l1.length : Int) := of_decide_eq_true (by first | (with_reducible assumption) | assumption)
            obtain ⟨ad138, e138, hx138_0⟩ := Kd.at_int HR1.out x7_2 p138 q138
            have hw138_0 := hx138_0
            cases e138
            replace hx138_0 := (hC HB hx138_0 :)
            replace p138 := eq_true p138
            replace q138 := eq_true q138
            refine start_ (n := 13) (S := fun w' => w'.cell? ⟨go14, (x7_2).toNat, none⟩ = some (.int .i64 (rd y136 x7_2)) ∧ w'.cell? (ad138.add (x7_2).toNat) = some (.int .i64 (rd l1 x7_2))) (ds := [12]) #[false, false, false, false, false, false, false, false, false, false, false, false, false] (by kernel_rfl) rfl rfl ⟨hx137_0, ((hC HB hw138_0 :))⟩ (fun hHeld => ?_); refine with_tabW spec_PolyAdd.tab11 spec_PolyAdd.bits11 (fun HT_ HW_ => ?_)
            generalize w21.drew = w22 at HO_6 HB HQ20 hx137_0 hx138_0 hHeld ⊢
            refine pI 0 (some 43) HT_.out ?_
            refine pI 1 (some 44) HT_.out ?_
            refine pI 2 (some 45) HT_.out ?_
            refine pI 3 (some 46) HT_.out ?_
            refine pI 4 (some 47) HT_.out ?_
            refine pI 6 (some 49) HT_.out ?_
            refine pI 7 (some 50) HT_.out ?_
            refine pI 8 (some 51) HT_.out ?_
            refine tI2 5 (some 48) HT_.out HW_.out hHeld ?_
            refine tI2 9 (some 52) HT_.out HW_.out hHeld ?_
            refine oI 10 (some 53) HT_.out (fun K hK => ?_)
            refine gO Try.func27 #[.int .i64 (rd y136 x7_2), .int .i64 (rd l1 x7_2)] ?_
            with_reducible refine (spec_ScAdd.calls (rd y136 x7_2) (rd l1 x7_2) t139 _ A16.out).mono ?_
            rintro e w' ⟨rfl, ⟨nd, rfl⟩⟩
            refine ⟨_, rfl, ?_⟩
            have p17 : 0 ≤ (x7_2 : Int) := of_decide_eq_true (by first | (with_reducible assumption) | assumption)
            have q17 : (x7_2 : Int) < ((x6_2.length : Int) : Int) := of_decide_eq_true (by first | (with_reducible assumption) | assumption)
            obtain ⟨hx17_0, hf17_0⟩ := Kd.R_celln 0 HO_6.out (x7_2 : Int) p17 q17
            replace p17 := eq_true p17
            replace q17 := eq_true q17
            have HP23 := Kd.R_putn HO_6.out (x7_2 : Int) t139
            rw [← Ny140.out] at HP23
            have HQ23 := Aside0.mk HP23
            clear HP23
            refine hK.out _ _ ⟨hHeld.1, ((hC HB hw138_0 :))⟩ (fun hHeld => ?_)
            clear hK K
            refine nO (some 53) ?_
            refine pI 11 (some 54) HT_.out ?_
            refine last_ (i := 12) (N := none) #[true, true, true, true, true, true, true, true, true, true, true, true, true] rfl rfl (one_of HT_.out (by kernel_rfl)) (by decide) (fun K hK => ?_)
            refine skip_ (w1 := ?_) (by rfl) rfl ?_ ?_
            rotate_left
            ·go_simp
             rfl
            refine hK.out _ _ ?_
            clear hK K
            refine done_ (done_of HT_.out (by kernel_rfl)) ?_
            try go_wp2
            go_roundg k2
            case measure => have := HJ2.out; have := HK2.out; omega
            case rel => exact ⟨(y140), (wrap64 (x7_2 + 1)), rS, H', ⟨by have := HJ2.out; have := HK2.out; omega⟩, ⟨rP HQ23⟩, ⟨by repeat (first | (with_reducible first | exact HB.out | apply below_alloc | apply pw_below_drewN | apply below_drew1 | refine below_set ?_ GB14.out) | exact HB.out)⟩⟩
           ·rw [if_neg c15] at H
            have c15b0 := decide_eq_false c15
            clear c15
            have H' := Aside0.mk H
            clear H
            try go_wp2
            replace HO_6 := Aside0.mk (Kd.R_drew HO_6.out)
            replace HB := Aside0.mk (below_drew1 HB.out)
            obtain ⟨Ao25, co25, eo25⟩ := Kd.R_slice HO_6.out
            (first | subst eo25 | (injection eo25 with f1_ f2_ f3_; have f4_ := f1_.symm; have f5_ := f3_.symm; clear f1_ f2_ f3_; subst f4_; subst f5_))
            have p133 : 0 ≤ (x7_2 : Int) := of_decide_eq_true (by first | (with_reducible assumption) | assumption)
            have q133 : x7_2 < (x6_2.length : Int) := of_decide_eq_true (by first | (with_reducible assumption) | assumption)
            obtain ⟨ad133, e133, hx133_0⟩ := Kd.at_int (Kd.R_reads' HO_6.out).2.2 x7_2 p133 q133
            cases e133
            replace p133 := eq_true p133
            replace q133 := eq_true q133
            have p134 : 0 ≤ (x7_2 : Int) := of_decide_eq_true (by first | (with_reducible assumption) | assumption)
            have q134 : x7_2 < (l0.length : Int) := of_decide_eq_true (by first | (with_reducible assumption) | assumption)
            obtain ⟨ad134, e134, hx134_0⟩ := Kd.at_int HR0.out x7_2 p134 q134
            have hw134_0 := hx134_0
            cases e134
            replace hx134_0 := (hC HB hx134_0 :)
            replace p134 := eq_true p134
            replace q134 := eq_true q134
            refine start_ (n := 13) (S := fun w' => w'.cell? (ad133.add (x7_2).toNat) = some (.int .i64 (rd x6_2 x7_2)) ∧ w'.cell? (ad134.add (x7_2).toNat) = some (.int .i64 (rd l0 x7_2))) (ds := [12]) #[false, false, false, false, false, false, false, false, false, false, false, false, false] (by kernel_rfl) rfl rfl ⟨hx133_0, ((hC HB hw134_0 :))⟩ (fun hHeld => ?_); refine with_tabW spec_PolyAdd.tab9 spec_PolyAdd.bits9 (fun HT_ HW_ => ?_)
            generalize wr.drew = w24 at HO_6 HB hx133_0 hx134_0 hHeld ⊢
            refine pI 0 (some 27) HT_.out ?_
            refine pI 1 (some 28) HT_.out ?_
            refine pI 2 (some 29) HT_.out ?_
            refine pI 3 (some 30) HT_.out ?_
            refine pI 4 (some 31) HT_.out ?_
            refine pI 6 (some 33) HT_.out ?_
            refine pI 7 (some 34) HT_.out ?_
            refine pI 8 (some 35) HT_.out ?_
            refine tI2 5 (some 32) HT_.out HW_.out hHeld ?_
            refine tI2 9 (some 36) HT_.out HW_.out hHeld ?_
            refine oI 10 (some 37) HT_.out (fun K hK => ?_)
            refine gO Try.func27 #[.int .i64 (rd x6_2 x7_2), .int .i64 (rd l0 x7_2)] ?_
            with_reducible refine (spec_ScAdd.calls (rd x6_2 x7_2) (rd l0 x7_2) t135 _ A13.out).mono ?_
            rintro e w' ⟨rfl, ⟨nd, rfl⟩⟩
            refine ⟨_, rfl, ?_⟩
            have p14 : 0 ≤ (x7_2 : Int) := of_decide_eq_true (by first | (with_reducible assumption) | assumption)
            have q14 : (x7_2 : Int) < ((x6_2.length : Int) : Int) := of_decide_eq_true (by first | (with_reducible assumption) | assumption)
            obtain ⟨go14, co14, eo14, gb14, gl14, cl14, HG14⟩ := Kd.R_form HO_6.out (by omega)
            (first | cases eo14 | (injection eo14 with ea_ en_ ec_; (first | subst ea_ | (injection ea_ with ea_; subst ea_)); subst ec_; clear en_))
            have GB14 := Aside0.mk gb14
            have GG14 := Aside0.mk HG14
            clear gb14 gl14 HG14
            (first | simp only [add_plain] at hx133_0 | skip)
            obtain ⟨hx14_0, hf14_0⟩ := Kd.R_celln 0 HO_6.out (x7_2 : Int) p14 q14
            replace p14 := eq_true p14
            replace q14 := eq_true q14
            have HP26 := Kd.R_putn HO_6.out (x7_2 : Int) t135
            rw [← Ny136.out] at HP26
            have HQ26 := Aside0.mk HP26
            clear HP26
            refine hK.out _ _ ⟨hHeld.1, ((hC HB hw134_0 :))⟩ (fun hHeld => ?_)
            clear hK K
            refine nO (some 37) ?_
            refine pI 11 (some 38) HT_.out ?_
            refine last_ (i := 12) (N := none) #[true, true, true, true, true, true, true, true, true, true, true, true, true] rfl rfl (one_of HT_.out (by kernel_rfl)) (by decide) (fun K hK => ?_)
            refine skip_ (w1 := ?_) (by rfl) rfl ?_ ?_
            rotate_left
            ·go_simp
             rfl
            refine hK.out _ _ ?_
            clear hK K
            refine done_ (done_of HT_.out (by kernel_rfl)) ?_
            try go_wp2
            go_roundg k2
            case measure => have := HJ2.out; have := HK2.out; omega
            case rel => exact ⟨(y136), (wrap64 (x7_2 + 1)), rS, H', ⟨by have := HJ2.out; have := HK2.out; omega⟩, ⟨rP HQ26⟩, ⟨by repeat (first | (with_reducible first | exact HB.out | apply below_alloc | apply pw_below_drewN | apply below_drew1 | refine below_set ?_ GB14.out) | exact HB.out)⟩⟩
          ·rw [if_neg c12] at H
           exact absurd H (by simp)
         ·rw [if_neg c11] at H
          exact absurd H (by simp)
        ·rw [if_neg c10] at H
         have c10b0 := decide_eq_false c10
         clear c10
         by_cases c27 : x7_2 < (l1.length : Int)
         ·rw [if_pos c27] at H
          have c27b0 := decide_eq_true c27
          clear c27
          by_cases c28 : 0 ≤ x7_2
          ·rw [if_pos c28] at H
           have c28b0 := decide_eq_true c28
           clear c28
           by_cases c29 : x7_2 < (x6_2.length : Int)
           ·rw [if_pos c29] at H
            have c29b0 := decide_eq_true c29
            clear c29
            replace H := Option.bind_eq_some_iff.mp H
            obtain ⟨t143, A300, H⟩ := H
            have A30 := Aside0.mk A300
            clear A300
            obtain ⟨y144, hy144⟩ : ∃ y_ : List Int, y_ = (x6_2.set (x7_2 : Int).toNat t143) := ⟨_, rfl⟩
            replace H : (spec_PolyAdd.l0 k2 l0 l1 x5_2 y144 (wrap64 (x7_2 + 1))) = some r := by first | (rw [hy144]; with_reducible exact H) | (have H2_ := (Option.bind_some _ _).symm.trans H; rw [hy144]; with_reducible exact H2_) | (have H2_ := (Option.bind_some _ _).symm.trans H; with_reducible exact H2_) | with_reducible exact H | (rw [hy144]; exact H) | exact H
            have Ny144 := Aside0.mk hy144
            clear hy144
            have H' := Aside0.mk H
            clear H
            try go_wp2
            replace HO_6 := Aside0.mk (Kd.R_drew HO_6.out)
            replace HB := Aside0.mk (below_drew1 HB.out)
            obtain ⟨Ao33, co33, eo33⟩ := Kd.R_slice HO_6.out
            (first | subst eo33 | (injection eo33 with f1_ f2_ f3_; have f4_ := f1_.symm; have f5_ := f3_.symm; clear f1_ f2_ f3_; subst f4_; subst f5_))
            have p141 : 0 ≤ (x7_2 : Int) := of_decide_eq_true (by first | (with_reducible assumption) | assumption)
            have q141 : x7_2 < (x6_2.length : Int) := of_decide_eq_true (by first | (with_reducible assumption) | assumption)
            obtain ⟨ad141, e141, hx141_0⟩ := Kd.at_int (Kd.R_reads' HO_6.out).2.2 x7_2 p141 q141
            cases e141
            replace p141 := eq_true p141
            replace q141 := eq_true q141
            have p142 : 0 ≤ (x7_2 : Int) := of_decide_eq_true (by first | (with_reducible assumption) | assumption)
            have q142 : x7_2 < (l1.length : Int) := of_decide_eq_true (by first | (with_reducible assumption) | assumption)
            obtain ⟨ad142, e142, hx142_0⟩ := Kd.at_int HR1.out x7_2 p142 q142
            have hw142_0 := hx142_0
            cases e142
            replace hx142_0 := (hC HB hx142_0 :)
            replace p142 := eq_true p142
            replace q142 := eq_true q142
            refine start_ (n := 13) (S := fun w' => w'.cell? (ad141.add (x7_2).toNat) = some (.int .i64 (rd x6_2 x7_2)) ∧ w'.cell? (ad142.add (x7_2).toNat) = some (.int .i64 (rd l1 x7_2))) (ds := [12]) #[false, false, false, false, false, false, false, false, false, false, false, false, false] (by kernel_rfl) rfl rfl ⟨hx141_0, ((hC HB hw142_0 :))⟩ (fun hHeld => ?_); refine with_tabW spec_PolyAdd.tab11 spec_PolyAdd.bits11 (fun HT_ HW_ => ?_)
            generalize wr.drew = w32 at HO_6 HB hx141_0 hx142_0 hHeld ⊢
            refine pI 0 (some 43) HT_.out ?_
            refine pI 1 (some 44) HT_.out ?_
            refine pI 2 (some 45) HT_.out ?_
            refine pI 3 (some 46) HT_.out ?_
            refine pI 4 (some 47) HT_.out ?_
            refine pI 6 (some 49) HT_.out ?_
            refine pI 7 (some 50) HT_.out ?_
            refine pI 8 (some 51) HT_.out ?_
            refine tI2 5 (some 48) HT_.out HW_.out hHeld ?_
            refine tI2 9 (some 52) HT_.out HW_.out hHeld ?_
            refine oI 10 (some 53) HT_.out (fun K hK => ?_)
            refine gO Try.func27 #[.int .i64 (rd x6_2 x7_2), .int .i64 (rd l1 x7_2)] ?_
            with_reducible refine (spec_ScAdd.calls (rd x6_2 x7_2) (rd l1 x7_2) t143 _ A30.out).mono ?_
            rintro e w' ⟨rfl, ⟨nd, rfl⟩⟩
            refine ⟨_, rfl, ?_⟩
            have p31 : 0 ≤ (x7_2 : Int) := of_decide_eq_true (by first | (with_reducible assumption) | assumption)
            have q31 : (x7_2 : Int) < ((x6_2.length : Int) : Int) := of_decide_eq_true (by first | (with_reducible assumption) | assumption)
            obtain ⟨go31, co31, eo31, gb31, gl31, cl31, HG31⟩ := Kd.R_form HO_6.out (by omega)
            (first | cases eo31 | (injection eo31 with ea_ en_ ec_; (first | subst ea_ | (injection ea_ with ea_; subst ea_)); subst ec_; clear en_))
            have GB31 := Aside0.mk gb31
            have GG31 := Aside0.mk HG31
            clear gb31 gl31 HG31
            (first | simp only [add_plain] at hx141_0 | skip)
            obtain ⟨hx31_0, hf31_0⟩ := Kd.R_celln 0 HO_6.out (x7_2 : Int) p31 q31
            replace p31 := eq_true p31
            replace q31 := eq_true q31
            have HP34 := Kd.R_putn HO_6.out (x7_2 : Int) t143
            rw [← Ny144.out] at HP34
            have HQ34 := Aside0.mk HP34
            clear HP34
            refine hK.out _ _ ⟨hHeld.1, ((hC HB hw142_0 :))⟩ (fun hHeld => ?_)
            clear hK K
            refine nO (some 53) ?_
            refine pI 11 (some 54) HT_.out ?_
            refine last_ (i := 12) (N := none) #[true, true, true, true, true, true, true, true, true, true, true, true, true] rfl rfl (one_of HT_.out (by kernel_rfl)) (by decide) (fun K hK => ?_)
            refine skip_ (w1 := ?_) (by rfl) rfl ?_ ?_
            rotate_left
            ·go_simp
             rfl
            refine hK.out _ _ ?_
            clear hK K
            refine done_ (done_of HT_.out (by kernel_rfl)) ?_
            try go_wp2
            go_roundg k2
            case measure => have := HJ2.out; have := HK2.out; omega
            case rel => exact ⟨(y144), (wrap64 (x7_2 + 1)), rS, H', ⟨by have := HJ2.out; have := HK2.out; omega⟩, ⟨rP HQ34⟩, ⟨by repeat (first | (with_reducible first | exact HB.out | apply below_alloc | apply pw_below_drewN | apply below_drew1 | refine below_set ?_ GB31.out) | exact HB.out)⟩⟩
           ·rw [if_neg c29] at H
            exact absurd H (by simp)
          ·rw [if_neg c28] at H
           exact absurd H (by simp)
         ·rw [if_neg c27] at H
          have c27b0 := decide_eq_false c27
          clear c27
          have H' := Aside0.mk H
          clear H
          go_wp2
          go_roundg k2
          case measure => have := HJ2.out; have := HK2.out; omega
          case rel => exact ⟨(x6_2), (wrap64 (x7_2 + 1)), rS, H', ⟨by have := HJ2.out; have := HK2.out; omega⟩, ⟨rP HO_6⟩, ⟨bZ HB⟩⟩
       ·rw [if_neg c9] at H
        have c9b0 := decide_eq_false c9
        clear c9
        replace H := Option.bind_eq_some_iff.mp H
        obtain ⟨t130, A350, H⟩ := H
        have A35 := Aside0.mk A350
        clear A350
        obtain rfl := Option.some.inj H
        obtain ⟨Ao36, co36, eo36⟩ := Kd.R_slice HO_6.out
        subst eo36
        go_wp2_with (first | (refine gC (some 56) Try.func19 #[.slice Ao36 x6_2.length co36] ?_; (with_reducible refine (spec_PolyTrim.calls k2 _ _ x6_2 t130 _ ?side1 ?side2 A35.out).mono ?_); (case side1 => exact cP ((Kd.R_reads' HO_6.out).2.2)); (case side2 => exact (Kd.R_reads' HO_6.out).2.1); rintro e w37 ⟨v131, rfl, ho0, hb⟩; refine ⟨_, rfl, ?_⟩; have HO132 := Aside0.mk (Kd.R_lower (Kd.R_new' ho0 (Kd.R_lt (rP HO_6))) (below_size (bZ HB))); replace HO_6 := Aside0.mk (Kd.R_elder' (rP HO_6) (Kd.R_base ho0) hb); replace HB := bS HB hb; (try clear hb); (try clear ho0)))
        go_ret
        exact ⟨_, by first | rfl | (simp [errW_none, errW_some] <;> rfl) | (simp [*, errW_none, errW_some] <;> rfl), by (with_reducible repeat (first | apply Kd.R_alloc | apply Kd.R_drewN | apply Kd.R_drew)); exact Kd.R_mono HO132.out (fun _ hk => trivial), bZ HB⟩
    ·rw [if_neg c6] at H
     exact absurd H (by simp)
   ·rw [if_neg c5] at H
    exact absurd H (by simp)

end Go.Proofs.Ytcnejiflpioaiaa.Pf
end
section
namespace Go.Proofs.Ytcnejiflpioaiaa.Pf
open Go.RowKit Go.Proofs.YtcnejiflpioaiaaW.PrintWords Go.Proofs.YtcnejiflpioaiaaW.PrintLast Go.Proofs.YtcnejiflpioaiaaW.PrintMore
attribute [local go_sem] max2_int min2_int max_two min_two max_three min_three max_four min_four   -- for this text's walks alone
set_option linter.unusedVariables false
set_option linter.unusedSimpArgs false

/-! ### spec_PolyMul: function 33 -/
mutual
def spec_PolyMul.j0 : Nat → List Int → List Int → Bool → Option (List Int)
 | 0, _, _, _ => none
 | k + 1, x0, x1, x25 => if x25 = true then (some (([] : List Int))) else (if 0 ≤ (wrap64 ((wrap64 ((x0.length : Int) + (x1.length : Int))) - 1)) then (if (wrap64 ((wrap64 ((x0.length : Int) + (x1.length : Int))) - 1) : Int).toNat ≤ 35184372088832 then (spec_PolyMul.l0 k x0 x1 (List.replicate (wrap64 ((wrap64 ((x0.length : Int) + (x1.length : Int))) - 1) : Int).toNat 0) 0) else (none)) else (none))
def spec_PolyMul.l0 : Nat → List Int → List Int → List Int → Int → Option (List Int)
 | 0, _, _, _, _ => none
 | k + 1, x0, x1, x5, x6 => if x6 < (x0.length : Int) then (spec_PolyMul.l1 k x0 x1 x5 x6 0) else ((spec_PolyTrim.f k x5).bind fun t151 => (some t151))
def spec_PolyMul.l1 : Nat → List Int → List Int → List Int → Int → Int → Option (List Int)
 | 0, _, _, _, _, _ => none
 | k + 1, x0, x1, x5, x6, x7 => if x7 < (x1.length : Int) then (if 0 ≤ (wrap64 (x6 + x7)) then (if (wrap64 (x6 + x7)) < (x5.length : Int) then (if 0 ≤ x6 then (if x6 < (x0.length : Int) then (if 0 ≤ x7 then ((spec_ScMul.f (rd x0 x6) (rd x1 x7)).bind fun t157 => ((spec_ScAdd.f (rd x5 (wrap64 (x6 + x7))) t157).bind fun t158 => (spec_PolyMul.l1 k x0 x1 (x5.set ((wrap64 (x6 + x7)) : Int).toNat t158) x6 (wrap64 (x7 + 1))))) else (none)) else (none)) else (none)) else (none)) else (none)) else (spec_PolyMul.l0 k x0 x1 x5 (wrap64 (x6 + 1)))
end
def spec_PolyMul.f (k : Nat) (l0 : List Int) (l1 : List Int) : Option (List Int) := if (l0.length : Int) = 0 then (spec_PolyMul.j0 k l0 l1 true) else (if (l1.length : Int) = 0 then (spec_PolyMul.j0 k l0 l1 true) else (if (l0.length : Int) > 64 then (spec_PolyMul.j0 k l0 l1 true) else (spec_PolyMul.j0 k l0 l1 (decide ((l1.length : Int) > 64)))))
theorem spec_PolyMul.mono_l : ∀ k, (∀ y0 y1 y2, LeO (spec_PolyMul.j0 k y0 y1 y2) (spec_PolyMul.j0 (k + 1) y0 y1 y2)) ∧ (∀ y0 y1 y2 y3, LeO (spec_PolyMul.l0 k y0 y1 y2 y3) (spec_PolyMul.l0 (k + 1) y0 y1 y2 y3)) ∧ (∀ y0 y1 y2 y3 y4, LeO (spec_PolyMul.l1 k y0 y1 y2 y3 y4) (spec_PolyMul.l1 (k + 1) y0 y1 y2 y3 y4))
 | 0 => ⟨fun _ _ _ r h => by simp [spec_PolyMul.j0] at h, fun _ _ _ _ r h => by simp [spec_PolyMul.l0] at h, fun _ _ _ _ _ r h => by simp [spec_PolyMul.l1] at h⟩
 | k + 1 => by
  obtain ⟨ih0, ih1, ih2⟩ := spec_PolyMul.mono_l k
  refine ⟨?_, ?_, ?_⟩
  ·intro y0 y1 y2
   unfold spec_PolyMul.j0
   with_reducible repeat' first | exact ih0 _ _ _ | exact ih1 _ _ _ _ | exact ih2 _ _ _ _ _ | exact spec_PolyTrim.mono _ _ | exact LeO.refl _ | exact LeO.none _ | refine LeO.ite ?_ ?_ | refine LeO.bind ?_ (fun _ => ?_)
  ·intro y0 y1 y2 y3
   unfold spec_PolyMul.l0
   with_reducible repeat' first | exact ih0 _ _ _ | exact ih1 _ _ _ _ | exact ih2 _ _ _ _ _ | exact spec_PolyTrim.mono _ _ | exact LeO.refl _ | exact LeO.none _ | refine LeO.ite ?_ ?_ | refine LeO.bind ?_ (fun _ => ?_)
  ·intro y0 y1 y2 y3 y4
   unfold spec_PolyMul.l1
   with_reducible repeat' first | exact ih0 _ _ _ | exact ih1 _ _ _ _ | exact ih2 _ _ _ _ _ | exact spec_PolyTrim.mono _ _ | exact LeO.refl _ | exact LeO.none _ | refine LeO.ite ?_ ?_ | refine LeO.bind ?_ (fun _ => ?_)
theorem spec_PolyMul.mono : ∀ a0 a1 k, LeO (spec_PolyMul.f k a0 a1) (spec_PolyMul.f (k + 1) a0 a1) := by
 intro a0 a1 k
 obtain ⟨ih0, ih1, ih2⟩ := spec_PolyMul.mono_l k
 unfold spec_PolyMul.f
 with_reducible repeat' first | exact ih0 _ _ _ | exact ih1 _ _ _ _ | exact ih2 _ _ _ _ _ | exact spec_PolyTrim.mono _ _ | exact LeO.refl _ | exact LeO.none _ | refine LeO.ite ?_ ?_ | refine LeO.bind ?_ (fun _ => ?_)
def spec_PolyMul.T10 : Bool × List (List Nat × List Nat) := (true, [([], []), ([], []), ([], []), ([1, 2], [1, 2]), ([], []), ([], []), ([], []), ([5, 6], [5, 6]), ([4, 7], [4, 7]), ([8], [8]), ([], []), ([], []), ([10, 11], [10, 11]), ([12], [12]), ([], []), ([], []), ([14, 15], [14, 15]), ([16], [16]), ([13, 17], [13, 17]), ([9, 18, 18], [9, 18]), ([0, 3, 0, 1, 2, 3, 4, 5, 6, 7, 8, 9, 10, 11, 12, 13, 14, 15, 16, 17, 18, 19], [0, 3]), ([20, 19, 19, 0, 1, 2, 3, 4, 5, 6, 7, 8, 9, 10, 11, 12, 13, 14, 15, 16, 17, 18, 19], [19, 20])])
def spec_PolyMul.B10 : List Nat := [0, 0, 0, 6, 0, 0, 0, 96, 240, 496, 0, 0, 3072, 7168, 0, 0, 49152, 114688, 261120, 524272, 1048575, 2097151]
theorem spec_PolyMul.tab10 : rtab .any (opsOf Try.f33 10) = spec_PolyMul.T10 := by kernel_rfl
theorem spec_PolyMul.bits10 : waitsOk spec_PolyMul.T10.2 spec_PolyMul.B10 = true := by kernel_rfl
set_option maxHeartbeats 8000000 in
set_option maxRecDepth 100000 in
theorem spec_PolyMul.calls (k : Nat) (A0 : Option Addr) (c0 : Nat) (l0 : List Int) (A1 : Option Addr) (c1 : Nat) (l1 : List Int) (r : List Int) (w : World) (hr0 : Kd.C (Kd.int .i64) w A0 l0.length l0) (hc0 : l0.length ≤ c0) (hr1 : Kd.C (Kd.int .i64) w A1 l1.length l1) (hc1 : l1.length ≤ c1) (h : spec_PolyMul.f k l0 l1 = some r) :
  Calls Try.prog 33 #[.slice A0 l0.length c0, .slice A1 l1.length c1] w fun e w' => ∃ v0_ : Value, e = .returned (v0_) ∧ Kd.R (Kd.int .i64) 3 w' w.heap.size (fun _ => True) v0_ r ∧ Below w.heap.size w w' := by
 have HR0 := Aside0.mk hr0
 have HC0 := Aside0.mk hc0
 clear hr0 hc0
 have HR1 := Aside0.mk hr1
 have HC1 := Aside0.mk hc1
 clear hr1 hc1
 have HB := Aside0.mk (Below.refl w.heap.size w)
 have H : (if (l0.length : Int) = 0 then (spec_PolyMul.j0 k l0 l1 true) else (if (l1.length : Int) = 0 then (spec_PolyMul.j0 k l0 l1 true) else (if (l0.length : Int) > 64 then (spec_PolyMul.j0 k l0 l1 true) else (spec_PolyMul.j0 k l0 l1 (decide ((l1.length : Int) > 64)))))) = some r := h
 clear h
 have HC3 := Aside0.mk H
 clear H
 go_enter Try.func33, Try.ntmps33
 go_upto_region 1 with (fail)
 go_cut [25] (fun v25 wc => ∃ (kq : Nat) (x25_2 : Bool), v25 = .bool x25_2 ∧ Aside0 (spec_PolyMul.j0 kq l0 l1 x25_2 = some r) ∧ Aside0 (kq ≤ k) ∧ Aside0 (Below w.heap.size w wc))
 case first =>
  have H := HC3.out
  clear HC3
  by_cases c4 : (l0.length : Int) = 0
  ·rw [if_pos c4] at H
   have c4b0 : ((l0.length : Int) == 0) = true := beq_iff_eq.mpr c4
   have c4b1 : ((l0.length : Int) != 0) = false := bne_eq_false_iff_eq.mpr c4
   clear c4
   (first | rw [c4b0] | (simp only [i64_w, i32_w]; rw [c4b0]) | rw [c4b1] | skip)
   have H' := Aside0.mk H
   clear H
   go_wp2
   go_meet
   case rel => exact ⟨_, (true), rS, H', ⟨by first | omega | exact Nat.le_refl _⟩, ⟨bZ HB⟩⟩
  ·rw [if_neg c4] at H
   have c4b0 : ((l0.length : Int) == 0) = false := beq_eq_false_iff_ne.mpr c4
   have c4b1 : ((l0.length : Int) != 0) = true := bne_iff_ne.mpr c4
   have c4b2 : ¬ (l0 = []) := fun h_ => c4 (by rw [h_]; rfl)
   (first | rw [c4b0] | (simp only [i64_w, i32_w]; rw [c4b0]) | rw [c4b1] | skip)
   by_cases c5 : (l1.length : Int) = 0
   ·rw [if_pos c5] at H
    have c5b0 : ((l1.length : Int) == 0) = true := beq_iff_eq.mpr c5
    have c5b1 : ((l1.length : Int) != 0) = false := bne_eq_false_iff_eq.mpr c5
    clear c5
    have H' := Aside0.mk H
    clear H
    go_wp2
    go_meet
    case rel => exact ⟨_, (true), rS, H', ⟨by first | omega | exact Nat.le_refl _⟩, ⟨bZ HB⟩⟩
   ·rw [if_neg c5] at H
    have c5b0 : ((l1.length : Int) == 0) = false := beq_eq_false_iff_ne.mpr c5
    have c5b1 : ((l1.length : Int) != 0) = true := bne_iff_ne.mpr c5
    have c5b2 : ¬ (l1 = []) := fun h_ => c5 (by rw [h_]; rfl)
    by_cases c6 : (l0.length : Int) > 64
    ·rw [if_pos c6] at H
     have c6b0 := decide_eq_true c6
     have c6b1 : decide (64 < l0.length) = true := decide_eq_true (by omega)
     clear c6
     have H' := Aside0.mk H
     clear H
     go_wp2
     go_meet
     case rel => exact ⟨_, (true), rS, H', ⟨by first | omega | exact Nat.le_refl _⟩, ⟨bZ HB⟩⟩
    ·rw [if_neg c6] at H
     have c6b0 := decide_eq_false c6
     have c6b1 : decide (64 < l0.length) = false := decide_eq_false (by omega)
     clear c6
     have H' := Aside0.mk H
     clear H
     go_wp2
     go_meet
     case rel => exact ⟨_, (decide ((l1.length : Int) > 64)), rS, H', ⟨by first | omega | exact Nat.le_refl _⟩, ⟨bZ HB⟩⟩
 case rest =>
  clear HC3
  try clear c1
  try clear p2
  try clear c3
  try clear c4
  try clear c4b0
  try clear c4b1
  try clear c4b2
  try clear c5
  try clear c5b0
  try clear c5b1
  try clear c5b2
  try clear c6
  try clear c6b0
  try clear c6b1
  obtain ⟨kq, x25_2, rfl, HA, HJ2, HB⟩ := hcut
  cases kq with
  | zero => exact absurd HA.out (by simp [spec_PolyMul.j0])
  | succ kj2 =>
   have H := HA.out
   clear HA
   simp only [spec_PolyMul.j0] at H
   by_cases c7 : x25_2 = true
   ·subst c7
    rw [if_pos rfl] at H
    obtain ⟨y145, hy145⟩ : ∃ y_ : List Int, y_ = (([] : List Int)) := ⟨_, rfl⟩
    replace H : (some y145) = some r := by first | (rw [hy145]; with_reducible exact H) | (have H2_ := (Option.bind_some _ _).symm.trans H; rw [hy145]; with_reducible exact H2_) | (have H2_ := (Option.bind_some _ _).symm.trans H; with_reducible exact H2_) | with_reducible exact H | (rw [hy145]; exact H) | exact H
    have Ny145 := Aside0.mk hy145
    clear hy145
    obtain rfl := Option.some.inj H
    go_wp2_with (first | ((with_reducible refine gate_dst (N := 26) rfl ?_); (try (refine gate_guard (by rfl) ?_; dsimp only)); refine Kd.R_lit (Kd.int .i64) _ 3 ?hg (N := 26) ?hd (xs := ([] : List Int)) (inner := []) (ok := fun _ => True) (okp := fun _ => True) ?hr ?hp (fun _ hk => hk) trivial (Below.refl _ _) (Nat.le_refl _) (by simp) ?_; (case hd => rfl); (case hg => rfl); (case hr => first | (go_simp; done) | (go_simp; rfl)); (case hp => exact (Reps.none _ _)); intro v146 w8 ho9 hb hg_ hnew_; clear hg_ hnew_; (first | rw [← Ny145.out] at ho9 | (simp only [Int.reduceToNat] at ho9; rw [← Ny145.out] at ho9)); have HO147 := Aside0.mk (Kd.R_lower ho9 (below_size (bZ HB))); replace HB := bS HB hb; clear hb ho9))
    go_ret
    exact ⟨_, by first | rfl | (simp [errW_none, errW_some] <;> rfl) | (simp [*, errW_none, errW_some] <;> rfl), by (with_reducible repeat (first | apply Kd.R_alloc | apply Kd.R_drewN | apply Kd.R_drew)); exact HO147.out, bZ HB⟩
   ·replace c7 := Bool.eq_false_iff.mpr c7
    subst c7
    rw [if_neg (show ¬ (false = true) by decide)] at H
    obtain ⟨ji10, hji10⟩ : ∃ j_ : Int, (wrap64 ((wrap64 ((l0.length : Int) + (l1.length : Int))) - 1)) = j_ := ⟨_, rfl⟩
    replace H : (if 0 ≤ (ji10) then (if (ji10 : Int).toNat ≤ 35184372088832 then (spec_PolyMul.l0 kj2 l0 l1 (List.replicate (ji10 : Int).toNat 0) 0) else (none)) else (none)) = some r := by first | (rw [hji10] at H; exact H) | (simp only [hji10] at H ⊢; exact H)
    have hji10w : (IntKind.i64.wrap ((wrap64 ((l0.length : Int) + (l1.length : Int))) - 1)) = ji10 := (i64_w _).trans hji10
    by_cases c11 : 0 ≤ (ji10)
    ·rw [if_pos c11] at H
     have c11b0 := eq_true c11
     have c11b1 := decide_eq_true c11
     clear c11
     by_cases c12 : (ji10 : Int).toNat ≤ 35184372088832
     ·rw [if_pos c12] at H
      have c12b0 := eq_true c12
      have c12b1 := decide_eq_true c12
      clear c12
      obtain ⟨y148, hy148⟩ : ∃ y_ : List Int, y_ = (List.replicate (ji10 : Int).toNat 0) := ⟨_, rfl⟩
      replace H : (spec_PolyMul.l0 kj2 l0 l1 y148 0) = some r := by first | (rw [hy148]; with_reducible exact H) | (have H2_ := (Option.bind_some _ _).symm.trans H; rw [hy148]; with_reducible exact H2_) | (have H2_ := (Option.bind_some _ _).symm.trans H; with_reducible exact H2_) | with_reducible exact H | (rw [hy148]; exact H) | exact H
      have Ny148 := Aside0.mk hy148
      clear hy148
      have H' := Aside0.mk H
      clear H
      go_wp2_with (first | ((with_reducible refine gate_dst (N := 33) rfl ?_); (try (refine gate_guard (by rfl) ?_; dsimp only)); refine Kd.R_make (Kd.int .i64) _ 3 rfl (N := 33) rfl 22 _ _ rfl ji10 rfl rfl Try.underlying22 (.int .i64 0) 8 info3 rfl (by decide) (by omega) 0 (ok := fun _ => True) (okp := fun _ => True) rfl (fun _ hk => hk) trivial (of_decide_eq_true (by first | (with_reducible assumption) | assumption)) (Nat.le_trans (Nat.mul_le_mul_right _ (of_decide_eq_true (by first | (with_reducible assumption) | assumption) : ji10.toNat ≤ 35184372088832)) (by omega)) (Below.refl _ _) (Nat.le_refl _) ?_; intro v149 w13 ho14 hb hg_ hnew_; clear hg_ hnew_; (first | rw [← Ny148.out] at ho14 | (simp only [Int.reduceToNat] at ho14; rw [← Ny148.out] at ho14)); have HO150 := Aside0.mk (Kd.R_lower ho14 (below_size (bZ HB))); replace HB := bS HB hb; clear hb ho14))
      go_loopg [6] kj2 (fun kq v6 w' => ∃ (x5_2 : List Int) (x6_2 : Int), v6 = .int .i64 x6_2 ∧ Aside0 (spec_PolyMul.l0 kq l0 l1 x5_2 x6_2 = some r) ∧ Aside0 (kq ≤ kj2) ∧ Aside0 (Kd.R (Kd.int .i64) 3 w' w.heap.size (fun _ => True) v149 x5_2) ∧ Aside0 (Below w.heap.size w w'))
      case atStart => exact ⟨(y148), (0), rS, H', ⟨Nat.le_refl _⟩, ⟨rP HO150⟩, ⟨bZ HB⟩⟩
      case round =>
       clear H'
       try clear c1
       try clear p2
       try clear c3
       try clear c4
       try clear c4b0
       try clear c4b1
       try clear c4b2
       try clear c5
       try clear c5b0
       try clear c5b1
       try clear c5b2
       try clear c6
       try clear c6b0
       try clear c6b1
       try clear p6
       try clear c7
       try clear c11
       try clear c11b0
       try clear c11b1
       try clear c12
       try clear c12b0
       try clear c12b1
       try clear p2
       obtain ⟨x5_2, x6_2, rfl, HA, HK2, HO_5, HB⟩ := hrel
       cases gk with
       | zero => exact absurd HA.out (by simp [spec_PolyMul.l0])
       | succ k2 =>
        have H := HA.out
        clear HA
        simp only [spec_PolyMul.l0] at H
        by_cases c15 : x6_2 < (l0.length : Int)
        ·rw [if_pos c15] at H
         have c15b0 := decide_eq_true c15
         clear c15
         have H' := Aside0.mk H
         clear H
         go_wp2
         go_loopg [7] k2 (fun kq v7 w' => ∃ (x5_3 : List Int) (x7_3 : Int), v7 = .int .i64 x7_3 ∧ Aside0 (spec_PolyMul.l1 kq l0 l1 x5_3 x6_2 x7_3 = some r) ∧ Aside0 (kq ≤ k2) ∧ Aside0 (Kd.R (Kd.int .i64) 3 w' w.heap.size (fun _ => True) v149 x5_3) ∧ Aside0 (Below w.heap.size w w'))
         case atStart => exact ⟨(x5_2), (0), rS, H', ⟨Nat.le_refl _⟩, ⟨rP HO_5⟩, ⟨bZ HB⟩⟩
         case round =>
          clear H'
          try clear c1
          try clear p2
          try clear c3
          try clear c4
          try clear c4b0
          try clear c4b1
          try clear c4b2
          try clear c5
          try clear c5b0
          try clear c5b1
          try clear c5b2
          try clear c6
          try clear c6b0
          try clear c6b1
          try clear p6
          try clear c7
          try clear c11
          try clear c11b0
          try clear c11b1
          try clear c12
          try clear c12b0
          try clear c12b1
          try clear c15
          try clear c15b0
          try clear p2
          try clear p6
          obtain ⟨x5_3, x7_3, rfl, HA, HK3, HO_5, HB⟩ := hrel
          cases gk with
          | zero => exact absurd HA.out (by simp [spec_PolyMul.l1])
          | succ k3 =>
           have H := HA.out
           clear HA
           simp only [spec_PolyMul.l1] at H
           by_cases c16 : x7_3 < (l1.length : Int)
           ·rw [if_pos c16] at H
            have c16b0 := decide_eq_true c16
            clear c16
            obtain ⟨ji17, hji17⟩ : ∃ j_ : Int, (wrap64 (x6_2 + x7_3)) = j_ := ⟨_, rfl⟩
            replace H : (if 0 ≤ (ji17) then (if (ji17) < (x5_3.length : Int) then (if 0 ≤ x6_2 then (if x6_2 < (l0.length : Int) then (if 0 ≤ x7_3 then ((spec_ScMul.f (rd l0 x6_2) (rd l1 x7_3)).bind fun t157 => ((spec_ScAdd.f (rd x5_3 (ji17)) t157).bind fun t158 => (spec_PolyMul.l1 k3 l0 l1 (x5_3.set ((ji17) : Int).toNat t158) x6_2 (wrap64 (x7_3 + 1))))) else (none)) else (none)) else (none)) else (none)) else (none)) = some r := by first | (rw [hji17] at H; exact H) | (simp only [hji17] at H ⊢; exact H)
            have hji17w : (IntKind.i64.wrap (x6_2 + x7_3)) = ji17 := (i64_w _).trans hji17
            by_cases c18 : 0 ≤ (ji17)
            ·rw [if_pos c18] at H
             have c18b0 := decide_eq_true c18
             clear c18
             by_cases c19 : (ji17) < (x5_3.length : Int)
             ·rw [if_pos c19] at H
              have c19b0 := decide_eq_true c19
              clear c19
              by_cases c20 : 0 ≤ x6_2
              ·rw [if_pos c20] at H
               have c20b0 := decide_eq_true c20
               clear c20
               by_cases c21 : x6_2 < (l0.length : Int)
               ·rw [if_pos c21] at H
                have c21b0 := decide_eq_true c21
                clear c21
                by_cases c22 : 0 ≤ x7_3
                ·rw [if_pos c22] at H
                 have c22b0 := decide_eq_true c22
                 clear c22
                 replace H := Option.bind_eq_some_iff.mp H
                 obtain ⟨t157, A230, H⟩ := H
                 have A23 := Aside0.mk A230
                 clear A230
                 replace H := Option.bind_eq_some_iff.mp H
                 obtain ⟨t158, A240, H⟩ := H
                 have A24 := Aside0.mk A240
                 clear A240
                 obtain ⟨y159, hy159⟩ : ∃ y_ : List Int, y_ = (x5_3.set ((ji17) : Int).toNat t158) := ⟨_, rfl⟩
                 replace H : (spec_PolyMul.l1 k3 l0 l1 y159 x6_2 (wrap64 (x7_3 + 1))) = some r := by first | (rw [hy159]; with_reducible exact H) | (have H2_ := (Option.bind_some _ _).symm.trans H; rw [hy159]; with_reducible exact H2_) | (have H2_ := (Option.bind_some _ _).symm.trans H; with_reducible exact H2_) | with_reducible exact H | (rw [hy159]; exact H) | exact H
                 have Ny159 := Aside0.mk hy159
                 clear hy159
                 have H' := Aside0.mk H
                 clear H
                 try go_wp2
                 replace HO_5 := Aside0.mk (Kd.R_drew HO_5.out)
                 replace HB := Aside0.mk (below_drew1 HB.out)
                 obtain ⟨Ao27, co27, eo27⟩ := Kd.R_slice HO_5.out
                 (first | subst eo27 | (injection eo27 with f1_ f2_ f3_; have f4_ := f1_.symm; have f5_ := f3_.symm; clear f1_ f2_ f3_; subst f4_; subst f5_))
                 have p154 : 0 ≤ ((ji17) : Int) := of_decide_eq_true (by first | (with_reducible assumption) | assumption)
                 have q154 : (ji17) < (x5_3.length : Int) := of_decide_eq_true (by first | (with_reducible assumption) | assumption)
                 obtain ⟨ad154, e154, hx154_0⟩ := Kd.at_int (Kd.R_reads' HO_5.out).2.2 (ji17) p154 q154
                 cases e154
                 replace p154 := eq_true p154
                 replace q154 := eq_true q154
                 have p155 : 0 ≤ (x6_2 : Int) := of_decide_eq_true (by first | (with_reducible assumption) | assumption)
                 have q155 : x6_2 < (l0.length : Int) := of_decide_eq_true (by first | (with_reducible assumption) | assumption)
                 obtain ⟨ad155, e155, hx155_0⟩ := Kd.at_int HR0.out x6_2 p155 q155
                 have hw155_0 := hx155_0
                 cases e155
                 replace hx155_0 := (hC HB hx155_0 :)
                 replace p155 := eq_true p155
                 replace q155 := eq_true q155
                 have p156 : 0 ≤ (x7_3 : Int) := of_decide_eq_true (by first | (with_reducible assumption) | assumption)
                 have q156 : x7_3 < (l1.length : Int) := of_decide_eq_true (by first | (with_reducible assumption) | assumption)
                 obtain ⟨ad156, e156, hx156_0⟩ := Kd.at_int HR1.out x7_3 p156 q156
                 have hw156_0 := hx156_0
                 cases e156
                 replace hx156_0 := (hC HB hx156_0 :)
                 replace p156 := eq_true p156
                 replace q156 := eq_true q156
                 refine start_ (n := 22) (S := fun w' => w'.cell? (ad154.add ((ji17)).toNat) = some (.int .i64 (rd x5_3 (ji17))) ∧ w'.cell? (ad155.add (x6_2).toNat) = some (.int .i64 (rd l0 x6_2)) ∧ w'.cell? (ad156.add (x7_3).toNat) = some (.int .i64 (rd l1 x7_3))) (ds := [21]) #[false, false, false, false, false, false, false, false, false, false, false, false, false, false, false, false, false, false, false, false, false, false] (by kernel_rfl) rfl rfl ⟨hx154_0, ((hC HB hw155_0 :)), ((hC HB hw156_0 :))⟩ (fun hHeld => ?_); refine with_tabW spec_PolyMul.tab10 spec_PolyMul.bits10 (fun HT_ HW_ => ?_)
                 generalize wr.drew = w26 at HO_5 HB hx154_0 hx155_0 hx156_0 hHeld ⊢
                 refine pI 0 (some 46) HT_.out ?_
                 refine pI 1 (some 47) HT_.out ?_
                 refine pI 2 (some 48) HT_.out ?_
                 refine pI 3 (some 49) HT_.out ?_
                 refine pI 4 (some 50) HT_.out ?_
                 refine pI 5 (some 51) HT_.out ?_
                 refine pI 6 (some 52) HT_.out ?_
                 refine pI 7 (some 53) HT_.out ?_
                 refine pI 8 (some 54) HT_.out ?_
                 refine pI 10 (some 56) HT_.out ?_
                 refine pI 11 (some 57) HT_.out ?_
                 refine pI 12 (some 58) HT_.out ?_
                 refine pI 14 (some 60) HT_.out ?_
                 refine pI 15 (some 61) HT_.out ?_
                 refine pI 16 (some 62) HT_.out ?_
                 refine tI3 9 (some 55) HT_.out HW_.out hHeld ?_
                 refine tI3 13 (some 59) HT_.out HW_.out hHeld ?_
                 refine tI3 17 (some 63) HT_.out HW_.out hHeld ?_
                 refine oI 18 (some 64) HT_.out (fun K hK => ?_)
                 refine gO Try.func28 #[.int .i64 (rd l0 x6_2), .int .i64 (rd l1 x7_3)] ?_
                 with_reducible refine (spec_ScMul.calls (rd l0 x6_2) (rd l1 x7_3) t157 _ A23.out).mono ?_
                 rintro e w' ⟨rfl, ⟨nd, rfl⟩⟩
                 refine ⟨_, rfl, ?_⟩
                 refine hK.out _ _ ⟨hHeld.1, ((hC HB hw155_0 :)), ((hC HB hw156_0 :))⟩ (fun hHeld => ?_)
                 clear hK K
                 refine nO (some 64) ?_
                 refine oI 19 (some 65) HT_.out (fun K hK => ?_)
                 refine goes_ Try.func27 (by kernel_rfl) rfl #[.int .i64 (rd x5_3 (ji17)), .int .i64 t157] (by rfl) rfl rfl (by (try simp only [List.map_toArray, List.map_cons, List.map_nil]); first | done | (simp only [hji17]; rfl) | rfl | (simp only [List.length_drop, List.length_take]; rfl)) ?_
                 with_reducible refine (spec_ScAdd.calls (rd x5_3 (ji17)) t157 t158 _ A24.out).mono ?_
                 rintro e w' ⟨rfl, ⟨nd, rfl⟩⟩
                 refine ⟨_, rfl, ?_⟩
                 have p25 : 0 ≤ ((ji17) : Int) := of_decide_eq_true (by first | (with_reducible assumption) | assumption)
                 have q25 : ((ji17) : Int) < ((x5_3.length : Int) : Int) := of_decide_eq_true (by first | (with_reducible assumption) | assumption)
                 obtain ⟨go25, co25, eo25, gb25, gl25, cl25, HG25⟩ := Kd.R_form HO_5.out (by omega)
                 (first | cases eo25 | (injection eo25 with ea_ en_ ec_; (first | subst ea_ | (injection ea_ with ea_; subst ea_)); subst ec_; clear en_))
                 have GB25 := Aside0.mk gb25
                 have GG25 := Aside0.mk HG25
                 clear gb25 gl25 HG25
                 (first | simp only [add_plain] at hx154_0 | skip)
                 obtain ⟨hx25_0, hf25_0⟩ := Kd.R_celln 0 HO_5.out ((ji17) : Int) p25 q25
                 replace p25 := eq_true p25
                 replace q25 := eq_true q25
                 have HP28 := Kd.R_putn HO_5.out ((ji17) : Int) t158
                 rw [← Ny159.out] at HP28
                 have HQ28 := Aside0.mk HP28
                 clear HP28
                 refine hK.out _ _ ⟨hHeld.1, ((hC HB hw155_0 :)), ((hC HB hw156_0 :))⟩ (fun hHeld => ?_)
                 clear hK K
                 refine nO (some 65) ?_
                 refine pI 20 (some 66) HT_.out ?_
                 refine last_ (i := 21) (N := none) #[true, true, true, true, true, true, true, true, true, true, true, true, true, true, true, true, true, true, true, true, true, true] rfl rfl (one_of HT_.out (by kernel_rfl)) (by decide) (fun K hK => ?_)
                 refine skip_ (w1 := ?_) (by rfl) rfl ?_ ?_
                 rotate_left
                 ·go_simp
                  rfl
                 refine hK.out _ _ ?_
                 clear hK K
                 refine done_ (done_of HT_.out (by kernel_rfl)) ?_
                 try go_wp2
                 go_roundg k3
                 case measure => have := HJ2.out; have := HK2.out; have := HK3.out; omega
                 case rel => exact ⟨(y159), (wrap64 (x7_3 + 1)), rS, H', ⟨by have := HJ2.out; have := HK2.out; have := HK3.out; omega⟩, ⟨rP HQ28⟩, ⟨by repeat (first | (with_reducible first | exact HB.out | apply below_alloc | apply pw_below_drewN | apply below_drew1 | refine below_set ?_ GB25.out) | exact HB.out)⟩⟩
                ·rw [if_neg c22] at H
                 exact absurd H (by simp)
               ·rw [if_neg c21] at H
                exact absurd H (by simp)
              ·rw [if_neg c20] at H
               exact absurd H (by simp)
             ·rw [if_neg c19] at H
              exact absurd H (by simp)
            ·rw [if_neg c18] at H
             exact absurd H (by simp)
           ·rw [if_neg c16] at H
            have c16b0 := decide_eq_false c16
            clear c16
            have H' := Aside0.mk H
            clear H
            go_wp2
            go_roundg k3
            case measure => have := HJ2.out; have := HK2.out; have := HK3.out; omega
            case rel => exact ⟨(x5_3), (wrap64 (x6_2 + 1)), rS, H', ⟨by have := HJ2.out; have := HK2.out; have := HK3.out; omega⟩, ⟨rP HO_5⟩, ⟨bZ HB⟩⟩
        ·rw [if_neg c15] at H
         have c15b0 := decide_eq_false c15
         clear c15
         replace H := Option.bind_eq_some_iff.mp H
         obtain ⟨t151, A290, H⟩ := H
         have A29 := Aside0.mk A290
         clear A290
         obtain rfl := Option.some.inj H
         obtain ⟨Ao30, co30, eo30⟩ := Kd.R_slice HO_5.out
         subst eo30
         go_wp2_with (first | (refine gC (some 68) Try.func19 #[.slice Ao30 x5_2.length co30] ?_; (with_reducible refine (spec_PolyTrim.calls k2 _ _ x5_2 t151 _ ?side1 ?side2 A29.out).mono ?_); (case side1 => exact cP ((Kd.R_reads' HO_5.out).2.2)); (case side2 => exact (Kd.R_reads' HO_5.out).2.1); rintro e w31 ⟨v152, rfl, ho0, hb⟩; refine ⟨_, rfl, ?_⟩; have HO153 := Aside0.mk (Kd.R_lower (Kd.R_new' ho0 (Kd.R_lt (rP HO_5))) (below_size (bZ HB))); replace HO_5 := Aside0.mk (Kd.R_elder' (rP HO_5) (Kd.R_base ho0) hb); replace HB := bS HB hb; (try clear hb); (try clear ho0)))
         go_ret
         exact ⟨_, by first | rfl | (simp [errW_none, errW_some] <;> rfl) | (simp only [← hji10]; first | rfl | (simp [errW_none, errW_some] <;> rfl)) | (simp [*, errW_none, errW_some] <;> rfl), by (with_reducible repeat (first | apply Kd.R_alloc | apply Kd.R_drewN | apply Kd.R_drew)); exact Kd.R_mono HO153.out (fun _ hk => trivial), bZ HB⟩
     ·rw [if_neg c12] at H
      exact absurd H (by simp)
    ·rw [if_neg c11] at H
     exact absurd H (by simp)

end Go.Proofs.Ytcnejiflpioaiaa.Pf
end
section
namespace Go.Proofs.Ytcnejiflpioaiaa.Pf
open Go.RowKit Go.Proofs.YtcnejiflpioaiaaW.PrintWords Go.Proofs.YtcnejiflpioaiaaW.PrintLast Go.Proofs.YtcnejiflpioaiaaW.PrintMore
attribute [local go_sem] max2_int min2_int max_two min_two max_three min_three max_four min_four   -- for this text's walks alone
set_option linter.unusedVariables false
set_option linter.unusedSimpArgs false
/-! ### spec_ScInv: function 71 -/
def spec_ScInv.l0 : Nat → Int → Int → Int → Option (Int)
 | 0, _, _, _ => none
 | k + 1, x3, x4, x5 => if x5 > 0 then (if (Int.tmod x5 2) = 1 then ((spec_ScMul.f x3 x4).bind fun t161 => ((spec_ScMul.f x4 x4).bind fun t162 => (spec_ScInv.l0 k t161 t162 (wrap64 (Int.tdiv x5 2))))) else ((spec_ScMul.f x4 x4).bind fun t163 => (spec_ScInv.l0 k x3 t163 (wrap64 (Int.tdiv x5 2))))) else (some x3)
def spec_ScInv.f (k : Nat) (a0 : Int) : Option (Int) := (spec_ScOf.f a0).bind fun t160 => (spec_ScInv.l0 k 1 t160 1007)
theorem spec_ScInv.mono_l : ∀ k, (∀ y0 y1 y2, LeO (spec_ScInv.l0 k y0 y1 y2) (spec_ScInv.l0 (k + 1) y0 y1 y2))
 | 0 => fun _ _ _ r h => by simp [spec_ScInv.l0] at h
 | k + 1 => by
  have ih0 := spec_ScInv.mono_l k
  ·intro y0 y1 y2
   unfold spec_ScInv.l0
   with_reducible repeat' first | exact ih0 _ _ _ | exact LeO.refl _ | exact LeO.none _ | refine LeO.ite ?_ ?_ | refine LeO.bind ?_ (fun _ => ?_)
theorem spec_ScInv.mono : ∀ a0 k, LeO (spec_ScInv.f k a0) (spec_ScInv.f (k + 1) a0) := by
 intro a0 k
 have ih0 := spec_ScInv.mono_l k
 unfold spec_ScInv.f
 with_reducible repeat' first | exact ih0 _ _ _ | exact LeO.refl _ | exact LeO.none _ | refine LeO.ite ?_ ?_ | refine LeO.bind ?_ (fun _ => ?_)
set_option maxHeartbeats 8000000 in
set_option maxRecDepth 100000 in
theorem spec_ScInv.calls (k : Nat) (a0 : Int) (r : Int) (w : World) (h : spec_ScInv.f k a0 = some r) :
  Calls Try.prog 71 #[.int .i64 a0] w fun e w' => e = .returned (.int .i64 r) ∧ Drawn0 w w' := by
 have H : ((spec_ScOf.f a0).bind fun t160 => (spec_ScInv.l0 k 1 t160 1007)) = some r := h
 clear h
 replace H := Option.bind_eq_some_iff.mp H
 obtain ⟨t160, A20, H⟩ := H
 have A2 := Aside0.mk A20
 clear A20
 have H' := Aside0.mk H
 clear H
 go_enter Try.func71, Try.ntmps71
 go_wp2_with (first | (refine gC (some 7) Try.func47 #[.int .i64 a0] ?_; (with_reducible refine (spec_ScOf.calls a0 t160 _ A2.out).mono ?_); rintro e w' ⟨rfl, ⟨nd, rfl⟩⟩; refine ⟨_, rfl, ?_⟩))
 go_loopg [3, 4, 5] k (fun kq v3 v4 v5 w' => ∃ (x3_1 : Int) (x4_1 : Int) (x5_1 : Int), v3 = .int .i64 x3_1 ∧ v4 = .int .i64 x4_1 ∧ v5 = .int .i64 x5_1 ∧ Aside0 (spec_ScInv.l0 kq x3_1 x4_1 x5_1 = some r) ∧ Aside0 (kq ≤ k) ∧ Drawn0 w w')
 case atStart => exact ⟨(1), (t160), (1007), rS, rS, rS, H', ⟨Nat.le_refl _⟩, by repeat (first | exact Drawn0.refl _ | apply Drawn0.step)⟩
 case round =>
  clear H'
  try clear p2
  obtain ⟨x3_1, x4_1, x5_1, rfl, rfl, rfl, HA, HK1, ⟨m1, rfl⟩⟩ := hrel
  cases gk with
  | zero => exact absurd HA.out (by simp [spec_ScInv.l0])
  | succ k1 =>
   have H := HA.out
   clear HA
   simp only [spec_ScInv.l0] at H
   by_cases c3 : x5_1 > 0
   ·rw [if_pos c3] at H
    have c3b0 := decide_eq_true c3
    clear c3
    by_cases c4 : (Int.tmod x5_1 2) = 1
    ·rw [if_pos c4] at H
     have c4b0 : ((Int.tmod x5_1 2) == 1) = true := beq_iff_eq.mpr c4
     have c4b1 : ((Int.tmod x5_1 2) != 1) = false := bne_eq_false_iff_eq.mpr c4
     clear c4
     replace H := Option.bind_eq_some_iff.mp H
     obtain ⟨t161, A50, H⟩ := H
     have A5 := Aside0.mk A50
     clear A50
     replace H := Option.bind_eq_some_iff.mp H
     obtain ⟨t162, A60, H⟩ := H
     have A6 := Aside0.mk A60
     clear A60
     have H' := Aside0.mk H
     clear H
     go_wp2_with (first | (refine gC (some 17) Try.func28 #[.int .i64 x3_1, .int .i64 x4_1] ?_; (with_reducible refine (spec_ScMul.calls x3_1 x4_1 t161 _ A5.out).mono ?_); rintro e w' ⟨rfl, ⟨nd, rfl⟩⟩; refine ⟨_, rfl, ?_⟩) | (refine gC (some 20) Try.func28 #[.int .i64 x4_1, .int .i64 x4_1] ?_; (with_reducible refine (spec_ScMul.calls x4_1 x4_1 t162 _ A6.out).mono ?_); rintro e w' ⟨rfl, ⟨nd, rfl⟩⟩; refine ⟨_, rfl, ?_⟩))
     go_roundg k1
     case measure => have := HK1.out; omega
     case rel => exact ⟨(t161), (t162), (wrap64 (Int.tdiv x5_1 2)), rS, rS, rS, H', ⟨by have := HK1.out; omega⟩, by repeat (first | exact Drawn0.refl _ | apply Drawn0.step)⟩
    ·rw [if_neg c4] at H
     have c4b0 : ((Int.tmod x5_1 2) == 1) = false := beq_eq_false_iff_ne.mpr c4
     have c4b1 : ((Int.tmod x5_1 2) != 1) = true := bne_iff_ne.mpr c4
     replace H := Option.bind_eq_some_iff.mp H
     obtain ⟨t163, A70, H⟩ := H
     have A7 := Aside0.mk A70
     clear A70
     have H' := Aside0.mk H
     clear H
     go_wp2_with (first | (refine gC (some 20) Try.func28 #[.int .i64 x4_1, .int .i64 x4_1] ?_; (with_reducible refine (spec_ScMul.calls x4_1 x4_1 t163 _ A7.out).mono ?_); rintro e w' ⟨rfl, ⟨nd, rfl⟩⟩; refine ⟨_, rfl, ?_⟩))
     go_roundg k1
     case measure => have := HK1.out; omega
     case rel => exact ⟨(x3_1), (t163), (wrap64 (Int.tdiv x5_1 2)), rS, rS, rS, H', ⟨by have := HK1.out; omega⟩, by repeat (first | exact Drawn0.refl _ | apply Drawn0.step)⟩
   ·rw [if_neg c3] at H
    have c3b0 := decide_eq_false c3
    clear c3
    obtain rfl := Option.some.inj H
    go_wp2
    go_ret
    exact ⟨rS, rD⟩
/-! ### spec_l14Scale: function 76 -/
def spec_l14Scale.l0 : Nat → List Int → Int → List Int → Int → Option (List Int)
 | 0, _, _, _, _ => none
 | k + 1, x0, x1, x5, x6 => if x6 < (x0.length : Int) then (if 0 ≤ x6 then ((spec_ScMul.f (rd x0 x6) x1).bind fun t168 => (if x5.length < 17592186044416 then (spec_l14Scale.l0 k x0 x1 (x5 ++ [t168]) (wrap64 (x6 + 1))) else (none))) else (none)) else (some x5)
def spec_l14Scale.f (k : Nat) (l0 : List Int) (a1 : Int) : Option (List Int) := spec_l14Scale.l0 k l0 a1 (([] : List Int)) 0
theorem spec_l14Scale.mono_l : ∀ k, (∀ y0 y1 y2 y3, LeO (spec_l14Scale.l0 k y0 y1 y2 y3) (spec_l14Scale.l0 (k + 1) y0 y1 y2 y3))
 | 0 => fun _ _ _ _ r h => by simp [spec_l14Scale.l0] at h
 | k + 1 => by
  have ih0 := spec_l14Scale.mono_l k
  ·intro y0 y1 y2 y3
   unfold spec_l14Scale.l0
   with_reducible repeat' first | exact ih0 _ _ _ _ | exact LeO.refl _ | exact LeO.none _ | refine LeO.ite ?_ ?_ | refine LeO.bind ?_ (fun _ => ?_)
theorem spec_l14Scale.mono : ∀ a0 a1 k, LeO (spec_l14Scale.f k a0 a1) (spec_l14Scale.f (k + 1) a0 a1) := by
 intro a0 a1 k
 have ih0 := spec_l14Scale.mono_l k
 unfold spec_l14Scale.f
 with_reducible repeat' first | exact ih0 _ _ _ _ | exact LeO.refl _ | exact LeO.none _ | refine LeO.ite ?_ ?_ | refine LeO.bind ?_ (fun _ => ?_)
set_option maxHeartbeats 8000000 in
set_option maxRecDepth 100000 in
theorem spec_l14Scale.calls (k : Nat) (A0 : Option Addr) (c0 : Nat) (l0 : List Int) (a1 : Int) (r : List Int) (w : World) (hr0 : Kd.C (Kd.int .i64) w A0 l0.length l0) (hc0 : l0.length ≤ c0) (h : spec_l14Scale.f k l0 a1 = some r) :
  Calls Try.prog 76 #[.slice A0 l0.length c0, .int .i64 a1] w fun e w' => ∃ v0_ : Value, e = .returned (v0_) ∧ Kd.R (Kd.int .i64) 3 w' w.heap.size (fun _ => True) v0_ r ∧ Below w.heap.size w w' := by
 have HR0 := Aside0.mk hr0
 have HC0 := Aside0.mk hc0
 clear hr0 hc0
 have HB := Aside0.mk (Below.refl w.heap.size w)
 have H : (spec_l14Scale.l0 k l0 a1 (([] : List Int)) 0) = some r := h
 clear h
 obtain ⟨y164, hy164⟩ : ∃ y_ : List Int, y_ = (([] : List Int)) := ⟨_, rfl⟩
 replace H : (spec_l14Scale.l0 k l0 a1 y164 0) = some r := by first | (rw [hy164]; with_reducible exact H) | (have H2_ := (Option.bind_some _ _).symm.trans H; rw [hy164]; with_reducible exact H2_) | (have H2_ := (Option.bind_some _ _).symm.trans H; with_reducible exact H2_) | with_reducible exact H | (rw [hy164]; exact H) | exact H
 have Ny164 := Aside0.mk hy164
 clear hy164
 have H' := Aside0.mk H
 clear H
 go_enter Try.func76, Try.ntmps76
 go_wp2_with (first | ((with_reducible refine gate_dst (N := 7) rfl ?_); refine Kd.R_lit (Kd.int .i64) _ 3 ?hg (N := 7) ?hd (xs := ([] : List Int)) (inner := []) (ok := fun _ => True) (okp := fun _ => True) ?hr ?hp (fun _ hk => hk) trivial (Below.refl _ _) (Nat.le_refl _) (by simp) ?_; (case hd => rfl); (case hg => rfl); (case hr => first | (go_simp; done) | (go_simp; rfl)); (case hp => exact (Reps.none _ _)); intro v165 w3 ho4 hb hg_ hnew_; clear hg_ hnew_; (first | rw [← Ny164.out] at ho4 | (simp only [Int.reduceToNat] at ho4; rw [← Ny164.out] at ho4)); have HO166 := Aside0.mk (Kd.R_lower ho4 (below_size (bZ HB))); replace HB := bS HB hb; clear hb ho4))
 go_loopg [5, 6] k (fun kq v5 v6 w' => ∃ (x5_1 : List Int) (x6_1 : Int), v6 = .int .i64 x6_1 ∧ Aside0 (spec_l14Scale.l0 kq l0 a1 x5_1 x6_1 = some r) ∧ Aside0 (kq ≤ k) ∧ Aside0 (Kd.R (Kd.int .i64) 3 w' w.heap.size (fun _ => True) v5 x5_1) ∧ Aside0 (Below w.heap.size w w'))
 case atStart => exact ⟨(y164), (0), rS, H', ⟨Nat.le_refl _⟩, ⟨rP HO166⟩, ⟨bZ HB⟩⟩
 case round =>
  clear H'
  try clear p2
  obtain ⟨x5_1, x6_1, rfl, HA, HK1, HO_5, HB⟩ := hrel
  cases gk with
  | zero => exact absurd HA.out (by simp [spec_l14Scale.l0])
  | succ k1 =>
   have H := HA.out
   clear HA
   simp only [spec_l14Scale.l0] at H
   by_cases c5 : x6_1 < (l0.length : Int)
   ·rw [if_pos c5] at H
    have c5b0 := decide_eq_true c5
    clear c5
    by_cases c6 : 0 ≤ x6_1
    ·rw [if_pos c6] at H
     have c6b0 := decide_eq_true c6
     clear c6
     replace H := Option.bind_eq_some_iff.mp H
     obtain ⟨t168, A70, H⟩ := H
     have A7 := Aside0.mk A70
     clear A70
     by_cases c8 : x5_1.length < 17592186044416
     ·rw [if_pos c8] at H
      have LMc8 := Aside0.mk c8
      clear c8
      obtain ⟨y169, hy169⟩ : ∃ y_ : List Int, y_ = (x5_1 ++ [t168]) := ⟨_, rfl⟩
      replace H : (spec_l14Scale.l0 k1 l0 a1 y169 (wrap64 (x6_1 + 1))) = some r := by first | (rw [hy169]; with_reducible exact H) | (have H2_ := (Option.bind_some _ _).symm.trans H; rw [hy169]; with_reducible exact H2_) | (have H2_ := (Option.bind_some _ _).symm.trans H; with_reducible exact H2_) | with_reducible exact H | (rw [hy169]; exact H) | exact H
      have Ny169 := Aside0.mk hy169
      clear hy169
      have H' := Aside0.mk H
      clear H
      have p167 : 0 ≤ (x6_1 : Int) := of_decide_eq_true (by first | (with_reducible assumption) | assumption)
      have q167 : x6_1 < (l0.length : Int) := of_decide_eq_true (by first | (with_reducible assumption) | assumption)
      obtain ⟨ad167, e167, hx167_0⟩ := Kd.at_int HR0.out x6_1 p167 q167
      cases e167
      replace hx167_0 := (hC HB hx167_0 :)
      replace p167 := eq_true p167
      replace q167 := eq_true q167
      go_wp2_with (first | (refine gC (some 20) Try.func28 #[.int .i64 (rd l0 x6_1), .int .i64 a1] ?_; (with_reducible refine (spec_ScMul.calls (rd l0 x6_1) a1 t168 _ A7.out).mono ?_); rintro e w' ⟨rfl, ⟨nd, rfl⟩⟩; refine ⟨_, rfl, ?_⟩) | ((with_reducible refine gate_builtin (b := .append) (xs := #[.tmp 14, .tmp 21]) rfl ?_); at_builtin; refine Kd.R_append (Kd.int .i64) (w0 := w) w.heap.size rfl (.tmp 14) (.tmp 21) 22 3 (.int .i64 0) 8 rfl Try.underlying22 info3 rfl (by decide) (by omega) u5 x5_1 t168 [.int .i64 t168] (fun _ => True) (fun _ => False) rfl rfl ?aP (fun _ hk => hk.elim) ?aF ?aO ?aB ?aS ?aL ?_; (case aP => exact rfl); (case aB => exact (bZ HB)); (case aF => exact (fun _ _ => trivial)); (case aO => exact (rP HO_5)); (case aS => exact (below_size (bZ HB))); (case aL => have := LMc8.out; omega); intro v170 w9 ho hb hg hat; rw [← Ny169.out] at ho; replace HB := Aside0.mk (hb); have HO171 := Aside0.mk (ho); clear HO_5; clear ho hb hg hat))
      go_roundg k1
      case measure => have := HK1.out; omega
      case rel => exact ⟨(y169), (wrap64 (x6_1 + 1)), rS, H', ⟨by have := HK1.out; omega⟩, ⟨rP HO171⟩, ⟨bZ HB⟩⟩
     ·rw [if_neg c8] at H
      exact absurd H (by simp)
    ·rw [if_neg c6] at H
     exact absurd H (by simp)
   ·rw [if_neg c5] at H
    have c5b0 := decide_eq_false c5
    clear c5
    obtain rfl := Option.some.inj H
    go_wp2
    go_ret
    exact ⟨_, by first | rfl | (simp [errW_none, errW_some] <;> rfl) | (simp [*, errW_none, errW_some] <;> rfl), by (with_reducible repeat (first | apply Kd.R_alloc | apply Kd.R_drewN | apply Kd.R_drew)); exact HO_5.out, bZ HB⟩
end Go.Proofs.Ytcnejiflpioaiaa.Pf
end
section
namespace Go.Proofs.Ytcnejiflpioaiaa.Pf
open Go.RowKit Go.Proofs.YtcnejiflpioaiaaW.PrintWords Go.Proofs.YtcnejiflpioaiaaW.PrintLast Go.Proofs.YtcnejiflpioaiaaW.PrintMore
attribute [local go_sem] max2_int min2_int max_two min_two max_three min_three max_four min_four   -- for this text's walks alone
set_option linter.unusedVariables false
set_option linter.unusedSimpArgs false

/-! ### spec_PolyThrough: function 51 -/
mutual
def spec_PolyThrough.l0 : Nat → List Int → List Int → Int → Option (List Int)
 | 0, _, _, _ => none
 | k + 1, x0, x3, x4 => if x4 < (x0.length : Int) then (spec_PolyThrough.l1 k x0 x3 x4 (([1] : List Int)) 1 0) else (some x3)
def spec_PolyThrough.l1 : Nat → List Int → List Int → Int → List Int → Int → Int → Option (List Int)
 | 0, _, _, _, _, _, _ => none
 | k + 1, x0, x3, x4, x5, x6, x7 => if x7 < (x0.length : Int) then (if x7 = x4 then (spec_PolyThrough.l1 k x0 x3 x4 x5 x6 (wrap64 (x7 + 1))) else ((spec_PolyMul.f k x5 (([wrap64 (-(wrap64 (x7 + 1))), 1] : List Int))).bind fun t184 => ((spec_ScMul.f x6 (wrap64 (x4 - x7))).bind fun t187 => (spec_PolyThrough.l1 k x0 x3 x4 t184 t187 (wrap64 (x7 + 1)))))) else (if 0 ≤ x4 then (if x4 < (x0.length : Int) then ((spec_ScInv.f k x6).bind fun t189 => ((spec_ScMul.f (rd x0 x4) t189).bind fun t190 => ((spec_l14Scale.f k x5 t190).bind fun t191 => ((spec_PolyAdd.f k x3 t191).bind fun t194 => (spec_PolyThrough.l0 k x0 t194 (wrap64 (x4 + 1))))))) else (none)) else (none))
end
def spec_PolyThrough.f (k : Nat) (l0 : List Int) : Option (List Int) := if (l0.length : Int) > 16 then (some (([] : List Int))) else (spec_PolyThrough.l0 k l0 (([] : List Int)) 0)
theorem spec_PolyThrough.mono_l : ∀ k, (∀ y0 y1 y2, LeO (spec_PolyThrough.l0 k y0 y1 y2) (spec_PolyThrough.l0 (k + 1) y0 y1 y2)) ∧ (∀ y0 y1 y2 y3 y4 y5, LeO (spec_PolyThrough.l1 k y0 y1 y2 y3 y4 y5) (spec_PolyThrough.l1 (k + 1) y0 y1 y2 y3 y4 y5))
 | 0 => ⟨fun _ _ _ r h => by simp [spec_PolyThrough.l0] at h, fun _ _ _ _ _ _ r h => by simp [spec_PolyThrough.l1] at h⟩
 | k + 1 => by
  obtain ⟨ih0, ih1⟩ := spec_PolyThrough.mono_l k
  refine ⟨?_, ?_⟩
  ·intro y0 y1 y2
   unfold spec_PolyThrough.l0
   with_reducible repeat' first | exact ih0 _ _ _ | exact ih1 _ _ _ _ _ _ | exact spec_PolyAdd.mono _ _ _ | exact spec_PolyMul.mono _ _ _ | exact spec_ScInv.mono _ _ | exact spec_l14Scale.mono _ _ _ | exact LeO.refl _ | exact LeO.none _ | refine LeO.ite ?_ ?_ | refine LeO.bind ?_ (fun _ => ?_)
  ·intro y0 y1 y2 y3 y4 y5
   unfold spec_PolyThrough.l1
   with_reducible repeat' first | exact ih0 _ _ _ | exact ih1 _ _ _ _ _ _ | exact spec_PolyAdd.mono _ _ _ | exact spec_PolyMul.mono _ _ _ | exact spec_ScInv.mono _ _ | exact spec_l14Scale.mono _ _ _ | exact LeO.refl _ | exact LeO.none _ | refine LeO.ite ?_ ?_ | refine LeO.bind ?_ (fun _ => ?_)
theorem spec_PolyThrough.mono : ∀ a0 k, LeO (spec_PolyThrough.f k a0) (spec_PolyThrough.f (k + 1) a0) := by
 intro a0 k
 obtain ⟨ih0, ih1⟩ := spec_PolyThrough.mono_l k
 unfold spec_PolyThrough.f
 with_reducible repeat' first | exact ih0 _ _ _ | exact ih1 _ _ _ _ _ _ | exact spec_PolyAdd.mono _ _ _ | exact spec_PolyMul.mono _ _ _ | exact spec_ScInv.mono _ _ | exact spec_l14Scale.mono _ _ _ | exact LeO.refl _ | exact LeO.none _ | refine LeO.ite ?_ ?_ | refine LeO.bind ?_ (fun _ => ?_)
def spec_PolyThrough.T15 : Bool × List (List Nat × List Nat) := (true, [([], []), ([], []), ([], []), ([], []), ([2, 3], [2, 3]), ([4], [4]), ([], []), ([6], [6]), ([5, 7, 7], [5, 7]), ([1, 8, 8], [1, 8]), ([0, 9, 9], [0, 9]), ([10, 10, 0, 1, 2, 3, 4, 5, 6, 7, 8, 9, 10], [0, 10])])
def spec_PolyThrough.B15 : List Nat := [0, 0, 0, 0, 12, 28, 0, 64, 252, 510, 1023, 2047]
theorem spec_PolyThrough.tab15 : rtab .any (opsOf Try.f51 15) = spec_PolyThrough.T15 := by kernel_rfl
theorem spec_PolyThrough.bits15 : waitsOk spec_PolyThrough.T15.2 spec_PolyThrough.B15 = true := by kernel_rfl
set_option maxHeartbeats 8000000 in
set_option maxRecDepth 100000 in
theorem spec_PolyThrough.calls (k : Nat) (A0 : Option Addr) (c0 : Nat) (l0 : List Int) (r : List Int) (w : World) (hr0 : Kd.C (Kd.int .i64) w A0 l0.length l0) (hc0 : l0.length ≤ c0) (h : spec_PolyThrough.f k l0 = some r) :
  Calls Try.prog 51 #[.slice A0 l0.length c0] w fun e w' => ∃ v0_ : Value, e = .returned (v0_) ∧ Kd.R (Kd.int .i64) 3 w' w.heap.size (fun _ => True) v0_ r ∧ Below w.heap.size w w' := by
 have HR0 := Aside0.mk hr0
 have HC0 := Aside0.mk hc0
 clear hr0 hc0
 have HB := Aside0.mk (Below.refl w.heap.size w)
 have H : (if (l0.length : Int) > 16 then (some (([] : List Int))) else (spec_PolyThrough.l0 k l0 (([] : List Int)) 0)) = some r := h
 clear h
 by_cases c2 : (l0.length : Int) > 16
 ·rw [if_pos c2] at H
  have c2b0 := decide_eq_true c2
  have c2b1 : decide (16 < l0.length) = true := decide_eq_true (by omega)
  clear c2
  obtain ⟨y172, hy172⟩ : ∃ y_ : List Int, y_ = (([] : List Int)) := ⟨_, rfl⟩
  replace H : (some y172) = some r := by first | (rw [hy172]; with_reducible exact H) | (have H2_ := (Option.bind_some _ _).symm.trans H; rw [hy172]; with_reducible exact H2_) | (have H2_ := (Option.bind_some _ _).symm.trans H; with_reducible exact H2_) | with_reducible exact H | (rw [hy172]; exact H) | exact H
  have Ny172 := Aside0.mk hy172
  clear hy172
  obtain rfl := Option.some.inj H
  go_enter Try.func51, Try.ntmps51
  go_wp2_with (first | ((with_reducible refine gate_dst (N := 11) rfl ?_); refine Kd.R_lit (Kd.int .i64) _ 3 ?hg (N := 11) ?hd (xs := ([] : List Int)) (inner := []) (ok := fun _ => True) (okp := fun _ => True) ?hr ?hp (fun _ hk => hk) trivial (Below.refl _ _) (Nat.le_refl _) (by simp) ?_; (case hd => rfl); (case hg => rfl); (case hr => first | (go_simp; done) | (go_simp; rfl)); (case hp => exact (Reps.none _ _)); intro v173 w3 ho4 hb hg_ hnew_; clear hg_ hnew_; (first | rw [← Ny172.out] at ho4 | (simp only [Int.reduceToNat] at ho4; rw [← Ny172.out] at ho4)); have HO174 := Aside0.mk (Kd.R_lower ho4 (below_size (bZ HB))); replace HB := bS HB hb; clear hb ho4))
  go_ret
  exact ⟨_, by first | rfl | (simp [errW_none, errW_some] <;> rfl) | (simp [*, errW_none, errW_some] <;> rfl), by (with_reducible repeat (first | apply Kd.R_alloc | apply Kd.R_drewN | apply Kd.R_drew)); exact HO174.out, bZ HB⟩
 ·rw [if_neg c2] at H
  have c2b0 := decide_eq_false c2
  have c2b1 : decide (16 < l0.length) = false := decide_eq_false (by omega)
  clear c2
  obtain ⟨y175, hy175⟩ : ∃ y_ : List Int, y_ = (([] : List Int)) := ⟨_, rfl⟩
  replace H : (spec_PolyThrough.l0 k l0 y175 0) = some r := by first | (rw [hy175]; with_reducible exact H) | (have H2_ := (Option.bind_some _ _).symm.trans H; rw [hy175]; with_reducible exact H2_) | (have H2_ := (Option.bind_some _ _).symm.trans H; with_reducible exact H2_) | with_reducible exact H | (rw [hy175]; exact H) | exact H
  have Ny175 := Aside0.mk hy175
  clear hy175
  have H' := Aside0.mk H
  clear H
  go_enter Try.func51, Try.ntmps51
  go_wp2_with (first | ((with_reducible refine gate_dst (N := 12) rfl ?_); refine Kd.R_lit (Kd.int .i64) _ 3 ?hg (N := 12) ?hd (xs := ([] : List Int)) (inner := []) (ok := fun _ => True) (okp := fun _ => True) ?hr ?hp (fun _ hk => hk) trivial (Below.refl _ _) (Nat.le_refl _) (by simp) ?_; (case hd => rfl); (case hg => rfl); (case hr => first | (go_simp; done) | (go_simp; rfl)); (case hp => exact (Reps.none _ _)); intro v176 w5 ho6 hb hg_ hnew_; clear hg_ hnew_; (first | rw [← Ny175.out] at ho6 | (simp only [Int.reduceToNat] at ho6; rw [← Ny175.out] at ho6)); have HO177 := Aside0.mk (Kd.R_lower ho6 (below_size (bZ HB))); replace HB := bS HB hb; clear hb ho6))
  go_loopg [3, 4] k (fun kq v3 v4 w' => ∃ (x3_1 : List Int) (x4_1 : Int), v4 = .int .i64 x4_1 ∧ Aside0 (spec_PolyThrough.l0 kq l0 x3_1 x4_1 = some r) ∧ Aside0 (kq ≤ k) ∧ Aside0 (Kd.R (Kd.int .i64) 3 w' w.heap.size (fun _ => True) v3 x3_1) ∧ Aside0 (Below w.heap.size w w'))
  case atStart => exact ⟨(y175), (0), rS, H', ⟨Nat.le_refl _⟩, ⟨rP HO177⟩, ⟨bZ HB⟩⟩
  case round =>
   clear H'
   try clear c2
   try clear c2b0
   try clear c2b1
   try clear p2
   try clear c5
   obtain ⟨x3_1, x4_1, rfl, HA, HK1, HO_3, HB⟩ := hrel
   cases gk with
   | zero => exact absurd HA.out (by simp [spec_PolyThrough.l0])
   | succ k1 =>
    have H := HA.out
    clear HA
    simp only [spec_PolyThrough.l0] at H
    by_cases c7 : x4_1 < (l0.length : Int)
    ·rw [if_pos c7] at H
     have c7b0 := decide_eq_true c7
     clear c7
     obtain ⟨y178, hy178⟩ : ∃ y_ : List Int, y_ = (([1] : List Int)) := ⟨_, rfl⟩
     replace H : (spec_PolyThrough.l1 k1 l0 x3_1 x4_1 y178 1 0) = some r := by first | (rw [hy178]; with_reducible exact H) | (have H2_ := (Option.bind_some _ _).symm.trans H; rw [hy178]; with_reducible exact H2_) | (have H2_ := (Option.bind_some _ _).symm.trans H; with_reducible exact H2_) | with_reducible exact H | (rw [hy178]; exact H) | exact H
     have Ny178 := Aside0.mk hy178
     clear hy178
     have H' := Aside0.mk H
     clear H
     go_wp2_with (first | ((with_reducible refine gate_dst (N := 19) rfl ?_); refine Kd.R_lit (Kd.int .i64) _ 3 ?hg (N := 19) ?hd (xs := ([1] : List Int)) (inner := [.int .i64 1]) (ok := fun _ => True) (okp := fun _ => True) ?hr ?hp (fun _ hk => hk) trivial (Below.refl _ _) (Nat.le_refl _) (by simp) ?_; (case hd => rfl); (case hg => rfl); (case hr => first | (go_simp; done) | (go_simp; rfl)); (case hp => exact (Reps.one (show Kd.M (Kd.int .i64) _ _ _ 1 [.int .i64 1] from rfl) (Reps.none _ _))); intro v179 w8 ho9 hb hg_ hnew_; clear hg_ hnew_; (first | rw [← Ny178.out] at ho9 | (simp only [Int.reduceToNat] at ho9; rw [← Ny178.out] at ho9)); have HO180 := Aside0.mk (Kd.R_lower (Kd.R_new' ho9 (Kd.R_lt (rP HO_3))) (below_size (bZ HB))); replace HO_3 := Aside0.mk (Kd.R_elder' (rP HO_3) (Kd.R_base ho9) hb); replace HB := bS HB hb; clear hb ho9))
     go_loopg [5, 6, 7] k1 (fun kq v5 v6 v7 w' => ∃ (x5_2 : List Int) (x6_2 : Int) (x7_2 : Int), v6 = .int .i64 x6_2 ∧ v7 = .int .i64 x7_2 ∧ Aside0 (spec_PolyThrough.l1 kq l0 x3_1 x4_1 x5_2 x6_2 x7_2 = some r) ∧ Aside0 (kq ≤ k1) ∧ Aside0 (Kd.R (Kd.int .i64) 3 w' w.heap.size (fun k_ => some k_ ≠ (v5 : Value).ownBlock) u3 x3_1) ∧ Aside0 (Kd.R (Kd.int .i64) 3 w' w.heap.size (fun k_ => some k_ ≠ (u3 : Value).ownBlock) v5 x5_2) ∧ Aside0 (Below w.heap.size w w'))
     case atStart => exact ⟨(y178), (1), (0), rS, rS, H', ⟨Nat.le_refl _⟩, ⟨by (with_reducible repeat (first | apply Kd.R_alloc | apply Kd.R_drewN | apply Kd.R_drew)); exact Kd.R_mono HO_3.out (fun _ hk => hk.2)⟩, ⟨by (with_reducible repeat (first | apply Kd.R_alloc | apply Kd.R_drewN | apply Kd.R_drew)); exact Kd.R_mono HO180.out (fun _ hk => hk.2)⟩, ⟨bZ HB⟩⟩
     case round =>
      clear H'
      try clear c2
      try clear c2b0
      try clear c2b1
      try clear p2
      try clear c5
      try clear c7
      try clear c7b0
      try clear p2
      obtain ⟨x5_2, x6_2, x7_2, rfl, rfl, HA, HK2, HO_3, HO_5, HB⟩ := hrel
      cases gk with
      | zero => exact absurd HA.out (by simp [spec_PolyThrough.l1])
      | succ k2 =>
       have H := HA.out
       clear HA
       simp only [spec_PolyThrough.l1] at H
       by_cases c10 : x7_2 < (l0.length : Int)
       ·rw [if_pos c10] at H
        have c10b0 := decide_eq_true c10
        clear c10
        by_cases c11 : x7_2 = x4_1
        ·rw [if_pos c11] at H
         have c11b0 : (x7_2 == x4_1) = true := beq_iff_eq.mpr c11
         have c11b1 : (x7_2 != x4_1) = false := bne_eq_false_iff_eq.mpr c11
         clear c11
         have H' := Aside0.mk H
         clear H
         go_wp2
         go_roundg k2
         case measure => have := HK1.out; have := HK2.out; omega
         case rel => exact ⟨(x5_2), (x6_2), (wrap64 (x7_2 + 1)), rS, rS, H', ⟨by have := HK1.out; have := HK2.out; omega⟩, ⟨rP HO_3⟩, ⟨rP HO_5⟩, ⟨bZ HB⟩⟩
        ·rw [if_neg c11] at H
         have c11b0 : (x7_2 == x4_1) = false := beq_eq_false_iff_ne.mpr c11
         have c11b1 : (x7_2 != x4_1) = true := bne_iff_ne.mpr c11
         obtain ⟨y181, hy181⟩ : ∃ y_ : List Int, y_ = (([wrap64 (-(wrap64 (x7_2 + 1))), 1] : List Int)) := ⟨_, rfl⟩
         replace H : ((spec_PolyMul.f k2 x5_2 y181).bind fun t184 => ((spec_ScMul.f x6_2 (wrap64 (x4_1 - x7_2))).bind fun t187 => (spec_PolyThrough.l1 k2 l0 x3_1 x4_1 t184 t187 (wrap64 (x7_2 + 1))))) = some r := by first | (rw [hy181]; with_reducible exact H) | (have H2_ := (Option.bind_some _ _).symm.trans H; rw [hy181]; with_reducible exact H2_) | (have H2_ := (Option.bind_some _ _).symm.trans H; with_reducible exact H2_) | with_reducible exact H | (rw [hy181]; exact H) | exact H
         have Ny181 := Aside0.mk hy181
         clear hy181
         replace H := Option.bind_eq_some_iff.mp H
         obtain ⟨t184, A120, H⟩ := H
         have A12 := Aside0.mk A120
         clear A120
         replace H := Option.bind_eq_some_iff.mp H
         obtain ⟨t187, A130, H⟩ := H
         have A13 := Aside0.mk A130
         clear A130
         have H' := Aside0.mk H
         clear H
         go_wp2_with (first | ((with_reducible refine gate_dst (N := 33) rfl ?_); refine Kd.R_lit (Kd.int .i64) _ 3 ?hg (N := 33) ?hd (xs := ([wrap64 (-(wrap64 (x7_2 + 1))), 1] : List Int)) (inner := [.int .i64 (wrap64 (-(wrap64 (x7_2 + 1)))), .int .i64 1]) (ok := fun _ => True) (okp := fun _ => True) ?hr ?hp (fun _ hk => hk) trivial (Below.refl _ _) (Nat.le_refl _) (by simp) ?_; (case hd => rfl); (case hg => rfl); (case hr => first | (go_simp; done) | (go_simp; rfl)); (case hp => exact (Reps.one (show Kd.M (Kd.int .i64) _ _ _ (wrap64 (-(wrap64 (x7_2 + 1)))) [.int .i64 (wrap64 (-(wrap64 (x7_2 + 1))))] from rfl) (Reps.one (show Kd.M (Kd.int .i64) _ _ _ 1 [.int .i64 1] from rfl) (Reps.none _ _)))); intro v182 w14 ho15 hb hg_ hnew_; clear hg_ hnew_; (first | rw [← Ny181.out] at ho15 | (simp only [Int.reduceToNat] at ho15; rw [← Ny181.out] at ho15)); have HO183 := Aside0.mk (Kd.R_lower (Kd.R_new' (Kd.R_new' ho15 (Kd.R_lt (rP HO_3))) (Kd.R_lt (rP HO_5))) (below_size (bZ HB))); replace HO_3 := Aside0.mk (Kd.R_elder' (rP HO_3) (Kd.R_base ho15) hb); replace HO_5 := Aside0.mk (Kd.R_elder' (rP HO_5) (Kd.R_base ho15) hb); replace HB := bS HB hb; clear hb ho15; obtain ⟨Ao16, co16, eo16⟩ := Kd.R_slice HO_5.out; subst eo16; obtain ⟨Ao17, co17, eo17⟩ := Kd.R_slice HO183.out; subst eo17) | (refine gC (some 34) Try.func33 #[.slice Ao16 x5_2.length co16, .slice Ao17 y181.length co17] ?_; (with_reducible refine (spec_PolyMul.calls k2 _ _ x5_2 _ _ y181 t184 _ ?side1 ?side2 ?side3 ?side4 A12.out).mono ?_); (case side1 => exact cP ((Kd.R_reads' HO_5.out).2.2)); (case side2 => exact (Kd.R_reads' HO_5.out).2.1); (case side3 => exact cP ((Kd.R_reads' HO183.out).2.2)); (case side4 => exact (Kd.R_reads' HO183.out).2.1); rintro e w18 ⟨v185, rfl, ho0, hb⟩; refine ⟨_, rfl, ?_⟩; have HO186 := Aside0.mk (Kd.R_lower (Kd.R_new' (Kd.R_new' (Kd.R_new' ho0 (Kd.R_lt (rP HO_3))) (Kd.R_lt (rP HO_5))) (Kd.R_lt (rP HO183))) (below_size (bZ HB))); replace HO_3 := Aside0.mk (Kd.R_elder' (rP HO_3) (Kd.R_base ho0) hb); replace HO_5 := Aside0.mk (Kd.R_elder' (rP HO_5) (Kd.R_base ho0) hb); replace HO183 := Aside0.mk (Kd.R_elder' (rP HO183) (Kd.R_base ho0) hb); replace HB := bS HB hb; (try clear hb); (try clear ho0)) | (refine gC (some 39) Try.func28 #[.int .i64 x6_2, .int .i64 (wrap64 (x4_1 - x7_2))] ?_; (with_reducible refine (spec_ScMul.calls x6_2 (wrap64 (x4_1 - x7_2)) t187 _ A13.out).mono ?_); rintro e w' ⟨rfl, ⟨nd, rfl⟩⟩; refine ⟨_, rfl, ?_⟩))
         go_roundg k2
         case measure => have := HK1.out; have := HK2.out; omega
         case rel => exact ⟨(t184), (t187), (wrap64 (x7_2 + 1)), rS, rS, H', ⟨by have := HK1.out; have := HK2.out; omega⟩, ⟨by (with_reducible repeat (first | apply Kd.R_alloc | apply Kd.R_drewN | apply Kd.R_drew)); exact Kd.R_mono HO_3.out (fun _ hk => hk.2)⟩, ⟨by (with_reducible repeat (first | apply Kd.R_alloc | apply Kd.R_drewN | apply Kd.R_drew)); exact Kd.R_mono HO186.out (fun _ hk => hk.1.1.2)⟩, ⟨bZ HB⟩⟩
       ·rw [if_neg c10] at H
        have c10b0 := decide_eq_false c10
        clear c10
        by_cases c19 : 0 ≤ x4_1
        ·rw [if_pos c19] at H
         have c19b0 := decide_eq_true c19
         clear c19
         by_cases c20 : x4_1 < (l0.length : Int)
         ·rw [if_pos c20] at H
          have c20b0 := decide_eq_true c20
          clear c20
          replace H := Option.bind_eq_some_iff.mp H
          obtain ⟨t189, A210, H⟩ := H
          have A21 := Aside0.mk A210
          clear A210
          replace H := Option.bind_eq_some_iff.mp H
          obtain ⟨t190, A220, H⟩ := H
          have A22 := Aside0.mk A220
          clear A220
          replace H := Option.bind_eq_some_iff.mp H
          obtain ⟨t191, A230, H⟩ := H
          have A23 := Aside0.mk A230
          clear A230
          replace H := Option.bind_eq_some_iff.mp H
          obtain ⟨t194, A240, H⟩ := H
          have A24 := Aside0.mk A240
          clear A240
          have H' := Aside0.mk H
          clear H
          try go_wp2
          replace HO_3 := Aside0.mk (Kd.R_drew HO_3.out)
          replace HO_5 := Aside0.mk (Kd.R_drew HO_5.out)
          replace HB := Aside0.mk (below_drew1 HB.out)
          have p188 : 0 ≤ (x4_1 : Int) := of_decide_eq_true (by first | (with_reducible assumption) | assumption)
          have q188 : x4_1 < (l0.length : Int) := of_decide_eq_true (by first | (with_reducible assumption) | assumption)
          obtain ⟨ad188, e188, hx188_0⟩ := Kd.at_int HR0.out x4_1 p188 q188
          have hw188_0 := hx188_0
          cases e188
          replace hx188_0 := (hC HB hx188_0 :)
          replace p188 := eq_true p188
          replace q188 := eq_true q188
          refine start_ (n := 12) (S := fun w' => w'.cell? (ad188.add (x4_1).toNat) = some (.int .i64 (rd l0 x4_1))) (ds := []) #[false, false, false, false, false, false, false, false, false, false, false, false] (by kernel_rfl) rfl rfl (((hC HB hw188_0 :))) (fun hHeld => ?_); refine with_tabW spec_PolyThrough.tab15 spec_PolyThrough.bits15 (fun HT_ HW_ => ?_)
          generalize wr.drew = w25 at HO_3 HO_5 HB hx188_0 hHeld ⊢
          refine pI 0 (some 40) HT_.out ?_
          refine pI 1 (some 41) HT_.out ?_
          refine pI 2 (some 42) HT_.out ?_
          refine pI 3 (some 43) HT_.out ?_
          refine pI 4 (some 44) HT_.out ?_
          refine pI 6 (some 46) HT_.out ?_
          refine tI1 5 (some 45) HT_.out HW_.out hHeld ?_
          refine oI 7 (some 47) HT_.out (fun K hK => ?_)
          refine gO Try.func71 #[.int .i64 x6_2] ?_
          with_reducible refine (spec_ScInv.calls k2 x6_2 t189 _ A21.out).mono ?_
          rintro e w' ⟨rfl, ⟨nd, rfl⟩⟩
          refine ⟨_, rfl, ?_⟩
          refine hK.out _ _ (((hC HB hw188_0 :))) (fun hHeld => ?_)
          clear hK K
          refine nO (some 47) ?_
          refine oI 8 (some 48) HT_.out (fun K hK => ?_)
          refine gO Try.func28 #[.int .i64 (rd l0 x4_1), .int .i64 t189] ?_
          with_reducible refine (spec_ScMul.calls (rd l0 x4_1) t189 t190 _ A22.out).mono ?_
          rintro e w' ⟨rfl, ⟨nd, rfl⟩⟩
          refine ⟨_, rfl, ?_⟩
          obtain ⟨Ao26, co26, eo26⟩ := Kd.R_slice HO_5.out
          (first | subst eo26 | (injection eo26 with f1_ f2_ f3_; have f4_ := f1_.symm; have f5_ := f3_.symm; clear f1_ f2_ f3_; subst f4_; subst f5_))
          refine hK.out _ _ (((hC HB hw188_0 :))) (fun hHeld => ?_)
          clear hK K
          refine nO (some 48) ?_
          refine oI 9 (some 49) HT_.out (fun K hK => ?_)
          refine gO Try.func76 #[.slice Ao26 x5_2.length co26, .int .i64 t190] ?_
          with_reducible refine (spec_l14Scale.calls k2 _ _ x5_2 t190 t191 _ ?side1 ?side2 A23.out).mono ?_
          (case side1 => exact cP ((Kd.R_reads' HO_5.out).2.2))
          (case side2 => exact (Kd.R_reads' HO_5.out).2.1)
          rintro e w27 ⟨v192, rfl, ho0, hb⟩
          refine ⟨_, rfl, ?_⟩
          have HO193 := Aside0.mk (Kd.R_lower (Kd.R_new' (Kd.R_new' ho0 (Kd.R_lt (rP HO_3))) (Kd.R_lt (rP HO_5))) (below_size (bZ HB)))
          replace HO_3 := Aside0.mk (Kd.R_elder' (rP HO_3) (Kd.R_base ho0) hb)
          replace HO_5 := Aside0.mk (Kd.R_elder' (rP HO_5) (Kd.R_base ho0) hb)
          replace HB := bS HB hb
          (try clear hb)
          (try clear ho0)
          obtain ⟨Ao28, co28, eo28⟩ := Kd.R_slice HO_3.out
          (first | subst eo28 | (injection eo28 with f1_ f2_ f3_; have f4_ := f1_.symm; have f5_ := f3_.symm; clear f1_ f2_ f3_; subst f4_; subst f5_))
          obtain ⟨Ao29, co29, eo29⟩ := Kd.R_slice HO193.out
          (first | subst eo29 | (injection eo29 with f1_ f2_ f3_; have f4_ := f1_.symm; have f5_ := f3_.symm; clear f1_ f2_ f3_; subst f4_; subst f5_))
          refine hK.out _ _ (((hC HB hw188_0 :))) (fun hHeld => ?_)
          clear hK K
          refine nO (some 49) ?_
          refine oI 10 (some 50) HT_.out (fun K hK => ?_)
          refine gO Try.func31 #[.slice Ao28 x3_1.length co28, .slice Ao29 t191.length co29] ?_
          with_reducible refine (spec_PolyAdd.calls k2 _ _ x3_1 _ _ t191 t194 _ ?side1 ?side2 ?side3 ?side4 A24.out).mono ?_
          (case side1 => exact cP ((Kd.R_reads' HO_3.out).2.2))
          (case side2 => exact (Kd.R_reads' HO_3.out).2.1)
          (case side3 => exact cP ((Kd.R_reads' HO193.out).2.2))
          (case side4 => exact (Kd.R_reads' HO193.out).2.1)
          rintro e w30 ⟨v195, rfl, ho0, hb⟩
          refine ⟨_, rfl, ?_⟩
          have HO196 := Aside0.mk (Kd.R_lower (Kd.R_new' (Kd.R_new' (Kd.R_new' ho0 (Kd.R_lt (rP HO_3))) (Kd.R_lt (rP HO_5))) (Kd.R_lt (rP HO193))) (below_size (bZ HB)))
          replace HO_3 := Aside0.mk (Kd.R_elder' (rP HO_3) (Kd.R_base ho0) hb)
          replace HO_5 := Aside0.mk (Kd.R_elder' (rP HO_5) (Kd.R_base ho0) hb)
          replace HO193 := Aside0.mk (Kd.R_elder' (rP HO193) (Kd.R_base ho0) hb)
          replace HB := bS HB hb
          (try clear hb)
          (try clear ho0)
          refine hK.out _ _ (((hC HB hw188_0 :))) (fun hHeld => ?_)
          clear hK K
          refine nO (some 50) ?_
          refine pI 11 (some 3) HT_.out ?_
          refine done_ (done_of HT_.out (by kernel_rfl)) ?_
          try go_wp2
          go_roundg k2
          case measure => have := HK1.out; have := HK2.out; omega
          case rel => exact ⟨(t194), (wrap64 (x4_1 + 1)), rS, H', ⟨by have := HK1.out; have := HK2.out; omega⟩, ⟨by (with_reducible repeat (first | apply Kd.R_alloc | apply Kd.R_drewN | apply Kd.R_drew)); exact Kd.R_mono HO196.out (fun _ hk => trivial)⟩, ⟨bZ HB⟩⟩
         ·rw [if_neg c20] at H
          exact absurd H (by simp)
        ·rw [if_neg c19] at H
         exact absurd H (by simp)
    ·rw [if_neg c7] at H
     have c7b0 := decide_eq_false c7
     clear c7
     obtain rfl := Option.some.inj H
     go_wp2
     go_ret
     exact ⟨_, by first | rfl | (simp [errW_none, errW_some] <;> rfl) | (simp [*, errW_none, errW_some] <;> rfl), by (with_reducible repeat (first | apply Kd.R_alloc | apply Kd.R_drewN | apply Kd.R_drew)); exact HO_3.out, bZ HB⟩

end Go.Proofs.Ytcnejiflpioaiaa.Pf
end
section
namespace Go.Proofs.Ytcnejiflpioaiaa.Pf
open Go.RowKit Go.Proofs.YtcnejiflpioaiaaW.PrintWords Go.Proofs.YtcnejiflpioaiaaW.PrintLast Go.Proofs.YtcnejiflpioaiaaW.PrintMore
attribute [local go_sem] max2_int min2_int max_two min_two max_three min_three max_four min_four   -- for this text's walks alone
set_option linter.unusedVariables false
set_option linter.unusedSimpArgs false
/-! ### spec_l01In: function 70 -/
def spec_l01In.f (a0 : Int) (a1 : Int) (a2 : Int) : Option (Bool) := if a0 ≥ a1 then (some (decide (a0 ≤ a2))) else (some false)
set_option maxHeartbeats 8000000 in
set_option maxRecDepth 100000 in
theorem spec_l01In.calls (a0 : Int) (a1 : Int) (a2 : Int) (r : Bool) (w : World) (h : spec_l01In.f a0 a1 a2 = some r) :
  Calls Try.prog 70 #[.int .i64 a0, .int .i64 a1, .int .i64 a2] w fun e w' => e = .returned (.bool r) ∧ Drawn0 w w' := by
 have H : (if a0 ≥ a1 then (some (decide (a0 ≤ a2))) else (some false)) = some r := h
 clear h
 by_cases c4 : a0 ≥ a1
 ·rw [if_pos c4] at H
  have c4b0 := decide_eq_true c4
  clear c4
  obtain rfl := Option.some.inj H
  go_enter Try.func70, Try.ntmps70
  go_wp2
  go_ret
  exact ⟨rS, rD⟩
 ·rw [if_neg c4] at H
  have c4b0 := decide_eq_false c4
  clear c4
  obtain rfl := Option.some.inj H
  go_enter Try.func70, Try.ntmps70
  go_wp2
  go_ret
  exact ⟨rS, rD⟩
/-! ### spec_l13Wide: function 95 -/
def spec_l13Wide.l0 : Nat → List Int → Int → Int → Option (Bool)
 | 0, _, _, _ => none
 | k + 1, x0, x1, x5 => if x5 < (x0.length : Int) then (if 0 ≤ x5 then ((spec_l01In.f (rd x0 x5) 0 1008).bind fun t198 => (if t198 = true then (spec_l13Wide.l0 k x0 x1 (wrap64 (x5 + 1))) else (some false))) else (none)) else (some ((x0.length : Int) == x1))
def spec_l13Wide.f (k : Nat) (l0 : List Int) (a1 : Int) : Option (Bool) := spec_l13Wide.l0 k l0 a1 0
theorem spec_l13Wide.mono_l : ∀ k, (∀ y0 y1 y2, LeO (spec_l13Wide.l0 k y0 y1 y2) (spec_l13Wide.l0 (k + 1) y0 y1 y2))
 | 0 => fun _ _ _ r h => by simp [spec_l13Wide.l0] at h
 | k + 1 => by
  have ih0 := spec_l13Wide.mono_l k
  ·intro y0 y1 y2
   unfold spec_l13Wide.l0
   with_reducible repeat' first | exact ih0 _ _ _ | exact LeO.refl _ | exact LeO.none _ | refine LeO.ite ?_ ?_ | refine LeO.bind ?_ (fun _ => ?_)
theorem spec_l13Wide.mono : ∀ a0 a1 k, LeO (spec_l13Wide.f k a0 a1) (spec_l13Wide.f (k + 1) a0 a1) := by
 intro a0 a1 k
 have ih0 := spec_l13Wide.mono_l k
 unfold spec_l13Wide.f
 with_reducible repeat' first | exact ih0 _ _ _ | exact LeO.refl _ | exact LeO.none _ | refine LeO.ite ?_ ?_ | refine LeO.bind ?_ (fun _ => ?_)
set_option maxHeartbeats 8000000 in
set_option maxRecDepth 100000 in
theorem spec_l13Wide.calls (k : Nat) (A0 : Option Addr) (c0 : Nat) (l0 : List Int) (a1 : Int) (r : Bool) (w : World) (hr0 : Kd.C (Kd.int .i64) w A0 l0.length l0) (hc0 : l0.length ≤ c0) (h : spec_l13Wide.f k l0 a1 = some r) :
  Calls Try.prog 95 #[.slice A0 l0.length c0, .int .i64 a1] w fun e w' => e = .returned (.bool r) ∧ Drawn0 w w' := by
 have HR0 := Aside0.mk hr0
 have HC0 := Aside0.mk hc0
 clear hr0 hc0
 have H : (spec_l13Wide.l0 k l0 a1 0) = some r := h
 clear h
 have H' := Aside0.mk H
 clear H
 go_enter Try.func95, Try.ntmps95
 go_wp2
 go_loopg [5] k (fun kq v5 w' => ∃ (x5_1 : Int), v5 = .int .i64 x5_1 ∧ Aside0 (spec_l13Wide.l0 kq l0 a1 x5_1 = some r) ∧ Aside0 (kq ≤ k) ∧ Drawn0 w w')
 case atStart => exact ⟨(0), rS, H', ⟨Nat.le_refl _⟩, by repeat (first | exact Drawn0.refl _ | apply Drawn0.step)⟩
 case round =>
  clear H'
  try clear p2
  obtain ⟨x5_1, rfl, HA, HK1, ⟨m1, rfl⟩⟩ := hrel
  cases gk with
  | zero => exact absurd HA.out (by simp [spec_l13Wide.l0])
  | succ k1 =>
   have H := HA.out
   clear HA
   simp only [spec_l13Wide.l0] at H
   by_cases c3 : x5_1 < (l0.length : Int)
   ·rw [if_pos c3] at H
    have c3b0 := decide_eq_true c3
    clear c3
    by_cases c4 : 0 ≤ x5_1
    ·rw [if_pos c4] at H
     have c4b0 := decide_eq_true c4
     clear c4
     replace H := Option.bind_eq_some_iff.mp H
     obtain ⟨t198, A50, H⟩ := H
     have A5 := Aside0.mk A50
     clear A50
     by_cases c6 : t198 = true
     ·subst c6
      rw [if_pos rfl] at H
      have H' := Aside0.mk H
      clear H
      have p197 : 0 ≤ (x5_1 : Int) := of_decide_eq_true (by first | (with_reducible assumption) | assumption)
      have q197 : x5_1 < (l0.length : Int) := of_decide_eq_true (by first | (with_reducible assumption) | assumption)
      obtain ⟨ad197, e197, hx197_0⟩ := Kd.at_int HR0.out x5_1 p197 q197
      cases e197
      replace p197 := eq_true p197
      replace q197 := eq_true q197
      go_wp2_with (first | (refine gC (some 16) Try.func70 #[.int .i64 (rd l0 x5_1), .int .i64 0, .int .i64 1008] ?_; (with_reducible refine (spec_l01In.calls (rd l0 x5_1) 0 1008 true _ A5.out).mono ?_); rintro e w' ⟨rfl, ⟨nd, rfl⟩⟩; refine ⟨_, rfl, ?_⟩))
      go_roundg k1
      case measure => have := HK1.out; omega
      case rel => exact ⟨(wrap64 (x5_1 + 1)), rS, H', ⟨by have := HK1.out; omega⟩, by repeat (first | exact Drawn0.refl _ | apply Drawn0.step)⟩
     ·replace c6 := Bool.eq_false_iff.mpr c6
      subst c6
      rw [if_neg (show ¬ (false = true) by decide)] at H
      obtain rfl := Option.some.inj H
      have p197 : 0 ≤ (x5_1 : Int) := of_decide_eq_true (by first | (with_reducible assumption) | assumption)
      have q197 : x5_1 < (l0.length : Int) := of_decide_eq_true (by first | (with_reducible assumption) | assumption)
      obtain ⟨ad197, e197, hx197_0⟩ := Kd.at_int HR0.out x5_1 p197 q197
      cases e197
      replace p197 := eq_true p197
      replace q197 := eq_true q197
      go_wp2_with (first | (refine gC (some 16) Try.func70 #[.int .i64 (rd l0 x5_1), .int .i64 0, .int .i64 1008] ?_; (with_reducible refine (spec_l01In.calls (rd l0 x5_1) 0 1008 false _ A5.out).mono ?_); rintro e w' ⟨rfl, ⟨nd, rfl⟩⟩; refine ⟨_, rfl, ?_⟩))
      go_ret
      exact ⟨rS, rD⟩
    ·rw [if_neg c4] at H
     exact absurd H (by simp)
   ·rw [if_neg c3] at H
    have c3b0 := decide_eq_false c3
    clear c3
    obtain rfl := Option.some.inj H
    go_wp2
    go_ret
    exact ⟨rS, rD⟩
end Go.Proofs.Ytcnejiflpioaiaa.Pf
end
section
namespace Go.Proofs.Ytcnejiflpioaiaa.Pf
open Go.RowKit Go.Proofs.YtcnejiflpioaiaaW.PrintWords Go.Proofs.YtcnejiflpioaiaaW.PrintLast Go.Proofs.YtcnejiflpioaiaaW.PrintMore
attribute [local go_sem] max2_int min2_int max_two min_two max_three min_three max_four min_four   -- for this text's walks alone
set_option linter.unusedVariables false
set_option linter.unusedSimpArgs false

/-! ### spec_SystemOk: function 81 -/
mutual
def spec_SystemOk.j0 : Nat → Bool → Int → Int → List (S40) → Option (Bool)
 | 0, _, _, _, _ => none
 | k + 1, x23, x200000, x200001, x200002 => if x23 = true then (some false) else (spec_SystemOk.l0 k 0 x200000 x200001 x200002)
def spec_SystemOk.l0 : Nat → Int → Int → Int → List (S40) → Option (Bool)
 | 0, _, _, _, _ => none
 | k + 1, x3, x200000, x200001, x200002 => if x3 < (x200002.length : Int) then (if 0 ≤ x3 then ((spec_l13Wide.f k ((rd_T40 x200002 x3).f0) x200000).bind fun t204 => (if t204 = true then ((spec_l13Wide.f k ((rd_T40 x200002 x3).f1) x200000).bind fun t206 => (if t206 = true then ((spec_l13Wide.f k ((rd_T40 x200002 x3).f2) x200000).bind fun t208 => (if t208 = true then (spec_SystemOk.l0 k (wrap64 (x3 + 1)) x200000 x200001 x200002) else (some false))) else (some false))) else (some false))) else (none)) else (some true)
end
def spec_SystemOk.f (k : Nat) (a0_0 : Int) (a0_1 : Int) (l0_2 : List (S40)) : Option (Bool) := (spec_l01In.f a0_0 1 20).bind fun t200 => (if t200 = true then ((spec_l01In.f a0_1 0 (wrap64 (a0_0 - 1))).bind fun t201 => (if t201 = true then ((spec_l01In.f (l0_2.length : Int) 1 16).bind fun t202 => (spec_SystemOk.j0 k (!t202) a0_0 a0_1 l0_2)) else (spec_SystemOk.j0 k true a0_0 a0_1 l0_2))) else (spec_SystemOk.j0 k true a0_0 a0_1 l0_2))
theorem spec_SystemOk.mono_l : ∀ k, (∀ y0 y1 y2 y3, LeO (spec_SystemOk.j0 k y0 y1 y2 y3) (spec_SystemOk.j0 (k + 1) y0 y1 y2 y3)) ∧ (∀ y0 y1 y2 y3, LeO (spec_SystemOk.l0 k y0 y1 y2 y3) (spec_SystemOk.l0 (k + 1) y0 y1 y2 y3))
 | 0 => ⟨fun _ _ _ _ r h => by simp [spec_SystemOk.j0] at h, fun _ _ _ _ r h => by simp [spec_SystemOk.l0] at h⟩
 | k + 1 => by
  obtain ⟨ih0, ih1⟩ := spec_SystemOk.mono_l k
  refine ⟨?_, ?_⟩
  ·intro y0 y1 y2 y3
   unfold spec_SystemOk.j0
   with_reducible repeat' first | exact ih0 _ _ _ _ | exact ih1 _ _ _ _ | exact spec_l13Wide.mono _ _ _ | exact LeO.refl _ | exact LeO.none _ | refine LeO.ite ?_ ?_ | refine LeO.bind ?_ (fun _ => ?_)
  ·intro y0 y1 y2 y3
   unfold spec_SystemOk.l0
   with_reducible repeat' first | exact ih0 _ _ _ _ | exact ih1 _ _ _ _ | exact spec_l13Wide.mono _ _ _ | exact LeO.refl _ | exact LeO.none _ | refine LeO.ite ?_ ?_ | refine LeO.bind ?_ (fun _ => ?_)
theorem spec_SystemOk.mono : ∀ a0 a1 a2 k, LeO (spec_SystemOk.f k a0 a1 a2) (spec_SystemOk.f (k + 1) a0 a1 a2) := by
 intro a0 a1 a2 k
 obtain ⟨ih0, ih1⟩ := spec_SystemOk.mono_l k
 unfold spec_SystemOk.f
 with_reducible repeat' first | exact ih0 _ _ _ _ | exact ih1 _ _ _ _ | exact spec_l13Wide.mono _ _ _ | exact LeO.refl _ | exact LeO.none _ | refine LeO.ite ?_ ?_ | refine LeO.bind ?_ (fun _ => ?_)
def spec_SystemOk.T6 : Bool × List (List Nat × List Nat) := (true, [([], []), ([0], [0]), ([], []), ([1, 2], [1, 2]), ([3], [3]), ([4], [4]), ([], []), ([6], [6]), ([5, 7], [5, 7]), ([8], [8]), ([9, 8], [9]), ([10], [10]), ([11, 10], [10, 11]), ([10], [10]), ([12, 13, 10], [10, 12, 13]), ([14, 10], [10, 14]), ([15, 10], [10, 15]), ([10], [10]), ([17, 10], [10, 17]), ([16, 18, 10, 10], [10, 16, 18]), ([19, 10], [10, 19]), ([10, 20], [10, 20]), ([21, 19], [21]), ([22], [22]), ([23, 22], [22, 23]), ([22], [22]), ([24, 25, 22], [22, 24, 25]), ([26, 22], [22, 26]), ([27, 22], [22, 27]), ([22], [22]), ([29, 22], [22, 29]), ([28, 30, 22, 22], [22, 28, 30]), ([31, 22], [22, 31]), ([22, 32], [22, 32])])
def spec_SystemOk.B6 : List Nat := [0, 1, 0, 7, 15, 31, 0, 64, 255, 511, 1023, 2047, 4095, 2047, 16383, 32767, 65535, 2047, 133119, 524287, 1048575, 2097151, 4194303, 8388607, 16777215, 8388607, 67108863, 134217727, 268435455, 8388607, 545259519, 2147483647, 4294967295, 8589934591]
theorem spec_SystemOk.tab6 : rtab .any (opsOf Try.f81 6) = spec_SystemOk.T6 := by kernel_rfl
theorem spec_SystemOk.bits6 : waitsOk spec_SystemOk.T6.2 spec_SystemOk.B6 = true := by kernel_rfl
set_option maxHeartbeats 8000000 in
set_option maxRecDepth 100000 in
theorem spec_SystemOk.calls (k : Nat) (a0_0 : Int) (a0_1 : Int) (A0_2 : Option Addr) (c0_2 : Nat) (l0_2 : List (S40)) (r : Bool) (w : World) (hr0_2 : Kd.C k40 w A0_2 l0_2.length l0_2) (hc0_2 : l0_2.length ≤ c0_2) (h : spec_SystemOk.f k a0_0 a0_1 l0_2 = some r) :
  Calls Try.prog 81 #[.agg #[.int .i64 a0_0, .int .i64 a0_1, .slice A0_2 l0_2.length c0_2]] w fun e w' => e = .returned (.bool r) ∧ Below w.heap.size w w' := by
 have hu32 := Try.underlying32
 have HR0_2 := Aside0.mk hr0_2
 have HC0_2 := Aside0.mk hc0_2
 clear hr0_2 hc0_2
 have HB := Aside0.mk (Below.refl w.heap.size w)
 have H : ((spec_l01In.f a0_0 1 20).bind fun t200 => (if t200 = true then ((spec_l01In.f a0_1 0 (wrap64 (a0_0 - 1))).bind fun t201 => (if t201 = true then ((spec_l01In.f (l0_2.length : Int) 1 16).bind fun t202 => (spec_SystemOk.j0 k (!t202) a0_0 a0_1 l0_2)) else (spec_SystemOk.j0 k true a0_0 a0_1 l0_2))) else (spec_SystemOk.j0 k true a0_0 a0_1 l0_2))) = some r := h
 clear h
 have HC2 := Aside0.mk H
 clear H
 go_enter Try.func81, Try.ntmps81
 go_upto_region 1 with (first | ((with_reducible refine gate_dst (N := 1) rfl ?_); (try (refine gate_guard (by rfl) ?_; dsimp only)); refine box_event ?hg (N := 1) ?hd (cs := #[.int .i64 a0_0, .int .i64 a0_1, .slice A0_2 l0_2.length c0_2]) (t := 32) ?hr ?_; (case hd => rfl); (case hg => rfl); (case hr => first | (go_simp; done) | (go_simp; rfl)); intro gb199 hg w3 hbox hb; have BK199 := Aside0.mk (hbox); have GW199 := bG HB hg; replace HB := bS HB hb; clear hb hbox hg))
 (try simp only [Act.put, List.setIfInBounds_toArray, List.set_cons_zero, List.set_cons_succ])
 go_cut [23] (fun v23 wc => ∃ (kq : Nat) (x23_1 : Bool), v23 = .bool x23_1 ∧ Aside0 (spec_SystemOk.j0 kq x23_1 a0_0 a0_1 l0_2 = some r) ∧ Aside0 (kq ≤ k) ∧ Aside0 (wc.heap[gb199]? = some (.cells #[.int .i64 a0_0, .int .i64 a0_1, (.slice A0_2 l0_2.length c0_2)] 32 (0, 0))) ∧ Aside0 (Below w.heap.size w wc))
 case first =>
  have H := HC2.out
  clear HC2
  replace H := Option.bind_eq_some_iff.mp H
  obtain ⟨t200, A40, H⟩ := H
  have A4 := Aside0.mk A40
  clear A40
  by_cases c5 : t200 = true
  ·subst c5
   rw [if_pos rfl] at H
   replace H := Option.bind_eq_some_iff.mp H
   obtain ⟨t201, A60, H⟩ := H
   have A6 := Aside0.mk A60
   clear A60
   by_cases c7 : t201 = true
   ·subst c7
    rw [if_pos rfl] at H
    replace H := Option.bind_eq_some_iff.mp H
    obtain ⟨t202, A80, H⟩ := H
    have A8 := Aside0.mk A80
    clear A80
    have H' := Aside0.mk H
    clear H
    obtain ⟨hcz9_0, hcz9_1, hcz9_2, hfz9_0, hfz9_1, hfz9_2⟩ := bK3 (w := w3) BK199
    go_wp2_with (first | (refine gC (some 6) Try.func70 #[.int .i64 a0_0, .int .i64 1, .int .i64 20] ?_; (with_reducible refine (spec_l01In.calls a0_0 1 20 true _ A4.out).mono ?_); rintro e w' ⟨rfl, ⟨nd, rfl⟩⟩; refine ⟨_, rfl, ?_⟩) | (go_at_call 70; (with_reducible refine (spec_l01In.calls a0_1 0 (wrap64 (a0_0 - 1)) true _ A6.out).mono ?_); rintro e w' ⟨rfl, ⟨nd, rfl⟩⟩) | (go_at_call 70; (with_reducible refine (spec_l01In.calls (l0_2.length : Int) 1 16 t202 _ A8.out).mono ?_); rintro e w' ⟨rfl, ⟨nd, rfl⟩⟩))
    go_meet
    case rel => exact ⟨_, (!t202), rS, H', ⟨by first | omega | exact Nat.le_refl _⟩, ⟨bP BK199⟩, ⟨bZ HB⟩⟩
   ·replace c7 := Bool.eq_false_iff.mpr c7
    subst c7
    rw [if_neg (show ¬ (false = true) by decide)] at H
    have H' := Aside0.mk H
    clear H
    obtain ⟨hcz10_0, hcz10_1, hcz10_2, hfz10_0, hfz10_1, hfz10_2⟩ := bK3 (w := w3) BK199
    go_wp2_with (first | (refine gC (some 6) Try.func70 #[.int .i64 a0_0, .int .i64 1, .int .i64 20] ?_; (with_reducible refine (spec_l01In.calls a0_0 1 20 true _ A4.out).mono ?_); rintro e w' ⟨rfl, ⟨nd, rfl⟩⟩; refine ⟨_, rfl, ?_⟩) | (go_at_call 70; (with_reducible refine (spec_l01In.calls a0_1 0 (wrap64 (a0_0 - 1)) false _ A6.out).mono ?_); rintro e w' ⟨rfl, ⟨nd, rfl⟩⟩))
    go_meet
    case rel => exact ⟨_, (true), rS, H', ⟨by first | omega | exact Nat.le_refl _⟩, ⟨bP BK199⟩, ⟨bZ HB⟩⟩
  ·replace c5 := Bool.eq_false_iff.mpr c5
   subst c5
   rw [if_neg (show ¬ (false = true) by decide)] at H
   have H' := Aside0.mk H
   clear H
   obtain ⟨hcz11_0, hcz11_1, hcz11_2, hfz11_0, hfz11_1, hfz11_2⟩ := bK3 (w := w3) BK199
   go_wp2_with (first | (refine gC (some 6) Try.func70 #[.int .i64 a0_0, .int .i64 1, .int .i64 20] ?_; (with_reducible refine (spec_l01In.calls a0_0 1 20 false _ A4.out).mono ?_); rintro e w' ⟨rfl, ⟨nd, rfl⟩⟩; refine ⟨_, rfl, ?_⟩))
   go_meet
   case rel => exact ⟨_, (true), rS, H', ⟨by first | omega | exact Nat.le_refl _⟩, ⟨bP BK199⟩, ⟨bZ HB⟩⟩
 case rest =>
  clear HC2
  try clear p2
  try clear c5
  try clear p6
  try clear c7
  try clear c8
  try clear hcz10_0
  try clear hcz10_1
  try clear hcz10_2
  try clear hcz11_0
  try clear hcz11_1
  try clear hcz11_2
  try clear hcz9_0
  try clear hcz9_1
  try clear hcz9_2
  try clear hfz10_0
  try clear hfz10_1
  try clear hfz10_2
  try clear hfz11_0
  try clear hfz11_1
  try clear hfz11_2
  try clear hfz9_0
  try clear hfz9_1
  try clear hfz9_2
  obtain ⟨kq, x23_1, rfl, HA, HJ1, BK199, HB⟩ := hcut
  cases kq with
  | zero => exact absurd HA.out (by simp [spec_SystemOk.j0])
  | succ kj1 =>
   have H := HA.out
   clear HA
   simp only [spec_SystemOk.j0] at H
   by_cases c12 : x23_1 = true
   ·subst c12
    rw [if_pos rfl] at H
    obtain rfl := Option.some.inj H
    go_wp2
    go_ret
    exact ⟨rR, bZ HB⟩
   ·replace c12 := Bool.eq_false_iff.mpr c12
    subst c12
    rw [if_neg (show ¬ (false = true) by decide)] at H
    have H' := Aside0.mk H
    clear H
    go_wp2
    go_loopg [3] kj1 (fun kq v3 w' => ∃ (x3_2 : Int), v3 = .int .i64 x3_2 ∧ Aside0 (spec_SystemOk.l0 kq x3_2 a0_0 a0_1 l0_2 = some r) ∧ Aside0 (kq ≤ kj1) ∧ Aside0 (w'.heap[gb199]? = some (.cells #[.int .i64 a0_0, .int .i64 a0_1, (.slice A0_2 l0_2.length c0_2)] 32 (0, 0))) ∧ Aside0 (Below w.heap.size w w'))
    case atStart => exact ⟨(0), rS, H', ⟨Nat.le_refl _⟩, ⟨bP BK199⟩, ⟨bZ HB⟩⟩
    case round =>
     clear H'
     try clear c1
     try clear p2
     try clear c5
     try clear p6
     try clear c7
     try clear c8
     try clear c12
     try clear hcz10_0
     try clear hcz10_1
     try clear hcz10_2
     try clear hcz11_0
     try clear hcz11_1
     try clear hcz11_2
     try clear hcz9_0
     try clear hcz9_1
     try clear hcz9_2
     try clear hfz10_0
     try clear hfz10_1
     try clear hfz10_2
     try clear hfz11_0
     try clear hfz11_1
     try clear hfz11_2
     try clear hfz9_0
     try clear hfz9_1
     try clear hfz9_2
     try clear p2
     try clear p6
     obtain ⟨x3_2, rfl, HA, HK2, BK199, HB⟩ := hrel
     cases gk with
     | zero => exact absurd HA.out (by simp [spec_SystemOk.l0])
     | succ k2 =>
      have H := HA.out
      clear HA
      simp only [spec_SystemOk.l0] at H
      by_cases c13 : x3_2 < (l0_2.length : Int)
      ·rw [if_pos c13] at H
       have c13b0 := decide_eq_true c13
       clear c13
       by_cases c14 : 0 ≤ x3_2
       ·rw [if_pos c14] at H
        have c14b0 := decide_eq_true c14
        clear c14
        replace H := Option.bind_eq_some_iff.mp H
        obtain ⟨t204, A150, H⟩ := H
        have A15 := Aside0.mk A150
        clear A150
        by_cases c16 : t204 = true
        ·subst c16
         rw [if_pos rfl] at H
         replace H := Option.bind_eq_some_iff.mp H
         obtain ⟨t206, A170, H⟩ := H
         have A17 := Aside0.mk A170
         clear A170
         by_cases c18 : t206 = true
         ·subst c18
          rw [if_pos rfl] at H
          replace H := Option.bind_eq_some_iff.mp H
          obtain ⟨t208, A190, H⟩ := H
          have A19 := Aside0.mk A190
          clear A190
          by_cases c20 : t208 = true
          ·subst c20
           rw [if_pos rfl] at H
           have H' := Aside0.mk H
           clear H
           obtain ⟨hcz21_0, hcz21_1, hcz21_2, hfz21_0, hfz21_1, hfz21_2⟩ := bK3 (w := wr) BK199
           try go_wp2
           replace BK199 := Aside0.mk (blk_drew BK199.out)
           replace HB := Aside0.mk (below_drew1 HB.out)
           have p203 : 0 ≤ (x3_2 : Int) := of_decide_eq_true (by first | (with_reducible assumption) | assumption)
           have q203 : x3_2 < (l0_2.length : Int) := of_decide_eq_true (by first | (with_reducible assumption) | assumption)
           obtain ⟨ad203, A203_0, c203_0, A203_1, c203_1, A203_2, c203_2, e203, hx203_0, hx203_1, hx203_2, hl203_0, hi203_0, hl203_1, hi203_1, hl203_2, hi203_2⟩ := at_T40 HR0_2.out x3_2 p203 q203
           have hw203_2 := hx203_2
           have hw203_1 := hx203_1
           have hw203_0 := hx203_0
           cases e203
           replace hx203_0 := (hC HB hx203_0 :)
           replace hx203_1 := (hC HB hx203_1 :)
           replace hx203_2 := (hC HB hx203_2 :)
           have HR203_0 := Aside0.mk hi203_0
           have HC203_0 := Aside0.mk hl203_0
           clear hi203_0 hl203_0
           have HR203_1 := Aside0.mk hi203_1
           have HC203_1 := Aside0.mk hl203_1
           clear hi203_1 hl203_1
           have HR203_2 := Aside0.mk hi203_2
           have HC203_2 := Aside0.mk hl203_2
           clear hi203_2 hl203_2
           replace p203 := eq_true p203
           replace q203 := eq_true q203
           have p205 : 0 ≤ (x3_2 : Int) := of_decide_eq_true (by first | (with_reducible assumption) | assumption)
           have q205 : x3_2 < (l0_2.length : Int) := of_decide_eq_true (by first | (with_reducible assumption) | assumption)
           obtain ⟨ad205, A205_0, c205_0, A205_1, c205_1, A205_2, c205_2, e205, hx205_0, hx205_1, hx205_2, hl205_0, hi205_0, hl205_1, hi205_1, hl205_2, hi205_2⟩ := at_T40 HR0_2.out x3_2 p205 q205
           have hw205_2 := hx205_2
           have hw205_1 := hx205_1
           have hw205_0 := hx205_0
           obtain rfl : ad203 = ad205 := (by injection e205)
           replace hx205_0 := (hC HB hx205_0 :)
           replace hx205_1 := (hC HB hx205_1 :)
           replace hx205_2 := (hC HB hx205_2 :)
           have HR205_0 := Aside0.mk hi205_0
           have HC205_0 := Aside0.mk hl205_0
           clear hi205_0 hl205_0
           have HR205_1 := Aside0.mk hi205_1
           have HC205_1 := Aside0.mk hl205_1
           clear hi205_1 hl205_1
           have HR205_2 := Aside0.mk hi205_2
           have HC205_2 := Aside0.mk hl205_2
           clear hi205_2 hl205_2
           replace p205 := eq_true p205
           replace q205 := eq_true q205
           have ea_ := Option.some.inj (hx203_0.symm.trans hx205_0)
           injection ea_ with ea_ en_ ec_
           subst ea_
           subst ec_
           clear en_
           have ea_ := Option.some.inj (hx203_1.symm.trans hx205_1)
           injection ea_ with ea_ en_ ec_
           subst ea_
           subst ec_
           clear en_
           have ea_ := Option.some.inj (hx203_2.symm.trans hx205_2)
           injection ea_ with ea_ en_ ec_
           subst ea_
           subst ec_
           clear en_
           have p207 : 0 ≤ (x3_2 : Int) := of_decide_eq_true (by first | (with_reducible assumption) | assumption)
           have q207 : x3_2 < (l0_2.length : Int) := of_decide_eq_true (by first | (with_reducible assumption) | assumption)
           obtain ⟨ad207, A207_0, c207_0, A207_1, c207_1, A207_2, c207_2, e207, hx207_0, hx207_1, hx207_2, hl207_0, hi207_0, hl207_1, hi207_1, hl207_2, hi207_2⟩ := at_T40 HR0_2.out x3_2 p207 q207
           have hw207_2 := hx207_2
           have hw207_1 := hx207_1
           have hw207_0 := hx207_0
           obtain rfl : ad203 = ad207 := (by injection e207)
           replace hx207_0 := (hC HB hx207_0 :)
           replace hx207_1 := (hC HB hx207_1 :)
           replace hx207_2 := (hC HB hx207_2 :)
           have HR207_0 := Aside0.mk hi207_0
           have HC207_0 := Aside0.mk hl207_0
           clear hi207_0 hl207_0
           have HR207_1 := Aside0.mk hi207_1
           have HC207_1 := Aside0.mk hl207_1
           clear hi207_1 hl207_1
           have HR207_2 := Aside0.mk hi207_2
           have HC207_2 := Aside0.mk hl207_2
           clear hi207_2 hl207_2
           replace p207 := eq_true p207
           replace q207 := eq_true q207
           have ea_ := Option.some.inj (hx203_0.symm.trans hx207_0)
           injection ea_ with ea_ en_ ec_
           subst ea_
           subst ec_
           clear en_
           have ea_ := Option.some.inj (hx203_1.symm.trans hx207_1)
           injection ea_ with ea_ en_ ec_
           subst ea_
           subst ec_
           clear en_
           have ea_ := Option.some.inj (hx203_2.symm.trans hx207_2)
           injection ea_ with ea_ en_ ec_
           subst ea_
           subst ec_
           clear en_
           refine start_ (n := 34) (S := fun w' => w'.cell? ⟨gb199, 0, none⟩ = some (.int .i64 a0_0) ∧ w'.cell? ⟨gb199, 1, none⟩ = some (.int .i64 a0_1) ∧ w'.cell? ⟨gb199, 2, none⟩ = some (.slice (some ad203) l0_2.length c0_2) ∧ w'.cell? (ad203.add ((x3_2).toNat * 3)) = some (.slice A203_0 ((rd_T40 l0_2 x3_2).f0).length c203_0) ∧ w'.cell? ⟨(ad203.add ((x3_2).toNat * 3)).block, (ad203.add ((x3_2).toNat * 3)).off + 1, none⟩ = some (.slice A203_1 ((rd_T40 l0_2 x3_2).f1).length c203_1) ∧ w'.cell? ⟨(ad203.add ((x3_2).toNat * 3)).block, (ad203.add ((x3_2).toNat * 3)).off + 2, none⟩ = some (.slice A203_2 ((rd_T40 l0_2 x3_2).f2).length c203_2) ∧ w'.cell? (ad203.add ((x3_2).toNat * 3)) = some (.slice A203_0 ((rd_T40 l0_2 x3_2).f0).length c203_0) ∧ w'.cell? ⟨(ad203.add ((x3_2).toNat * 3)).block, (ad203.add ((x3_2).toNat * 3)).off + 1, none⟩ = some (.slice A203_1 ((rd_T40 l0_2 x3_2).f1).length c203_1) ∧ w'.cell? ⟨(ad203.add ((x3_2).toNat * 3)).block, (ad203.add ((x3_2).toNat * 3)).off + 2, none⟩ = some (.slice A203_2 ((rd_T40 l0_2 x3_2).f2).length c203_2) ∧ w'.cell? (ad203.add ((x3_2).toNat * 3)) = some (.slice A203_0 ((rd_T40 l0_2 x3_2).f0).length c203_0) ∧ w'.cell? ⟨(ad203.add ((x3_2).toNat * 3)).block, (ad203.add ((x3_2).toNat * 3)).off + 1, none⟩ = some (.slice A203_1 ((rd_T40 l0_2 x3_2).f1).length c203_1) ∧ w'.cell? ⟨(ad203.add ((x3_2).toNat * 3)).block, (ad203.add ((x3_2).toNat * 3)).off + 2, none⟩ = some (.slice A203_2 ((rd_T40 l0_2 x3_2).f2).length c203_2)) (ds := []) #[false, false, false, false, false, false, false, false, false, false, false, false, false, false, false, false, false, false, false, false, false, false, false, false, false, false, false, false, false, false, false, false, false, false] (by kernel_rfl) rfl rfl ⟨bc BK199 0, bc BK199 1, bc BK199 2, ((hC HB hw203_0 :)), ((hC HB hw203_1 :)), ((hC HB hw203_2 :)), ((hC HB hw205_0 :)), ((hC HB hw205_1 :)), ((hC HB hw205_2 :)), ((hC HB hw207_0 :)), ((hC HB hw207_1 :)), ((hC HB hw207_2 :))⟩ (fun hHeld => ?_); refine with_tabW spec_SystemOk.tab6 spec_SystemOk.bits6 (fun HT_ HW_ => ?_)
           generalize wr.drew = w22 at BK199 HB HR203_0 HR203_1 HR203_2 HR205_0 HR205_1 HR205_2 HR207_0 HR207_1 HR207_2 hx203_0 hx203_1 hx203_2 hx205_0 hx205_1 hx205_2 hx207_0 hx207_1 hx207_2 hHeld ⊢
           refine pI 0 (some 31) HT_.out ?_
           refine pI 2 (some 33) HT_.out ?_
           refine pI 6 (some 37) HT_.out ?_
           refine tI12 1 (some 32) HT_.out HW_.out hHeld ?_
           refine pI 3 (some 34) HT_.out ?_
           refine pI 4 (some 35) HT_.out ?_
           refine tI12 5 (some 36) HT_.out HW_.out hHeld ?_
           refine tI12 7 (some 38) HT_.out HW_.out hHeld ?_
           refine oI 8 (some 39) HT_.out (fun K hK => ?_)
           refine gO Try.func95 #[.slice A203_0 ((rd_T40 l0_2 x3_2).f0).length c203_0, .int .i64 a0_0] ?_
           with_reducible refine (spec_l13Wide.calls k2 _ _ ((rd_T40 l0_2 x3_2).f0) a0_0 true _ ?side1 ?side2 A15.out).mono ?_
           (case side1 => exact cP (Kd.C_below HR203_0.out HB.out))
           (case side2 => exact HC203_0.out)
           rintro e w' ⟨rfl, ⟨nd, rfl⟩⟩
           refine ⟨_, rfl, ?_⟩
           refine hK.out _ _ ⟨bc BK199 0, bc BK199 1, bc BK199 2, ((hC HB hw203_0 :)), ((hC HB hw203_1 :)), ((hC HB hw203_2 :)), ((hC HB hw205_0 :)), ((hC HB hw205_1 :)), ((hC HB hw205_2 :)), ((hC HB hw207_0 :)), ((hC HB hw207_1 :)), ((hC HB hw207_2 :))⟩ (fun hHeld => ?_)
           clear hK K
           refine nO (some 39) ?_
           refine pI 9 (some 40) HT_.out ?_
           refine pI 10 (some 41) HT_.out ?_
           refine pI 11 (some 42) HT_.out ?_
           refine pI 13 (some 44) HT_.out ?_
           refine pI 17 (some 48) HT_.out ?_
           refine tI12 12 (some 43) HT_.out HW_.out hHeld ?_
           refine pI 14 (some 45) HT_.out ?_
           refine pI 15 (some 46) HT_.out ?_
           refine tI12 16 (some 47) HT_.out HW_.out hHeld ?_
           refine tI12 18 (some 49) HT_.out HW_.out hHeld ?_
           refine oI 19 (some 50) HT_.out (fun K hK => ?_)
           refine gO Try.func95 #[.slice A203_1 ((rd_T40 l0_2 x3_2).f1).length c203_1, .int .i64 a0_0] ?_
           with_reducible refine (spec_l13Wide.calls k2 _ _ ((rd_T40 l0_2 x3_2).f1) a0_0 true _ ?side1 ?side2 A17.out).mono ?_
           (case side1 => exact cP (Kd.C_below HR205_1.out (bZ HB)))
           (case side2 => exact HC205_1.out)
           rintro e w' ⟨rfl, ⟨nd, rfl⟩⟩
           refine ⟨_, rfl, ?_⟩
           refine hK.out _ _ ⟨bc BK199 0, bc BK199 1, bc BK199 2, ((hC HB hw203_0 :)), ((hC HB hw203_1 :)), ((hC HB hw203_2 :)), ((hC HB hw205_0 :)), ((hC HB hw205_1 :)), ((hC HB hw205_2 :)), ((hC HB hw207_0 :)), ((hC HB hw207_1 :)), ((hC HB hw207_2 :))⟩ (fun hHeld => ?_)
           clear hK K
           refine nO (some 50) ?_
           refine pI 20 (some 51) HT_.out ?_
           refine pI 21 (some 52) HT_.out ?_
           refine pI 22 (some 53) HT_.out ?_
           refine pI 23 (some 54) HT_.out ?_
           refine pI 25 (some 56) HT_.out ?_
           refine pI 29 (some 60) HT_.out ?_
           refine tI12 24 (some 55) HT_.out HW_.out hHeld ?_
           refine pI 26 (some 57) HT_.out ?_
           refine pI 27 (some 58) HT_.out ?_
           refine tI12 28 (some 59) HT_.out HW_.out hHeld ?_
           refine tI12 30 (some 61) HT_.out HW_.out hHeld ?_
           refine oI 31 (some 62) HT_.out (fun K hK => ?_)
           refine gO Try.func95 #[.slice A203_2 ((rd_T40 l0_2 x3_2).f2).length c203_2, .int .i64 a0_0] ?_
           with_reducible refine (spec_l13Wide.calls k2 _ _ ((rd_T40 l0_2 x3_2).f2) a0_0 true _ ?side1 ?side2 A19.out).mono ?_
           (case side1 => exact cP (Kd.C_below HR207_2.out (bZ HB)))
           (case side2 => exact HC207_2.out)
           rintro e w' ⟨rfl, ⟨nd, rfl⟩⟩
           refine ⟨_, rfl, ?_⟩
           refine hK.out _ _ ⟨bc BK199 0, bc BK199 1, bc BK199 2, ((hC HB hw203_0 :)), ((hC HB hw203_1 :)), ((hC HB hw203_2 :)), ((hC HB hw205_0 :)), ((hC HB hw205_1 :)), ((hC HB hw205_2 :)), ((hC HB hw207_0 :)), ((hC HB hw207_1 :)), ((hC HB hw207_2 :))⟩ (fun hHeld => ?_)
           clear hK K
           refine nO (some 62) ?_
           refine pI 32 (some 63) HT_.out ?_
           refine pI 33 (some 64) HT_.out ?_
           refine done_ (done_of HT_.out (by kernel_rfl)) ?_
           try go_wp2
           go_roundg k2
           case measure => have := HJ1.out; have := HK2.out; omega
           case rel => exact ⟨(wrap64 (x3_2 + 1)), rS, H', ⟨by have := HJ1.out; have := HK2.out; omega⟩, ⟨bP BK199⟩, ⟨bZ HB⟩⟩
          ·replace c20 := Bool.eq_false_iff.mpr c20
           subst c20
           rw [if_neg (show ¬ (false = true) by decide)] at H
           obtain rfl := Option.some.inj H
           obtain ⟨hcz23_0, hcz23_1, hcz23_2, hfz23_0, hfz23_1, hfz23_2⟩ := bK3 (w := wr) BK199
           try go_wp2
           replace BK199 := Aside0.mk (blk_drew BK199.out)
           replace HB := Aside0.mk (below_drew1 HB.out)
           have p203 : 0 ≤ (x3_2 : Int) := of_decide_eq_true (by first | (with_reducible assumption) | assumption)
           have q203 : x3_2 < (l0_2.length : Int) := of_decide_eq_true (by first | (with_reducible assumption) | assumption)
           obtain ⟨ad203, A203_0, c203_0, A203_1, c203_1, A203_2, c203_2, e203, hx203_0, hx203_1, hx203_2, hl203_0, hi203_0, hl203_1, hi203_1, hl203_2, hi203_2⟩ := at_T40 HR0_2.out x3_2 p203 q203
           have hw203_2 := hx203_2
           have hw203_1 := hx203_1
           have hw203_0 := hx203_0
           cases e203
           replace hx203_0 := (hC HB hx203_0 :)
           replace hx203_1 := (hC HB hx203_1 :)
           replace hx203_2 := (hC HB hx203_2 :)
           have HR203_0 := Aside0.mk hi203_0
           have HC203_0 := Aside0.mk hl203_0
           clear hi203_0 hl203_0
           have HR203_1 := Aside0.mk hi203_1
           have HC203_1 := Aside0.mk hl203_1
           clear hi203_1 hl203_1
           have HR203_2 := Aside0.mk hi203_2
           have HC203_2 := Aside0.mk hl203_2
           clear hi203_2 hl203_2
           replace p203 := eq_true p203
           replace q203 := eq_true q203
           have p205 : 0 ≤ (x3_2 : Int) := of_decide_eq_true (by first | (with_reducible assumption) | assumption)
           have q205 : x3_2 < (l0_2.length : Int) := of_decide_eq_true (by first | (with_reducible assumption) | assumption)
           obtain ⟨ad205, A205_0, c205_0, A205_1, c205_1, A205_2, c205_2, e205, hx205_0, hx205_1, hx205_2, hl205_0, hi205_0, hl205_1, hi205_1, hl205_2, hi205_2⟩ := at_T40 HR0_2.out x3_2 p205 q205
           have hw205_2 := hx205_2
           have hw205_1 := hx205_1
           have hw205_0 := hx205_0
           obtain rfl : ad203 = ad205 := (by injection e205)
           replace hx205_0 := (hC HB hx205_0 :)
           replace hx205_1 := (hC HB hx205_1 :)
           replace hx205_2 := (hC HB hx205_2 :)
           have HR205_0 := Aside0.mk hi205_0
           have HC205_0 := Aside0.mk hl205_0
           clear hi205_0 hl205_0
           have HR205_1 := Aside0.mk hi205_1
           have HC205_1 := Aside0.mk hl205_1
           clear hi205_1 hl205_1
           have HR205_2 := Aside0.mk hi205_2
           have HC205_2 := Aside0.mk hl205_2
           clear hi205_2 hl205_2
           replace p205 := eq_true p205
           replace q205 := eq_true q205
           have ea_ := Option.some.inj (hx203_0.symm.trans hx205_0)
           injection ea_ with ea_ en_ ec_
           subst ea_
           subst ec_
           clear en_
           have ea_ := Option.some.inj (hx203_1.symm.trans hx205_1)
           injection ea_ with ea_ en_ ec_
           subst ea_
           subst ec_
           clear en_
           have ea_ := Option.some.inj (hx203_2.symm.trans hx205_2)
           injection ea_ with ea_ en_ ec_
           subst ea_
           subst ec_
           clear en_
           have p207 : 0 ≤ (x3_2 : Int) := of_decide_eq_true (by first | (with_reducible assumption) | assumption)
           have q207 : x3_2 < (l0_2.length : Int) := of_decide_eq_true (by first | (with_reducible assumption) | assumption)
           obtain ⟨ad207, A207_0, c207_0, A207_1, c207_1, A207_2, c207_2, e207, hx207_0, hx207_1, hx207_2, hl207_0, hi207_0, hl207_1, hi207_1, hl207_2, hi207_2⟩ := at_T40 HR0_2.out x3_2 p207 q207
           have hw207_2 := hx207_2
           have hw207_1 := hx207_1
           have hw207_0 := hx207_0
           obtain rfl : ad203 = ad207 := (by injection e207)
           replace hx207_0 := (hC HB hx207_0 :)
           replace hx207_1 := (hC HB hx207_1 :)
           replace hx207_2 := (hC HB hx207_2 :)
           have HR207_0 := Aside0.mk hi207_0
           have HC207_0 := Aside0.mk hl207_0
           clear hi207_0 hl207_0
           have HR207_1 := Aside0.mk hi207_1
           have HC207_1 := Aside0.mk hl207_1
           clear hi207_1 hl207_1
           have HR207_2 := Aside0.mk hi207_2
           have HC207_2 := Aside0.mk hl207_2
           clear hi207_2 hl207_2
           replace p207 := eq_true p207
           replace q207 := eq_true q207
           have ea_ := Option.some.inj (hx203_0.symm.trans hx207_0)
           injection ea_ with ea_ en_ ec_
           subst ea_
           subst ec_
           clear en_
           have ea_ := Option.some.inj (hx203_1.symm.trans hx207_1)
           injection ea_ with ea_ en_ ec_
           subst ea_
           subst ec_
           clear en_
           have ea_ := Option.some.inj (hx203_2.symm.trans hx207_2)
           injection ea_ with ea_ en_ ec_
           subst ea_
           subst ec_
           clear en_
           refine start_ (n := 34) (S := fun w' => w'.cell? ⟨gb199, 0, none⟩ = some (.int .i64 a0_0) ∧ w'.cell? ⟨gb199, 1, none⟩ = some (.int .i64 a0_1) ∧ w'.cell? ⟨gb199, 2, none⟩ = some (.slice (some ad203) l0_2.length c0_2) ∧ w'.cell? (ad203.add ((x3_2).toNat * 3)) = some (.slice A203_0 ((rd_T40 l0_2 x3_2).f0).length c203_0) ∧ w'.cell? ⟨(ad203.add ((x3_2).toNat * 3)).block, (ad203.add ((x3_2).toNat * 3)).off + 1, none⟩ = some (.slice A203_1 ((rd_T40 l0_2 x3_2).f1).length c203_1) ∧ w'.cell? ⟨(ad203.add ((x3_2).toNat * 3)).block, (ad203.add ((x3_2).toNat * 3)).off + 2, none⟩ = some (.slice A203_2 ((rd_T40 l0_2 x3_2).f2).length c203_2) ∧ w'.cell? (ad203.add ((x3_2).toNat * 3)) = some (.slice A203_0 ((rd_T40 l0_2 x3_2).f0).length c203_0) ∧ w'.cell? ⟨(ad203.add ((x3_2).toNat * 3)).block, (ad203.add ((x3_2).toNat * 3)).off + 1, none⟩ = some (.slice A203_1 ((rd_T40 l0_2 x3_2).f1).length c203_1) ∧ w'.cell? ⟨(ad203.add ((x3_2).toNat * 3)).block, (ad203.add ((x3_2).toNat * 3)).off + 2, none⟩ = some (.slice A203_2 ((rd_T40 l0_2 x3_2).f2).length c203_2) ∧ w'.cell? (ad203.add ((x3_2).toNat * 3)) = some (.slice A203_0 ((rd_T40 l0_2 x3_2).f0).length c203_0) ∧ w'.cell? ⟨(ad203.add ((x3_2).toNat * 3)).block, (ad203.add ((x3_2).toNat * 3)).off + 1, none⟩ = some (.slice A203_1 ((rd_T40 l0_2 x3_2).f1).length c203_1) ∧ w'.cell? ⟨(ad203.add ((x3_2).toNat * 3)).block, (ad203.add ((x3_2).toNat * 3)).off + 2, none⟩ = some (.slice A203_2 ((rd_T40 l0_2 x3_2).f2).length c203_2)) (ds := []) #[false, false, false, false, false, false, false, false, false, false, false, false, false, false, false, false, false, false, false, false, false, false, false, false, false, false, false, false, false, false, false, false, false, false] (by kernel_rfl) rfl rfl ⟨bc BK199 0, bc BK199 1, bc BK199 2, ((hC HB hw203_0 :)), ((hC HB hw203_1 :)), ((hC HB hw203_2 :)), ((hC HB hw205_0 :)), ((hC HB hw205_1 :)), ((hC HB hw205_2 :)), ((hC HB hw207_0 :)), ((hC HB hw207_1 :)), ((hC HB hw207_2 :))⟩ (fun hHeld => ?_); refine with_tabW spec_SystemOk.tab6 spec_SystemOk.bits6 (fun HT_ HW_ => ?_)
           generalize wr.drew = w24 at BK199 HB HR203_0 HR203_1 HR203_2 HR205_0 HR205_1 HR205_2 HR207_0 HR207_1 HR207_2 hx203_0 hx203_1 hx203_2 hx205_0 hx205_1 hx205_2 hx207_0 hx207_1 hx207_2 hHeld ⊢
           refine pI 0 (some 31) HT_.out ?_
           refine pI 2 (some 33) HT_.out ?_
           refine pI 6 (some 37) HT_.out ?_
           refine tI12 1 (some 32) HT_.out HW_.out hHeld ?_
           refine pI 3 (some 34) HT_.out ?_
           refine pI 4 (some 35) HT_.out ?_
           refine tI12 5 (some 36) HT_.out HW_.out hHeld ?_
           refine tI12 7 (some 38) HT_.out HW_.out hHeld ?_
           refine oI 8 (some 39) HT_.out (fun K hK => ?_)
           refine gO Try.func95 #[.slice A203_0 ((rd_T40 l0_2 x3_2).f0).length c203_0, .int .i64 a0_0] ?_
           with_reducible refine (spec_l13Wide.calls k2 _ _ ((rd_T40 l0_2 x3_2).f0) a0_0 true _ ?side1 ?side2 A15.out).mono ?_
           (case side1 => exact cP (Kd.C_below HR203_0.out HB.out))
           (case side2 => exact HC203_0.out)
           rintro e w' ⟨rfl, ⟨nd, rfl⟩⟩
           refine ⟨_, rfl, ?_⟩
           refine hK.out _ _ ⟨bc BK199 0, bc BK199 1, bc BK199 2, ((hC HB hw203_0 :)), ((hC HB hw203_1 :)), ((hC HB hw203_2 :)), ((hC HB hw205_0 :)), ((hC HB hw205_1 :)), ((hC HB hw205_2 :)), ((hC HB hw207_0 :)), ((hC HB hw207_1 :)), ((hC HB hw207_2 :))⟩ (fun hHeld => ?_)
           clear hK K
           refine nO (some 39) ?_
           refine pI 9 (some 40) HT_.out ?_
           refine pI 10 (some 41) HT_.out ?_
           refine pI 11 (some 42) HT_.out ?_
           refine pI 13 (some 44) HT_.out ?_
           refine pI 17 (some 48) HT_.out ?_
           refine tI12 12 (some 43) HT_.out HW_.out hHeld ?_
           refine pI 14 (some 45) HT_.out ?_
           refine pI 15 (some 46) HT_.out ?_
           refine tI12 16 (some 47) HT_.out HW_.out hHeld ?_
           refine tI12 18 (some 49) HT_.out HW_.out hHeld ?_
           refine oI 19 (some 50) HT_.out (fun K hK => ?_)
           refine gO Try.func95 #[.slice A203_1 ((rd_T40 l0_2 x3_2).f1).length c203_1, .int .i64 a0_0] ?_
           with_reducible refine (spec_l13Wide.calls k2 _ _ ((rd_T40 l0_2 x3_2).f1) a0_0 true _ ?side1 ?side2 A17.out).mono ?_
           (case side1 => exact cP (Kd.C_below HR205_1.out (bZ HB)))
           (case side2 => exact HC205_1.out)
           rintro e w' ⟨rfl, ⟨nd, rfl⟩⟩
           refine ⟨_, rfl, ?_⟩
           refine hK.out _ _ ⟨bc BK199 0, bc BK199 1, bc BK199 2, ((hC HB hw203_0 :)), ((hC HB hw203_1 :)), ((hC HB hw203_2 :)), ((hC HB hw205_0 :)), ((hC HB hw205_1 :)), ((hC HB hw205_2 :)), ((hC HB hw207_0 :)), ((hC HB hw207_1 :)), ((hC HB hw207_2 :))⟩ (fun hHeld => ?_)
           clear hK K
           refine nO (some 50) ?_
           refine pI 20 (some 51) HT_.out ?_
           refine pI 21 (some 52) HT_.out ?_
           refine pI 22 (some 53) HT_.out ?_
           refine pI 23 (some 54) HT_.out ?_
           refine pI 25 (some 56) HT_.out ?_
           refine pI 29 (some 60) HT_.out ?_
           refine tI12 24 (some 55) HT_.out HW_.out hHeld ?_
           refine pI 26 (some 57) HT_.out ?_
           refine pI 27 (some 58) HT_.out ?_
           refine tI12 28 (some 59) HT_.out HW_.out hHeld ?_
           refine tI12 30 (some 61) HT_.out HW_.out hHeld ?_
           refine oI 31 (some 62) HT_.out (fun K hK => ?_)
           refine gO Try.func95 #[.slice A203_2 ((rd_T40 l0_2 x3_2).f2).length c203_2, .int .i64 a0_0] ?_
           with_reducible refine (spec_l13Wide.calls k2 _ _ ((rd_T40 l0_2 x3_2).f2) a0_0 false _ ?side1 ?side2 A19.out).mono ?_
           (case side1 => exact cP (Kd.C_below HR207_2.out (bZ HB)))
           (case side2 => exact HC207_2.out)
           rintro e w' ⟨rfl, ⟨nd, rfl⟩⟩
           refine ⟨_, rfl, ?_⟩
           refine hK.out _ _ ⟨bc BK199 0, bc BK199 1, bc BK199 2, ((hC HB hw203_0 :)), ((hC HB hw203_1 :)), ((hC HB hw203_2 :)), ((hC HB hw205_0 :)), ((hC HB hw205_1 :)), ((hC HB hw205_2 :)), ((hC HB hw207_0 :)), ((hC HB hw207_1 :)), ((hC HB hw207_2 :))⟩ (fun hHeld => ?_)
           clear hK K
           refine nO (some 62) ?_
           refine pI 32 (some 63) HT_.out ?_
           refine pI 33 (some 64) HT_.out ?_
           refine done_ (done_of HT_.out (by kernel_rfl)) ?_
           try go_wp2
           go_ret
           exact ⟨rR, bZ HB⟩
         ·replace c18 := Bool.eq_false_iff.mpr c18
          subst c18
          rw [if_neg (show ¬ (false = true) by decide)] at H
          obtain rfl := Option.some.inj H
          obtain ⟨hcz25_0, hcz25_1, hcz25_2, hfz25_0, hfz25_1, hfz25_2⟩ := bK3 (w := wr) BK199
          try go_wp2
          replace BK199 := Aside0.mk (blk_drew BK199.out)
          replace HB := Aside0.mk (below_drew1 HB.out)
          have p203 : 0 ≤ (x3_2 : Int) := of_decide_eq_true (by first | (with_reducible assumption) | assumption)
          have q203 : x3_2 < (l0_2.length : Int) := of_decide_eq_true (by first | (with_reducible assumption) | assumption)
          obtain ⟨ad203, A203_0, c203_0, A203_1, c203_1, A203_2, c203_2, e203, hx203_0, hx203_1, hx203_2, hl203_0, hi203_0, hl203_1, hi203_1, hl203_2, hi203_2⟩ := at_T40 HR0_2.out x3_2 p203 q203
          have hw203_2 := hx203_2
          have hw203_1 := hx203_1
          have hw203_0 := hx203_0
          cases e203
          replace hx203_0 := (hC HB hx203_0 :)
          replace hx203_1 := (hC HB hx203_1 :)
          replace hx203_2 := (hC HB hx203_2 :)
          have HR203_0 := Aside0.mk hi203_0
          have HC203_0 := Aside0.mk hl203_0
          clear hi203_0 hl203_0
          have HR203_1 := Aside0.mk hi203_1
          have HC203_1 := Aside0.mk hl203_1
          clear hi203_1 hl203_1
          have HR203_2 := Aside0.mk hi203_2
          have HC203_2 := Aside0.mk hl203_2
          clear hi203_2 hl203_2
          replace p203 := eq_true p203
          replace q203 := eq_true q203
          have p205 : 0 ≤ (x3_2 : Int) := of_decide_eq_true (by first | (with_reducible assumption) | assumption)
          have q205 : x3_2 < (l0_2.length : Int) := of_decide_eq_true (by first | (with_reducible assumption) | assumption)
          obtain ⟨ad205, A205_0, c205_0, A205_1, c205_1, A205_2, c205_2, e205, hx205_0, hx205_1, hx205_2, hl205_0, hi205_0, hl205_1, hi205_1, hl205_2, hi205_2⟩ := at_T40 HR0_2.out x3_2 p205 q205
          have hw205_2 := hx205_2
          have hw205_1 := hx205_1
          have hw205_0 := hx205_0
          obtain rfl : ad203 = ad205 := (by injection e205)
          replace hx205_0 := (hC HB hx205_0 :)
          replace hx205_1 := (hC HB hx205_1 :)
          replace hx205_2 := (hC HB hx205_2 :)
          have HR205_0 := Aside0.mk hi205_0
          have HC205_0 := Aside0.mk hl205_0
          clear hi205_0 hl205_0
          have HR205_1 := Aside0.mk hi205_1
          have HC205_1 := Aside0.mk hl205_1
          clear hi205_1 hl205_1
          have HR205_2 := Aside0.mk hi205_2
          have HC205_2 := Aside0.mk hl205_2
          clear hi205_2 hl205_2
          replace p205 := eq_true p205
          replace q205 := eq_true q205
          have ea_ := Option.some.inj (hx203_0.symm.trans hx205_0)
          injection ea_ with ea_ en_ ec_
          subst ea_
          subst ec_
          clear en_
          have ea_ := Option.some.inj (hx203_1.symm.trans hx205_1)
          injection ea_ with ea_ en_ ec_
          subst ea_
          subst ec_
          clear en_
          have ea_ := Option.some.inj (hx203_2.symm.trans hx205_2)
          injection ea_ with ea_ en_ ec_
          subst ea_
          subst ec_
          clear en_
          refine start_ (n := 34) (S := fun w' => w'.cell? ⟨gb199, 0, none⟩ = some (.int .i64 a0_0) ∧ w'.cell? ⟨gb199, 1, none⟩ = some (.int .i64 a0_1) ∧ w'.cell? ⟨gb199, 2, none⟩ = some (.slice (some ad203) l0_2.length c0_2) ∧ w'.cell? (ad203.add ((x3_2).toNat * 3)) = some (.slice A203_0 ((rd_T40 l0_2 x3_2).f0).length c203_0) ∧ w'.cell? ⟨(ad203.add ((x3_2).toNat * 3)).block, (ad203.add ((x3_2).toNat * 3)).off + 1, none⟩ = some (.slice A203_1 ((rd_T40 l0_2 x3_2).f1).length c203_1) ∧ w'.cell? ⟨(ad203.add ((x3_2).toNat * 3)).block, (ad203.add ((x3_2).toNat * 3)).off + 2, none⟩ = some (.slice A203_2 ((rd_T40 l0_2 x3_2).f2).length c203_2) ∧ w'.cell? (ad203.add ((x3_2).toNat * 3)) = some (.slice A203_0 ((rd_T40 l0_2 x3_2).f0).length c203_0) ∧ w'.cell? ⟨(ad203.add ((x3_2).toNat * 3)).block, (ad203.add ((x3_2).toNat * 3)).off + 1, none⟩ = some (.slice A203_1 ((rd_T40 l0_2 x3_2).f1).length c203_1) ∧ w'.cell? ⟨(ad203.add ((x3_2).toNat * 3)).block, (ad203.add ((x3_2).toNat * 3)).off + 2, none⟩ = some (.slice A203_2 ((rd_T40 l0_2 x3_2).f2).length c203_2)) (ds := []) #[false, false, false, false, false, false, false, false, false, false, false, false, false, false, false, false, false, false, false, false, false, false, false, false, false, false, false, false, false, false, false, false, false, false] (by kernel_rfl) rfl rfl ⟨bc BK199 0, bc BK199 1, bc BK199 2, ((hC HB hw203_0 :)), ((hC HB hw203_1 :)), ((hC HB hw203_2 :)), ((hC HB hw205_0 :)), ((hC HB hw205_1 :)), ((hC HB hw205_2 :))⟩ (fun hHeld => ?_); refine with_tabW spec_SystemOk.tab6 spec_SystemOk.bits6 (fun HT_ HW_ => ?_)
          generalize wr.drew = w26 at BK199 HB HR203_0 HR203_1 HR203_2 HR205_0 HR205_1 HR205_2 hx203_0 hx203_1 hx203_2 hx205_0 hx205_1 hx205_2 hHeld ⊢
          refine pI 0 (some 31) HT_.out ?_
          refine pI 2 (some 33) HT_.out ?_
          refine pI 6 (some 37) HT_.out ?_
          refine tI9 1 (some 32) HT_.out HW_.out hHeld ?_
          refine pI 3 (some 34) HT_.out ?_
          refine pI 4 (some 35) HT_.out ?_
          refine tI9 5 (some 36) HT_.out HW_.out hHeld ?_
          refine tI9 7 (some 38) HT_.out HW_.out hHeld ?_
          refine oI 8 (some 39) HT_.out (fun K hK => ?_)
          refine gO Try.func95 #[.slice A203_0 ((rd_T40 l0_2 x3_2).f0).length c203_0, .int .i64 a0_0] ?_
          with_reducible refine (spec_l13Wide.calls k2 _ _ ((rd_T40 l0_2 x3_2).f0) a0_0 true _ ?side1 ?side2 A15.out).mono ?_
          (case side1 => exact cP (Kd.C_below HR203_0.out HB.out))
          (case side2 => exact HC203_0.out)
          rintro e w' ⟨rfl, ⟨nd, rfl⟩⟩
          refine ⟨_, rfl, ?_⟩
          refine hK.out _ _ ⟨bc BK199 0, bc BK199 1, bc BK199 2, ((hC HB hw203_0 :)), ((hC HB hw203_1 :)), ((hC HB hw203_2 :)), ((hC HB hw205_0 :)), ((hC HB hw205_1 :)), ((hC HB hw205_2 :))⟩ (fun hHeld => ?_)
          clear hK K
          refine nO (some 39) ?_
          refine pI 9 (some 40) HT_.out ?_
          refine pI 10 (some 41) HT_.out ?_
          refine pI 11 (some 42) HT_.out ?_
          refine pI 13 (some 44) HT_.out ?_
          refine pI 17 (some 48) HT_.out ?_
          refine tI9 12 (some 43) HT_.out HW_.out hHeld ?_
          refine pI 14 (some 45) HT_.out ?_
          refine pI 15 (some 46) HT_.out ?_
          refine tI9 16 (some 47) HT_.out HW_.out hHeld ?_
          refine tI9 18 (some 49) HT_.out HW_.out hHeld ?_
          refine oI 19 (some 50) HT_.out (fun K hK => ?_)
          refine gO Try.func95 #[.slice A203_1 ((rd_T40 l0_2 x3_2).f1).length c203_1, .int .i64 a0_0] ?_
          with_reducible refine (spec_l13Wide.calls k2 _ _ ((rd_T40 l0_2 x3_2).f1) a0_0 false _ ?side1 ?side2 A17.out).mono ?_
          (case side1 => exact cP (Kd.C_below HR205_1.out (bZ HB)))
          (case side2 => exact HC205_1.out)
          rintro e w' ⟨rfl, ⟨nd, rfl⟩⟩
          refine ⟨_, rfl, ?_⟩
          refine hK.out _ _ ⟨bc BK199 0, bc BK199 1, bc BK199 2, ((hC HB hw203_0 :)), ((hC HB hw203_1 :)), ((hC HB hw203_2 :)), ((hC HB hw205_0 :)), ((hC HB hw205_1 :)), ((hC HB hw205_2 :))⟩ (fun hHeld => ?_)
          clear hK K
          refine nO (some 50) ?_
          refine pI 20 (some 51) HT_.out ?_
          refine pI 21 (some 52) HT_.out ?_
          refine pI 22 (some 53) HT_.out ?_
          refine pK 23 (some 54) HT_.out ?_
          refine pK 24 (some 55) HT_.out ?_
          refine pK 25 (some 56) HT_.out ?_
          refine pK 26 (some 57) HT_.out ?_
          refine pK 27 (some 58) HT_.out ?_
          refine pK 28 (some 59) HT_.out ?_
          refine pK 29 (some 60) HT_.out ?_
          refine pK 30 (some 61) HT_.out ?_
          refine pK 31 (some 62) HT_.out ?_
          refine pK 32 (some 63) HT_.out ?_
          refine pI 33 (some 64) HT_.out ?_
          refine done_ (done_of HT_.out (by kernel_rfl)) ?_
          try go_wp2
          go_ret
          exact ⟨rR, bZ HB⟩
        ·replace c16 := Bool.eq_false_iff.mpr c16
         subst c16
         rw [if_neg (show ¬ (false = true) by decide)] at H
         obtain rfl := Option.some.inj H
         obtain ⟨hcz27_0, hcz27_1, hcz27_2, hfz27_0, hfz27_1, hfz27_2⟩ := bK3 (w := wr) BK199
         try go_wp2
         replace BK199 := Aside0.mk (blk_drew BK199.out)
         replace HB := Aside0.mk (below_drew1 HB.out)
         have p203 : 0 ≤ (x3_2 : Int) := of_decide_eq_true (by first | (with_reducible assumption) | assumption)
         have q203 : x3_2 < (l0_2.length : Int) := of_decide_eq_true (by first | (with_reducible assumption) | assumption)
         obtain ⟨ad203, A203_0, c203_0, A203_1, c203_1, A203_2, c203_2, e203, hx203_0, hx203_1, hx203_2, hl203_0, hi203_0, hl203_1, hi203_1, hl203_2, hi203_2⟩ := at_T40 HR0_2.out x3_2 p203 q203
         have hw203_2 := hx203_2
         have hw203_1 := hx203_1
         have hw203_0 := hx203_0
         cases e203
         replace hx203_0 := (hC HB hx203_0 :)
         replace hx203_1 := (hC HB hx203_1 :)
         replace hx203_2 := (hC HB hx203_2 :)
         have HR203_0 := Aside0.mk hi203_0
         have HC203_0 := Aside0.mk hl203_0
         clear hi203_0 hl203_0
         have HR203_1 := Aside0.mk hi203_1
         have HC203_1 := Aside0.mk hl203_1
         clear hi203_1 hl203_1
         have HR203_2 := Aside0.mk hi203_2
         have HC203_2 := Aside0.mk hl203_2
         clear hi203_2 hl203_2
         replace p203 := eq_true p203
         replace q203 := eq_true q203
         refine start_ (n := 34) (S := fun w' => w'.cell? ⟨gb199, 0, none⟩ = some (.int .i64 a0_0) ∧ w'.cell? ⟨gb199, 1, none⟩ = some (.int .i64 a0_1) ∧ w'.cell? ⟨gb199, 2, none⟩ = some (.slice (some ad203) l0_2.length c0_2) ∧ w'.cell? (ad203.add ((x3_2).toNat * 3)) = some (.slice A203_0 ((rd_T40 l0_2 x3_2).f0).length c203_0) ∧ w'.cell? ⟨(ad203.add ((x3_2).toNat * 3)).block, (ad203.add ((x3_2).toNat * 3)).off + 1, none⟩ = some (.slice A203_1 ((rd_T40 l0_2 x3_2).f1).length c203_1) ∧ w'.cell? ⟨(ad203.add ((x3_2).toNat * 3)).block, (ad203.add ((x3_2).toNat * 3)).off + 2, none⟩ = some (.slice A203_2 ((rd_T40 l0_2 x3_2).f2).length c203_2)) (ds := []) #[false, false, false, false, false, false, false, false, false, false, false, false, false, false, false, false, false, false, false, false, false, false, false, false, false, false, false, false, false, false, false, false, false, false] (by kernel_rfl) rfl rfl ⟨bc BK199 0, bc BK199 1, bc BK199 2, ((hC HB hw203_0 :)), ((hC HB hw203_1 :)), ((hC HB hw203_2 :))⟩ (fun hHeld => ?_); refine with_tabW spec_SystemOk.tab6 spec_SystemOk.bits6 (fun HT_ HW_ => ?_)
         generalize wr.drew = w28 at BK199 HB HR203_0 HR203_1 HR203_2 hx203_0 hx203_1 hx203_2 hHeld ⊢
         refine pI 0 (some 31) HT_.out ?_
         refine pI 2 (some 33) HT_.out ?_
         refine pI 6 (some 37) HT_.out ?_
         refine tI6 1 (some 32) HT_.out HW_.out hHeld ?_
         refine pI 3 (some 34) HT_.out ?_
         refine pI 4 (some 35) HT_.out ?_
         refine tI6 5 (some 36) HT_.out HW_.out hHeld ?_
         refine tI6 7 (some 38) HT_.out HW_.out hHeld ?_
         refine oI 8 (some 39) HT_.out (fun K hK => ?_)
         refine gO Try.func95 #[.slice A203_0 ((rd_T40 l0_2 x3_2).f0).length c203_0, .int .i64 a0_0] ?_
         with_reducible refine (spec_l13Wide.calls k2 _ _ ((rd_T40 l0_2 x3_2).f0) a0_0 false _ ?side1 ?side2 A15.out).mono ?_
         (case side1 => exact cP (Kd.C_below HR203_0.out HB.out))
         (case side2 => exact HC203_0.out)
         rintro e w' ⟨rfl, ⟨nd, rfl⟩⟩
         refine ⟨_, rfl, ?_⟩
         refine hK.out _ _ ⟨bc BK199 0, bc BK199 1, bc BK199 2, ((hC HB hw203_0 :)), ((hC HB hw203_1 :)), ((hC HB hw203_2 :))⟩ (fun hHeld => ?_)
         clear hK K
         refine nO (some 39) ?_
         refine pI 9 (some 40) HT_.out ?_
         refine pI 10 (some 41) HT_.out ?_
         refine pK 11 (some 42) HT_.out ?_
         refine pK 12 (some 43) HT_.out ?_
         refine pK 13 (some 44) HT_.out ?_
         refine pK 14 (some 45) HT_.out ?_
         refine pK 15 (some 46) HT_.out ?_
         refine pK 16 (some 47) HT_.out ?_
         refine pK 17 (some 48) HT_.out ?_
         refine pK 18 (some 49) HT_.out ?_
         refine pK 19 (some 50) HT_.out ?_
         refine pK 20 (some 51) HT_.out ?_
         refine pI 21 (some 52) HT_.out ?_
         refine pI 22 (some 53) HT_.out ?_
         refine pK 23 (some 54) HT_.out ?_
         refine pK 24 (some 55) HT_.out ?_
         refine pK 25 (some 56) HT_.out ?_
         refine pK 26 (some 57) HT_.out ?_
         refine pK 27 (some 58) HT_.out ?_
         refine pK 28 (some 59) HT_.out ?_
         refine pK 29 (some 60) HT_.out ?_
         refine pK 30 (some 61) HT_.out ?_
         refine pK 31 (some 62) HT_.out ?_
         refine pK 32 (some 63) HT_.out ?_
         refine pI 33 (some 64) HT_.out ?_
         refine done_ (done_of HT_.out (by kernel_rfl)) ?_
         try go_wp2
         go_ret
         exact ⟨rR, bZ HB⟩
       ·rw [if_neg c14] at H
        exact absurd H (by simp)
      ·rw [if_neg c13] at H
       have c13b0 := decide_eq_false c13
       clear c13
       obtain rfl := Option.some.inj H
       obtain ⟨hcz29_0, hcz29_1, hcz29_2, hfz29_0, hfz29_1, hfz29_2⟩ := bK3 (w := wr) BK199
       go_wp2
       go_ret
       exact ⟨rR, bZ HB⟩

end Go.Proofs.Ytcnejiflpioaiaa.Pf
end
