/- What is proved here: part 1 of 6 of the proof of the given statement FnRows: the contracts of the Go functions that it reaches, the plain facts on lists and numbers, and (in the last part) the statement itself. No conditions beyond the given ones. -/
import Derived.Test.YthdpfjkdpeamnaaProg
import Derived.Below
import Derived.Deep.Draws
import Derived.Deep.AppendLies
import Derived.Maps.AppendAt
import Derived.OwnWalk
import Derived.Laws.BytesArg
import Derived.Laws.MakeOwn
import Derived.Laws.OwnMore
import Derived.Deep.OwnRows
import Derived.Tactics
import Derived.Lib.ConvBytes
import Derived.Laws.Slices
import Derived.WalkKit
import Derived.KernelRfl
import Derived.RowKit3
import Derived.Deep.LoopGhost
import Derived.Deep.QuietTactic
import Derived.BigQuiet
import Derived.WideLaws
import Derived.Deep.DeepCutAuto
import Derived.Deep.CutBlock
import Derived.Deep.RegionHeld3
import Derived.Laws.Rows
import Derived.Lib.AppendStr
import Derived.ArgAppend
import Derived.Laws.IdiomCopy
import Derived.OrdersHeld
import Derived.Laws.BitsLemmas
import Derived.RowKit
import Derived.Test.YthdpfjkdpeamnaaMFnRowswWords
import Derived.Test.YthdpfjkdpeamnaaMFnRowswLast
import Derived.Test.YthdpfjkdpeamnaaMFnRowswTab
import Derived.Test.YthdpfjkdpeamnaaMFnRowswFour
import Derived.Test.YthdpfjkdpeamnaaMFnRowswQPut
import Derived.Test.YthdpfjkdpeamnaaMFnRowswApart
import Derived.Test.YthdpfjkdpeamnaaMFnRowswArr
import Derived.Test.YthdpfjkdpeamnaaMFnRowswZeros
import Derived.Test.YthdpfjkdpeamnaaMFnRowswFoot
import Derived.Test.YthdpfjkdpeamnaaMFnRowswKept
import Derived.Test.YthdpfjkdpeamnaaMFnRowswShare
import Derived.Test.YthdpfjkdpeamnaaMFnRowswN
import Derived.Test.YthdpfjkdpeamnaaMFnRowswFootNe
import Derived.Test.YthdpfjkdpeamnaaMFnRowswAt
import Derived.Test.YthdpfjkdpeamnaaMFnRowswEqStruct
import Derived.Test.YthdpfjkdpeamnaaMFnRowswRepsOne
import Derived.Test.YthdpfjkdpeamnaaMFnRowswInv
import Derived.Test.YthdpfjkdpeamnaaMFnRowswInvWords
import Derived.Test.YthdpfjkdpeamnaaMFnRowswGuard
import Derived.Test.YthdpfjkdpeamnaaMFnRowswNEv
import Derived.Test.YthdpfjkdpeamnaaMFnRowswMore
import Derived.Test.YthdpfjkdpeamnaaMFnRowswSlim

section
namespace Go.Proofs.Ythdpfjkdpeamnaa.Pf
open Go.RowKit Go.Proofs.YthdpfjkdpeamnaaW.PrintWords Go.Proofs.YthdpfjkdpeamnaaW.PrintLast Go.Proofs.YthdpfjkdpeamnaaW.PrintMore
attribute [local go_sem] max2_int min2_int max_two min_two max_three min_three max_four min_four
set_option linter.unusedVariables false
set_option linter.unusedSimpArgs false
def errW : Option Int → Value
  | none => .nilIface
  | some c => .iface 0 (.int .i64 c)
theorem errW_none : errW none = .nilIface := rfl
theorem errW_some (c : Int) : errW (some c) = .iface 0 (.int .i64 c) := rfl
theorem info3 : (Try.prog.info? 3).map (fun i => (i.zero, i.size, i.bytes)) = some (some (.int .i64 0), 1, 8) := by kernel_rfl
theorem info75 : (Try.prog.info? 75).map (fun i => (i.zero, i.size, i.bytes)) = some (some (.agg #[(.slice none 0 0), (.slice none 0 0), (.slice none 0 0)]), 3, 72) := by kernel_rfl
def pairA {α β : Type} (a : Kd α) (b : Kd β) : Kd (α × β) where
  sz := a.sz + b.sz
  E := a.E ++ b.E
  K := fun w x cs => ∃ c0 c1, cs = c0 ++ c1 ∧ a.K w x.1 c0 ∧ b.K w x.2 c1
  M := fun w base ok x cs => ∃ o0 o1 : Nat → Prop, (∀ k, o0 k → ok k) ∧ (∀ k, o1 k → ok k) ∧ (∀ k, o0 k → ¬ o1 k) ∧ ∃ c0 c1, cs = c0 ++ c1 ∧ a.M w base o0 x.1 c0 ∧ b.M w base o1 x.2 c1
  K_len := by
    rintro w x cs ⟨c0, c1, rfl, h0, h1⟩
    rw [List.length_append, a.K_len h0, b.K_len h1]
  K_one := by
    rintro w x cs ⟨c0, c1, rfl, h0, h1⟩ u hu
    rcases List.mem_append.1 hu with hu | hu
    · exact a.K_one h0 u hu
    · exact b.K_one h1 u hu
  K_below := by
    rintro w w1 x cs hb ⟨c0, c1, rfl, h0, h1⟩
    exact ⟨c0, c1, rfl, a.K_below hb h0, b.K_below hb h1⟩
  K_of_M := by
    rintro w base ok x cs ⟨o0, o1, _, _, _, c0, c1, rfl, h0, h1⟩
    exact ⟨c0, c1, rfl, a.K_of_M h0, b.K_of_M h1⟩
  M_mono := by
    rintro w base ok ok' x cs hok ⟨o0, o1, i0, i1, ap, c0, c1, rfl, h0, h1⟩
    exact ⟨o0, o1, fun k hk => hok k (i0 k hk), fun k hk => hok k (i1 k hk), ap, c0, c1, rfl, h0, h1⟩
  M_bound := by
    rintro w base ok x cs ⟨o0, o1, i0, i1, ap, c0, c1, rfl, h0, h1⟩
    refine ⟨_, _, ?_, ?_, ?_, c0, c1, rfl, a.M_bound h0, b.M_bound h1⟩
    · rintro k ⟨h2, h3, h4, q, hq, hc⟩
      exact ⟨i0 k h2, h3, h4, q, List.mem_append_left _ hq, hc⟩
    · rintro k ⟨h2, h3, h4, q, hq, hc⟩
      exact ⟨i1 k h2, h3, h4, q, List.mem_append_right _ hq, hc⟩
    · exact fun k h2 h3 => ap k h2.1 h3.1
  M_move := by
    rintro w w1 base ok x cs hm ⟨o0, o1, i0, i1, ap, c0, c1, rfl, h0, h1⟩
    exact ⟨o0, o1, i0, i1, ap, c0, c1, rfl, a.M_move (fun k hk => hm k (i0 k hk)) h0, b.M_move (fun k hk => hm k (i1 k hk)) h1⟩
  M_lower := by
    rintro w base base' ok x cs hb ⟨o0, o1, i0, i1, ap, c0, c1, rfl, h0, h1⟩
    exact ⟨o0, o1, i0, i1, ap, c0, c1, rfl, a.M_lower hb h0, b.M_lower hb h1⟩
theorem rowA {k : IntKind} {w : World} {base e : Nat} {ok : Nat → Prop} {v : Value} {xs : List Int} (h : (Kd.int k).R e w base ok v xs) : (Kd.int k).R e w base (fun k => some k = v.ownBlock ∧ ok k) v xs := Kd.R_tight2 rfl h
structure S75 where
  f0 : (List Int)
  f1 : (List Int)
  f2 : (List Int)
def z75 : S75 := ⟨([] : List Int), ([] : List Int), ([] : List Int)⟩
def k75 : Kd S75 := Kd.iso (pairA (Kd.slice 3 (Kd.int .i64)) (pairA (Kd.slice 3 (Kd.int .i64)) (Kd.slice 3 (Kd.int .i64)))) (fun x : S75 => (x.f0, x.f1, x.f2))
theorem k75_open {w : World} {x : S75} {cs : List Value} (h : k75.K w x cs) : ∃ A0 c0 A1 c1 A2 c2, cs = [.slice A0 x.f0.length c0, .slice A1 x.f1.length c1, .slice A2 x.f2.length c2] ∧ x.f0.length ≤ c0 ∧ (Kd.int .i64).C w A0 x.f0.length x.f0 ∧ x.f1.length ≤ c1 ∧ (Kd.int .i64).C w A1 x.f1.length x.f1 ∧ x.f2.length ≤ c2 ∧ (Kd.int .i64).C w A2 x.f2.length x.f2 := by
  obtain ⟨_, _, rfl, ⟨A0, c0, rfl, l0, g0⟩, ⟨_, _, rfl, ⟨A1, c1, rfl, l1, g1⟩, ⟨A2, c2, rfl, l2, g2⟩⟩⟩ := h
  exact ⟨A0, c0, A1, c1, A2, c2, rfl, l0, g0, l1, g1, l2, g2⟩
theorem k75_openA {w : World} {base : Nat} {ok : Nat → Prop} {x : S75} {cs : List Value} (h : k75.M w base ok x cs) : ∃ v0 v1 v2, cs = [v0, v1, v2] ∧ ∃ o0 o1 o2 : Nat → Prop, (∀ k, o0 k → ok k) ∧ (∀ k, o1 k → ok k) ∧ (∀ k, o2 k → ok k) ∧ (∀ k, o0 k → ¬ o1 k) ∧ (∀ k, o0 k → ¬ o2 k) ∧ (∀ k, o1 k → ¬ o2 k) ∧ (Kd.int .i64).R 3 w base o0 v0 x.f0 ∧ (Kd.int .i64).R 3 w base o1 v1 x.f1 ∧ (Kd.int .i64).R 3 w base o2 v2 x.f2 := by
  obtain ⟨o0, o1, i0, i1, ap, _, _, rfl, ⟨v0, rfl, g0⟩, ⟨p0, p1, j0, j1, aq, _, _, rfl, ⟨v1, rfl, g1⟩, ⟨v2, rfl, g2⟩⟩⟩ := h
  exact ⟨v0, v1, v2, rfl, o0, p0, p1, i0, fun k hk => i1 k (j0 k hk), fun k hk => i1 k (j1 k hk), fun k h h2 => ap k h (j0 k h2), fun k h h2 => ap k h (j1 k h2), aq, g0, g1, g2⟩
theorem k75_mk (w : World) (x : S75) {A0 : Option Addr} {c0 : Nat} (l0 : x.f0.length ≤ c0) (g0 : (Kd.int .i64).C w A0 x.f0.length x.f0) {A1 : Option Addr} {c1 : Nat} (l1 : x.f1.length ≤ c1) (g1 : (Kd.int .i64).C w A1 x.f1.length x.f1) {A2 : Option Addr} {c2 : Nat} (l2 : x.f2.length ≤ c2) (g2 : (Kd.int .i64).C w A2 x.f2.length x.f2) : k75.K w x [.slice A0 x.f0.length c0, .slice A1 x.f1.length c1, .slice A2 x.f2.length c2] := ⟨[.slice A0 x.f0.length c0], [.slice A1 x.f1.length c1, .slice A2 x.f2.length c2], rfl, ⟨A0, c0, rfl, l0, g0⟩, ⟨[.slice A1 x.f1.length c1], [.slice A2 x.f2.length c2], rfl, ⟨A1, c1, rfl, l1, g1⟩, ⟨A2, c2, rfl, l2, g2⟩⟩⟩
theorem k75_mkA (w : World) (base : Nat) (ok o0 o1 o2 : Nat → Prop) (x : S75) {v0 v1 v2 : Value} (i0 : ∀ k, o0 k → ok k) (i1 : ∀ k, o1 k → ok k) (i2 : ∀ k, o2 k → ok k) (a01 : ∀ k, o0 k → ¬ o1 k) (a02 : ∀ k, o0 k → ¬ o2 k) (a12 : ∀ k, o1 k → ¬ o2 k) (g0 : (Kd.int .i64).R 3 w base o0 v0 x.f0) (g1 : (Kd.int .i64).R 3 w base o1 v1 x.f1) (g2 : (Kd.int .i64).R 3 w base o2 v2 x.f2) : k75.M w base ok x [v0, v1, v2] :=
  ⟨o0, fun k => o1 k ∨ o2 k, i0, fun k h => h.elim (i1 k) (i2 k), fun k h h2 => h2.elim (a01 k h) (a02 k h), [v0], [v1, v2], rfl, ⟨v0, rfl, g0⟩, ⟨o1, o2, fun _ h => .inl h, fun _ h => .inr h, a12, [v1], [v2], rfl, ⟨v1, rfl, g1⟩, ⟨v2, rfl, g2⟩⟩⟩
theorem k75_mkM (w : World) (base : Nat) (ok : Nat → Prop) (x : S75) {v0 : Value} (g0 : (Kd.int .i64).R 3 w base ok v0 x.f0) {v1 : Value} (g1 : (Kd.int .i64).R 3 w base ok v1 x.f1) {v2 : Value} (g2 : (Kd.int .i64).R 3 w base ok v2 x.f2) (a01 : ∀ k, v0.ownBlock = some k → v1.ownBlock ≠ some k) (a02 : ∀ k, v0.ownBlock = some k → v2.ownBlock ≠ some k) (a12 : ∀ k, v1.ownBlock = some k → v2.ownBlock ≠ some k) : k75.M w base ok x [v0, v1, v2] :=
  k75_mkA w base ok _ _ _ x (fun _ h => h.2) (fun _ h => h.2) (fun _ h => h.2) (fun k h h2 => a01 k h.1.symm h2.1.symm) (fun k h h2 => a02 k h.1.symm h2.1.symm) (fun k h h2 => a12 k h.1.symm h2.1.symm) (rowA g0) (rowA g1) (rowA g2)
theorem k75_openF {W : World} {ok : Nat → Prop} {x : S75} {cs : List Value} (h : Kd.FK k75 W ok x cs) : ∃ A0 c0 A1 c1 A2 c2, cs = [.slice A0 x.f0.length c0, .slice A1 x.f1.length c1, .slice A2 x.f2.length c2] ∧ x.f0.length ≤ c0 ∧ Kd.F (Kd.int .i64) W ok A0 x.f0.length x.f0 ∧ x.f1.length ≤ c1 ∧ Kd.F (Kd.int .i64) W ok A1 x.f1.length x.f1 ∧ x.f2.length ≤ c2 ∧ Kd.F (Kd.int .i64) W ok A2 x.f2.length x.f2 := by
  obtain ⟨A0, c0, A1, c1, A2, c2, rfl, l0, _, l1, _, l2, _⟩ := k75_open (Kd.FK_now h)
  exact ⟨A0, c0, A1, c1, A2, c2, rfl, l0, (fun W' hW => by obtain ⟨A0_, c0_, A1_, c1_, A2_, c2_, he, l0_, g0_, l1_, g1_, l2_, g2_⟩ := k75_open (h W' hW); injection (Option.some.inj (show some (Value.slice A0 x.f0.length c0) = some (Value.slice A0_ x.f0.length c0_) from congrArg (fun l => l[0]?) he)) with ha_ _ _; rw [ha_]; exact g0_), l1, (fun W' hW => by obtain ⟨A0_, c0_, A1_, c1_, A2_, c2_, he, l0_, g0_, l1_, g1_, l2_, g2_⟩ := k75_open (h W' hW); injection (Option.some.inj (show some (Value.slice A1 x.f1.length c1) = some (Value.slice A1_ x.f1.length c1_) from congrArg (fun l => l[1]?) he)) with ha_ _ _; rw [ha_]; exact g1_), l2, (fun W' hW => by obtain ⟨A0_, c0_, A1_, c1_, A2_, c2_, he, l0_, g0_, l1_, g1_, l2_, g2_⟩ := k75_open (h W' hW); injection (Option.some.inj (show some (Value.slice A2 x.f2.length c2) = some (Value.slice A2_ x.f2.length c2_) from congrArg (fun l => l[2]?) he)) with ha_ _ _; rw [ha_]; exact g2_)⟩
theorem k75_mkF (W : World) (ok : Nat → Prop) (x : S75) {A0 : Option Addr} {c0 : Nat} (l0 : x.f0.length ≤ c0) (g0 : Kd.F (Kd.int .i64) W ok A0 x.f0.length x.f0) {A1 : Option Addr} {c1 : Nat} (l1 : x.f1.length ≤ c1) (g1 : Kd.F (Kd.int .i64) W ok A1 x.f1.length x.f1) {A2 : Option Addr} {c2 : Nat} (l2 : x.f2.length ≤ c2) (g2 : Kd.F (Kd.int .i64) W ok A2 x.f2.length x.f2) : Kd.FK k75 W ok x [.slice A0 x.f0.length c0, .slice A1 x.f1.length c1, .slice A2 x.f2.length c2] := fun W2 hW => k75_mk W2 x l0 (g0 W2 hW) l1 (g1 W2 hW) l2 (g2 W2 hW)
theorem k75_mkFV (w : World) (base : Nat) (ok : Nat → Prop) (x : S75) {v0 : Value} (g0 : (Kd.int .i64).R 3 w base ok v0 x.f0) {v1 : Value} (g1 : (Kd.int .i64).R 3 w base ok v1 x.f1) {v2 : Value} (g2 : (Kd.int .i64).R 3 w base ok v2 x.f2) : Kd.FK k75 w ok x [v0, v1, v2] := by
  obtain ⟨A0_, c0_, rfl⟩ := Kd.R_slice g0
  obtain ⟨A1_, c1_, rfl⟩ := Kd.R_slice g1
  obtain ⟨A2_, c2_, rfl⟩ := Kd.R_slice g2
  exact k75_mkF w ok x (Kd.R_reads' g0).2.1 (Kd.R_F g0) (Kd.R_reads' g1).2.1 (Kd.R_F g1) (Kd.R_reads' g2).2.1 (Kd.R_F g2)
def rd_T75 (xs : List S75) (i : Int) : S75 := xs.getD i.toNat z75
theorem at_T75 {w : World} {A : Option Addr} {n : Nat} {xs : List S75} (h : Kd.C k75 w A n xs) (i : Int) (h0 : 0 ≤ i) (h1 : i < n) : ∃ ad A0 c0 A1 c1 A2 c2, A = some ad ∧ w.cell? (ad.add (i.toNat * 3)) = some (.slice A0 (rd_T75 xs i).f0.length c0) ∧ w.cell? ⟨(ad.add (i.toNat * 3)).block, (ad.add (i.toNat * 3)).off + 1, none⟩ = some (.slice A1 (rd_T75 xs i).f1.length c1) ∧ w.cell? ⟨(ad.add (i.toNat * 3)).block, (ad.add (i.toNat * 3)).off + 2, none⟩ = some (.slice A2 (rd_T75 xs i).f2.length c2) ∧ (rd_T75 xs i).f0.length ≤ c0 ∧ (Kd.int .i64).C w A0 (rd_T75 xs i).f0.length (rd_T75 xs i).f0 ∧ (rd_T75 xs i).f1.length ≤ c1 ∧ (Kd.int .i64).C w A1 (rd_T75 xs i).f1.length (rd_T75 xs i).f1 ∧ (rd_T75 xs i).f2.length ≤ c2 ∧ (Kd.int .i64).C w A2 (rd_T75 xs i).f2.length (rd_T75 xs i).f2 := by
  obtain ⟨ad, c, e, _, hK, hc0⟩ := Kd.C_get h z75 i h0 h1
  have hc : ∀ j u, c[j]? = some u → w.cell? (ad.add (i.toNat * 3 + j)) = some u := hc0
  obtain ⟨A0, c0, A1, c1, A2, c2, rfl, l0, g0, l1, g1, l2, g2⟩ := k75_open hK
  exact ⟨ad, A0, c0, A1, c1, A2, c2, e, hc 0 _ rfl, by rw [← add_field _ _ 1 (by omega)]; exact hc 1 _ rfl, by rw [← add_field _ _ 2 (by omega)]; exact hc 2 _ rfl, l0, g0, l1, g1, l2, g2⟩
end Go.Proofs.Ythdpfjkdpeamnaa.Pf
end
section
namespace Go.Proofs.Ythdpfjkdpeamnaa.Pf
open Go.RowKit Go.Proofs.YthdpfjkdpeamnaaW.PrintWords Go.Proofs.YthdpfjkdpeamnaaW.PrintLast Go.Proofs.YthdpfjkdpeamnaaW.PrintMore
attribute [local go_sem] max2_int min2_int max_two min_two max_three min_three max_four min_four
set_option linter.unusedVariables false
set_option linter.unusedSimpArgs false
set_option maxHeartbeats 8000000
set_option maxRecDepth 100000
def impl_isBits.f (a0 : Int) : Option (Bool) := if a0 ≥ 0 then (some (decide (a0 ≤ 255))) else (some false)
theorem impl_isBits.calls (a0 : Int) (r : Bool) (w : World) (h : impl_isBits.f a0 = some r) :
  Calls Try.prog 58 #[.int .i64 a0] w fun e w' => e = .returned (.bool r) ∧ Drawn0 w w' := by
 have H : (if a0 ≥ 0 then (some (decide (a0 ≤ 255))) else (some false)) = some r := h
 clear h
 by_cases c2 : a0 ≥ 0
 ·rw [if_pos c2] at H
  have c2b0 := decide_eq_true c2
  clear c2
  obtain rfl := Option.some.inj H
  go_enter Try.func58, Try.ntmps58
  go_wp2
  go_ret
  exact ⟨rS, rD⟩
 ·rw [if_neg c2] at H
  have c2b0 := decide_eq_false c2
  clear c2
  obtain rfl := Option.some.inj H
  go_enter Try.func58, Try.ntmps58
  go_wp2
  go_ret
  exact ⟨rS, rD⟩
def bits_OnesCount64.f (a0 : Int) : Option (Int) := some (Go.bits .and .i64 (wrap64 (IntKind.u64.wrap ((IntKind.u64.wrap ((IntKind.u64.wrap ((Go.bits .and .u64 (IntKind.u64.wrap (((IntKind.u64.wrap ((Go.bits .and .u64 ((IntKind.u64.wrap ((Go.bits .and .u64 (a0 / 2) 6148914691236517205) + (Go.bits .and .u64 a0 6148914691236517205))) / 4) 3689348814741910323) + (Go.bits .and .u64 (IntKind.u64.wrap ((Go.bits .and .u64 (a0 / 2) 6148914691236517205) + (Go.bits .and .u64 a0 6148914691236517205))) 3689348814741910323))) / 16) + (IntKind.u64.wrap ((Go.bits .and .u64 ((IntKind.u64.wrap ((Go.bits .and .u64 (a0 / 2) 6148914691236517205) + (Go.bits .and .u64 a0 6148914691236517205))) / 4) 3689348814741910323) + (Go.bits .and .u64 (IntKind.u64.wrap ((Go.bits .and .u64 (a0 / 2) 6148914691236517205) + (Go.bits .and .u64 a0 6148914691236517205))) 3689348814741910323))))) 1085102592571150095) + ((Go.bits .and .u64 (IntKind.u64.wrap (((IntKind.u64.wrap ((Go.bits .and .u64 ((IntKind.u64.wrap ((Go.bits .and .u64 (a0 / 2) 6148914691236517205) + (Go.bits .and .u64 a0 6148914691236517205))) / 4) 3689348814741910323) + (Go.bits .and .u64 (IntKind.u64.wrap ((Go.bits .and .u64 (a0 / 2) 6148914691236517205) + (Go.bits .and .u64 a0 6148914691236517205))) 3689348814741910323))) / 16) + (IntKind.u64.wrap ((Go.bits .and .u64 ((IntKind.u64.wrap ((Go.bits .and .u64 (a0 / 2) 6148914691236517205) + (Go.bits .and .u64 a0 6148914691236517205))) / 4) 3689348814741910323) + (Go.bits .and .u64 (IntKind.u64.wrap ((Go.bits .and .u64 (a0 / 2) 6148914691236517205) + (Go.bits .and .u64 a0 6148914691236517205))) 3689348814741910323))))) 1085102592571150095) / 256))) + ((IntKind.u64.wrap ((Go.bits .and .u64 (IntKind.u64.wrap (((IntKind.u64.wrap ((Go.bits .and .u64 ((IntKind.u64.wrap ((Go.bits .and .u64 (a0 / 2) 6148914691236517205) + (Go.bits .and .u64 a0 6148914691236517205))) / 4) 3689348814741910323) + (Go.bits .and .u64 (IntKind.u64.wrap ((Go.bits .and .u64 (a0 / 2) 6148914691236517205) + (Go.bits .and .u64 a0 6148914691236517205))) 3689348814741910323))) / 16) + (IntKind.u64.wrap ((Go.bits .and .u64 ((IntKind.u64.wrap ((Go.bits .and .u64 (a0 / 2) 6148914691236517205) + (Go.bits .and .u64 a0 6148914691236517205))) / 4) 3689348814741910323) + (Go.bits .and .u64 (IntKind.u64.wrap ((Go.bits .and .u64 (a0 / 2) 6148914691236517205) + (Go.bits .and .u64 a0 6148914691236517205))) 3689348814741910323))))) 1085102592571150095) + ((Go.bits .and .u64 (IntKind.u64.wrap (((IntKind.u64.wrap ((Go.bits .and .u64 ((IntKind.u64.wrap ((Go.bits .and .u64 (a0 / 2) 6148914691236517205) + (Go.bits .and .u64 a0 6148914691236517205))) / 4) 3689348814741910323) + (Go.bits .and .u64 (IntKind.u64.wrap ((Go.bits .and .u64 (a0 / 2) 6148914691236517205) + (Go.bits .and .u64 a0 6148914691236517205))) 3689348814741910323))) / 16) + (IntKind.u64.wrap ((Go.bits .and .u64 ((IntKind.u64.wrap ((Go.bits .and .u64 (a0 / 2) 6148914691236517205) + (Go.bits .and .u64 a0 6148914691236517205))) / 4) 3689348814741910323) + (Go.bits .and .u64 (IntKind.u64.wrap ((Go.bits .and .u64 (a0 / 2) 6148914691236517205) + (Go.bits .and .u64 a0 6148914691236517205))) 3689348814741910323))))) 1085102592571150095) / 256))) / 65536))) + ((IntKind.u64.wrap ((IntKind.u64.wrap ((Go.bits .and .u64 (IntKind.u64.wrap (((IntKind.u64.wrap ((Go.bits .and .u64 ((IntKind.u64.wrap ((Go.bits .and .u64 (a0 / 2) 6148914691236517205) + (Go.bits .and .u64 a0 6148914691236517205))) / 4) 3689348814741910323) + (Go.bits .and .u64 (IntKind.u64.wrap ((Go.bits .and .u64 (a0 / 2) 6148914691236517205) + (Go.bits .and .u64 a0 6148914691236517205))) 3689348814741910323))) / 16) + (IntKind.u64.wrap ((Go.bits .and .u64 ((IntKind.u64.wrap ((Go.bits .and .u64 (a0 / 2) 6148914691236517205) + (Go.bits .and .u64 a0 6148914691236517205))) / 4) 3689348814741910323) + (Go.bits .and .u64 (IntKind.u64.wrap ((Go.bits .and .u64 (a0 / 2) 6148914691236517205) + (Go.bits .and .u64 a0 6148914691236517205))) 3689348814741910323))))) 1085102592571150095) + ((Go.bits .and .u64 (IntKind.u64.wrap (((IntKind.u64.wrap ((Go.bits .and .u64 ((IntKind.u64.wrap ((Go.bits .and .u64 (a0 / 2) 6148914691236517205) + (Go.bits .and .u64 a0 6148914691236517205))) / 4) 3689348814741910323) + (Go.bits .and .u64 (IntKind.u64.wrap ((Go.bits .and .u64 (a0 / 2) 6148914691236517205) + (Go.bits .and .u64 a0 6148914691236517205))) 3689348814741910323))) / 16) + (IntKind.u64.wrap ((Go.bits .and .u64 ((IntKind.u64.wrap ((Go.bits .and .u64 (a0 / 2) 6148914691236517205) + (Go.bits .and .u64 a0 6148914691236517205))) / 4) 3689348814741910323) + (Go.bits .and .u64 (IntKind.u64.wrap ((Go.bits .and .u64 (a0 / 2) 6148914691236517205) + (Go.bits .and .u64 a0 6148914691236517205))) 3689348814741910323))))) 1085102592571150095) / 256))) + ((IntKind.u64.wrap ((Go.bits .and .u64 (IntKind.u64.wrap (((IntKind.u64.wrap ((Go.bits .and .u64 ((IntKind.u64.wrap ((Go.bits .and .u64 (a0 / 2) 6148914691236517205) + (Go.bits .and .u64 a0 6148914691236517205))) / 4) 3689348814741910323) + (Go.bits .and .u64 (IntKind.u64.wrap ((Go.bits .and .u64 (a0 / 2) 6148914691236517205) + (Go.bits .and .u64 a0 6148914691236517205))) 3689348814741910323))) / 16) + (IntKind.u64.wrap ((Go.bits .and .u64 ((IntKind.u64.wrap ((Go.bits .and .u64 (a0 / 2) 6148914691236517205) + (Go.bits .and .u64 a0 6148914691236517205))) / 4) 3689348814741910323) + (Go.bits .and .u64 (IntKind.u64.wrap ((Go.bits .and .u64 (a0 / 2) 6148914691236517205) + (Go.bits .and .u64 a0 6148914691236517205))) 3689348814741910323))))) 1085102592571150095) + ((Go.bits .and .u64 (IntKind.u64.wrap (((IntKind.u64.wrap ((Go.bits .and .u64 ((IntKind.u64.wrap ((Go.bits .and .u64 (a0 / 2) 6148914691236517205) + (Go.bits .and .u64 a0 6148914691236517205))) / 4) 3689348814741910323) + (Go.bits .and .u64 (IntKind.u64.wrap ((Go.bits .and .u64 (a0 / 2) 6148914691236517205) + (Go.bits .and .u64 a0 6148914691236517205))) 3689348814741910323))) / 16) + (IntKind.u64.wrap ((Go.bits .and .u64 ((IntKind.u64.wrap ((Go.bits .and .u64 (a0 / 2) 6148914691236517205) + (Go.bits .and .u64 a0 6148914691236517205))) / 4) 3689348814741910323) + (Go.bits .and .u64 (IntKind.u64.wrap ((Go.bits .and .u64 (a0 / 2) 6148914691236517205) + (Go.bits .and .u64 a0 6148914691236517205))) 3689348814741910323))))) 1085102592571150095) / 256))) / 65536))) / 4294967296)))) 127)
theorem bits_OnesCount64.calls (a0 : Int) (r : Int) (w : World) (h : bits_OnesCount64.f a0 = some r) :
  Calls Try.prog 86 #[.int .u64 a0] w fun e w' => e = .returned (.int .i64 r) ∧ Drawn0 w w' := by
 have H : (some (Go.bits .and .i64 (wrap64 (IntKind.u64.wrap ((IntKind.u64.wrap ((IntKind.u64.wrap ((Go.bits .and .u64 (IntKind.u64.wrap (((IntKind.u64.wrap ((Go.bits .and .u64 ((IntKind.u64.wrap ((Go.bits .and .u64 (a0 / 2) 6148914691236517205) + (Go.bits .and .u64 a0 6148914691236517205))) / 4) 3689348814741910323) + (Go.bits .and .u64 (IntKind.u64.wrap ((Go.bits .and .u64 (a0 / 2) 6148914691236517205) + (Go.bits .and .u64 a0 6148914691236517205))) 3689348814741910323))) / 16) + (IntKind.u64.wrap ((Go.bits .and .u64 ((IntKind.u64.wrap ((Go.bits .and .u64 (a0 / 2) 6148914691236517205) + (Go.bits .and .u64 a0 6148914691236517205))) / 4) 3689348814741910323) + (Go.bits .and .u64 (IntKind.u64.wrap ((Go.bits .and .u64 (a0 / 2) 6148914691236517205) + (Go.bits .and .u64 a0 6148914691236517205))) 3689348814741910323))))) 1085102592571150095) + ((Go.bits .and .u64 (IntKind.u64.wrap (((IntKind.u64.wrap ((Go.bits .and .u64 ((IntKind.u64.wrap ((Go.bits .and .u64 (a0 / 2) 6148914691236517205) + (Go.bits .and .u64 a0 6148914691236517205))) / 4) 3689348814741910323) + (Go.bits .and .u64 (IntKind.u64.wrap ((Go.bits .and .u64 (a0 / 2) 6148914691236517205) + (Go.bits .and .u64 a0 6148914691236517205))) 3689348814741910323))) / 16) + (IntKind.u64.wrap ((Go.bits .and .u64 ((IntKind.u64.wrap ((Go.bits .and .u64 (a0 / 2) 6148914691236517205) + (Go.bits .and .u64 a0 6148914691236517205))) / 4) 3689348814741910323) + (Go.bits .and .u64 (IntKind.u64.wrap ((Go.bits .and .u64 (a0 / 2) 6148914691236517205) + (Go.bits .and .u64 a0 6148914691236517205))) 3689348814741910323))))) 1085102592571150095) / 256))) + ((IntKind.u64.wrap ((Go.bits .and .u64 (IntKind.u64.wrap (((IntKind.u64.wrap ((Go.bits .and .u64 ((IntKind.u64.wrap ((Go.bits .and .u64 (a0 / 2) 6148914691236517205) + (Go.bits .and .u64 a0 6148914691236517205))) / 4) 3689348814741910323) + (Go.bits .and .u64 (IntKind.u64.wrap ((Go.bits .and .u64 (a0 / 2) 6148914691236517205) + (Go.bits .and .u64 a0 6148914691236517205))) 3689348814741910323))) / 16) + (IntKind.u64.wrap ((Go.bits .and .u64 ((IntKind.u64.wrap ((Go.bits .and .u64 (a0 / 2) 6148914691236517205) + (Go.bits .and .u64 a0 6148914691236517205))) / 4) 3689348814741910323) + (Go.bits .and .u64 (IntKind.u64.wrap ((Go.bits .and .u64 (a0 / 2) 6148914691236517205) + (Go.bits .and .u64 a0 6148914691236517205))) 3689348814741910323))))) 1085102592571150095) + ((Go.bits .and .u64 (IntKind.u64.wrap (((IntKind.u64.wrap ((Go.bits .and .u64 ((IntKind.u64.wrap ((Go.bits .and .u64 (a0 / 2) 6148914691236517205) + (Go.bits .and .u64 a0 6148914691236517205))) / 4) 3689348814741910323) + (Go.bits .and .u64 (IntKind.u64.wrap ((Go.bits .and .u64 (a0 / 2) 6148914691236517205) + (Go.bits .and .u64 a0 6148914691236517205))) 3689348814741910323))) / 16) + (IntKind.u64.wrap ((Go.bits .and .u64 ((IntKind.u64.wrap ((Go.bits .and .u64 (a0 / 2) 6148914691236517205) + (Go.bits .and .u64 a0 6148914691236517205))) / 4) 3689348814741910323) + (Go.bits .and .u64 (IntKind.u64.wrap ((Go.bits .and .u64 (a0 / 2) 6148914691236517205) + (Go.bits .and .u64 a0 6148914691236517205))) 3689348814741910323))))) 1085102592571150095) / 256))) / 65536))) + ((IntKind.u64.wrap ((IntKind.u64.wrap ((Go.bits .and .u64 (IntKind.u64.wrap (((IntKind.u64.wrap ((Go.bits .and .u64 ((IntKind.u64.wrap ((Go.bits .and .u64 (a0 / 2) 6148914691236517205) + (Go.bits .and .u64 a0 6148914691236517205))) / 4) 3689348814741910323) + (Go.bits .and .u64 (IntKind.u64.wrap ((Go.bits .and .u64 (a0 / 2) 6148914691236517205) + (Go.bits .and .u64 a0 6148914691236517205))) 3689348814741910323))) / 16) + (IntKind.u64.wrap ((Go.bits .and .u64 ((IntKind.u64.wrap ((Go.bits .and .u64 (a0 / 2) 6148914691236517205) + (Go.bits .and .u64 a0 6148914691236517205))) / 4) 3689348814741910323) + (Go.bits .and .u64 (IntKind.u64.wrap ((Go.bits .and .u64 (a0 / 2) 6148914691236517205) + (Go.bits .and .u64 a0 6148914691236517205))) 3689348814741910323))))) 1085102592571150095) + ((Go.bits .and .u64 (IntKind.u64.wrap (((IntKind.u64.wrap ((Go.bits .and .u64 ((IntKind.u64.wrap ((Go.bits .and .u64 (a0 / 2) 6148914691236517205) + (Go.bits .and .u64 a0 6148914691236517205))) / 4) 3689348814741910323) + (Go.bits .and .u64 (IntKind.u64.wrap ((Go.bits .and .u64 (a0 / 2) 6148914691236517205) + (Go.bits .and .u64 a0 6148914691236517205))) 3689348814741910323))) / 16) + (IntKind.u64.wrap ((Go.bits .and .u64 ((IntKind.u64.wrap ((Go.bits .and .u64 (a0 / 2) 6148914691236517205) + (Go.bits .and .u64 a0 6148914691236517205))) / 4) 3689348814741910323) + (Go.bits .and .u64 (IntKind.u64.wrap ((Go.bits .and .u64 (a0 / 2) 6148914691236517205) + (Go.bits .and .u64 a0 6148914691236517205))) 3689348814741910323))))) 1085102592571150095) / 256))) + ((IntKind.u64.wrap ((Go.bits .and .u64 (IntKind.u64.wrap (((IntKind.u64.wrap ((Go.bits .and .u64 ((IntKind.u64.wrap ((Go.bits .and .u64 (a0 / 2) 6148914691236517205) + (Go.bits .and .u64 a0 6148914691236517205))) / 4) 3689348814741910323) + (Go.bits .and .u64 (IntKind.u64.wrap ((Go.bits .and .u64 (a0 / 2) 6148914691236517205) + (Go.bits .and .u64 a0 6148914691236517205))) 3689348814741910323))) / 16) + (IntKind.u64.wrap ((Go.bits .and .u64 ((IntKind.u64.wrap ((Go.bits .and .u64 (a0 / 2) 6148914691236517205) + (Go.bits .and .u64 a0 6148914691236517205))) / 4) 3689348814741910323) + (Go.bits .and .u64 (IntKind.u64.wrap ((Go.bits .and .u64 (a0 / 2) 6148914691236517205) + (Go.bits .and .u64 a0 6148914691236517205))) 3689348814741910323))))) 1085102592571150095) + ((Go.bits .and .u64 (IntKind.u64.wrap (((IntKind.u64.wrap ((Go.bits .and .u64 ((IntKind.u64.wrap ((Go.bits .and .u64 (a0 / 2) 6148914691236517205) + (Go.bits .and .u64 a0 6148914691236517205))) / 4) 3689348814741910323) + (Go.bits .and .u64 (IntKind.u64.wrap ((Go.bits .and .u64 (a0 / 2) 6148914691236517205) + (Go.bits .and .u64 a0 6148914691236517205))) 3689348814741910323))) / 16) + (IntKind.u64.wrap ((Go.bits .and .u64 ((IntKind.u64.wrap ((Go.bits .and .u64 (a0 / 2) 6148914691236517205) + (Go.bits .and .u64 a0 6148914691236517205))) / 4) 3689348814741910323) + (Go.bits .and .u64 (IntKind.u64.wrap ((Go.bits .and .u64 (a0 / 2) 6148914691236517205) + (Go.bits .and .u64 a0 6148914691236517205))) 3689348814741910323))))) 1085102592571150095) / 256))) / 65536))) / 4294967296)))) 127)) = some r := h
 clear h
 obtain rfl := Option.some.inj H
 go_enter Try.func86, Try.ntmps86
 go_wp2
 go_ret
 exact ⟨rS, rD⟩
def bits_OnesCount.f (a0 : Int) : Option (Int) := (bits_OnesCount64.f a0).bind fun t101 => (some t101)
theorem bits_OnesCount.calls (a0 : Int) (r : Int) (w : World) (h : bits_OnesCount.f a0 = some r) :
  Calls Try.prog 59 #[.int .u64 a0] w fun e w' => e = .returned (.int .i64 r) ∧ Drawn0 w w' := by
 have H : ((bits_OnesCount64.f a0).bind fun t101 => (some t101)) = some r := h
 clear h
 replace H := Option.bind_eq_some_iff.mp H
 obtain ⟨t101, A20, H⟩ := H
 have A2 := Aside0.mk A20
 clear A20
 obtain rfl := Option.some.inj H
 go_enter Try.func59, Try.ntmps59
 go_wp2_with (first | (refine gC (some 7) Try.func86 #[.int .u64 a0] ?_; (with_reducible refine (bits_OnesCount64.calls a0 t101 _ A2.out).mono ?_); rintro e w' ⟨rfl, ⟨nd, rfl⟩⟩; refine ⟨_, rfl, ?_⟩))
 go_ret
 exact ⟨rS, rD⟩
def impl_CountBits.f (a0 : Int) : Option (Int) := (impl_isBits.f a0).bind fun t102 => (if t102 = true then ((bits_OnesCount.f (IntKind.u64.wrap (a0))).bind fun t103 => (some t103)) else (some 0))
theorem impl_CountBits.calls (a0 : Int) (r : Int) (w : World) (h : impl_CountBits.f a0 = some r) :
  Calls Try.prog 27 #[.int .i64 a0] w fun e w' => e = .returned (.int .i64 r) ∧ Drawn0 w w' := by
 have H : ((impl_isBits.f a0).bind fun t102 => (if t102 = true then ((bits_OnesCount.f (IntKind.u64.wrap (a0))).bind fun t103 => (some t103)) else (some 0))) = some r := h
 clear h
 replace H := Option.bind_eq_some_iff.mp H
 obtain ⟨t102, A20, H⟩ := H
 have A2 := Aside0.mk A20
 clear A20
 by_cases c3 : t102 = true
 ·subst c3
  rw [if_pos rfl] at H
  replace H := Option.bind_eq_some_iff.mp H
  obtain ⟨t103, A40, H⟩ := H
  have A4 := Aside0.mk A40
  clear A40
  obtain rfl := Option.some.inj H
  go_enter Try.func27, Try.ntmps27
  go_wp2_with (first | (refine gC (some 4) Try.func58 #[.int .i64 a0] ?_; (with_reducible refine (impl_isBits.calls a0 true _ A2.out).mono ?_); rintro e w' ⟨rfl, ⟨nd, rfl⟩⟩; refine ⟨_, rfl, ?_⟩) | (refine gC (some 8) Try.func59 #[.int .u64 (IntKind.u64.wrap (a0))] ?_; (with_reducible refine (bits_OnesCount.calls (IntKind.u64.wrap (a0)) t103 _ A4.out).mono ?_); rintro e w' ⟨rfl, ⟨nd, rfl⟩⟩; refine ⟨_, rfl, ?_⟩))
  go_ret
  exact ⟨rS, rD⟩
 ·replace c3 := Bool.eq_false_iff.mpr c3
  subst c3
  rw [if_neg (show ¬ (false = true) by decide)] at H
  obtain rfl := Option.some.inj H
  go_enter Try.func27, Try.ntmps27
  go_wp2_with (first | (refine gC (some 4) Try.func58 #[.int .i64 a0] ?_; (with_reducible refine (impl_isBits.calls a0 false _ A2.out).mono ?_); rintro e w' ⟨rfl, ⟨nd, rfl⟩⟩; refine ⟨_, rfl, ?_⟩))
  go_ret
  exact ⟨rS, rD⟩
def impl_PublicOf.f (a0 : Int) : Option (List Int) := (impl_CountBits.f a0).bind fun t104 => (some (([a0, t104] : List Int)))
theorem impl_PublicOf.calls (a0 : Int) (r : List Int) (w : World) (h : impl_PublicOf.f a0 = some r) :
  Calls Try.prog 31 #[.int .i64 a0] w fun e w' => ∃ v0_ : Value, e = .returned (v0_) ∧ Kd.R (Kd.int .i64) 3 w' w.heap.size (fun _ => True) v0_ r ∧ Below w.heap.size w w' := by
 have HB := Aside0.mk (Below.refl w.heap.size w)
 have H : ((impl_CountBits.f a0).bind fun t104 => (some (([a0, t104] : List Int)))) = some r := h
 clear h
 replace H := Option.bind_eq_some_iff.mp H
 obtain ⟨t104, A20, H⟩ := H
 have A2 := Aside0.mk A20
 clear A20
 obtain ⟨y105, hy105⟩ : ∃ y_ : List Int, y_ = (([a0, t104] : List Int)) := ⟨_, rfl⟩
 replace H : (some y105) = some r := by first | (rw [hy105]; with_reducible exact H) | (have H2_ := (Option.bind_some _ _).symm.trans H; rw [hy105]; with_reducible exact H2_) | (have H2_ := (Option.bind_some _ _).symm.trans H; with_reducible exact H2_) | with_reducible exact H | (rw [hy105]; exact H) | exact H
 have Ny105 := Aside0.mk hy105
 clear hy105
 obtain rfl := Option.some.inj H
 go_enter Try.func31, Try.ntmps31
 go_wp2_with (first | (refine gC (some 5) Try.func27 #[.int .i64 a0] ?_; (with_reducible refine (impl_CountBits.calls a0 t104 _ A2.out).mono ?_); rintro e w' ⟨rfl, ⟨nd, rfl⟩⟩; refine ⟨_, rfl, ?_⟩) | ((with_reducible refine gate_dst (N := 6) rfl ?_); refine Kd.R_lit (Kd.int .i64) _ 3 ?hg (N := 6) ?hd (xs := ([a0, t104] : List Int)) (inner := [.int .i64 a0, .int .i64 t104]) (ok := fun _ => True) (okp := fun _ => True) ?hr ?hp (fun _ hk => hk) trivial (Below.refl _ _) (Nat.le_refl _) (by simp) ?_; (case hd => rfl); (case hg => rfl); (case hr => first | (go_simp; done) | (go_simp; rfl)); (case hp => exact (Reps.one (show Kd.M (Kd.int .i64) _ _ _ a0 [.int .i64 a0] from rfl) (Reps.one (show Kd.M (Kd.int .i64) _ _ _ t104 [.int .i64 t104] from rfl) (Reps.none _ _)))); intro v106 w3 ho4 hb hg_ hnew_; clear hg_ hnew_; (first | rw [← Ny105.out] at ho4 | (simp only [Int.reduceToNat] at ho4; rw [← Ny105.out] at ho4)); have HO107 := Aside0.mk (Kd.R_lower ho4 (below_size (bZ HB))); replace HB := bS HB hb; clear hb ho4))
 go_ret
 exact ⟨_, by first | rfl | (simp [errW_none, errW_some] <;> rfl) | (simp [*, errW_none, errW_some] <;> rfl), by (with_reducible repeat (first | apply Kd.R_alloc | apply Kd.R_drewN | apply Kd.R_drew)); exact HO107.out, bZ HB⟩
end Go.Proofs.Ythdpfjkdpeamnaa.Pf
end
section
namespace Go.Proofs.Ythdpfjkdpeamnaa.Pf
open Go.RowKit Go.Proofs.YthdpfjkdpeamnaaW.PrintWords Go.Proofs.YthdpfjkdpeamnaaW.PrintLast Go.Proofs.YthdpfjkdpeamnaaW.PrintMore
attribute [local go_sem] max2_int min2_int max_two min_two max_three min_three max_four min_four
set_option linter.unusedVariables false
set_option linter.unusedSimpArgs false
set_option maxHeartbeats 8000000
set_option maxRecDepth 100000
def slices_Concat_int_int.rdL (xs : List (List Int)) (i : Int) : (List Int) := xs.getD i.toNat ([] : List Int)
theorem slices_Concat_int_int.atL {w : World} {A : Option Addr} {n : Nat} {xs : List (List Int)} (h : Kd.C (Kd.slice 3 (Kd.int .i64)) w A n xs) (i : Int) (h0 : 0 ≤ i) (h1 : i < n) : ∃ ad A0 c0, A = some ad ∧ w.cell? (ad.add i.toNat) = some (.slice A0 (slices_Concat_int_int.rdL xs i).length c0) ∧ (slices_Concat_int_int.rdL xs i).length ≤ c0 ∧ (Kd.int .i64).C w A0 (slices_Concat_int_int.rdL xs i).length (slices_Concat_int_int.rdL xs i) := by
 obtain ⟨ad, c, e, _, hK, hc0⟩ := Kd.C_get h ([] : List Int) i h0 h1
 have hc : ∀ j u, c[j]? = some u → w.cell? (ad.add (i.toNat * 1 + j)) = some u := hc0
 obtain ⟨A0, c0, rfl, l0, g0⟩ := hK
 exact ⟨ad, A0, c0, e, by have hq := hc 0 _ rfl; rwa [Nat.mul_one, Nat.add_zero] at hq, l0, g0⟩
def growNil.f (a0 : Int) : Option (List Int) := if 0 ≤ a0 then (if a0 ≤ 17592186044416 then some [] else none) else none
set_option maxHeartbeats 2000000 in
theorem growNil.calls (a0 : Int) (r : List Int) (w : World) (h : growNil.f a0 = some r) :
  Calls Try.prog 89 #[.slice none 0 0, .int .i64 a0] w fun e w' => ∃ v0_ : Value, e = .returned (v0_) ∧ Kd.R (Kd.int .i64) 3 w' w.heap.size (fun _ => True) v0_ r ∧ Below w.heap.size w w' := by
 unfold growNil.f at h
 by_cases h0 : 0 ≤ a0
 ·rw [if_pos h0] at h
  by_cases h1 : a0 ≤ 17592186044416
  ·rw [if_pos h1] at h
   obtain rfl := Option.some.inj h
   have HB := Aside0.mk (Below.refl w.heap.size w)
   have e0 : decide (a0 < 0) = false := decide_eq_false (by omega)
   have e1 : wrap64 (a0 - 0) = a0 := by unfold wrap64; omega
   by_cases hz : a0 > 0
   ·have e2 : decide (a0 > 0) = true := decide_eq_true hz
    go_enter Try.func89, Try.ntmps89
    go_wp2_with (first | (at_builtin; refine Kd.R_append_zeros (Kd.int .i64) (w0 := w) w.heap.size rfl (.tmp 20) (.tmp 21) 31 3 3 (.int .i64 0) 8 rfl Try.underlying31 Try.underlying3 info3 rfl (by decide) (by decide) (.slice none 0 0) [] 0 a0 (fun _ => True) rfl rfl rfl (fun _ _ => trivial) (Kd.R_nil _ _ _ _ _) h0 HB.out (Nat.le_refl _) (by simp; omega) ?_; intro v1 w1 ho hb hg hat; clear hg hat; obtain ⟨A1, c1, rfl⟩ := Kd.R_slice ho; obtain ⟨i0, hi0, _, hsz, _⟩ := info_parts info3; have hcut := cut_to (P := Try.prog) 31 3 .i64 Try.underlying31 hi0 A1 (([] : List Int) ++ List.replicate a0.toNat 0).length c1 0 (by decide) (by omega) (Kd.R_reads' ho).2.1; have hr := Kd.R_take (m := 0) ho (Nat.zero_le _); have HO := Aside0.mk hr; have HB1 := Aside0.mk hb; clear ho hb hr))
    go_ret
    exact ⟨_, rfl, by (with_reducible repeat (first | apply Kd.R_alloc | apply Kd.R_drewN | apply Kd.R_drew)); exact HO.out, by repeat (first | (with_reducible first | exact HB1.out | apply below_alloc | apply pw_below_drewN | apply below_drew1) | exact HB1.out)⟩
   ·have e2 : decide (a0 > 0) = false := decide_eq_false hz
    go_enter Try.func89, Try.ntmps89
    go_wp2
    go_ret
    exact ⟨_, rfl, Kd.R_nil _ _ _ _ _, bZ HB⟩
  ·rw [if_neg h1] at h; exact absurd h (by simp)
 ·rw [if_neg h0] at h; exact absurd h (by simp)
mutual
def slices_Concat_int_int.l0 : Nat → List (List Int) → Int → List (List Int) → Int → Int → Option (List Int)
 | 0, _, _, _, _, _ => none
 | k + 1, x0, x3, x9, x10, x11 => if x11 < x10 then (if 0 ≤ x11 then (if x11 < (x9.length : Int) then (if (wrap64 (x3 + ((slices_Concat_int_int.rdL x9 x11).length : Int))) < 0 then none else (slices_Concat_int_int.l0 k x0 (wrap64 (x3 + ((slices_Concat_int_int.rdL x9 x11).length : Int))) x9 x10 (wrap64 (x11 + 1)))) else (none)) else (none)) else ((growNil.f x3).bind fun t109 => (slices_Concat_int_int.l1 k t109 x0 (x0.length : Int) 0))
def slices_Concat_int_int.l1 : Nat → List Int → List (List Int) → Int → Int → Option (List Int)
 | 0, _, _, _, _ => none
 | k + 1, x6, x25, x26, x27 => if x27 < x26 then (if 0 ≤ x27 then (if x27 < (x25.length : Int) then (if x6.length + (slices_Concat_int_int.rdL x25 x27).length < 17592186044416 then (slices_Concat_int_int.l1 k (x6 ++ (slices_Concat_int_int.rdL x25 x27)) x25 x26 (wrap64 (x27 + 1))) else (none)) else (none)) else (none)) else (some x6)
end
def slices_Concat_int_int.f (k : Nat) (l0 : List (List Int)) : Option (List Int) := slices_Concat_int_int.l0 k l0 0 l0 (l0.length : Int) 0
theorem slices_Concat_int_int.mono_l : ∀ k, (∀ y0 y1 y2 y3 y4, LeO (slices_Concat_int_int.l0 k y0 y1 y2 y3 y4) (slices_Concat_int_int.l0 (k + 1) y0 y1 y2 y3 y4)) ∧ (∀ y0 y1 y2 y3, LeO (slices_Concat_int_int.l1 k y0 y1 y2 y3) (slices_Concat_int_int.l1 (k + 1) y0 y1 y2 y3))
 | 0 => ⟨fun _ _ _ _ _ r h => by simp [slices_Concat_int_int.l0] at h, fun _ _ _ _ r h => by simp [slices_Concat_int_int.l1] at h⟩
 | k + 1 => by
  obtain ⟨ih0, ih1⟩ := slices_Concat_int_int.mono_l k
  refine ⟨?_, ?_⟩
  ·intro y0 y1 y2 y3 y4
   unfold slices_Concat_int_int.l0
   with_reducible repeat' first | exact ih0 _ _ _ _ _ | exact ih1 _ _ _ _ | exact LeO.refl _ | exact LeO.none _ | refine LeO.ite ?_ ?_ | refine LeO.bind ?_ (fun _ => ?_)
  ·intro y0 y1 y2 y3
   unfold slices_Concat_int_int.l1
   with_reducible repeat' first | exact ih0 _ _ _ _ _ | exact ih1 _ _ _ _ | exact LeO.refl _ | exact LeO.none _ | refine LeO.ite ?_ ?_ | refine LeO.bind ?_ (fun _ => ?_)
theorem slices_Concat_int_int.mono : ∀ a0 k, LeO (slices_Concat_int_int.f k a0) (slices_Concat_int_int.f (k + 1) a0) := by
 intro a0 k
 obtain ⟨ih0, ih1⟩ := slices_Concat_int_int.mono_l k
 unfold slices_Concat_int_int.f
 with_reducible repeat' first | exact ih0 _ _ _ _ _ | exact ih1 _ _ _ _ | exact LeO.refl _ | exact LeO.none _ | refine LeO.ite ?_ ?_ | refine LeO.bind ?_ (fun _ => ?_)
theorem slices_Concat_int_int.calls (k : Nat) (A0 : Option Addr) (c0 : Nat) (l0 : List (List Int)) (r : List Int) (w : World) (hr0 : Kd.C (Kd.slice 3 (Kd.int .i64)) w A0 l0.length l0) (hc0 : l0.length ≤ c0) (h : slices_Concat_int_int.f k l0 = some r) :
  Calls Try.prog 65 #[.slice A0 l0.length c0] w fun e w' => ∃ v0_ : Value, e = .returned (v0_) ∧ Kd.R (Kd.int .i64) 3 w' w.heap.size (fun _ => True) v0_ r ∧ Below w.heap.size w w' := by
 have HR0 := Aside0.mk hr0
 have HC0 := Aside0.mk hc0
 clear hr0 hc0
 have HB := Aside0.mk (Below.refl w.heap.size w)
 have H : (slices_Concat_int_int.l0 k l0 0 l0 (l0.length : Int) 0) = some r := h
 clear h
 have H' := Aside0.mk H
 clear H
 go_enter Try.func65, Try.ntmps65
 go_wp2
 go_loopg [3, 11] k (fun kq v3 v11 w' => ∃ (x3_1 : Int) (x11_1 : Int), v3 = .int .i64 x3_1 ∧ v11 = .int .i64 x11_1 ∧ Aside0 (slices_Concat_int_int.l0 kq l0 x3_1 l0 (l0.length : Int) x11_1 = some r) ∧ Aside0 (kq ≤ k) ∧ Aside0 (Below w.heap.size w w'))
 case atStart => exact ⟨(0), (0), rS, rS, H', ⟨Nat.le_refl _⟩, ⟨bZ HB⟩⟩
 case round =>
  clear H'
  obtain ⟨x3_1, x11_1, rfl, rfl, HA, HK1, HB⟩ := hrel
  cases gk with
  | zero => exact absurd HA.out (by simp [slices_Concat_int_int.l0])
  | succ k1 =>
   have H := HA.out
   clear HA
   simp only [slices_Concat_int_int.l0] at H
   by_cases c2 : x11_1 < (l0.length : Int)
   ·rw [if_pos c2] at H
    have c2b0 := decide_eq_true c2
    clear c2
    by_cases c3 : 0 ≤ x11_1
    ·rw [if_pos c3] at H
     have c3b0 := decide_eq_true c3
     clear c3
     by_cases c4 : x11_1 < (l0.length : Int)
     ·rw [if_pos c4] at H
      have c4b0 := decide_eq_true c4
      clear c4
      by_cases c5 : (wrap64 (x3_1 + ((slices_Concat_int_int.rdL l0 x11_1).length : Int))) < 0
      ·rw [if_pos c5] at H
       exact absurd H (by simp)
      ·rw [if_neg c5] at H
       have c5b0 := decide_eq_false c5
       clear c5
       have H' := Aside0.mk H
       clear H
       have p108 : 0 ≤ (x11_1 : Int) := of_decide_eq_true (by first | (with_reducible assumption) | assumption)
       have q108 : x11_1 < (l0.length : Int) := of_decide_eq_true (by first | (with_reducible assumption) | assumption)
       obtain ⟨ad108, A108_0, c108_0, e108, hx108_0, hl108_0, hi108_0⟩ := slices_Concat_int_int.atL HR0.out x11_1 p108 q108
       cases e108
       replace hx108_0 := (hC HB hx108_0 :)
       have HR108_0 := Aside0.mk hi108_0
       have HC108_0 := Aside0.mk hl108_0
       clear hi108_0 hl108_0
       replace p108 := eq_true p108
       replace q108 := eq_true q108
       go_wp2
       go_roundg k1
       case measure => have := HK1.out; omega
       case rel => exact ⟨(wrap64 (x3_1 + ((slices_Concat_int_int.rdL l0 x11_1).length : Int))), (wrap64 (x11_1 + 1)), rS, rS, H', ⟨by have := HK1.out; omega⟩, ⟨bZ HB⟩⟩
     ·rw [if_neg c4] at H
      exact absurd H (by simp)
    ·rw [if_neg c3] at H
     exact absurd H (by simp)
   ·rw [if_neg c2] at H
    have c2b0 := decide_eq_false c2
    clear c2
    replace H := Option.bind_eq_some_iff.mp H
    obtain ⟨t109, A60, H⟩ := H
    have A6 := Aside0.mk A60
    clear A60
    have H' := Aside0.mk H
    clear H
    go_wp2_with (first | (refine gC (some 24) Try.func89 #[.slice none 0 0, .int .i64 x3_1] ?_; (with_reducible refine (growNil.calls x3_1 t109 _ A6.out).mono ?_); rintro e w7 ⟨v110, rfl, ho0, hb⟩; refine ⟨_, rfl, ?_⟩; have HO111 := Aside0.mk (Kd.R_lower ho0 (below_size (bZ HB))); replace HB := bS HB hb; (try clear hb); (try clear ho0)))
    go_loopg [6, 27] k1 (fun kq v6 v27 w' => ∃ (x6_2 : List Int) (x27_2 : Int), v27 = .int .i64 x27_2 ∧ Aside0 (slices_Concat_int_int.l1 kq x6_2 l0 (l0.length : Int) x27_2 = some r) ∧ Aside0 (kq ≤ k1) ∧ Aside0 (Kd.R (Kd.int .i64) 3 w' w.heap.size (fun _ => True) v6 x6_2) ∧ Aside0 (Below w.heap.size w w'))
    case atStart => exact ⟨(t109), (0), rS, H', ⟨Nat.le_refl _⟩, ⟨rP HO111⟩, ⟨bZ HB⟩⟩
    case round =>
     clear H'
     try clear c1
     try clear p1
     try clear q1
     try clear hx1
     try clear c2
     try clear c2b0
     try clear p2
     try clear c3
     try clear c3b0
     try clear c4
     try clear c4b0
     try clear c5
     try clear c5b0
     try clear c6
     try clear p6
     try clear hx108_0
     try clear p108
     try clear q108
     obtain ⟨x6_2, x27_2, rfl, HA, HK2, HO_6, HB⟩ := hrel
     cases gk with
     | zero => exact absurd HA.out (by simp [slices_Concat_int_int.l1])
     | succ k2 =>
      have H := HA.out
      clear HA
      simp only [slices_Concat_int_int.l1] at H
      by_cases c8 : x27_2 < (l0.length : Int)
      ·rw [if_pos c8] at H
       have c8b0 := decide_eq_true c8
       clear c8
       by_cases c9 : 0 ≤ x27_2
       ·rw [if_pos c9] at H
        have c9b0 := decide_eq_true c9
        clear c9
        by_cases c10 : x27_2 < (l0.length : Int)
        ·rw [if_pos c10] at H
         have c10b0 := decide_eq_true c10
         clear c10
         by_cases c11 : x6_2.length + (slices_Concat_int_int.rdL l0 x27_2).length < 17592186044416
         ·rw [if_pos c11] at H
          have LMc11 := Aside0.mk c11
          clear c11
          obtain ⟨y113, hy113⟩ : ∃ y_ : List Int, y_ = (x6_2 ++ (slices_Concat_int_int.rdL l0 x27_2)) := ⟨_, rfl⟩
          replace H : (slices_Concat_int_int.l1 k2 y113 l0 (l0.length : Int) (wrap64 (x27_2 + 1))) = some r := by first | (rw [hy113]; with_reducible exact H) | (have H2_ := (Option.bind_some _ _).symm.trans H; rw [hy113]; with_reducible exact H2_) | (have H2_ := (Option.bind_some _ _).symm.trans H; with_reducible exact H2_) | with_reducible exact H | (rw [hy113]; exact H) | exact H
          have Ny113 := Aside0.mk hy113
          clear hy113
          have H' := Aside0.mk H
          clear H
          have p112 : 0 ≤ (x27_2 : Int) := of_decide_eq_true (by first | (with_reducible assumption) | assumption)
          have q112 : x27_2 < (l0.length : Int) := of_decide_eq_true (by first | (with_reducible assumption) | assumption)
          obtain ⟨ad112, A112_0, c112_0, e112, hx112_0, hl112_0, hi112_0⟩ := slices_Concat_int_int.atL HR0.out x27_2 p112 q112
          cases e112
          replace hx112_0 := (hC HB hx112_0 :)
          have HR112_0 := Aside0.mk hi112_0
          have HC112_0 := Aside0.mk hl112_0
          clear hi112_0 hl112_0
          replace p112 := eq_true p112
          replace q112 := eq_true q112
          go_wp2_with (first | ((with_reducible refine gate_builtin (b := .append) (xs := #[.tmp 31, .tmp 32]) rfl ?_); at_builtin; refine Kd.R_append_rows (Kd.int .i64) (w0 := w) w.heap.size rfl (.tmp 31) (.tmp 32) 31 3 (.int .i64 0) 8 rfl Try.underlying31 info3 rfl (by decide) (by omega) u6 x6_2 (slices_Concat_int_int.rdL l0 x27_2) _ _ _ (fun _ => True) (fun _ => False) rfl rfl ?aO ?aR (fun _ _ h => h) (fun _ h => h.elim) ?aF ?aB ?aS ?aL ?_; (case aR => exact cP (Kd.C_below HR112_0.out HB.out)); (case aB => exact (bZ HB)); (case aF => exact (fun _ _ => trivial)); (case aO => exact (rP HO_6)); (case aS => exact (below_size (bZ HB))); (case aL => have := LMc11.out; omega); intro v114 w12 ho hb hg hat; rw [← Ny113.out] at ho; replace HB := Aside0.mk (hb); have HO115 := Aside0.mk (ho); clear HO_6; clear ho hb hg hat))
          go_roundg k2
          case measure => have := HK1.out; have := HK2.out; omega
          case rel => exact ⟨(y113), (wrap64 (x27_2 + 1)), rS, H', ⟨by have := HK1.out; have := HK2.out; omega⟩, ⟨rP HO115⟩, ⟨bZ HB⟩⟩
         ·rw [if_neg c11] at H
          exact absurd H (by simp)
        ·rw [if_neg c10] at H
         exact absurd H (by simp)
       ·rw [if_neg c9] at H
        exact absurd H (by simp)
      ·rw [if_neg c8] at H
       have c8b0 := decide_eq_false c8
       clear c8
       obtain rfl := Option.some.inj H
       go_wp2
       go_ret
       exact ⟨_, by first | rfl | (simp [errW_none, errW_some] <;> rfl) | (simp [*, errW_none, errW_some] <;> rfl), by (with_reducible repeat (first | apply Kd.R_alloc | apply Kd.R_drewN | apply Kd.R_drew)); exact HO_6.out, bZ HB⟩
end Go.Proofs.Ythdpfjkdpeamnaa.Pf
end
section
namespace Go.Proofs.Ythdpfjkdpeamnaa.Pf
open Go.RowKit Go.Proofs.YthdpfjkdpeamnaaW.PrintWords Go.Proofs.YthdpfjkdpeamnaaW.PrintLast Go.Proofs.YthdpfjkdpeamnaaW.PrintMore
attribute [local go_sem] max2_int min2_int max_two min_two max_three min_three max_four min_four
set_option linter.unusedVariables false
set_option linter.unusedSimpArgs false
set_option maxHeartbeats 8000000
set_option maxRecDepth 100000
def impl_CountWitness.l0 : Nat → Int → List Int → Int → Option (List Int)
 | 0, _, _, _ => none
 | k + 1, x0, x3, x13 => if x13 < 8 then (if 0 ≤ (IntKind.u64.wrap (x13)) then (if x3.length < 17592186044416 then (impl_CountWitness.l0 k x0 (x3 ++ [Go.bits .and .i64 (shr .i64 x0 (IntKind.u64.wrap (x13))) 1]) (wrap64 (x13 + 1))) else (none)) else (none)) else (some x3)
def impl_CountWitness.f (k : Nat) (a0 : Int) : Option (List Int) := (impl_isBits.f a0).bind fun t108 => (if t108 = true then ((impl_PublicOf.f a0).bind fun t112 => ((slices_Concat_int_int.f k (([(([1] : List Int)), t112] : List (List Int)))).bind fun t118 => (impl_CountWitness.l0 k a0 t118 0))) else (some ([] : List Int)))
theorem impl_CountWitness.mono_l : ∀ k, (∀ y0 y1 y2, LeO (impl_CountWitness.l0 k y0 y1 y2) (impl_CountWitness.l0 (k + 1) y0 y1 y2))
 | 0 => fun _ _ _ r h => by simp [impl_CountWitness.l0] at h
 | k + 1 => by
  have ih0 := impl_CountWitness.mono_l k
  ·intro y0 y1 y2
   unfold impl_CountWitness.l0
   with_reducible repeat' first | exact ih0 _ _ _ | exact slices_Concat_int_int.mono _ _ | exact LeO.refl _ | exact LeO.none _ | refine LeO.ite ?_ ?_ | refine LeO.bind ?_ (fun _ => ?_)
theorem impl_CountWitness.mono : ∀ a0 k, LeO (impl_CountWitness.f k a0) (impl_CountWitness.f (k + 1) a0) := by
 intro a0 k
 have ih0 := impl_CountWitness.mono_l k
 unfold impl_CountWitness.f
 with_reducible repeat' first | exact ih0 _ _ _ | exact slices_Concat_int_int.mono _ _ | exact LeO.refl _ | exact LeO.none _ | refine LeO.ite ?_ ?_ | refine LeO.bind ?_ (fun _ => ?_)
theorem impl_CountWitness.calls (k : Nat) (a0 : Int) (r : List Int) (w : World) (h : impl_CountWitness.f k a0 = some r) :
  Calls Try.prog 36 #[.int .i64 a0] w fun e w' => ∃ v0_ : Value, e = .returned (v0_) ∧ Kd.R (Kd.int .i64) 3 w' w.heap.size (fun _ => True) v0_ r ∧ Below w.heap.size w w' := by
 have HB := Aside0.mk (Below.refl w.heap.size w)
 have H : ((impl_isBits.f a0).bind fun t108 => (if t108 = true then ((impl_PublicOf.f a0).bind fun t112 => ((slices_Concat_int_int.f k (([(([1] : List Int)), t112] : List (List Int)))).bind fun t118 => (impl_CountWitness.l0 k a0 t118 0))) else (some ([] : List Int)))) = some r := h
 clear h
 replace H := Option.bind_eq_some_iff.mp H
 obtain ⟨t108, A20, H⟩ := H
 have A2 := Aside0.mk A20
 clear A20
 by_cases c3 : t108 = true
 ·subst c3
  rw [if_pos rfl] at H
  obtain ⟨y109, hy109⟩ : ∃ y_ : List Int, y_ = (([1] : List Int)) := ⟨_, rfl⟩
  replace H : ((impl_PublicOf.f a0).bind fun t112 => ((slices_Concat_int_int.f k (([y109, t112] : List (List Int)))).bind fun t118 => (impl_CountWitness.l0 k a0 t118 0))) = some r := by first | (rw [hy109]; with_reducible exact H) | (have H2_ := (Option.bind_some _ _).symm.trans H; rw [hy109]; with_reducible exact H2_) | (have H2_ := (Option.bind_some _ _).symm.trans H; with_reducible exact H2_) | with_reducible exact H | (rw [hy109]; exact H) | exact H
  have Ny109 := Aside0.mk hy109
  clear hy109
  replace H := Option.bind_eq_some_iff.mp H
  obtain ⟨t112, A40, H⟩ := H
  have A4 := Aside0.mk A40
  clear A40
  obtain ⟨y115, hy115⟩ : ∃ y_ : List (List Int), y_ = (([y109, t112] : List (List Int))) := ⟨_, rfl⟩
  replace H : ((slices_Concat_int_int.f k y115).bind fun t118 => (impl_CountWitness.l0 k a0 t118 0)) = some r := by first | (rw [hy115]; with_reducible exact H) | (have H2_ := (Option.bind_some _ _).symm.trans H; rw [hy115]; with_reducible exact H2_) | (have H2_ := (Option.bind_some _ _).symm.trans H; with_reducible exact H2_) | with_reducible exact H | (rw [hy115]; exact H) | exact H
  have Ny115 := Aside0.mk hy115
  clear hy115
  replace H := Option.bind_eq_some_iff.mp H
  obtain ⟨t118, A50, H⟩ := H
  have A5 := Aside0.mk A50
  clear A50
  have H' := Aside0.mk H
  clear H
  go_enter Try.func36, Try.ntmps36
  go_wp2_with (first | (refine gC (some 6) Try.func58 #[.int .i64 a0] ?_; (with_reducible refine (impl_isBits.calls a0 true _ A2.out).mono ?_); rintro e w' ⟨rfl, ⟨nd, rfl⟩⟩; refine ⟨_, rfl, ?_⟩) | ((with_reducible refine gate_dst (N := 8) rfl ?_); refine Kd.R_lit (Kd.int .i64) _ 3 ?hg (N := 8) ?hd (xs := ([1] : List Int)) (inner := [.int .i64 1]) (ok := fun _ => True) (okp := fun _ => True) ?hr ?hp (fun _ hk => hk) trivial (Below.refl _ _) (Nat.le_refl _) (by simp) ?_; (case hd => rfl); (case hg => rfl); (case hr => first | (go_simp; done) | (go_simp; rfl)); (case hp => exact (Reps.one (show Kd.M (Kd.int .i64) _ _ _ 1 [.int .i64 1] from rfl) (Reps.none _ _))); intro v110 w6 ho7 hb hg_ hnew_; clear hg_ hnew_; (first | rw [← Ny109.out] at ho7 | (simp only [Int.reduceToNat] at ho7; rw [← Ny109.out] at ho7)); have HO111 := Aside0.mk (Kd.R_lower ho7 (below_size (bZ HB))); replace HB := bS HB hb; clear hb ho7) | (refine gC (some 10) Try.func31 #[.int .i64 a0] ?_; (with_reducible refine (impl_PublicOf.calls a0 t112 _ A4.out).mono ?_); rintro e w8 ⟨v113, rfl, ho0, hb⟩; refine ⟨_, rfl, ?_⟩; have HO114 := Aside0.mk (Kd.R_lower (Kd.R_new' ho0 (Kd.R_lt (rP HO111))) (below_size (bZ HB))); replace HO111 := Aside0.mk (Kd.R_elder' (rP HO111) (Kd.R_base ho0) hb); replace HB := bS HB hb; (try clear hb); (try clear ho0); obtain ⟨Ao9, co9, eo9⟩ := Kd.R_slice HO111.out; subst eo9; obtain ⟨Ao10, co10, eo10⟩ := Kd.R_slice HO114.out; subst eo10) | ((with_reducible refine gate_dst (N := 11) rfl ?_); refine Kd.N_lit (Kd.slice 3 (Kd.int .i64)) _ 31 ?hg (N' := 11) ?hd (xs := ([y109, t112] : List (List Int))) (inner := [.slice Ao9 y109.length co9, .slice Ao10 t112.length co10]) (ok := (fun _ => True)) (okp := (fun _ => True)) ?hr ?hp (fun _ hk => hk) ((show ∀ k_, w8.heap.size ≤ k_ → (fun _ => True) k_ from fun k_ hk => trivial) _ (Nat.le_refl _)) (Below.refl _ _) (Nat.le_refl _) (by simp) ?_; (case hd => rfl); (case hg => rfl); (case hr => first | (go_simp; done) | (go_simp; rfl)); (case hp => exact (Reps.one (show Kd.FK (Kd.slice 3 (Kd.int .i64)) _ _ y109 [.slice Ao9 y109.length co9] from (Kd.FK_slice_mk (Kd.R_reads' (Kd.R_mono (ok' := (fun _ => True)) (HO111.out) (fun k_ hk => trivial))).2.1 (Kd.R_F (Kd.R_mono (ok' := (fun _ => True)) (HO111.out) (fun k_ hk => trivial))))) (Reps.one (show Kd.FK (Kd.slice 3 (Kd.int .i64)) _ _ t112 [.slice Ao10 t112.length co10] from (Kd.FK_slice_mk (Kd.R_reads' (Kd.R_mono (ok' := (fun _ => True)) (HO114.out) (fun k_ hk => trivial))).2.1 (Kd.R_F (Kd.R_mono (ok' := (fun _ => True)) (HO114.out) (fun k_ hk => trivial))))) (Reps.none _ _)))); intro v116 w11 ho12 hb hg_ hnew_; clear hg_ hnew_; (first | rw [← Ny115.out] at ho12 | (simp only [Int.reduceToNat] at ho12; rw [← Ny115.out] at ho12)); have HO117 := Aside0.mk (Kd.N_lower ho12 (below_size (bZ HB))); replace HB := bS HB hb; clear HO111 HO114; clear hb ho12; obtain ⟨Ao13, co13, eo13⟩ := Kd.N_slice HO117.out; subst eo13) | (refine gC (some 12) Try.func65 #[.slice Ao13 y115.length co13] ?_; (with_reducible refine (slices_Concat_int_int.calls k _ _ y115 t118 _ ?side1 ?side2 A5.out).mono ?_); (case side1 => exact cP ((Kd.N_reads' HO117.out).2.2)); (case side2 => exact (Kd.N_reads' HO117.out).2.1); rintro e w14 ⟨v119, rfl, ho0, hb⟩; refine ⟨_, rfl, ?_⟩; replace HO117 := Aside0.mk (Kd.N_elder' (by (with_reducible repeat (first | apply Kd.N_alloc | apply Kd.N_drewN | apply Kd.N_drew)); exact HO117.out) (Kd.R_base ho0) hb); have HO120 := Aside0.mk (Kd.R_lower ho0 (below_size (bZ HB))); replace HB := bS HB hb; (try clear hb); (try clear ho0)))
  go_loopg [3, 13] k (fun kq v3 v13 w' => ∃ (x3_1 : List Int) (x13_1 : Int), v13 = .int .i64 x13_1 ∧ Aside0 (impl_CountWitness.l0 kq a0 x3_1 x13_1 = some r) ∧ Aside0 (kq ≤ k) ∧ Aside0 (Kd.R (Kd.int .i64) 3 w' w.heap.size (fun _ => True) v3 x3_1) ∧ Aside0 (Below w.heap.size w w'))
  case atStart => exact ⟨(t118), (0), rS, H', ⟨Nat.le_refl _⟩, ⟨rP HO120⟩, ⟨bZ HB⟩⟩
  case round =>
   clear H'
   try clear p2
   try clear c3
   try clear c5
   try clear c6
   obtain ⟨x3_1, x13_1, rfl, HA, HK1, HO_3, HB⟩ := hrel
   cases gk with
   | zero => exact absurd HA.out (by simp [impl_CountWitness.l0])
   | succ k1 =>
    have H := HA.out
    clear HA
    simp only [impl_CountWitness.l0] at H
    by_cases c15 : x13_1 < 8
    ·rw [if_pos c15] at H
     have c15b0 := decide_eq_true c15
     clear c15
     obtain ⟨ji16, hji16⟩ : ∃ j_ : Int, (IntKind.u64.wrap (x13_1)) = j_ := ⟨_, rfl⟩
     replace H : (if 0 ≤ (ji16) then (if x3_1.length < 17592186044416 then (impl_CountWitness.l0 k1 a0 (x3_1 ++ [Go.bits .and .i64 (shr .i64 a0 (ji16)) 1]) (wrap64 (x13_1 + 1))) else (none)) else (none)) = some r := by first | (rw [hji16] at H; exact H) | (simp only [hji16] at H ⊢; exact H)
     by_cases c17 : 0 ≤ (ji16)
     ·rw [if_pos c17] at H
      have c17b0 := eq_true c17
      have c17b1 := decide_eq_true c17
      clear c17
      obtain ⟨ji18, hji18⟩ : ∃ j_ : Int, (shr .i64 a0 (ji16)) = j_ := ⟨_, rfl⟩
      replace H : (if x3_1.length < 17592186044416 then (impl_CountWitness.l0 k1 a0 (x3_1 ++ [Go.bits .and .i64 (ji18) 1]) (wrap64 (x13_1 + 1))) else (none)) = some r := by first | (rw [hji18] at H; exact H) | (simp only [hji18] at H ⊢; exact H)
      have hji18_ : (a0 / 2 ^ min (ji16).toNat 64) = ji18 := hji18
      have hji18z : (ji16) ≤ 64 → (a0 / 2 ^ (ji16).toNat) = ji18 := shr_small hji18
      by_cases c19 : x3_1.length < 17592186044416
      ·rw [if_pos c19] at H
       have LMc19 := Aside0.mk c19
       clear c19
       obtain ⟨y121, hy121⟩ : ∃ y_ : List Int, y_ = (x3_1 ++ [Go.bits .and .i64 (ji18) 1]) := ⟨_, rfl⟩
       replace H : (impl_CountWitness.l0 k1 a0 y121 (wrap64 (x13_1 + 1))) = some r := by first | (rw [hy121]; with_reducible exact H) | (have H2_ := (Option.bind_some _ _).symm.trans H; rw [hy121]; with_reducible exact H2_) | (have H2_ := (Option.bind_some _ _).symm.trans H; with_reducible exact H2_) | with_reducible exact H | (rw [hy121]; exact H) | exact H
       have Ny121 := Aside0.mk hy121
       clear hy121
       have H' := Aside0.mk H
       clear H
       go_wp2_with (first | ((with_reducible refine gate_builtin (b := .append) (xs := #[.tmp 16, .tmp 22]) rfl ?_); at_builtin; refine Kd.R_append (Kd.int .i64) (w0 := w) w.heap.size rfl (.tmp 16) (.tmp 22) 31 3 (.int .i64 0) 8 rfl Try.underlying31 info3 rfl (by decide) (by omega) u3 x3_1 (Go.bits .and .i64 (ji18) 1) [.int .i64 (Go.bits .and .i64 (ji18) 1)] (fun _ => True) (fun _ => False) rfl rfl ?aP (fun _ hk => hk.elim) ?aF ?aO ?aB ?aS ?aL ?_; (case aP => exact rfl); (case aB => exact (bZ HB)); (case aF => exact (fun _ _ => trivial)); (case aO => exact (rP HO_3)); (case aS => exact (below_size (bZ HB))); (case aL => have := LMc19.out; omega); intro v122 w20 ho hb hg hat; rw [← Ny121.out] at ho; replace HB := Aside0.mk (hb); have HO123 := Aside0.mk (ho); clear HO_3; clear ho hb hg hat))
       go_roundg k1
       case measure => have := HK1.out; omega
       case rel => exact ⟨(y121), (wrap64 (x13_1 + 1)), rS, H', ⟨by have := HK1.out; omega⟩, ⟨rP HO123⟩, ⟨bZ HB⟩⟩
      ·rw [if_neg c19] at H
       exact absurd H (by simp)
     ·rw [if_neg c17] at H
      exact absurd H (by simp)
    ·rw [if_neg c15] at H
     have c15b0 := decide_eq_false c15
     clear c15
     obtain rfl := Option.some.inj H
     go_wp2
     go_ret
     exact ⟨_, by first | rfl | (simp [errW_none, errW_some] <;> rfl) | (simp [*, errW_none, errW_some] <;> rfl), by (with_reducible repeat (first | apply Kd.R_alloc | apply Kd.R_drewN | apply Kd.R_drew)); exact HO_3.out, bZ HB⟩
 ·replace c3 := Bool.eq_false_iff.mpr c3
  subst c3
  rw [if_neg (show ¬ (false = true) by decide)] at H
  obtain rfl := Option.some.inj H
  go_enter Try.func36, Try.ntmps36
  go_wp2_with (first | (refine gC (some 6) Try.func58 #[.int .i64 a0] ?_; (with_reducible refine (impl_isBits.calls a0 false _ A2.out).mono ?_); rintro e w' ⟨rfl, ⟨nd, rfl⟩⟩; refine ⟨_, rfl, ?_⟩))
  go_ret
  exact ⟨_, by first | rfl | (simp [errW_none, errW_some] <;> rfl) | (simp [*, errW_none, errW_some] <;> rfl), by first | exact Kd.R_nil _ _ _ _ _ | exact Kd.N_nil _ _ _ _ _ | exact Kd.V_nil _ _ _ _ _ | exact Kd.Q_nil _ _ _ _ _ | exact Kd.S_nil _ _ _ _ _, bZ HB⟩
def impl_unit.f (a0 : Int) (a1 : Int) : Option (List Int) := if 0 ≤ a0 then (if (a0 : Int).toNat ≤ 35184372088832 then ((some (List.replicate (a0 : Int).toNat 0 : List Int)).bind fun y124 => (if 0 ≤ a1 then (if a1 < (y124.length : Int) then (some (y124.set (a1 : Int).toNat 1)) else (none)) else (none))) else (none)) else (none)
theorem impl_unit.calls (a0 : Int) (a1 : Int) (r : List Int) (w : World) (h : impl_unit.f a0 a1 = some r) :
  Calls Try.prog 67 #[.int .i64 a0, .int .i64 a1] w fun e w' => ∃ v0_ : Value, e = .returned (v0_) ∧ Kd.R (Kd.int .i64) 3 w' w.heap.size (fun _ => True) v0_ r ∧ Below w.heap.size w w' := by
 have HB := Aside0.mk (Below.refl w.heap.size w)
 have H : (if 0 ≤ a0 then (if (a0 : Int).toNat ≤ 35184372088832 then ((some (List.replicate (a0 : Int).toNat 0 : List Int)).bind fun y124 => (if 0 ≤ a1 then (if a1 < (y124.length : Int) then (some (y124.set (a1 : Int).toNat 1)) else (none)) else (none))) else (none)) else (none)) = some r := h
 clear h
 by_cases c3 : 0 ≤ a0
 ·rw [if_pos c3] at H
  have c3b0 := eq_true c3
  have c3b1 := decide_eq_true c3
  clear c3
  by_cases c4 : (a0 : Int).toNat ≤ 35184372088832
  ·rw [if_pos c4] at H
   have c4b0 := eq_true c4
   have c4b1 := decide_eq_true c4
   clear c4
   obtain ⟨y124, hy124⟩ : ∃ y_ : List Int, y_ = (List.replicate (a0 : Int).toNat 0) := ⟨_, rfl⟩
   replace H : (if 0 ≤ a1 then (if a1 < (y124.length : Int) then (some (y124.set (a1 : Int).toNat 1)) else (none)) else (none)) = some r := by first | (rw [hy124]; with_reducible exact H) | (have H2_ := (Option.bind_some _ _).symm.trans H; rw [hy124]; with_reducible exact H2_) | (have H2_ := (Option.bind_some _ _).symm.trans H; with_reducible exact H2_) | with_reducible exact H | (rw [hy124]; exact H) | exact H
   have Ny124 := Aside0.mk hy124
   clear hy124
   by_cases c5 : 0 ≤ a1
   ·rw [if_pos c5] at H
    have c5b0 := decide_eq_true c5
    clear c5
    by_cases c6 : a1 < (y124.length : Int)
    ·rw [if_pos c6] at H
     have c6b0 := decide_eq_true c6
     clear c6
     obtain ⟨y127, hy127⟩ : ∃ y_ : List Int, y_ = (y124.set (a1 : Int).toNat 1) := ⟨_, rfl⟩
     replace H : (some y127) = some r := by first | (rw [hy127]; with_reducible exact H) | (have H2_ := (Option.bind_some _ _).symm.trans H; rw [hy127]; with_reducible exact H2_) | (have H2_ := (Option.bind_some _ _).symm.trans H; with_reducible exact H2_) | with_reducible exact H | (rw [hy127]; exact H) | exact H
     have Ny127 := Aside0.mk hy127
     clear hy127
     obtain rfl := Option.some.inj H
     go_enter Try.func67, Try.ntmps67
     go_wp2_with (first | ((with_reducible refine gate_dst (N := 7) rfl ?_); refine Kd.R_make (Kd.int .i64) _ 3 rfl (N := 7) rfl 31 _ _ rfl a0 rfl rfl Try.underlying31 (.int .i64 0) 8 info3 rfl (by decide) (by omega) 0 (ok := fun _ => True) (okp := fun _ => True) rfl (fun _ hk => hk) trivial (of_decide_eq_true (by first | (with_reducible assumption) | assumption)) (Nat.le_trans (Nat.mul_le_mul_right _ (of_decide_eq_true (by first | (with_reducible assumption) | assumption) : a0.toNat ≤ 35184372088832)) (by omega)) (Below.refl _ _) (Nat.le_refl _) ?_; intro v125 w8 ho9 hb hg_ hnew_; clear hg_ hnew_; (first | rw [← Ny124.out] at ho9 | (simp only [Int.reduceToNat] at ho9; rw [← Ny124.out] at ho9)); have HO126 := Aside0.mk (Kd.R_lower ho9 (below_size (bZ HB))); replace HB := bS HB hb; clear hb ho9; have p7 : 0 ≤ (a1 : Int) := of_decide_eq_true (by first | (with_reducible assumption) | assumption); have q7 : (a1 : Int) < ((y124.length : Int) : Int) := of_decide_eq_true (by first | (with_reducible assumption) | assumption); obtain ⟨go7, co7, eo7, gb7, gl7, cl7, HG7⟩ := Kd.R_form HO126.out (by omega); (first | cases eo7 | (injection eo7 with ea_ en_ ec_; (first | subst ea_ | (injection ea_ with ea_; subst ea_)); subst ec_; clear en_)); have GB7 := Aside0.mk gb7; have GG7 := Aside0.mk HG7; clear gb7 gl7 HG7; obtain ⟨hx7_0, hf7_0⟩ := Kd.R_celln 0 HO126.out (a1 : Int) p7 q7; replace p7 := eq_true p7; replace q7 := eq_true q7; obtain ⟨hy10_, hz10_⟩ := Kd.R_celln 0 HO126.out (a1 : Int) (of_decide_eq_true (by first | (with_reducible assumption) | assumption)) (of_decide_eq_true (by first | (with_reducible assumption) | assumption)); have HP10 := Kd.R_putg HO126.out (a1 : Int) 1) | ((with_reducible refine gate_store (t := 3) (p := 10) rfl ?_); refine store_event (t := 3) (p := 10) (v := ?vo_w11) (w1 := (w8.setCell ⟨go7, (a1 : Int).toNat, none⟩ (.int .i64 1))) ?hg ?ho ?hn ?hr ?_; (case ho => rfl); (case hg => rfl); (case hn => rfl); (case hr => first | (go_simp; done) | (go_simp; rfl)); intro w11 hw; have hg : w8.grownBy w11 (some go7) := (by rw [hw]; exact HP10.2); have hp_ : Kd.R (Kd.int .i64) 3 w11 w.heap.size (fun _ => True) (.slice (some ⟨go7, 0, none⟩) y124.length co7) y127 := (by rw [hw, Ny127.out]; exact HP10.1); clear HP10; replace HO126 := Aside0.mk (hp_); replace HB := Aside0.mk ((by rw [hw]; exact below_set (HB.out) GB7.out : Below w.heap.size w w11)); clear hg hw hp_))
     go_ret
     exact ⟨_, by first | rfl | (simp [errW_none, errW_some] <;> rfl) | (simp [*, errW_none, errW_some] <;> rfl), by (with_reducible repeat (first | apply Kd.R_alloc | apply Kd.R_drewN | apply Kd.R_drew)); exact HO126.out, bZ HB⟩
    ·rw [if_neg c6] at H
     exact absurd H (by simp)
   ·rw [if_neg c5] at H
    exact absurd H (by simp)
  ·rw [if_neg c4] at H
   exact absurd H (by simp)
 ·rw [if_neg c3] at H
  exact absurd H (by simp)
def impl_CountSystem.l0 : Nat → List Int → List Int → Int → Int → Int → List (S75) → Option (Int × Int × (List (S75)))
 | 0, _, _, _, _, _, _ => none
 | k + 1, x2, x3, x13, x130000, x130001, x130002 => if x13 < 8 then (if 0 ≤ (IntKind.u64.wrap (x13)) then (if 0 ≤ (wrap64 (3 + x13)) then (if (wrap64 (3 + x13)) < (x2.length : Int) then (if (wrap64 (3 + x13)) < (x3.length : Int) then ((impl_unit.f x130000 (wrap64 (3 + x13))).bind fun t138 => ((impl_unit.f x130000 (wrap64 (3 + x13))).bind fun t141 => ((impl_unit.f x130000 (wrap64 (3 + x13))).bind fun t144 => (if x130002.length < 1954687338268 then (impl_CountSystem.l0 k (x2.set ((wrap64 (3 + x13)) : Int).toNat (shl .i64 1 (IntKind.u64.wrap (x13)))) (x3.set ((wrap64 (3 + x13)) : Int).toNat 1) (wrap64 (x13 + 1)) x130000 x130001 (x130002 ++ [(⟨t138, t141, t144⟩ : S75)])) else (none))))) else (none)) else (none)) else (none)) else (none)) else ((impl_unit.f x130000 0).bind fun t150 => ((impl_unit.f x130000 1).bind fun t153 => (if x130002.length < 1954687338268 then ((some (x130002 ++ [(⟨t150, x2, t153⟩ : S75)] : List (S75))).bind fun y156 => ((impl_unit.f x130000 0).bind fun t159 => ((impl_unit.f x130000 2).bind fun t162 => (if y156.length < 1954687338268 then (some (x130000, x130001, (y156 ++ [(⟨t159, x3, t162⟩ : S75)]))) else (none))))) else (none))))
def impl_CountSystem.f (k : Nat)  : Option (Int × Int × (List (S75))) := if 11 ≤ 35184372088832 then (impl_CountSystem.l0 k (List.replicate 11 0) (List.replicate 11 0) 0 11 2 ([] : List (S75))) else (none)
theorem impl_CountSystem.mono_l : ∀ k, (∀ y0 y1 y2 y3 y4 y5, LeO (impl_CountSystem.l0 k y0 y1 y2 y3 y4 y5) (impl_CountSystem.l0 (k + 1) y0 y1 y2 y3 y4 y5))
 | 0 => fun _ _ _ _ _ _ r h => by simp [impl_CountSystem.l0] at h
 | k + 1 => by
  have ih0 := impl_CountSystem.mono_l k
  ·intro y0 y1 y2 y3 y4 y5
   unfold impl_CountSystem.l0
   with_reducible repeat' first | exact ih0 _ _ _ _ _ _ | exact LeO.refl _ | exact LeO.none _ | refine LeO.ite ?_ ?_ | refine LeO.bind ?_ (fun _ => ?_)
theorem impl_CountSystem.mono : ∀ k, LeO (impl_CountSystem.f k ) (impl_CountSystem.f (k + 1) ) := by
 intro  k
 have ih0 := impl_CountSystem.mono_l k
 unfold impl_CountSystem.f
 with_reducible repeat' first | exact ih0 _ _ _ _ _ _ | exact LeO.refl _ | exact LeO.none _ | refine LeO.ite ?_ ?_ | refine LeO.bind ?_ (fun _ => ?_)
def impl_CountSystem.T2 : Bool × List (List Nat × List Nat) := (true, [([], []), ([0], [0]), ([1, 1], [1]), ([], []), ([3], [3]), ([4, 4], [4]), ([2, 0, 1, 2], [2]), ([5, 6, 0, 1, 2, 3, 4, 5, 6], [5])])
def impl_CountSystem.B2 : List Nat := [0, 1, 3, 0, 8, 24, 7, 127]
theorem impl_CountSystem.tab2 : rtab .any (opsOf Try.f38 2) = impl_CountSystem.T2 := by kernel_rfl
theorem impl_CountSystem.bits2 : waitsOk impl_CountSystem.T2.2 impl_CountSystem.B2 = true := by kernel_rfl
def impl_CountSystem.T9 : Bool × List (List Nat × List Nat) := (true, [([], []), ([0], [0]), ([], []), ([2], [2]), ([], []), ([3, 4], [3, 4]), ([], []), ([6], [6]), ([], []), ([7, 8, 5], [7, 8]), ([], []), ([10], [10]), ([], []), ([11, 12, 9], [11, 12]), ([5, 9, 13], [5, 9, 13]), ([14], [14]), ([1, 15, 13], [1, 15]), ([0, 1, 2, 3, 4, 5, 6, 7, 8, 9, 10, 11, 12, 13, 14, 15, 16], []), ([17, 16, 16, 0, 1, 2, 3, 4, 5, 6, 7, 8, 9, 10, 11, 12, 13, 14, 15, 16], [16, 17])])
def impl_CountSystem.B9 : List Nat := [0, 1, 0, 4, 0, 28, 0, 64, 0, 508, 0, 1024, 0, 8188, 16380, 32764, 65535, 131071, 262143]
theorem impl_CountSystem.tab9 : rtab .any (opsOf Try.f38 9) = impl_CountSystem.T9 := by kernel_rfl
theorem impl_CountSystem.bits9 : waitsOk impl_CountSystem.T9.2 impl_CountSystem.B9 = true := by kernel_rfl
def impl_CountSystem.T11 : Bool × List (List Nat × List Nat) := (true, [([], []), ([0], [0]), ([], []), ([2], [2]), ([3], [3]), ([], []), ([], []), ([6], [6]), ([7, 4], [7]), ([4, 5, 8], [4, 5, 8]), ([9], [9]), ([1, 10, 8], [1, 10]), ([0, 1, 2, 3, 4, 5, 6, 7, 8, 9, 10, 11], []), ([12, 11, 11, 0, 1, 2, 3, 4, 5, 6, 7, 8, 9, 10, 11], [11, 12])])
def impl_CountSystem.B11 : List Nat := [0, 1, 0, 4, 12, 0, 0, 64, 220, 508, 1020, 2047, 4095, 8191]
theorem impl_CountSystem.tab11 : rtab .any (opsOf Try.f38 11) = impl_CountSystem.T11 := by kernel_rfl
theorem impl_CountSystem.bits11 : waitsOk impl_CountSystem.T11.2 impl_CountSystem.B11 = true := by kernel_rfl
def impl_CountSystem.T12 : Bool × List (List Nat × List Nat) := (true, [([], []), ([0], [0]), ([], []), ([2], [2]), ([3], [3]), ([], []), ([], []), ([6], [6]), ([7, 4], [7]), ([4, 5, 8], [4, 5, 8]), ([9], [9]), ([1, 10, 8], [1, 10]), ([0, 1, 2, 3, 4, 5, 6, 7, 8, 9, 10, 11], []), ([12, 11, 11, 0, 1, 2, 3, 4, 5, 6, 7, 8, 9, 10, 11], [11, 12])])
def impl_CountSystem.B12 : List Nat := [0, 1, 0, 4, 12, 0, 0, 64, 220, 508, 1020, 2047, 4095, 8191]
theorem impl_CountSystem.tab12 : rtab .any (opsOf Try.f38 12) = impl_CountSystem.T12 := by kernel_rfl
theorem impl_CountSystem.bits12 : waitsOk impl_CountSystem.T12.2 impl_CountSystem.B12 = true := by kernel_rfl
theorem impl_CountSystem.calls (k : Nat)  (r1 : Int) (r2 : Int) (r3 : List (S75)) (w : World) (h : impl_CountSystem.f k  = some (r1, r2, r3)) :
  Calls Try.prog 38 #[] w fun e w' => ∃ v2_ : Value, e = .returned (.agg #[.int .i64 r1, .int .i64 r2, v2_]) ∧ Kd.S k75 75 w' w.heap.size (fun _ => True) v2_ r3 ∧ Below w.heap.size w w' := by
 have hu43 := Try.underlying43
 have hu75 := Try.underlying75
 have HB := Aside0.mk (Below.refl w.heap.size w)
 have H : (if 11 ≤ 35184372088832 then (impl_CountSystem.l0 k (List.replicate 11 0) (List.replicate 11 0) 0 11 2 ([] : List (S75))) else (none)) = some (r1, r2, r3) := h
 clear h
 by_cases c1 : 11 ≤ 35184372088832
 ·rw [if_pos c1] at H
  have c1b0 := eq_true c1
  have c1b1 := decide_eq_true c1
  clear c1
  obtain ⟨y130, hy130⟩ : ∃ y_ : List Int, y_ = (List.replicate 11 0) := ⟨_, rfl⟩
  replace H : (impl_CountSystem.l0 k y130 (List.replicate 11 0) 0 11 2 ([] : List (S75))) = some (r1, r2, r3) := by first | (rw [hy130]; with_reducible exact H) | (have H2_ := (Option.bind_some _ _).symm.trans H; rw [hy130]; with_reducible exact H2_) | (have H2_ := (Option.bind_some _ _).symm.trans H; with_reducible exact H2_) | with_reducible exact H | (rw [hy130]; exact H) | exact H
  have Ny130 := Aside0.mk hy130
  clear hy130
  obtain ⟨y133, hy133⟩ : ∃ y_ : List Int, y_ = (List.replicate 11 0) := ⟨_, rfl⟩
  replace H : (impl_CountSystem.l0 k y130 y133 0 11 2 ([] : List (S75))) = some (r1, r2, r3) := by first | (rw [hy133]; with_reducible exact H) | (have H2_ := (Option.bind_some _ _).symm.trans H; rw [hy133]; with_reducible exact H2_) | (have H2_ := (Option.bind_some _ _).symm.trans H; with_reducible exact H2_) | with_reducible exact H | (rw [hy133]; exact H) | exact H
  have Ny133 := Aside0.mk hy133
  clear hy133
  have H' := Aside0.mk H
  clear H
  go_enter Try.func38, Try.ntmps38
  try go_wp2_with (first | (refine gB 0 #[.int .i64 0, .int .i64 0, .slice none 0 0] 43 ?_; intro gb128 hg w2 BK128 hb; have GW128 := bG HB hg; replace HB := bS HB hb; clear hb hg) | (refine gB 1 #[.int .i64 0, .int .i64 0, .slice none 0 0] 43 ?_; intro gb129 hg w3 BK129 hb; have GW129 := bG HB hg; replace HB := bS HB hb; obtain ⟨NB128_129, NB129_128⟩ := bN BK128 hg; replace BK128 := bB BK128 hb; clear hb hg; obtain ⟨hnb4, hnc4⟩ := nB NB129_128; obtain ⟨hcz5_0, hcz5_1, hcz5_2, hfz5_0, hfz5_1, hfz5_2⟩ := bK3 (w := w3) BK129))
  obtain ⟨w6, hW_⟩ : ∃ W_ : World, W_ = (((w3.setCell ⟨gb129, 0, none⟩ (.int .i64 11)).setCell ⟨gb129, 1, none⟩ (.int .i64 2)).setCell ⟨gb129, 2, none⟩ (.slice none 0 0)) := ⟨_, rfl⟩
  replace BK128 := bW hW_ BK128
  replace BK129 := bX hW_ 43 #[.int .i64 11, .int .i64 2, .slice none 0 0] BK129
  replace HB := zW hW_ HB
  rw [← hW_]
  clear hW_
  replace BK128 := Aside0.mk (blk_drew BK128.out)
  replace BK129 := Aside0.mk (blk_drew BK129.out)
  replace HB := Aside0.mk (below_drew1 HB.out)
  refine start_ (n := 8) (S := fun w' => SQ3 w' gb129 (.int .i64 11) (.int .i64 2) (.slice none 0 0)) (ds := []) #[false, false, false, false, false, false, false, false] (by kernel_rfl) rfl rfl (bT3 BK129) (fun hHeld => ?_); refine with_tabW impl_CountSystem.tab2 impl_CountSystem.bits2 (fun HT_ HW_ => ?_)
  generalize w6.drew = w7 at BK128 BK129 HB hHeld ⊢
  refine pI 0 (some 7) HT_.out ?_
  refine pI 3 (some 10) HT_.out ?_
  refine tI3 1 (some 8) HT_.out HW_.out hHeld ?_
  refine tI3 4 (some 11) HT_.out HW_.out hHeld ?_
  refine join_ (σ := Value × Value) 1 #[true, true, true, true, true, true, true, false] (fun s_ => [(9, s_.1), (12, s_.2), (2, s_.1)]) (fun s_ w' => (w'.cell? ⟨gb129, 0, none⟩ = some (.int .i64 11) ∧ w'.cell? ⟨gb129, 1, none⟩ = some (.int .i64 2) ∧ w'.cell? ⟨gb129, 2, none⟩ = some (.slice none 0 0)) ∧ (Kd.R (Kd.int .i64) 3 w' w.heap.size (fun k_ => some k_ ≠ (s_.2 : Value).ownBlock) s_.1 y130) ∧ (Kd.R (Kd.int .i64) 3 w' w.heap.size (fun k_ => some k_ ≠ (s_.1 : Value).ownBlock) s_.2 y133) ∧ (w'.heap[gb128]? = some (.cells #[.int .i64 0, .int .i64 0, .slice none 0 0] 43 (0, 0))) ∧ (w'.heap[gb129]? = some (.cells #[.int .i64 11, .int .i64 2, .slice none 0 0] 43 (0, 0))) ∧ (Below w.heap.size w w')) ?_ ?_
  rotate_left
  ·intro hCont
   refine two_ (i := 2) (j := 5) (Ni := some 9) (Nj := some 12) #[true, true, true, true, true, false, false, false] #[true, true, false, true, true, true, false, false] rfl rfl rfl rfl (two_of HT_.out (by kernel_rfl)) (by decide) (by decide) (fun K hK => ?_) (fun K hK => ?_)
   ·skip
    refine Kd.R_make_step (Kd.int .i64) _ 3 (by rfl) (N := 9) rfl 31 _ _ rfl 11 rfl rfl Try.underlying31 (.int .i64 0) 8 info3 rfl (by decide) (by omega) 0 (ok := fun _ => True) (okp := fun _ => True) rfl (fun _ hk => hk) trivial (by omega) (by omega) (Below.refl _ _) (Nat.le_refl _) ?_
    intro v131 w8 ho9 hb hg_ hnew_
    clear hg_ hnew_
    (first | rw [← Ny130.out] at ho9 | (simp only [Int.reduceToNat] at ho9; rw [← Ny130.out] at ho9))
    have HO132 := Aside0.mk (Kd.R_lower ho9 (below_size (bZ HB)))
    replace BK128 := bB BK128 hb
    replace BK129 := bB BK129 hb
    replace HB := bS HB hb
    clear hb ho9
    refine hK.out _ _ (bT3 BK129) (fun hHeld => ?_)
    clear hK K
    refine nO (some 9) ?_
    refine pI 6 (some 2) HT_.out ?_
    refine oI 5 (some 12) HT_.out (fun K hK => ?_)
    refine Kd.R_make_step (Kd.int .i64) _ 3 (by rfl) (N := 12) rfl 31 _ _ rfl 11 rfl rfl Try.underlying31 (.int .i64 0) 8 info3 rfl (by decide) (by omega) 0 (ok := fun _ => True) (okp := fun _ => True) rfl (fun _ hk => hk) trivial (by omega) (by omega) (Below.refl _ _) (Nat.le_refl _) ?_
    intro v134 w10 ho11 hb hg_ hnew_
    clear hg_ hnew_
    (first | rw [← Ny133.out] at ho11 | (simp only [Int.reduceToNat] at ho11; rw [← Ny133.out] at ho11))
    have HO135 := Aside0.mk (Kd.R_lower (Kd.R_new' ho11 (Kd.R_lt (rP HO132))) (below_size (bZ HB)))
    replace HO132 := Aside0.mk (Kd.R_elder' (rP HO132) (Kd.R_base ho11) hb)
    replace BK128 := bB BK128 hb
    replace BK129 := bB BK129 hb
    replace HB := bS HB hb
    clear hb ho11
    refine hK.out _ _ (bT3 BK129) (fun hHeld => ?_)
    clear hK K
    refine nO (some 12) ?_
    exact norm_ (by simp only [putAll, Act.put, List.setIfInBounds_toArray, List.set_cons_zero, List.set_cons_succ]) (hCont (v131, v134) _ ⟨hHeld, (by (with_reducible repeat (first | apply Kd.R_alloc | apply Kd.R_drewN | apply Kd.R_drew)); exact Kd.R_mono HO132.out (fun _ hk => hk.2)), (by (with_reducible repeat (first | apply Kd.R_alloc | apply Kd.R_drewN | apply Kd.R_drew)); exact Kd.R_mono HO135.out (fun _ hk => hk.2)), (bP BK128), (bP BK129), (bZ HB)⟩)
   ·skip
    refine Kd.R_make_step (Kd.int .i64) _ 3 (by rfl) (N := 12) rfl 31 _ _ rfl 11 rfl rfl Try.underlying31 (.int .i64 0) 8 info3 rfl (by decide) (by omega) 0 (ok := fun _ => True) (okp := fun _ => True) rfl (fun _ hk => hk) trivial (by omega) (by omega) (Below.refl _ _) (Nat.le_refl _) ?_
    intro v134 w8 ho9 hb hg_ hnew_
    clear hg_ hnew_
    (first | rw [← Ny133.out] at ho9 | (simp only [Int.reduceToNat] at ho9; rw [← Ny133.out] at ho9))
    have HO135 := Aside0.mk (Kd.R_lower ho9 (below_size (bZ HB)))
    replace BK128 := bB BK128 hb
    replace BK129 := bB BK129 hb
    replace HB := bS HB hb
    clear hb ho9
    refine hK.out _ _ (bT3 BK129) (fun hHeld => ?_)
    clear hK K
    refine nO (some 12) ?_
    refine oI 2 (some 9) HT_.out (fun K hK => ?_)
    refine Kd.R_make_step (Kd.int .i64) _ 3 (by rfl) (N := 9) rfl 31 _ _ rfl 11 rfl rfl Try.underlying31 (.int .i64 0) 8 info3 rfl (by decide) (by omega) 0 (ok := fun _ => True) (okp := fun _ => True) rfl (fun _ hk => hk) trivial (by omega) (by omega) (Below.refl _ _) (Nat.le_refl _) ?_
    intro v131 w10 ho11 hb hg_ hnew_
    clear hg_ hnew_
    (first | rw [← Ny130.out] at ho11 | (simp only [Int.reduceToNat] at ho11; rw [← Ny130.out] at ho11))
    have HO132 := Aside0.mk (Kd.R_lower (Kd.R_new' ho11 (Kd.R_lt (rP HO135))) (below_size (bZ HB)))
    replace HO135 := Aside0.mk (Kd.R_elder' (rP HO135) (Kd.R_base ho11) hb)
    replace BK128 := bB BK128 hb
    replace BK129 := bB BK129 hb
    replace HB := bS HB hb
    clear hb ho11
    refine hK.out _ _ (bT3 BK129) (fun hHeld => ?_)
    clear hK K
    refine nO (some 9) ?_
    refine pI 6 (some 2) HT_.out ?_
    exact norm_ (by simp only [putAll, Act.put, List.setIfInBounds_toArray, List.set_cons_zero, List.set_cons_succ]) (hCont (v131, v134) _ ⟨hHeld, (by (with_reducible repeat (first | apply Kd.R_alloc | apply Kd.R_drewN | apply Kd.R_drew)); exact Kd.R_mono HO132.out (fun _ hk => hk.2)), (by (with_reducible repeat (first | apply Kd.R_alloc | apply Kd.R_drewN | apply Kd.R_drew)); exact Kd.R_mono HO135.out (fun _ hk => hk.2)), (bP BK128), (bP BK129), (bZ HB)⟩)
  rintro ⟨v131, v134⟩ w12 ⟨hS_, h0_, h1_, h2_, h3_, h4_⟩
  have HO132 : Aside0 (Kd.R (Kd.int .i64) 3 w12 w.heap.size (fun k_ => some k_ ≠ (v134 : Value).ownBlock) v131 y130) := ⟨h0_⟩
  have HO135 : Aside0 (Kd.R (Kd.int .i64) 3 w12 w.heap.size (fun k_ => some k_ ≠ (v131 : Value).ownBlock) v134 y133) := ⟨h1_⟩
  replace BK128 : Aside0 (w12.heap[gb128]? = some (.cells #[.int .i64 0, .int .i64 0, .slice none 0 0] 43 (0, 0))) := ⟨h2_⟩
  replace BK129 : Aside0 (w12.heap[gb129]? = some (.cells #[.int .i64 11, .int .i64 2, .slice none 0 0] 43 (0, 0))) := ⟨h3_⟩
  replace HB : Aside0 (Below w.heap.size w w12) := ⟨h4_⟩
  clear h0_ h1_ h2_ h3_ h4_
  have hHeld : w12.cell? ⟨gb129, 0, none⟩ = some (.int .i64 11) ∧ w12.cell? ⟨gb129, 1, none⟩ = some (.int .i64 2) ∧ w12.cell? ⟨gb129, 2, none⟩ = some (.slice none 0 0) := hS_
  refine norm_ (a' := ?_) ?_ ?_
  rotate_left
  ·simp only [putAll, Act.put, List.setIfInBounds_toArray, List.set_cons_zero, List.set_cons_succ]
   rfl
  refine pI 7 (some 3) HT_.out ?_
  refine done_ (done_of HT_.out (by kernel_rfl)) ?_
  try go_wp2
  go_loopg [13] k (fun kq v13 w' => ∃ (x2_1 : List Int) (x3_1 : List Int) (x13_1 : Int) (x130002_1 : List (S75)) (u130002 : Value), v13 = .int .i64 x13_1 ∧ Aside0 (impl_CountSystem.l0 kq x2_1 x3_1 x13_1 11 2 x130002_1 = some (r1, r2, r3)) ∧ Aside0 (kq ≤ k) ∧ Aside0 (Kd.R (Kd.int .i64) 3 w' w.heap.size (fun k_ => some k_ ≠ (v134 : Value).ownBlock) v131 x2_1) ∧ Aside0 (Kd.R (Kd.int .i64) 3 w' w.heap.size (fun k_ => some k_ ≠ (v131 : Value).ownBlock) v134 x3_1) ∧ Aside0 (Kd.S k75 75 w' w.heap.size (fun k_ => some k_ ≠ (v131 : Value).ownBlock ∧ some k_ ≠ (v134 : Value).ownBlock) u130002 x130002_1) ∧ Aside0 (w'.heap[gb128]? = some (.cells #[.int .i64 0, .int .i64 0, (.slice none 0 0)] 43 (0, 0))) ∧ Aside0 (w'.heap[gb129]? = some (.cells #[.int .i64 11, .int .i64 2, u130002] 43 (0, 0))) ∧ Aside0 (Below w.heap.size w w'))
  case atStart => exact ⟨(y130), (y133), (0), (([] : List (S75))), (.slice none 0 0), rS, H', ⟨Nat.le_refl _⟩, ⟨rP HO132⟩, ⟨rP HO135⟩, ⟨by first | exact Kd.S_nil _ _ _ _ _ | exact Kd.N_nil _ _ _ _ _ | exact Kd.V_nil _ _ _ _ _ | exact Kd.Q_nil _ _ _ _ _ | exact Kd.R_nil _ _ _ _ _⟩, ⟨bP BK128⟩, ⟨bP BK129⟩, ⟨bZ HB⟩⟩
  case round =>
   clear H'
   try clear c1
   try clear c1b0
   try clear c1b1
   try clear p2
   try clear c3
   try clear c4
   try clear hcz5_0
   try clear hcz5_1
   try clear hcz5_2
   try clear hfz5_0
   try clear hfz5_1
   try clear hfz5_2
   obtain ⟨x2_1, x3_1, x13_1, x130002_1, u130002, rfl, HA, HK1, HO_2, HO_3, HO_130002, BK128, BK129, HB⟩ := hrel
   cases gk with
   | zero => exact absurd HA.out (by simp [impl_CountSystem.l0])
   | succ k1 =>
    have H := HA.out
    clear HA
    simp only [impl_CountSystem.l0] at H
    by_cases c13 : x13_1 < 8
    ·rw [if_pos c13] at H
     have c13b0 := decide_eq_true c13
     clear c13
     obtain ⟨ji14, hji14⟩ : ∃ j_ : Int, (IntKind.u64.wrap (x13_1)) = j_ := ⟨_, rfl⟩
     replace H : (if 0 ≤ (ji14) then (if 0 ≤ (wrap64 (3 + x13_1)) then (if (wrap64 (3 + x13_1)) < (x2_1.length : Int) then (if (wrap64 (3 + x13_1)) < (x3_1.length : Int) then ((impl_unit.f 11 (wrap64 (3 + x13_1))).bind fun t138 => ((impl_unit.f 11 (wrap64 (3 + x13_1))).bind fun t141 => ((impl_unit.f 11 (wrap64 (3 + x13_1))).bind fun t144 => (if x130002_1.length < 1954687338268 then (impl_CountSystem.l0 k1 (x2_1.set ((wrap64 (3 + x13_1)) : Int).toNat (shl .i64 1 (ji14))) (x3_1.set ((wrap64 (3 + x13_1)) : Int).toNat 1) (wrap64 (x13_1 + 1)) 11 2 (x130002_1 ++ [(⟨t138, t141, t144⟩ : S75)])) else (none))))) else (none)) else (none)) else (none)) else (none)) = some (r1, r2, r3) := by first | (rw [hji14] at H; exact H) | (simp only [hji14] at H ⊢; exact H)
     by_cases c15 : 0 ≤ (ji14)
     ·rw [if_pos c15] at H
      have c15b0 := eq_true c15
      have c15b1 := decide_eq_true c15
      clear c15
      obtain ⟨ji16, hji16⟩ : ∃ j_ : Int, (shl .i64 1 (ji14)) = j_ := ⟨_, rfl⟩
      replace H : (if 0 ≤ (wrap64 (3 + x13_1)) then (if (wrap64 (3 + x13_1)) < (x2_1.length : Int) then (if (wrap64 (3 + x13_1)) < (x3_1.length : Int) then ((impl_unit.f 11 (wrap64 (3 + x13_1))).bind fun t138 => ((impl_unit.f 11 (wrap64 (3 + x13_1))).bind fun t141 => ((impl_unit.f 11 (wrap64 (3 + x13_1))).bind fun t144 => (if x130002_1.length < 1954687338268 then (impl_CountSystem.l0 k1 (x2_1.set ((wrap64 (3 + x13_1)) : Int).toNat (ji16)) (x3_1.set ((wrap64 (3 + x13_1)) : Int).toNat 1) (wrap64 (x13_1 + 1)) 11 2 (x130002_1 ++ [(⟨t138, t141, t144⟩ : S75)])) else (none))))) else (none)) else (none)) else (none)) = some (r1, r2, r3) := by first | (rw [hji16] at H; exact H) | (simp only [hji16] at H ⊢; exact H)
      have hji16_ : (IntKind.i64.wrap (1 * 2 ^ min (ji14).toNat 64)) = ji16 := hji16
      have hji16z : (ji14) ≤ 64 → (IntKind.i64.wrap (1 * 2 ^ (ji14).toNat)) = ji16 := shl_small hji16
      have hji16u : (IntKind.i64.wrap (2 ^ min (ji14).toNat 64)) = ji16 := by have h_ := hji16_; rw [Int.one_mul] at h_; exact h_
      have hji16v : (ji14) ≤ 64 → (IntKind.i64.wrap (2 ^ (ji14).toNat)) = ji16 := fun hle_ => by have h_ := hji16z hle_; rw [Int.one_mul] at h_; exact h_
      have hji16y : (wrap64 (1 * 2 ^ min (ji14).toNat 64)) = ji16 := (i64_w _).symm.trans hji16_
      have hji16x : (ji14) ≤ 64 → (wrap64 (1 * 2 ^ (ji14).toNat)) = ji16 := fun h_ => (i64_w _).symm.trans (hji16z h_)
      obtain ⟨ji17, hji17⟩ : ∃ j_ : Int, (wrap64 (3 + x13_1)) = j_ := ⟨_, rfl⟩
      replace H : (if 0 ≤ (ji17) then (if (ji17) < (x2_1.length : Int) then (if (ji17) < (x3_1.length : Int) then ((impl_unit.f 11 (ji17)).bind fun t138 => ((impl_unit.f 11 (ji17)).bind fun t141 => ((impl_unit.f 11 (ji17)).bind fun t144 => (if x130002_1.length < 1954687338268 then (impl_CountSystem.l0 k1 (x2_1.set ((ji17) : Int).toNat (ji16)) (x3_1.set ((ji17) : Int).toNat 1) (wrap64 (x13_1 + 1)) 11 2 (x130002_1 ++ [(⟨t138, t141, t144⟩ : S75)])) else (none))))) else (none)) else (none)) else (none)) = some (r1, r2, r3) := by first | (rw [hji17] at H; exact H) | (simp only [hji17] at H ⊢; exact H)
      have hji17w : (IntKind.i64.wrap (3 + x13_1)) = ji17 := (i64_w _).trans hji17
      by_cases c18 : 0 ≤ (ji17)
      ·rw [if_pos c18] at H
       have c18b0 := decide_eq_true c18
       clear c18
       by_cases c19 : (ji17) < (x2_1.length : Int)
       ·rw [if_pos c19] at H
        have c19b0 := decide_eq_true c19
        clear c19
        obtain ⟨y136, hy136⟩ : ∃ y_ : List Int, y_ = (x2_1.set ((ji17) : Int).toNat (ji16)) := ⟨_, rfl⟩
        replace H : (if (ji17) < (x3_1.length : Int) then ((impl_unit.f 11 (ji17)).bind fun t138 => ((impl_unit.f 11 (ji17)).bind fun t141 => ((impl_unit.f 11 (ji17)).bind fun t144 => (if x130002_1.length < 1954687338268 then (impl_CountSystem.l0 k1 y136 (x3_1.set ((ji17) : Int).toNat 1) (wrap64 (x13_1 + 1)) 11 2 (x130002_1 ++ [(⟨t138, t141, t144⟩ : S75)])) else (none))))) else (none)) = some (r1, r2, r3) := by first | (rw [hy136]; with_reducible exact H) | (have H2_ := (Option.bind_some _ _).symm.trans H; rw [hy136]; with_reducible exact H2_) | (have H2_ := (Option.bind_some _ _).symm.trans H; with_reducible exact H2_) | with_reducible exact H | (rw [hy136]; exact H) | exact H
        have Ny136 := Aside0.mk hy136
        clear hy136
        by_cases c21 : (ji17) < (x3_1.length : Int)
        ·rw [if_pos c21] at H
         have c21b0 := decide_eq_true c21
         clear c21
         obtain ⟨y137, hy137⟩ : ∃ y_ : List Int, y_ = (x3_1.set ((ji17) : Int).toNat 1) := ⟨_, rfl⟩
         replace H : ((impl_unit.f 11 (ji17)).bind fun t138 => ((impl_unit.f 11 (ji17)).bind fun t141 => ((impl_unit.f 11 (ji17)).bind fun t144 => (if x130002_1.length < 1954687338268 then (impl_CountSystem.l0 k1 y136 y137 (wrap64 (x13_1 + 1)) 11 2 (x130002_1 ++ [(⟨t138, t141, t144⟩ : S75)])) else (none))))) = some (r1, r2, r3) := by first | (rw [hy137]; with_reducible exact H) | (have H2_ := (Option.bind_some _ _).symm.trans H; rw [hy137]; with_reducible exact H2_) | (have H2_ := (Option.bind_some _ _).symm.trans H; with_reducible exact H2_) | with_reducible exact H | (rw [hy137]; exact H) | exact H
         have Ny137 := Aside0.mk hy137
         clear hy137
         replace H := Option.bind_eq_some_iff.mp H
         obtain ⟨t138, A230, H⟩ := H
         have A23 := Aside0.mk A230
         clear A230
         replace H := Option.bind_eq_some_iff.mp H
         obtain ⟨t141, A240, H⟩ := H
         have A24 := Aside0.mk A240
         clear A240
         have et141_ : t138 = t141 := Option.some.inj (A23.out.symm.trans A24.out)
         subst et141_
         replace H := Option.bind_eq_some_iff.mp H
         obtain ⟨t144, A250, H⟩ := H
         have A25 := Aside0.mk A250
         clear A250
         have et144_ : t138 = t144 := Option.some.inj (A23.out.symm.trans A25.out)
         subst et144_
         by_cases c26 : x130002_1.length < 1954687338268
         ·rw [if_pos c26] at H
          have LMc26 := Aside0.mk c26
          clear c26
          obtain ⟨y147, hy147⟩ : ∃ y_ : List (S75), y_ = (x130002_1 ++ [(⟨t138, t138, t138⟩ : S75)]) := ⟨_, rfl⟩
          replace H : (impl_CountSystem.l0 k1 y136 y137 (wrap64 (x13_1 + 1)) 11 2 y147) = some (r1, r2, r3) := by first | (rw [hy147]; with_reducible exact H) | (have H2_ := (Option.bind_some _ _).symm.trans H; rw [hy147]; with_reducible exact H2_) | (have H2_ := (Option.bind_some _ _).symm.trans H; with_reducible exact H2_) | with_reducible exact H | (rw [hy147]; exact H) | exact H
          have Ny147 := Aside0.mk hy147
          clear hy147
          have H' := Aside0.mk H
          clear H
          have p20 : 0 ≤ ((ji17) : Int) := of_decide_eq_true (by first | (with_reducible assumption) | assumption)
          have q20 : ((ji17) : Int) < ((x2_1.length : Int) : Int) := of_decide_eq_true (by first | (with_reducible assumption) | assumption)
          obtain ⟨go20, co20, eo20, gb20, gl20, cl20, HG20⟩ := Kd.R_form HO_2.out (by omega)
          (first | cases eo20 | (injection eo20 with ea_ en_ ec_; (first | subst ea_ | (injection ea_ with ea_; subst ea_)); subst ec_; clear en_))
          have GB20 := Aside0.mk gb20
          have GG20 := Aside0.mk HG20
          clear gb20 gl20 HG20
          obtain ⟨hx20_0, hf20_0⟩ := Kd.R_celln 0 HO_2.out ((ji17) : Int) p20 q20
          replace p20 := eq_true p20
          replace q20 := eq_true q20
          have HP27 := Kd.R_putg HO_2.out ((ji17) : Int) ji16
          try go_wp2_with (first | ((with_reducible refine gate_store (t := 3) (p := 23) rfl ?_); refine store_event (t := 3) (p := 23) (v := ?vo_w28) (w1 := (wr.setCell ⟨go20, ((ji17) : Int).toNat, none⟩ (.int .i64 ji16))) ?hg ?ho ?hn ?hr ?_; (case ho => rfl); (case hg => rfl); (case hn => rfl); (case hr => first | (go_simp; done) | (go_simp; rfl)); intro w28 hw; have hg : wr.grownBy w28 (some go20) := (by rw [hw]; exact HP27.2); have hp_ : Kd.R (Kd.int .i64) 3 w28 w.heap.size (fun k_ => some k_ ≠ (v134 : Value).ownBlock) (.slice (some ⟨go20, 0, none⟩) x2_1.length co20) y136 := (by rw [hw, Ny136.out]; exact HP27.1); clear HP27; replace HO_3 := Aside0.mk (Kd.R_after (v := (.slice (some ⟨go20, 0, none⟩) x2_1.length co20)) (v1 := (.slice (some ⟨go20, 0, none⟩) x2_1.length co20)) (ok := (fun _ => True)) (by (with_reducible repeat (first | apply Kd.R_alloc | apply Kd.R_drewN | apply Kd.R_drew)); exact Kd.R_mono HO_3.out (fun _ hk => ⟨trivial, hk⟩)) hg (.inl rfl)); replace HO_130002 := Aside0.mk (Kd.S_after (v := (.slice (some ⟨go20, 0, none⟩) x2_1.length co20)) (v1 := (.slice (some ⟨go20, 0, none⟩) x2_1.length co20)) (ok := (fun k_ => some k_ ≠ (v134 : Value).ownBlock)) (by (with_reducible repeat (first | apply Kd.S_alloc | apply Kd.S_drewN | apply Kd.S_drew)); exact Kd.S_mono HO_130002.out (fun _ hk => ⟨hk.2, hk.1⟩)) hg (.inl rfl)); replace BK128 := Aside0.mk (blk_grown (bP BK128) hg (Kd.R_ne HO_2.out BK128.out (by decide))); replace BK129 := Aside0.mk (blk_grown (bP BK129) hg (Kd.R_ne HO_2.out BK129.out (by decide))); replace HO_2 := Aside0.mk (hp_); replace HB := Aside0.mk ((by rw [hw]; exact below_set (HB.out) GB20.out : Below w.heap.size w w28)); clear hg hw hp_; have p22 : 0 ≤ ((ji17) : Int) := of_decide_eq_true (by first | (with_reducible assumption) | assumption); have q22 : ((ji17) : Int) < ((x3_1.length : Int) : Int) := of_decide_eq_true (by first | (with_reducible assumption) | assumption); obtain ⟨go22, co22, eo22, gb22, gl22, cl22, HG22⟩ := Kd.R_form HO_3.out (by omega); (first | cases eo22 | (injection eo22 with ea_ en_ ec_; (first | subst ea_ | (injection ea_ with ea_; subst ea_)); subst ec_; clear en_)); have GB22 := Aside0.mk gb22; have GG22 := Aside0.mk HG22; clear gb22 gl22 HG22; obtain ⟨hx22_0, hf22_0⟩ := Kd.R_celln 0 HO_3.out ((ji17) : Int) p22 q22; replace p22 := eq_true p22; replace q22 := eq_true q22; have n_ := Aside0.mk (Kd.R_mono (ok' := (fun k_ => some k_ ≠ (.slice (some ⟨go20, 0, none⟩) x2_1.length co20 : Value).ownBlock)) HO_3.out (fun k_ hk => hk.2)); clear HO_3; have HO_3 := n_; clear n_; obtain ⟨hy29_, hz29_⟩ := Kd.R_celln 0 HO_3.out ((ji17) : Int) (of_decide_eq_true (by first | (with_reducible assumption) | assumption)) (of_decide_eq_true (by first | (with_reducible assumption) | assumption)); have HP29 := Kd.R_putg HO_3.out ((ji17) : Int) 1) | ((with_reducible refine gate_store (t := 3) (p := 26) rfl ?_); refine store_event (t := 3) (p := 26) (v := ?vo_w30) (w1 := (w28.setCell ⟨go22, ((ji17) : Int).toNat, none⟩ (.int .i64 1))) ?hg ?ho ?hn ?hr ?_; (case ho => rfl); (case hg => rfl); (case hn => rfl); (case hr => first | (go_simp; done) | (go_simp; rfl)); intro w30 hw; have hg : w28.grownBy w30 (some go22) := (by rw [hw]; exact HP29.2); have hp_ : Kd.R (Kd.int .i64) 3 w30 w.heap.size (fun k_ => some k_ ≠ (.slice (some ⟨go20, 0, none⟩) x2_1.length co20 : Value).ownBlock) (.slice (some ⟨go22, 0, none⟩) x3_1.length co22) y137 := (by rw [hw, Ny137.out]; exact HP29.1); clear HP29; replace HO_2 := Aside0.mk (Kd.R_after (v := (.slice (some ⟨go22, 0, none⟩) x3_1.length co22)) (v1 := (.slice (some ⟨go22, 0, none⟩) x3_1.length co22)) (ok := (fun _ => True)) (by (with_reducible repeat (first | apply Kd.R_alloc | apply Kd.R_drewN | apply Kd.R_drew)); exact Kd.R_mono HO_2.out (fun _ hk => ⟨trivial, hk⟩)) hg (.inl rfl)); replace HO_130002 := Aside0.mk (Kd.S_after (v := (.slice (some ⟨go22, 0, none⟩) x3_1.length co22)) (v1 := (.slice (some ⟨go22, 0, none⟩) x3_1.length co22)) (ok := (fun k_ => some k_ ≠ (.slice (some ⟨go20, 0, none⟩) x2_1.length co20 : Value).ownBlock)) (by (with_reducible repeat (first | apply Kd.S_alloc | apply Kd.S_drewN | apply Kd.S_drew)); exact Kd.S_mono HO_130002.out (fun _ hk => ⟨hk.2, hk.1⟩)) hg (.inl rfl)); replace BK128 := Aside0.mk (blk_grown (bP BK128) hg (Kd.R_ne HO_3.out BK128.out (by decide))); replace BK129 := Aside0.mk (blk_grown (bP BK129) hg (Kd.R_ne HO_3.out BK129.out (by decide))); replace HO_3 := Aside0.mk (hp_); replace HB := Aside0.mk ((by rw [hw]; exact below_set (HB.out) GB22.out : Below w.heap.size w w30)); clear hg hw hp_))
          replace HO_2 := Aside0.mk (Kd.R_drew HO_2.out)
          replace HO_3 := Aside0.mk (Kd.R_drew HO_3.out)
          replace HO_130002 := Aside0.mk (Kd.S_drew HO_130002.out)
          replace BK128 := Aside0.mk (blk_drew BK128.out)
          replace BK129 := Aside0.mk (blk_drew BK129.out)
          replace HB := Aside0.mk (below_drew1 HB.out)
          refine start_ (n := 19) (S := fun w' => SQ3 w' gb129 (.int .i64 11) (.int .i64 2) (u130002)) (ds := [18]) #[false, false, false, false, false, false, false, false, false, false, false, false, false, false, false, false, false, false, false] (by kernel_rfl) rfl rfl (bT3 BK129) (fun hHeld => ?_); refine with_tabW impl_CountSystem.tab9 impl_CountSystem.bits9 (fun HT_ HW_ => ?_)
          generalize w30.drew = w31 at HO_2 HO_3 HO_130002 BK128 BK129 HB hHeld ⊢
          refine pI 0 (some 27) HT_.out ?_
          refine pI 2 (some 29) HT_.out ?_
          refine pI 4 (some 31) HT_.out ?_
          refine pI 6 (some 33) HT_.out ?_
          refine pI 8 (some 35) HT_.out ?_
          refine pI 10 (some 37) HT_.out ?_
          refine pI 12 (some 39) HT_.out ?_
          refine tI3 1 (some 28) HT_.out HW_.out hHeld ?_
          refine tI3 3 (some 30) HT_.out HW_.out hHeld ?_
          refine tI3 7 (some 34) HT_.out HW_.out hHeld ?_
          refine tI3 11 (some 38) HT_.out HW_.out hHeld ?_
          refine oI 5 (some 32) HT_.out (fun K hK => ?_)
          refine goes_ Try.func67 (by kernel_rfl) rfl #[.int .i64 11, .int .i64 ji17] (by rfl) rfl rfl (by (try simp only [List.map_toArray, List.map_cons, List.map_nil]); first | done | (simp only [hji17]; rfl) | rfl | (simp only [List.length_drop, List.length_take]; rfl)) ?_
          with_reducible refine (impl_unit.calls 11 ji17 t138 _ A23.out).mono ?_
          rintro e w32 ⟨v139, rfl, ho0, hb⟩
          refine ⟨_, rfl, ?_⟩
          replace HO_130002 := Aside0.mk (Kd.S_elder' (by (with_reducible repeat (first | apply Kd.S_alloc | apply Kd.S_drewN | apply Kd.S_drew)); exact HO_130002.out) (Kd.R_base ho0) hb)
          have HO140 := Aside0.mk (Kd.R_lower (Kd.R_new' (Kd.R_new' ho0 (Kd.R_lt (rP HO_2))) (Kd.R_lt (rP HO_3))) (below_size (bZ HB)))
          replace HO_2 := Aside0.mk (Kd.R_elder' (rP HO_2) (Kd.R_base ho0) hb)
          replace HO_3 := Aside0.mk (Kd.R_elder' (rP HO_3) (Kd.R_base ho0) hb)
          replace BK128 := bB BK128 hb
          replace BK129 := bB BK129 hb
          replace HB := bS HB hb
          (try clear hb)
          (try clear ho0)
          refine hK.out _ _ (bT3 BK129) (fun hHeld => ?_)
          clear hK K
          refine nO (some 32) ?_
          refine oI 9 (some 36) HT_.out (fun K hK => ?_)
          refine goes_ Try.func67 (by kernel_rfl) rfl #[.int .i64 11, .int .i64 ji17] (by rfl) rfl rfl (by (try simp only [List.map_toArray, List.map_cons, List.map_nil]); first | done | (simp only [hji17]; rfl) | rfl | (simp only [List.length_drop, List.length_take]; rfl)) ?_
          with_reducible refine (impl_unit.calls 11 ji17 t138 _ A24.out).mono ?_
          rintro e w33 ⟨v142, rfl, ho0, hb⟩
          refine ⟨_, rfl, ?_⟩
          replace HO_130002 := Aside0.mk (Kd.S_elder' (by (with_reducible repeat (first | apply Kd.S_alloc | apply Kd.S_drewN | apply Kd.S_drew)); exact HO_130002.out) (Kd.R_base ho0) hb)
          have HO143 := Aside0.mk (Kd.R_lower (Kd.R_new' (Kd.R_new' (Kd.R_new' ho0 (Kd.R_lt (rP HO_2))) (Kd.R_lt (rP HO_3))) (Kd.R_lt (rP HO140))) (below_size (bZ HB)))
          replace HO_2 := Aside0.mk (Kd.R_elder' (rP HO_2) (Kd.R_base ho0) hb)
          replace HO_3 := Aside0.mk (Kd.R_elder' (rP HO_3) (Kd.R_base ho0) hb)
          replace HO140 := Aside0.mk (Kd.R_elder' (rP HO140) (Kd.R_base ho0) hb)
          replace BK128 := bB BK128 hb
          replace BK129 := bB BK129 hb
          replace HB := bS HB hb
          (try clear hb)
          (try clear ho0)
          refine hK.out _ _ (bT3 BK129) (fun hHeld => ?_)
          clear hK K
          refine nO (some 36) ?_
          refine oI 13 (some 40) HT_.out (fun K hK => ?_)
          refine goes_ Try.func67 (by kernel_rfl) rfl #[.int .i64 11, .int .i64 ji17] (by rfl) rfl rfl (by (try simp only [List.map_toArray, List.map_cons, List.map_nil]); first | done | (simp only [hji17]; rfl) | rfl | (simp only [List.length_drop, List.length_take]; rfl)) ?_
          with_reducible refine (impl_unit.calls 11 ji17 t138 _ A25.out).mono ?_
          rintro e w34 ⟨v145, rfl, ho0, hb⟩
          refine ⟨_, rfl, ?_⟩
          replace HO_130002 := Aside0.mk (Kd.S_elder' (by (with_reducible repeat (first | apply Kd.S_alloc | apply Kd.S_drewN | apply Kd.S_drew)); exact HO_130002.out) (Kd.R_base ho0) hb)
          have HO146 := Aside0.mk (Kd.R_lower (Kd.R_new' (Kd.R_new' (Kd.R_new' (Kd.R_new' ho0 (Kd.R_lt (rP HO_2))) (Kd.R_lt (rP HO_3))) (Kd.R_lt (rP HO140))) (Kd.R_lt (rP HO143))) (below_size (bZ HB)))
          replace HO_2 := Aside0.mk (Kd.R_elder' (rP HO_2) (Kd.R_base ho0) hb)
          replace HO_3 := Aside0.mk (Kd.R_elder' (rP HO_3) (Kd.R_base ho0) hb)
          replace HO140 := Aside0.mk (Kd.R_elder' (rP HO140) (Kd.R_base ho0) hb)
          replace HO143 := Aside0.mk (Kd.R_elder' (rP HO143) (Kd.R_base ho0) hb)
          replace BK128 := bB BK128 hb
          replace BK129 := bB BK129 hb
          replace HB := bS HB hb
          (try clear hb)
          (try clear ho0)
          obtain ⟨Ao35, co35, eo35⟩ := Kd.R_slice HO146.out
          (first | subst eo35 | (injection eo35 with f1_ f2_ f3_; have f4_ := f1_.symm; have f5_ := f3_.symm; clear f1_ f2_ f3_; subst f4_; subst f5_))
          obtain ⟨Ao36, co36, eo36⟩ := Kd.R_slice HO143.out
          (first | subst eo36 | (injection eo36 with f1_ f2_ f3_; have f4_ := f1_.symm; have f5_ := f3_.symm; clear f1_ f2_ f3_; subst f4_; subst f5_))
          obtain ⟨Ao37, co37, eo37⟩ := Kd.R_slice HO140.out
          (first | subst eo37 | (injection eo37 with f1_ f2_ f3_; have f4_ := f1_.symm; have f5_ := f3_.symm; clear f1_ f2_ f3_; subst f4_; subst f5_))
          refine hK.out _ _ (bT3 BK129) (fun hHeld => ?_)
          clear hK K
          refine nO (some 40) ?_
          refine pI 14 (some 41) HT_.out ?_
          refine oI 15 (some 42) HT_.out (fun K hK => ?_)
          refine value_ (w1 := ?_) (v := ?_) (by rfl) rfl ?_ ?_
          rotate_left 2
          ·go_simp
           constructor
           ·rfl
           ·rfl
          refine hK.out _ _ ⟨(blk_cell (blk_alloc BK129.out _) 0).trans rfl, (blk_cell (blk_alloc BK129.out _) 1).trans rfl, (blk_cell (blk_alloc BK129.out _) 2).trans rfl⟩ (fun hHeld => ?_)
          clear hK K
          refine nO (some 42) ?_
          refine oI 16 (some 43) HT_.out (fun K hK => ?_)
          refine Kd.S_append_step k75 (w0 := w) w.heap.size (by rfl) (.tmp 28) (.tmp 42) 41 75 (.agg #[(.slice none 0 0), (.slice none 0 0), (.slice none 0 0)]) 72 rfl Try.underlying41 info75 rfl (by decide) (by omega) u130002 x130002_1 (⟨t138, t138, t138⟩ : S75) [.slice Ao37 t138.length co37, .slice Ao36 t138.length co36, .slice Ao35 t138.length co35] (fun k_ => some k_ ≠ (.slice (some ⟨go20, 0, none⟩) x2_1.length co20 : Value).ownBlock ∧ some k_ ≠ (.slice (some ⟨go22, 0, none⟩) x3_1.length co22 : Value).ownBlock) (fun k_ => some k_ = (.slice Ao37 t138.length co37 : Value).ownBlock ∨ some k_ = (.slice Ao36 t138.length co36 : Value).ownBlock ∨ some k_ = (.slice Ao35 t138.length co35 : Value).ownBlock) rfl rfl ?aP (fun k_ hk_ => hk_.elim (fun h_ => ((Kd.R_mono (ok' := fun k_ => ((fun k_ => some k_ ≠ (.slice (some ⟨go20, 0, none⟩) x2_1.length co20 : Value).ownBlock ∧ some k_ ≠ (.slice (some ⟨go22, 0, none⟩) x3_1.length co22 : Value).ownBlock)) k_ ∧ some k_ ≠ (u130002 : Value).ownBlock) (Kd.R_apart' (HO140.out) (Kd.S_typed HO_130002.out) (by decide)) (fun k_ hk => ⟨⟨hk.1.1.1.1.2, hk.1.1.1.2⟩, hk.2⟩))).1 k_ h_.symm) (fun h_ => h_.elim (fun h_ => ((Kd.R_mono (ok' := fun k_ => ((fun k_ => some k_ ≠ (.slice (some ⟨go20, 0, none⟩) x2_1.length co20 : Value).ownBlock ∧ some k_ ≠ (.slice (some ⟨go22, 0, none⟩) x3_1.length co22 : Value).ownBlock)) k_ ∧ some k_ ≠ (u130002 : Value).ownBlock) (Kd.R_apart' (HO143.out) (Kd.S_typed HO_130002.out) (by decide)) (fun k_ hk => ⟨⟨hk.1.1.1.1.2, hk.1.1.1.2⟩, hk.2⟩))).1 k_ h_.symm) (fun h_ => ((Kd.R_mono (ok' := fun k_ => ((fun k_ => some k_ ≠ (.slice (some ⟨go20, 0, none⟩) x2_1.length co20 : Value).ownBlock ∧ some k_ ≠ (.slice (some ⟨go22, 0, none⟩) x3_1.length co22 : Value).ownBlock)) k_ ∧ some k_ ≠ (u130002 : Value).ownBlock) (Kd.R_apart' (HO146.out) (Kd.S_typed HO_130002.out) (by decide)) (fun k_ hk => ⟨⟨hk.1.1.1.1.2, hk.1.1.1.2⟩, hk.2⟩))).1 k_ h_.symm))) ?aF ?aO ?aB ?aS ?aL ?_
          (case aP => exact k75_mkM _ _ _ (⟨t138, t138, t138⟩ : S75) (Kd.R_mono (Kd.R_tight rfl (Kd.R_mono (ok' := fun k_ => ((fun k_ => some k_ ≠ (.slice (some ⟨go20, 0, none⟩) x2_1.length co20 : Value).ownBlock ∧ some k_ ≠ (.slice (some ⟨go22, 0, none⟩) x3_1.length co22 : Value).ownBlock)) k_ ∧ some k_ ≠ (u130002 : Value).ownBlock) (Kd.R_apart' (HO140.out) (Kd.S_typed HO_130002.out) (by decide)) (fun k_ hk => ⟨⟨hk.1.1.1.1.2, hk.1.1.1.2⟩, hk.2⟩))) (fun _ h_ => Or.inl h_)) (Kd.R_mono (Kd.R_tight rfl (Kd.R_mono (ok' := fun k_ => ((fun k_ => some k_ ≠ (.slice (some ⟨go20, 0, none⟩) x2_1.length co20 : Value).ownBlock ∧ some k_ ≠ (.slice (some ⟨go22, 0, none⟩) x3_1.length co22 : Value).ownBlock)) k_ ∧ some k_ ≠ (u130002 : Value).ownBlock) (Kd.R_apart' (HO143.out) (Kd.S_typed HO_130002.out) (by decide)) (fun k_ hk => ⟨⟨hk.1.1.1.1.2, hk.1.1.1.2⟩, hk.2⟩))) (fun _ h_ => Or.inr (Or.inl h_))) (Kd.R_mono (Kd.R_tight rfl (Kd.R_mono (ok' := fun k_ => ((fun k_ => some k_ ≠ (.slice (some ⟨go20, 0, none⟩) x2_1.length co20 : Value).ownBlock ∧ some k_ ≠ (.slice (some ⟨go22, 0, none⟩) x3_1.length co22 : Value).ownBlock)) k_ ∧ some k_ ≠ (u130002 : Value).ownBlock) (Kd.R_apart' (HO146.out) (Kd.S_typed HO_130002.out) (by decide)) (fun k_ hk => ⟨⟨hk.1.1.1.1.2, hk.1.1.1.2⟩, hk.2⟩))) (fun _ h_ => Or.inr (Or.inr (h_)))) (fun k_ e_ e2_ => by first | (have h_ := HO140.out.1 k_ e_; first | exact h_ e2_.symm | exact h_.1 e2_.symm | exact h_.2 e2_.symm | exact h_.1.1 e2_.symm | exact h_.2.1 e2_.symm | exact h_.1.2 e2_.symm | exact h_.2.2 e2_.symm | exact h_.1.1.1 e2_.symm | exact h_.2.1.1 e2_.symm | exact h_.1.2.1 e2_.symm | exact h_.2.2.1 e2_.symm | exact h_.1.1.2 e2_.symm | exact h_.2.1.2 e2_.symm | exact h_.1.2.2 e2_.symm | exact h_.2.2.2 e2_.symm | exact h_.1.1.1.1 e2_.symm | exact h_.2.1.1.1 e2_.symm | exact h_.1.2.1.1 e2_.symm | exact h_.2.2.1.1 e2_.symm | exact h_.1.1.2.1 e2_.symm | exact h_.2.1.2.1 e2_.symm | exact h_.1.2.2.1 e2_.symm | exact h_.2.2.2.1 e2_.symm | exact h_.1.1.1.2 e2_.symm | exact h_.2.1.1.2 e2_.symm | exact h_.1.2.1.2 e2_.symm | exact h_.2.2.1.2 e2_.symm | exact h_.1.1.2.2 e2_.symm | exact h_.2.1.2.2 e2_.symm | exact h_.1.2.2.2 e2_.symm | exact h_.2.2.2.2 e2_.symm | exact h_.1.1.1.1.1 e2_.symm | exact h_.2.1.1.1.1 e2_.symm | exact h_.1.2.1.1.1 e2_.symm | exact h_.2.2.1.1.1 e2_.symm | exact h_.1.1.2.1.1 e2_.symm | exact h_.2.1.2.1.1 e2_.symm | exact h_.1.2.2.1.1 e2_.symm | exact h_.2.2.2.1.1 e2_.symm | exact h_.1.1.1.2.1 e2_.symm | exact h_.2.1.1.2.1 e2_.symm | exact h_.1.2.1.2.1 e2_.symm | exact h_.2.2.1.2.1 e2_.symm | exact h_.1.1.2.2.1 e2_.symm | exact h_.2.1.2.2.1 e2_.symm | exact h_.1.2.2.2.1 e2_.symm | exact h_.2.2.2.2.1 e2_.symm | exact h_.1.1.1.1.2 e2_.symm | exact h_.2.1.1.1.2 e2_.symm | exact h_.1.2.1.1.2 e2_.symm | exact h_.2.2.1.1.2 e2_.symm | exact h_.1.1.2.1.2 e2_.symm | exact h_.2.1.2.1.2 e2_.symm | exact h_.1.2.2.1.2 e2_.symm | exact h_.2.2.2.1.2 e2_.symm | exact h_.1.1.1.2.2 e2_.symm | exact h_.2.1.1.2.2 e2_.symm | exact h_.1.2.1.2.2 e2_.symm | exact h_.2.2.1.2.2 e2_.symm | exact h_.1.1.2.2.2 e2_.symm | exact h_.2.1.2.2.2 e2_.symm | exact h_.1.2.2.2.2 e2_.symm | exact h_.2.2.2.2.2 e2_.symm | exact h_.1.1.1.1.1.1 e2_.symm | exact h_.2.1.1.1.1.1 e2_.symm | exact h_.1.2.1.1.1.1 e2_.symm | exact h_.2.2.1.1.1.1 e2_.symm | exact h_.1.1.2.1.1.1 e2_.symm | exact h_.2.1.2.1.1.1 e2_.symm | exact h_.1.2.2.1.1.1 e2_.symm | exact h_.2.2.2.1.1.1 e2_.symm | exact h_.1.1.1.2.1.1 e2_.symm | exact h_.2.1.1.2.1.1 e2_.symm | exact h_.1.2.1.2.1.1 e2_.symm | exact h_.2.2.1.2.1.1 e2_.symm | exact h_.1.1.2.2.1.1 e2_.symm | exact h_.2.1.2.2.1.1 e2_.symm | exact h_.1.2.2.2.1.1 e2_.symm | exact h_.2.2.2.2.1.1 e2_.symm | exact h_.1.1.1.1.2.1 e2_.symm | exact h_.2.1.1.1.2.1 e2_.symm | exact h_.1.2.1.1.2.1 e2_.symm | exact h_.2.2.1.1.2.1 e2_.symm | exact h_.1.1.2.1.2.1 e2_.symm | exact h_.2.1.2.1.2.1 e2_.symm | exact h_.1.2.2.1.2.1 e2_.symm | exact h_.2.2.2.1.2.1 e2_.symm | exact h_.1.1.1.2.2.1 e2_.symm | exact h_.2.1.1.2.2.1 e2_.symm | exact h_.1.2.1.2.2.1 e2_.symm | exact h_.2.2.1.2.2.1 e2_.symm | exact h_.1.1.2.2.2.1 e2_.symm | exact h_.2.1.2.2.2.1 e2_.symm | exact h_.1.2.2.2.2.1 e2_.symm | exact h_.2.2.2.2.2.1 e2_.symm | exact h_.1.1.1.1.1.2 e2_.symm | exact h_.2.1.1.1.1.2 e2_.symm | exact h_.1.2.1.1.1.2 e2_.symm | exact h_.2.2.1.1.1.2 e2_.symm | exact h_.1.1.2.1.1.2 e2_.symm | exact h_.2.1.2.1.1.2 e2_.symm | exact h_.1.2.2.1.1.2 e2_.symm | exact h_.2.2.2.1.1.2 e2_.symm | exact h_.1.1.1.2.1.2 e2_.symm | exact h_.2.1.1.2.1.2 e2_.symm | exact h_.1.2.1.2.1.2 e2_.symm | exact h_.2.2.1.2.1.2 e2_.symm | exact h_.1.1.2.2.1.2 e2_.symm | exact h_.2.1.2.2.1.2 e2_.symm | exact h_.1.2.2.2.1.2 e2_.symm | exact h_.2.2.2.2.1.2 e2_.symm | exact h_.1.1.1.1.2.2 e2_.symm | exact h_.2.1.1.1.2.2 e2_.symm | exact h_.1.2.1.1.2.2 e2_.symm | exact h_.2.2.1.1.2.2 e2_.symm | exact h_.1.1.2.1.2.2 e2_.symm | exact h_.2.1.2.1.2.2 e2_.symm | exact h_.1.2.2.1.2.2 e2_.symm | exact h_.2.2.2.1.2.2 e2_.symm | exact h_.1.1.1.2.2.2 e2_.symm | exact h_.2.1.1.2.2.2 e2_.symm | exact h_.1.2.1.2.2.2 e2_.symm | exact h_.2.2.1.2.2.2 e2_.symm | exact h_.1.1.2.2.2.2 e2_.symm | exact h_.2.1.2.2.2.2 e2_.symm | exact h_.1.2.2.2.2.2 e2_.symm | exact h_.2.2.2.2.2.2 e2_.symm) | (have h_ := HO143.out.1 k_ e2_; first | exact h_ e_.symm | exact h_.1 e_.symm | exact h_.2 e_.symm | exact h_.1.1 e_.symm | exact h_.2.1 e_.symm | exact h_.1.2 e_.symm | exact h_.2.2 e_.symm | exact h_.1.1.1 e_.symm | exact h_.2.1.1 e_.symm | exact h_.1.2.1 e_.symm | exact h_.2.2.1 e_.symm | exact h_.1.1.2 e_.symm | exact h_.2.1.2 e_.symm | exact h_.1.2.2 e_.symm | exact h_.2.2.2 e_.symm | exact h_.1.1.1.1 e_.symm | exact h_.2.1.1.1 e_.symm | exact h_.1.2.1.1 e_.symm | exact h_.2.2.1.1 e_.symm | exact h_.1.1.2.1 e_.symm | exact h_.2.1.2.1 e_.symm | exact h_.1.2.2.1 e_.symm | exact h_.2.2.2.1 e_.symm | exact h_.1.1.1.2 e_.symm | exact h_.2.1.1.2 e_.symm | exact h_.1.2.1.2 e_.symm | exact h_.2.2.1.2 e_.symm | exact h_.1.1.2.2 e_.symm | exact h_.2.1.2.2 e_.symm | exact h_.1.2.2.2 e_.symm | exact h_.2.2.2.2 e_.symm | exact h_.1.1.1.1.1 e_.symm | exact h_.2.1.1.1.1 e_.symm | exact h_.1.2.1.1.1 e_.symm | exact h_.2.2.1.1.1 e_.symm | exact h_.1.1.2.1.1 e_.symm | exact h_.2.1.2.1.1 e_.symm | exact h_.1.2.2.1.1 e_.symm | exact h_.2.2.2.1.1 e_.symm | exact h_.1.1.1.2.1 e_.symm | exact h_.2.1.1.2.1 e_.symm | exact h_.1.2.1.2.1 e_.symm | exact h_.2.2.1.2.1 e_.symm | exact h_.1.1.2.2.1 e_.symm | exact h_.2.1.2.2.1 e_.symm | exact h_.1.2.2.2.1 e_.symm | exact h_.2.2.2.2.1 e_.symm | exact h_.1.1.1.1.2 e_.symm | exact h_.2.1.1.1.2 e_.symm | exact h_.1.2.1.1.2 e_.symm | exact h_.2.2.1.1.2 e_.symm | exact h_.1.1.2.1.2 e_.symm | exact h_.2.1.2.1.2 e_.symm | exact h_.1.2.2.1.2 e_.symm | exact h_.2.2.2.1.2 e_.symm | exact h_.1.1.1.2.2 e_.symm | exact h_.2.1.1.2.2 e_.symm | exact h_.1.2.1.2.2 e_.symm | exact h_.2.2.1.2.2 e_.symm | exact h_.1.1.2.2.2 e_.symm | exact h_.2.1.2.2.2 e_.symm | exact h_.1.2.2.2.2 e_.symm | exact h_.2.2.2.2.2 e_.symm | exact h_.1.1.1.1.1.1 e_.symm | exact h_.2.1.1.1.1.1 e_.symm | exact h_.1.2.1.1.1.1 e_.symm | exact h_.2.2.1.1.1.1 e_.symm | exact h_.1.1.2.1.1.1 e_.symm | exact h_.2.1.2.1.1.1 e_.symm | exact h_.1.2.2.1.1.1 e_.symm | exact h_.2.2.2.1.1.1 e_.symm | exact h_.1.1.1.2.1.1 e_.symm | exact h_.2.1.1.2.1.1 e_.symm | exact h_.1.2.1.2.1.1 e_.symm | exact h_.2.2.1.2.1.1 e_.symm | exact h_.1.1.2.2.1.1 e_.symm | exact h_.2.1.2.2.1.1 e_.symm | exact h_.1.2.2.2.1.1 e_.symm | exact h_.2.2.2.2.1.1 e_.symm | exact h_.1.1.1.1.2.1 e_.symm | exact h_.2.1.1.1.2.1 e_.symm | exact h_.1.2.1.1.2.1 e_.symm | exact h_.2.2.1.1.2.1 e_.symm | exact h_.1.1.2.1.2.1 e_.symm | exact h_.2.1.2.1.2.1 e_.symm | exact h_.1.2.2.1.2.1 e_.symm | exact h_.2.2.2.1.2.1 e_.symm | exact h_.1.1.1.2.2.1 e_.symm | exact h_.2.1.1.2.2.1 e_.symm | exact h_.1.2.1.2.2.1 e_.symm | exact h_.2.2.1.2.2.1 e_.symm | exact h_.1.1.2.2.2.1 e_.symm | exact h_.2.1.2.2.2.1 e_.symm | exact h_.1.2.2.2.2.1 e_.symm | exact h_.2.2.2.2.2.1 e_.symm | exact h_.1.1.1.1.1.2 e_.symm | exact h_.2.1.1.1.1.2 e_.symm | exact h_.1.2.1.1.1.2 e_.symm | exact h_.2.2.1.1.1.2 e_.symm | exact h_.1.1.2.1.1.2 e_.symm | exact h_.2.1.2.1.1.2 e_.symm | exact h_.1.2.2.1.1.2 e_.symm | exact h_.2.2.2.1.1.2 e_.symm | exact h_.1.1.1.2.1.2 e_.symm | exact h_.2.1.1.2.1.2 e_.symm | exact h_.1.2.1.2.1.2 e_.symm | exact h_.2.2.1.2.1.2 e_.symm | exact h_.1.1.2.2.1.2 e_.symm | exact h_.2.1.2.2.1.2 e_.symm | exact h_.1.2.2.2.1.2 e_.symm | exact h_.2.2.2.2.1.2 e_.symm | exact h_.1.1.1.1.2.2 e_.symm | exact h_.2.1.1.1.2.2 e_.symm | exact h_.1.2.1.1.2.2 e_.symm | exact h_.2.2.1.1.2.2 e_.symm | exact h_.1.1.2.1.2.2 e_.symm | exact h_.2.1.2.1.2.2 e_.symm | exact h_.1.2.2.1.2.2 e_.symm | exact h_.2.2.2.1.2.2 e_.symm | exact h_.1.1.1.2.2.2 e_.symm | exact h_.2.1.1.2.2.2 e_.symm | exact h_.1.2.1.2.2.2 e_.symm | exact h_.2.2.1.2.2.2 e_.symm | exact h_.1.1.2.2.2.2 e_.symm | exact h_.2.1.2.2.2.2 e_.symm | exact h_.1.2.2.2.2.2 e_.symm | exact h_.2.2.2.2.2.2 e_.symm)) (fun k_ e_ e2_ => by first | (have h_ := HO140.out.1 k_ e_; first | exact h_ e2_.symm | exact h_.1 e2_.symm | exact h_.2 e2_.symm | exact h_.1.1 e2_.symm | exact h_.2.1 e2_.symm | exact h_.1.2 e2_.symm | exact h_.2.2 e2_.symm | exact h_.1.1.1 e2_.symm | exact h_.2.1.1 e2_.symm | exact h_.1.2.1 e2_.symm | exact h_.2.2.1 e2_.symm | exact h_.1.1.2 e2_.symm | exact h_.2.1.2 e2_.symm | exact h_.1.2.2 e2_.symm | exact h_.2.2.2 e2_.symm | exact h_.1.1.1.1 e2_.symm | exact h_.2.1.1.1 e2_.symm | exact h_.1.2.1.1 e2_.symm | exact h_.2.2.1.1 e2_.symm | exact h_.1.1.2.1 e2_.symm | exact h_.2.1.2.1 e2_.symm | exact h_.1.2.2.1 e2_.symm | exact h_.2.2.2.1 e2_.symm | exact h_.1.1.1.2 e2_.symm | exact h_.2.1.1.2 e2_.symm | exact h_.1.2.1.2 e2_.symm | exact h_.2.2.1.2 e2_.symm | exact h_.1.1.2.2 e2_.symm | exact h_.2.1.2.2 e2_.symm | exact h_.1.2.2.2 e2_.symm | exact h_.2.2.2.2 e2_.symm | exact h_.1.1.1.1.1 e2_.symm | exact h_.2.1.1.1.1 e2_.symm | exact h_.1.2.1.1.1 e2_.symm | exact h_.2.2.1.1.1 e2_.symm | exact h_.1.1.2.1.1 e2_.symm | exact h_.2.1.2.1.1 e2_.symm | exact h_.1.2.2.1.1 e2_.symm | exact h_.2.2.2.1.1 e2_.symm | exact h_.1.1.1.2.1 e2_.symm | exact h_.2.1.1.2.1 e2_.symm | exact h_.1.2.1.2.1 e2_.symm | exact h_.2.2.1.2.1 e2_.symm | exact h_.1.1.2.2.1 e2_.symm | exact h_.2.1.2.2.1 e2_.symm | exact h_.1.2.2.2.1 e2_.symm | exact h_.2.2.2.2.1 e2_.symm | exact h_.1.1.1.1.2 e2_.symm | exact h_.2.1.1.1.2 e2_.symm | exact h_.1.2.1.1.2 e2_.symm | exact h_.2.2.1.1.2 e2_.symm | exact h_.1.1.2.1.2 e2_.symm | exact h_.2.1.2.1.2 e2_.symm | exact h_.1.2.2.1.2 e2_.symm | exact h_.2.2.2.1.2 e2_.symm | exact h_.1.1.1.2.2 e2_.symm | exact h_.2.1.1.2.2 e2_.symm | exact h_.1.2.1.2.2 e2_.symm | exact h_.2.2.1.2.2 e2_.symm | exact h_.1.1.2.2.2 e2_.symm | exact h_.2.1.2.2.2 e2_.symm | exact h_.1.2.2.2.2 e2_.symm | exact h_.2.2.2.2.2 e2_.symm | exact h_.1.1.1.1.1.1 e2_.symm | exact h_.2.1.1.1.1.1 e2_.symm | exact h_.1.2.1.1.1.1 e2_.symm | exact h_.2.2.1.1.1.1 e2_.symm | exact h_.1.1.2.1.1.1 e2_.symm | exact h_.2.1.2.1.1.1 e2_.symm | exact h_.1.2.2.1.1.1 e2_.symm | exact h_.2.2.2.1.1.1 e2_.symm | exact h_.1.1.1.2.1.1 e2_.symm | exact h_.2.1.1.2.1.1 e2_.symm | exact h_.1.2.1.2.1.1 e2_.symm | exact h_.2.2.1.2.1.1 e2_.symm | exact h_.1.1.2.2.1.1 e2_.symm | exact h_.2.1.2.2.1.1 e2_.symm | exact h_.1.2.2.2.1.1 e2_.symm | exact h_.2.2.2.2.1.1 e2_.symm | exact h_.1.1.1.1.2.1 e2_.symm | exact h_.2.1.1.1.2.1 e2_.symm | exact h_.1.2.1.1.2.1 e2_.symm | exact h_.2.2.1.1.2.1 e2_.symm | exact h_.1.1.2.1.2.1 e2_.symm | exact h_.2.1.2.1.2.1 e2_.symm | exact h_.1.2.2.1.2.1 e2_.symm | exact h_.2.2.2.1.2.1 e2_.symm | exact h_.1.1.1.2.2.1 e2_.symm | exact h_.2.1.1.2.2.1 e2_.symm | exact h_.1.2.1.2.2.1 e2_.symm | exact h_.2.2.1.2.2.1 e2_.symm | exact h_.1.1.2.2.2.1 e2_.symm | exact h_.2.1.2.2.2.1 e2_.symm | exact h_.1.2.2.2.2.1 e2_.symm | exact h_.2.2.2.2.2.1 e2_.symm | exact h_.1.1.1.1.1.2 e2_.symm | exact h_.2.1.1.1.1.2 e2_.symm | exact h_.1.2.1.1.1.2 e2_.symm | exact h_.2.2.1.1.1.2 e2_.symm | exact h_.1.1.2.1.1.2 e2_.symm | exact h_.2.1.2.1.1.2 e2_.symm | exact h_.1.2.2.1.1.2 e2_.symm | exact h_.2.2.2.1.1.2 e2_.symm | exact h_.1.1.1.2.1.2 e2_.symm | exact h_.2.1.1.2.1.2 e2_.symm | exact h_.1.2.1.2.1.2 e2_.symm | exact h_.2.2.1.2.1.2 e2_.symm | exact h_.1.1.2.2.1.2 e2_.symm | exact h_.2.1.2.2.1.2 e2_.symm | exact h_.1.2.2.2.1.2 e2_.symm | exact h_.2.2.2.2.1.2 e2_.symm | exact h_.1.1.1.1.2.2 e2_.symm | exact h_.2.1.1.1.2.2 e2_.symm | exact h_.1.2.1.1.2.2 e2_.symm | exact h_.2.2.1.1.2.2 e2_.symm | exact h_.1.1.2.1.2.2 e2_.symm | exact h_.2.1.2.1.2.2 e2_.symm | exact h_.1.2.2.1.2.2 e2_.symm | exact h_.2.2.2.1.2.2 e2_.symm | exact h_.1.1.1.2.2.2 e2_.symm | exact h_.2.1.1.2.2.2 e2_.symm | exact h_.1.2.1.2.2.2 e2_.symm | exact h_.2.2.1.2.2.2 e2_.symm | exact h_.1.1.2.2.2.2 e2_.symm | exact h_.2.1.2.2.2.2 e2_.symm | exact h_.1.2.2.2.2.2 e2_.symm | exact h_.2.2.2.2.2.2 e2_.symm) | (have h_ := HO146.out.1 k_ e2_; first | exact h_ e_.symm | exact h_.1 e_.symm | exact h_.2 e_.symm | exact h_.1.1 e_.symm | exact h_.2.1 e_.symm | exact h_.1.2 e_.symm | exact h_.2.2 e_.symm | exact h_.1.1.1 e_.symm | exact h_.2.1.1 e_.symm | exact h_.1.2.1 e_.symm | exact h_.2.2.1 e_.symm | exact h_.1.1.2 e_.symm | exact h_.2.1.2 e_.symm | exact h_.1.2.2 e_.symm | exact h_.2.2.2 e_.symm | exact h_.1.1.1.1 e_.symm | exact h_.2.1.1.1 e_.symm | exact h_.1.2.1.1 e_.symm | exact h_.2.2.1.1 e_.symm | exact h_.1.1.2.1 e_.symm | exact h_.2.1.2.1 e_.symm | exact h_.1.2.2.1 e_.symm | exact h_.2.2.2.1 e_.symm | exact h_.1.1.1.2 e_.symm | exact h_.2.1.1.2 e_.symm | exact h_.1.2.1.2 e_.symm | exact h_.2.2.1.2 e_.symm | exact h_.1.1.2.2 e_.symm | exact h_.2.1.2.2 e_.symm | exact h_.1.2.2.2 e_.symm | exact h_.2.2.2.2 e_.symm | exact h_.1.1.1.1.1 e_.symm | exact h_.2.1.1.1.1 e_.symm | exact h_.1.2.1.1.1 e_.symm | exact h_.2.2.1.1.1 e_.symm | exact h_.1.1.2.1.1 e_.symm | exact h_.2.1.2.1.1 e_.symm | exact h_.1.2.2.1.1 e_.symm | exact h_.2.2.2.1.1 e_.symm | exact h_.1.1.1.2.1 e_.symm | exact h_.2.1.1.2.1 e_.symm | exact h_.1.2.1.2.1 e_.symm | exact h_.2.2.1.2.1 e_.symm | exact h_.1.1.2.2.1 e_.symm | exact h_.2.1.2.2.1 e_.symm | exact h_.1.2.2.2.1 e_.symm | exact h_.2.2.2.2.1 e_.symm | exact h_.1.1.1.1.2 e_.symm | exact h_.2.1.1.1.2 e_.symm | exact h_.1.2.1.1.2 e_.symm | exact h_.2.2.1.1.2 e_.symm | exact h_.1.1.2.1.2 e_.symm | exact h_.2.1.2.1.2 e_.symm | exact h_.1.2.2.1.2 e_.symm | exact h_.2.2.2.1.2 e_.symm | exact h_.1.1.1.2.2 e_.symm | exact h_.2.1.1.2.2 e_.symm | exact h_.1.2.1.2.2 e_.symm | exact h_.2.2.1.2.2 e_.symm | exact h_.1.1.2.2.2 e_.symm | exact h_.2.1.2.2.2 e_.symm | exact h_.1.2.2.2.2 e_.symm | exact h_.2.2.2.2.2 e_.symm | exact h_.1.1.1.1.1.1 e_.symm | exact h_.2.1.1.1.1.1 e_.symm | exact h_.1.2.1.1.1.1 e_.symm | exact h_.2.2.1.1.1.1 e_.symm | exact h_.1.1.2.1.1.1 e_.symm | exact h_.2.1.2.1.1.1 e_.symm | exact h_.1.2.2.1.1.1 e_.symm | exact h_.2.2.2.1.1.1 e_.symm | exact h_.1.1.1.2.1.1 e_.symm | exact h_.2.1.1.2.1.1 e_.symm | exact h_.1.2.1.2.1.1 e_.symm | exact h_.2.2.1.2.1.1 e_.symm | exact h_.1.1.2.2.1.1 e_.symm | exact h_.2.1.2.2.1.1 e_.symm | exact h_.1.2.2.2.1.1 e_.symm | exact h_.2.2.2.2.1.1 e_.symm | exact h_.1.1.1.1.2.1 e_.symm | exact h_.2.1.1.1.2.1 e_.symm | exact h_.1.2.1.1.2.1 e_.symm | exact h_.2.2.1.1.2.1 e_.symm | exact h_.1.1.2.1.2.1 e_.symm | exact h_.2.1.2.1.2.1 e_.symm | exact h_.1.2.2.1.2.1 e_.symm | exact h_.2.2.2.1.2.1 e_.symm | exact h_.1.1.1.2.2.1 e_.symm | exact h_.2.1.1.2.2.1 e_.symm | exact h_.1.2.1.2.2.1 e_.symm | exact h_.2.2.1.2.2.1 e_.symm | exact h_.1.1.2.2.2.1 e_.symm | exact h_.2.1.2.2.2.1 e_.symm | exact h_.1.2.2.2.2.1 e_.symm | exact h_.2.2.2.2.2.1 e_.symm | exact h_.1.1.1.1.1.2 e_.symm | exact h_.2.1.1.1.1.2 e_.symm | exact h_.1.2.1.1.1.2 e_.symm | exact h_.2.2.1.1.1.2 e_.symm | exact h_.1.1.2.1.1.2 e_.symm | exact h_.2.1.2.1.1.2 e_.symm | exact h_.1.2.2.1.1.2 e_.symm | exact h_.2.2.2.1.1.2 e_.symm | exact h_.1.1.1.2.1.2 e_.symm | exact h_.2.1.1.2.1.2 e_.symm | exact h_.1.2.1.2.1.2 e_.symm | exact h_.2.2.1.2.1.2 e_.symm | exact h_.1.1.2.2.1.2 e_.symm | exact h_.2.1.2.2.1.2 e_.symm | exact h_.1.2.2.2.1.2 e_.symm | exact h_.2.2.2.2.1.2 e_.symm | exact h_.1.1.1.1.2.2 e_.symm | exact h_.2.1.1.1.2.2 e_.symm | exact h_.1.2.1.1.2.2 e_.symm | exact h_.2.2.1.1.2.2 e_.symm | exact h_.1.1.2.1.2.2 e_.symm | exact h_.2.1.2.1.2.2 e_.symm | exact h_.1.2.2.1.2.2 e_.symm | exact h_.2.2.2.1.2.2 e_.symm | exact h_.1.1.1.2.2.2 e_.symm | exact h_.2.1.1.2.2.2 e_.symm | exact h_.1.2.1.2.2.2 e_.symm | exact h_.2.2.1.2.2.2 e_.symm | exact h_.1.1.2.2.2.2 e_.symm | exact h_.2.1.2.2.2.2 e_.symm | exact h_.1.2.2.2.2.2 e_.symm | exact h_.2.2.2.2.2.2 e_.symm)) (fun k_ e_ e2_ => by first | (have h_ := HO143.out.1 k_ e_; first | exact h_ e2_.symm | exact h_.1 e2_.symm | exact h_.2 e2_.symm | exact h_.1.1 e2_.symm | exact h_.2.1 e2_.symm | exact h_.1.2 e2_.symm | exact h_.2.2 e2_.symm | exact h_.1.1.1 e2_.symm | exact h_.2.1.1 e2_.symm | exact h_.1.2.1 e2_.symm | exact h_.2.2.1 e2_.symm | exact h_.1.1.2 e2_.symm | exact h_.2.1.2 e2_.symm | exact h_.1.2.2 e2_.symm | exact h_.2.2.2 e2_.symm | exact h_.1.1.1.1 e2_.symm | exact h_.2.1.1.1 e2_.symm | exact h_.1.2.1.1 e2_.symm | exact h_.2.2.1.1 e2_.symm | exact h_.1.1.2.1 e2_.symm | exact h_.2.1.2.1 e2_.symm | exact h_.1.2.2.1 e2_.symm | exact h_.2.2.2.1 e2_.symm | exact h_.1.1.1.2 e2_.symm | exact h_.2.1.1.2 e2_.symm | exact h_.1.2.1.2 e2_.symm | exact h_.2.2.1.2 e2_.symm | exact h_.1.1.2.2 e2_.symm | exact h_.2.1.2.2 e2_.symm | exact h_.1.2.2.2 e2_.symm | exact h_.2.2.2.2 e2_.symm | exact h_.1.1.1.1.1 e2_.symm | exact h_.2.1.1.1.1 e2_.symm | exact h_.1.2.1.1.1 e2_.symm | exact h_.2.2.1.1.1 e2_.symm | exact h_.1.1.2.1.1 e2_.symm | exact h_.2.1.2.1.1 e2_.symm | exact h_.1.2.2.1.1 e2_.symm | exact h_.2.2.2.1.1 e2_.symm | exact h_.1.1.1.2.1 e2_.symm | exact h_.2.1.1.2.1 e2_.symm | exact h_.1.2.1.2.1 e2_.symm | exact h_.2.2.1.2.1 e2_.symm | exact h_.1.1.2.2.1 e2_.symm | exact h_.2.1.2.2.1 e2_.symm | exact h_.1.2.2.2.1 e2_.symm | exact h_.2.2.2.2.1 e2_.symm | exact h_.1.1.1.1.2 e2_.symm | exact h_.2.1.1.1.2 e2_.symm | exact h_.1.2.1.1.2 e2_.symm | exact h_.2.2.1.1.2 e2_.symm | exact h_.1.1.2.1.2 e2_.symm | exact h_.2.1.2.1.2 e2_.symm | exact h_.1.2.2.1.2 e2_.symm | exact h_.2.2.2.1.2 e2_.symm | exact h_.1.1.1.2.2 e2_.symm | exact h_.2.1.1.2.2 e2_.symm | exact h_.1.2.1.2.2 e2_.symm | exact h_.2.2.1.2.2 e2_.symm | exact h_.1.1.2.2.2 e2_.symm | exact h_.2.1.2.2.2 e2_.symm | exact h_.1.2.2.2.2 e2_.symm | exact h_.2.2.2.2.2 e2_.symm | exact h_.1.1.1.1.1.1 e2_.symm | exact h_.2.1.1.1.1.1 e2_.symm | exact h_.1.2.1.1.1.1 e2_.symm | exact h_.2.2.1.1.1.1 e2_.symm | exact h_.1.1.2.1.1.1 e2_.symm | exact h_.2.1.2.1.1.1 e2_.symm | exact h_.1.2.2.1.1.1 e2_.symm | exact h_.2.2.2.1.1.1 e2_.symm | exact h_.1.1.1.2.1.1 e2_.symm | exact h_.2.1.1.2.1.1 e2_.symm | exact h_.1.2.1.2.1.1 e2_.symm | exact h_.2.2.1.2.1.1 e2_.symm | exact h_.1.1.2.2.1.1 e2_.symm | exact h_.2.1.2.2.1.1 e2_.symm | exact h_.1.2.2.2.1.1 e2_.symm | exact h_.2.2.2.2.1.1 e2_.symm | exact h_.1.1.1.1.2.1 e2_.symm | exact h_.2.1.1.1.2.1 e2_.symm | exact h_.1.2.1.1.2.1 e2_.symm | exact h_.2.2.1.1.2.1 e2_.symm | exact h_.1.1.2.1.2.1 e2_.symm | exact h_.2.1.2.1.2.1 e2_.symm | exact h_.1.2.2.1.2.1 e2_.symm | exact h_.2.2.2.1.2.1 e2_.symm | exact h_.1.1.1.2.2.1 e2_.symm | exact h_.2.1.1.2.2.1 e2_.symm | exact h_.1.2.1.2.2.1 e2_.symm | exact h_.2.2.1.2.2.1 e2_.symm | exact h_.1.1.2.2.2.1 e2_.symm | exact h_.2.1.2.2.2.1 e2_.symm | exact h_.1.2.2.2.2.1 e2_.symm | exact h_.2.2.2.2.2.1 e2_.symm | exact h_.1.1.1.1.1.2 e2_.symm | exact h_.2.1.1.1.1.2 e2_.symm | exact h_.1.2.1.1.1.2 e2_.symm | exact h_.2.2.1.1.1.2 e2_.symm | exact h_.1.1.2.1.1.2 e2_.symm | exact h_.2.1.2.1.1.2 e2_.symm | exact h_.1.2.2.1.1.2 e2_.symm | exact h_.2.2.2.1.1.2 e2_.symm | exact h_.1.1.1.2.1.2 e2_.symm | exact h_.2.1.1.2.1.2 e2_.symm | exact h_.1.2.1.2.1.2 e2_.symm | exact h_.2.2.1.2.1.2 e2_.symm | exact h_.1.1.2.2.1.2 e2_.symm | exact h_.2.1.2.2.1.2 e2_.symm | exact h_.1.2.2.2.1.2 e2_.symm | exact h_.2.2.2.2.1.2 e2_.symm | exact h_.1.1.1.1.2.2 e2_.symm | exact h_.2.1.1.1.2.2 e2_.symm | exact h_.1.2.1.1.2.2 e2_.symm | exact h_.2.2.1.1.2.2 e2_.symm | exact h_.1.1.2.1.2.2 e2_.symm | exact h_.2.1.2.1.2.2 e2_.symm | exact h_.1.2.2.1.2.2 e2_.symm | exact h_.2.2.2.1.2.2 e2_.symm | exact h_.1.1.1.2.2.2 e2_.symm | exact h_.2.1.1.2.2.2 e2_.symm | exact h_.1.2.1.2.2.2 e2_.symm | exact h_.2.2.1.2.2.2 e2_.symm | exact h_.1.1.2.2.2.2 e2_.symm | exact h_.2.1.2.2.2.2 e2_.symm | exact h_.1.2.2.2.2.2 e2_.symm | exact h_.2.2.2.2.2.2 e2_.symm) | (have h_ := HO146.out.1 k_ e2_; first | exact h_ e_.symm | exact h_.1 e_.symm | exact h_.2 e_.symm | exact h_.1.1 e_.symm | exact h_.2.1 e_.symm | exact h_.1.2 e_.symm | exact h_.2.2 e_.symm | exact h_.1.1.1 e_.symm | exact h_.2.1.1 e_.symm | exact h_.1.2.1 e_.symm | exact h_.2.2.1 e_.symm | exact h_.1.1.2 e_.symm | exact h_.2.1.2 e_.symm | exact h_.1.2.2 e_.symm | exact h_.2.2.2 e_.symm | exact h_.1.1.1.1 e_.symm | exact h_.2.1.1.1 e_.symm | exact h_.1.2.1.1 e_.symm | exact h_.2.2.1.1 e_.symm | exact h_.1.1.2.1 e_.symm | exact h_.2.1.2.1 e_.symm | exact h_.1.2.2.1 e_.symm | exact h_.2.2.2.1 e_.symm | exact h_.1.1.1.2 e_.symm | exact h_.2.1.1.2 e_.symm | exact h_.1.2.1.2 e_.symm | exact h_.2.2.1.2 e_.symm | exact h_.1.1.2.2 e_.symm | exact h_.2.1.2.2 e_.symm | exact h_.1.2.2.2 e_.symm | exact h_.2.2.2.2 e_.symm | exact h_.1.1.1.1.1 e_.symm | exact h_.2.1.1.1.1 e_.symm | exact h_.1.2.1.1.1 e_.symm | exact h_.2.2.1.1.1 e_.symm | exact h_.1.1.2.1.1 e_.symm | exact h_.2.1.2.1.1 e_.symm | exact h_.1.2.2.1.1 e_.symm | exact h_.2.2.2.1.1 e_.symm | exact h_.1.1.1.2.1 e_.symm | exact h_.2.1.1.2.1 e_.symm | exact h_.1.2.1.2.1 e_.symm | exact h_.2.2.1.2.1 e_.symm | exact h_.1.1.2.2.1 e_.symm | exact h_.2.1.2.2.1 e_.symm | exact h_.1.2.2.2.1 e_.symm | exact h_.2.2.2.2.1 e_.symm | exact h_.1.1.1.1.2 e_.symm | exact h_.2.1.1.1.2 e_.symm | exact h_.1.2.1.1.2 e_.symm | exact h_.2.2.1.1.2 e_.symm | exact h_.1.1.2.1.2 e_.symm | exact h_.2.1.2.1.2 e_.symm | exact h_.1.2.2.1.2 e_.symm | exact h_.2.2.2.1.2 e_.symm | exact h_.1.1.1.2.2 e_.symm | exact h_.2.1.1.2.2 e_.symm | exact h_.1.2.1.2.2 e_.symm | exact h_.2.2.1.2.2 e_.symm | exact h_.1.1.2.2.2 e_.symm | exact h_.2.1.2.2.2 e_.symm | exact h_.1.2.2.2.2 e_.symm | exact h_.2.2.2.2.2 e_.symm | exact h_.1.1.1.1.1.1 e_.symm | exact h_.2.1.1.1.1.1 e_.symm | exact h_.1.2.1.1.1.1 e_.symm | exact h_.2.2.1.1.1.1 e_.symm | exact h_.1.1.2.1.1.1 e_.symm | exact h_.2.1.2.1.1.1 e_.symm | exact h_.1.2.2.1.1.1 e_.symm | exact h_.2.2.2.1.1.1 e_.symm | exact h_.1.1.1.2.1.1 e_.symm | exact h_.2.1.1.2.1.1 e_.symm | exact h_.1.2.1.2.1.1 e_.symm | exact h_.2.2.1.2.1.1 e_.symm | exact h_.1.1.2.2.1.1 e_.symm | exact h_.2.1.2.2.1.1 e_.symm | exact h_.1.2.2.2.1.1 e_.symm | exact h_.2.2.2.2.1.1 e_.symm | exact h_.1.1.1.1.2.1 e_.symm | exact h_.2.1.1.1.2.1 e_.symm | exact h_.1.2.1.1.2.1 e_.symm | exact h_.2.2.1.1.2.1 e_.symm | exact h_.1.1.2.1.2.1 e_.symm | exact h_.2.1.2.1.2.1 e_.symm | exact h_.1.2.2.1.2.1 e_.symm | exact h_.2.2.2.1.2.1 e_.symm | exact h_.1.1.1.2.2.1 e_.symm | exact h_.2.1.1.2.2.1 e_.symm | exact h_.1.2.1.2.2.1 e_.symm | exact h_.2.2.1.2.2.1 e_.symm | exact h_.1.1.2.2.2.1 e_.symm | exact h_.2.1.2.2.2.1 e_.symm | exact h_.1.2.2.2.2.1 e_.symm | exact h_.2.2.2.2.2.1 e_.symm | exact h_.1.1.1.1.1.2 e_.symm | exact h_.2.1.1.1.1.2 e_.symm | exact h_.1.2.1.1.1.2 e_.symm | exact h_.2.2.1.1.1.2 e_.symm | exact h_.1.1.2.1.1.2 e_.symm | exact h_.2.1.2.1.1.2 e_.symm | exact h_.1.2.2.1.1.2 e_.symm | exact h_.2.2.2.1.1.2 e_.symm | exact h_.1.1.1.2.1.2 e_.symm | exact h_.2.1.1.2.1.2 e_.symm | exact h_.1.2.1.2.1.2 e_.symm | exact h_.2.2.1.2.1.2 e_.symm | exact h_.1.1.2.2.1.2 e_.symm | exact h_.2.1.2.2.1.2 e_.symm | exact h_.1.2.2.2.1.2 e_.symm | exact h_.2.2.2.2.1.2 e_.symm | exact h_.1.1.1.1.2.2 e_.symm | exact h_.2.1.1.1.2.2 e_.symm | exact h_.1.2.1.1.2.2 e_.symm | exact h_.2.2.1.1.2.2 e_.symm | exact h_.1.1.2.1.2.2 e_.symm | exact h_.2.1.2.1.2.2 e_.symm | exact h_.1.2.2.1.2.2 e_.symm | exact h_.2.2.2.1.2.2 e_.symm | exact h_.1.1.1.2.2.2 e_.symm | exact h_.2.1.1.2.2.2 e_.symm | exact h_.1.2.1.2.2.2 e_.symm | exact h_.2.2.1.2.2.2 e_.symm | exact h_.1.1.2.2.2.2 e_.symm | exact h_.2.1.2.2.2.2 e_.symm | exact h_.1.2.2.2.2.2 e_.symm | exact h_.2.2.2.2.2.2 e_.symm)))
          (case aB => exact (bZ HB))
          (case aF => exact (fun k_ hk => ⟨Kd.fresh' (Kd.R_lt (rP HO_2)) k_ hk, Kd.fresh' (Kd.R_lt (rP HO_3)) k_ hk⟩))
          (case aO => exact (by (with_reducible repeat (first | apply Kd.S_alloc | apply Kd.S_drewN | apply Kd.S_drew)); exact Kd.S_mono HO_130002.out (fun k_ hk => ⟨⟨hk.1.1.1.1, hk.1.1.1.2⟩, fun e_ => e_.elim (fun h_ => hk.1.1.2 h_) (fun h_ => h_.elim (fun h_ => hk.1.2 h_) (fun h_ => hk.2 h_))⟩)))
          (case aS => exact (below_size (bZ HB)))
          (case aL => have := LMc26.out; omega)
          intro v148 w38 ho hb hg hat
          rw [← Ny147.out] at ho
          replace HO_2 := Aside0.mk (Kd.R_over' (rP HO_2) (Kd.S_typed (by (with_reducible repeat (first | apply Kd.S_alloc | apply Kd.S_drewN | apply Kd.S_drew)); exact HO_130002.out)) (by decide) hg)
          replace HO_3 := Aside0.mk (Kd.R_over' (rP HO_3) (Kd.S_typed (by (with_reducible repeat (first | apply Kd.S_alloc | apply Kd.S_drewN | apply Kd.S_drew)); exact HO_130002.out)) (by decide) hg)
          replace BK128 := Aside0.mk (blk_grown (bP BK128) hg (Kd.S_ne HO_130002.out BK128.out (by decide)))
          replace BK129 := Aside0.mk (blk_grown (bP BK129) hg (Kd.S_ne HO_130002.out BK129.out (by decide)))
          replace HB := Aside0.mk (hb)
          have HO149 := Aside0.mk (ho)
          clear HO_130002 HO140 HO143 HO146
          clear ho hb hg hat
          obtain ⟨Ao39, co39, eo39⟩ := Kd.S_slice HO149.out
          (first | subst eo39 | (injection eo39 with f1_ f2_ f3_; have f4_ := f1_.symm; have f5_ := f3_.symm; clear f1_ f2_ f3_; subst f4_; subst f5_))
          refine hK.out _ _ (bT3 BK129) (fun hHeld => ?_)
          clear hK K
          refine nO (some 43) ?_
          refine pI 17 (some 44) HT_.out ?_
          refine last_ (i := 18) (N := none) #[true, true, true, true, true, true, true, true, true, true, true, true, true, true, true, true, true, true, true] rfl rfl (one_of HT_.out (by kernel_rfl)) (by decide) (fun K hK => ?_)
          have hs40 : w38.cell? ⟨gb129, 2, none⟩ = some (u130002) := bc BK129 2
          have hfs40 := blk_frozen BK129.out 2
          obtain ⟨hns40_0, hms40_0⟩ := nB NB128_129
          refine skip_ (w1 := ?_) (by rfl) rfl ?_ ?_
          rotate_left
          ·go_simp
           rfl
          refine hK.out _ _ ?_
          clear hK K
          refine done_ (done_of HT_.out (by kernel_rfl)) ?_
          try go_wp2
          go_roundg k1
          case measure => have := HK1.out; omega
          case rel => exact ⟨(y136), (y137), (wrap64 (x13_1 + 1)), (y147), (.slice Ao39 y147.length co39), rS, H', ⟨by have := HK1.out; omega⟩, ⟨by (with_reducible repeat (first | apply Kd.R_alloc | apply Kd.R_drewN | apply Kd.R_drew)); exact Kd.R_mono (Kd.R_far (p := ⟨gb129, 2, none⟩) (Kd.R_types HO_2.out BK129.out (by decide)) (fun _ hk => hk.2) (.slice Ao39 y147.length co39)) (fun _ hk => hk.1.1.1.1.2)⟩, ⟨by (with_reducible repeat (first | apply Kd.R_alloc | apply Kd.R_drewN | apply Kd.R_drew)); exact Kd.R_mono (Kd.R_far (p := ⟨gb129, 2, none⟩) (Kd.R_types HO_3.out BK129.out (by decide)) (fun _ hk => hk.2) (.slice Ao39 y147.length co39)) (fun _ hk => hk.1.1.1.1)⟩, ⟨by (with_reducible repeat (first | apply Kd.S_alloc | apply Kd.S_drewN | apply Kd.S_drew)); exact Kd.S_mono (Kd.S_far (p := ⟨gb129, 2, none⟩) (Kd.S_types HO149.out BK129.out (by decide)) (fun _ hk => hk.2) (.slice Ao39 y147.length co39)) (fun _ hk => ⟨hk.1.1, hk.1.2⟩)⟩, ⟨bP BK128⟩, ⟨bU BK129⟩, ⟨bZ HB⟩⟩
         ·rw [if_neg c26] at H
          exact absurd H (by simp)
        ·rw [if_neg c21] at H
         exact absurd H (by simp)
       ·rw [if_neg c19] at H
        exact absurd H (by simp)
      ·rw [if_neg c18] at H
       exact absurd H (by simp)
     ·rw [if_neg c15] at H
      exact absurd H (by simp)
    ·rw [if_neg c13] at H
     have c13b0 := decide_eq_false c13
     clear c13
     replace H := Option.bind_eq_some_iff.mp H
     obtain ⟨t150, A410, H⟩ := H
     have A41 := Aside0.mk A410
     clear A410
     replace H := Option.bind_eq_some_iff.mp H
     obtain ⟨t153, A420, H⟩ := H
     have A42 := Aside0.mk A420
     clear A420
     by_cases c43 : x130002_1.length < 1954687338268
     ·rw [if_pos c43] at H
      have LMc43 := Aside0.mk c43
      clear c43
      obtain ⟨y156, hy156⟩ : ∃ y_ : List (S75), y_ = (x130002_1 ++ [(⟨t150, x2_1, t153⟩ : S75)]) := ⟨_, rfl⟩
      replace H : ((impl_unit.f 11 0).bind fun t159 => ((impl_unit.f 11 2).bind fun t162 => (if y156.length < 1954687338268 then (some (11, 2, (y156 ++ [(⟨t159, x3_1, t162⟩ : S75)]))) else (none)))) = some (r1, r2, r3) := by first | (rw [hy156]; with_reducible exact H) | (have H2_ := (Option.bind_some _ _).symm.trans H; rw [hy156]; with_reducible exact H2_) | (have H2_ := (Option.bind_some _ _).symm.trans H; with_reducible exact H2_) | with_reducible exact H | (rw [hy156]; exact H) | exact H
      have Ny156 := Aside0.mk hy156
      clear hy156
      replace H := Option.bind_eq_some_iff.mp H
      obtain ⟨t159, A440, H⟩ := H
      have A44 := Aside0.mk A440
      clear A440
      replace H := Option.bind_eq_some_iff.mp H
      obtain ⟨t162, A450, H⟩ := H
      have A45 := Aside0.mk A450
      clear A450
      by_cases c46 : y156.length < 1954687338268
      ·rw [if_pos c46] at H
       have LMc46 := Aside0.mk c46
       clear c46
       obtain ⟨y165, hy165⟩ : ∃ y_ : List (S75), y_ = (y156 ++ [(⟨t159, x3_1, t162⟩ : S75)]) := ⟨_, rfl⟩
       replace H : (some (11, 2, y165)) = some (r1, r2, r3) := by first | (rw [hy165]; with_reducible exact H) | (have H2_ := (Option.bind_some _ _).symm.trans H; rw [hy165]; with_reducible exact H2_) | (have H2_ := (Option.bind_some _ _).symm.trans H; with_reducible exact H2_) | with_reducible exact H | (rw [hy165]; exact H) | exact H
       have Ny165 := Aside0.mk hy165
       clear hy165
       simp only [Option.some.injEq, Prod.mk.injEq] at H
       obtain ⟨rfl, rfl, rfl⟩ := H
       try go_wp2
       replace HO_2 := Aside0.mk (Kd.R_drew HO_2.out)
       replace HO_3 := Aside0.mk (Kd.R_drew HO_3.out)
       replace HO_130002 := Aside0.mk (Kd.S_drew HO_130002.out)
       replace BK128 := Aside0.mk (blk_drew BK128.out)
       replace BK129 := Aside0.mk (blk_drew BK129.out)
       replace HB := Aside0.mk (below_drew1 HB.out)
       refine start_ (n := 14) (S := fun w' => SQ3 w' gb129 (.int .i64 11) (.int .i64 2) (u130002)) (ds := [13]) #[false, false, false, false, false, false, false, false, false, false, false, false, false, false] (by kernel_rfl) rfl rfl (bT3 BK129) (fun hHeld => ?_); refine with_tabW impl_CountSystem.tab11 impl_CountSystem.bits11 (fun HT_ HW_ => ?_)
       generalize wr.drew = w47 at HO_2 HO_3 HO_130002 BK128 BK129 HB hHeld ⊢
       refine pI 0 (some 46) HT_.out ?_
       refine pI 2 (some 48) HT_.out ?_
       refine pI 5 (some 51) HT_.out ?_
       refine pI 6 (some 52) HT_.out ?_
       refine tI3 1 (some 47) HT_.out HW_.out hHeld ?_
       refine tI3 3 (some 49) HT_.out HW_.out hHeld ?_
       refine tI3 7 (some 53) HT_.out HW_.out hHeld ?_
       refine oI 4 (some 50) HT_.out (fun K hK => ?_)
       refine gO Try.func67 #[.int .i64 11, .int .i64 0] ?_
       with_reducible refine (impl_unit.calls 11 0 t150 _ A41.out).mono ?_
       rintro e w48 ⟨v151, rfl, ho0, hb⟩
       refine ⟨_, rfl, ?_⟩
       replace HO_130002 := Aside0.mk (Kd.S_elder' (by (with_reducible repeat (first | apply Kd.S_alloc | apply Kd.S_drewN | apply Kd.S_drew)); exact HO_130002.out) (Kd.R_base ho0) hb)
       have HO152 := Aside0.mk (Kd.R_lower (Kd.R_new' (Kd.R_new' ho0 (Kd.R_lt (rP HO_2))) (Kd.R_lt (rP HO_3))) (below_size (bZ HB)))
       replace HO_2 := Aside0.mk (Kd.R_elder' (rP HO_2) (Kd.R_base ho0) hb)
       replace HO_3 := Aside0.mk (Kd.R_elder' (rP HO_3) (Kd.R_base ho0) hb)
       replace BK128 := bB BK128 hb
       replace BK129 := bB BK129 hb
       replace HB := bS HB hb
       (try clear hb)
       (try clear ho0)
       refine hK.out _ _ (bT3 BK129) (fun hHeld => ?_)
       clear hK K
       refine nO (some 50) ?_
       refine oI 8 (some 54) HT_.out (fun K hK => ?_)
       refine gO Try.func67 #[.int .i64 11, .int .i64 1] ?_
       with_reducible refine (impl_unit.calls 11 1 t153 _ A42.out).mono ?_
       rintro e w49 ⟨v154, rfl, ho0, hb⟩
       refine ⟨_, rfl, ?_⟩
       replace HO_130002 := Aside0.mk (Kd.S_elder' (by (with_reducible repeat (first | apply Kd.S_alloc | apply Kd.S_drewN | apply Kd.S_drew)); exact HO_130002.out) (Kd.R_base ho0) hb)
       have HO155 := Aside0.mk (Kd.R_lower (Kd.R_new' (Kd.R_new' (Kd.R_new' ho0 (Kd.R_lt (rP HO_2))) (Kd.R_lt (rP HO_3))) (Kd.R_lt (rP HO152))) (below_size (bZ HB)))
       replace HO_2 := Aside0.mk (Kd.R_elder' (rP HO_2) (Kd.R_base ho0) hb)
       replace HO_3 := Aside0.mk (Kd.R_elder' (rP HO_3) (Kd.R_base ho0) hb)
       replace HO152 := Aside0.mk (Kd.R_elder' (rP HO152) (Kd.R_base ho0) hb)
       replace BK128 := bB BK128 hb
       replace BK129 := bB BK129 hb
       replace HB := bS HB hb
       (try clear hb)
       (try clear ho0)
       obtain ⟨Ao50, co50, eo50⟩ := Kd.R_slice HO155.out
       (first | subst eo50 | (injection eo50 with f1_ f2_ f3_; have f4_ := f1_.symm; have f5_ := f3_.symm; clear f1_ f2_ f3_; subst f4_; subst f5_))
       obtain ⟨Ao51, co51, eo51⟩ := Kd.R_slice HO_2.out
       (first | subst eo51 | (injection eo51 with f1_ f2_ f3_; have f4_ := f1_.symm; have f5_ := f3_.symm; clear f1_ f2_ f3_; subst f4_; subst f5_))
       obtain ⟨Ao52, co52, eo52⟩ := Kd.R_slice HO152.out
       (first | subst eo52 | (injection eo52 with f1_ f2_ f3_; have f4_ := f1_.symm; have f5_ := f3_.symm; clear f1_ f2_ f3_; subst f4_; subst f5_))
       refine hK.out _ _ (bT3 BK129) (fun hHeld => ?_)
       clear hK K
       refine nO (some 54) ?_
       refine pI 9 (some 55) HT_.out ?_
       refine oI 10 (some 56) HT_.out (fun K hK => ?_)
       refine value_ (w1 := ?_) (v := ?_) (by rfl) rfl ?_ ?_
       rotate_left 2
       ·go_simp
        constructor
        ·rfl
        ·rfl
       refine hK.out _ _ ⟨(blk_cell (blk_alloc BK129.out _) 0).trans rfl, (blk_cell (blk_alloc BK129.out _) 1).trans rfl, (blk_cell (blk_alloc BK129.out _) 2).trans rfl⟩ (fun hHeld => ?_)
       clear hK K
       refine nO (some 56) ?_
       refine oI 11 (some 57) HT_.out (fun K hK => ?_)
       refine Kd.S_append_step k75 (w0 := w) w.heap.size (by rfl) (.tmp 47) (.tmp 56) 41 75 (.agg #[(.slice none 0 0), (.slice none 0 0), (.slice none 0 0)]) 72 rfl Try.underlying41 info75 rfl (by decide) (by omega) u130002 x130002_1 (⟨t150, x2_1, t153⟩ : S75) [.slice Ao52 t150.length co52, .slice Ao51 x2_1.length co51, .slice Ao50 t153.length co50] (fun k_ => some k_ ≠ (v134 : Value).ownBlock) (fun k_ => some k_ = (.slice Ao52 t150.length co52 : Value).ownBlock ∨ some k_ = (.slice Ao51 x2_1.length co51 : Value).ownBlock ∨ some k_ = (.slice Ao50 t153.length co50 : Value).ownBlock) rfl rfl ?aP (fun k_ hk_ => hk_.elim (fun h_ => ((Kd.R_mono (ok' := fun k_ => ((fun k_ => some k_ ≠ (v134 : Value).ownBlock)) k_ ∧ some k_ ≠ (u130002 : Value).ownBlock) (Kd.R_apart' (HO152.out) (Kd.S_typed HO_130002.out) (by decide)) (fun k_ hk => ⟨hk.1.1.2, hk.2⟩))).1 k_ h_.symm) (fun h_ => h_.elim (fun h_ => ((Kd.R_mono (ok' := fun k_ => ((fun k_ => some k_ ≠ (v134 : Value).ownBlock)) k_ ∧ some k_ ≠ (u130002 : Value).ownBlock) (Kd.R_apart' (HO_2.out) (Kd.S_typed HO_130002.out) (by decide)) (fun k_ hk => ⟨hk.1.1.1, hk.2⟩))).1 k_ h_.symm) (fun h_ => ((Kd.R_mono (ok' := fun k_ => ((fun k_ => some k_ ≠ (v134 : Value).ownBlock)) k_ ∧ some k_ ≠ (u130002 : Value).ownBlock) (Kd.R_apart' (HO155.out) (Kd.S_typed HO_130002.out) (by decide)) (fun k_ hk => ⟨hk.1.1.2, hk.2⟩))).1 k_ h_.symm))) ?aF ?aO ?aB ?aS ?aL ?_
       (case aP => exact k75_mkM _ _ _ (⟨t150, x2_1, t153⟩ : S75) (Kd.R_mono (Kd.R_tight rfl (Kd.R_mono (ok' := fun k_ => ((fun k_ => some k_ ≠ (v134 : Value).ownBlock)) k_ ∧ some k_ ≠ (u130002 : Value).ownBlock) (Kd.R_apart' (HO152.out) (Kd.S_typed HO_130002.out) (by decide)) (fun k_ hk => ⟨hk.1.1.2, hk.2⟩))) (fun _ h_ => Or.inl h_)) (Kd.R_mono (Kd.R_tight rfl (Kd.R_mono (ok' := fun k_ => ((fun k_ => some k_ ≠ (v134 : Value).ownBlock)) k_ ∧ some k_ ≠ (u130002 : Value).ownBlock) (Kd.R_apart' (HO_2.out) (Kd.S_typed HO_130002.out) (by decide)) (fun k_ hk => ⟨hk.1.1.1, hk.2⟩))) (fun _ h_ => Or.inr (Or.inl h_))) (Kd.R_mono (Kd.R_tight rfl (Kd.R_mono (ok' := fun k_ => ((fun k_ => some k_ ≠ (v134 : Value).ownBlock)) k_ ∧ some k_ ≠ (u130002 : Value).ownBlock) (Kd.R_apart' (HO155.out) (Kd.S_typed HO_130002.out) (by decide)) (fun k_ hk => ⟨hk.1.1.2, hk.2⟩))) (fun _ h_ => Or.inr (Or.inr (h_)))) (fun k_ e_ e2_ => by first | (have h_ := HO152.out.1 k_ e_; first | exact h_ e2_.symm | exact h_.1 e2_.symm | exact h_.2 e2_.symm | exact h_.1.1 e2_.symm | exact h_.2.1 e2_.symm | exact h_.1.2 e2_.symm | exact h_.2.2 e2_.symm | exact h_.1.1.1 e2_.symm | exact h_.2.1.1 e2_.symm | exact h_.1.2.1 e2_.symm | exact h_.2.2.1 e2_.symm | exact h_.1.1.2 e2_.symm | exact h_.2.1.2 e2_.symm | exact h_.1.2.2 e2_.symm | exact h_.2.2.2 e2_.symm | exact h_.1.1.1.1 e2_.symm | exact h_.2.1.1.1 e2_.symm | exact h_.1.2.1.1 e2_.symm | exact h_.2.2.1.1 e2_.symm | exact h_.1.1.2.1 e2_.symm | exact h_.2.1.2.1 e2_.symm | exact h_.1.2.2.1 e2_.symm | exact h_.2.2.2.1 e2_.symm | exact h_.1.1.1.2 e2_.symm | exact h_.2.1.1.2 e2_.symm | exact h_.1.2.1.2 e2_.symm | exact h_.2.2.1.2 e2_.symm | exact h_.1.1.2.2 e2_.symm | exact h_.2.1.2.2 e2_.symm | exact h_.1.2.2.2 e2_.symm | exact h_.2.2.2.2 e2_.symm | exact h_.1.1.1.1.1 e2_.symm | exact h_.2.1.1.1.1 e2_.symm | exact h_.1.2.1.1.1 e2_.symm | exact h_.2.2.1.1.1 e2_.symm | exact h_.1.1.2.1.1 e2_.symm | exact h_.2.1.2.1.1 e2_.symm | exact h_.1.2.2.1.1 e2_.symm | exact h_.2.2.2.1.1 e2_.symm | exact h_.1.1.1.2.1 e2_.symm | exact h_.2.1.1.2.1 e2_.symm | exact h_.1.2.1.2.1 e2_.symm | exact h_.2.2.1.2.1 e2_.symm | exact h_.1.1.2.2.1 e2_.symm | exact h_.2.1.2.2.1 e2_.symm | exact h_.1.2.2.2.1 e2_.symm | exact h_.2.2.2.2.1 e2_.symm | exact h_.1.1.1.1.2 e2_.symm | exact h_.2.1.1.1.2 e2_.symm | exact h_.1.2.1.1.2 e2_.symm | exact h_.2.2.1.1.2 e2_.symm | exact h_.1.1.2.1.2 e2_.symm | exact h_.2.1.2.1.2 e2_.symm | exact h_.1.2.2.1.2 e2_.symm | exact h_.2.2.2.1.2 e2_.symm | exact h_.1.1.1.2.2 e2_.symm | exact h_.2.1.1.2.2 e2_.symm | exact h_.1.2.1.2.2 e2_.symm | exact h_.2.2.1.2.2 e2_.symm | exact h_.1.1.2.2.2 e2_.symm | exact h_.2.1.2.2.2 e2_.symm | exact h_.1.2.2.2.2 e2_.symm | exact h_.2.2.2.2.2 e2_.symm | exact h_.1.1.1.1.1.1 e2_.symm | exact h_.2.1.1.1.1.1 e2_.symm | exact h_.1.2.1.1.1.1 e2_.symm | exact h_.2.2.1.1.1.1 e2_.symm | exact h_.1.1.2.1.1.1 e2_.symm | exact h_.2.1.2.1.1.1 e2_.symm | exact h_.1.2.2.1.1.1 e2_.symm | exact h_.2.2.2.1.1.1 e2_.symm | exact h_.1.1.1.2.1.1 e2_.symm | exact h_.2.1.1.2.1.1 e2_.symm | exact h_.1.2.1.2.1.1 e2_.symm | exact h_.2.2.1.2.1.1 e2_.symm | exact h_.1.1.2.2.1.1 e2_.symm | exact h_.2.1.2.2.1.1 e2_.symm | exact h_.1.2.2.2.1.1 e2_.symm | exact h_.2.2.2.2.1.1 e2_.symm | exact h_.1.1.1.1.2.1 e2_.symm | exact h_.2.1.1.1.2.1 e2_.symm | exact h_.1.2.1.1.2.1 e2_.symm | exact h_.2.2.1.1.2.1 e2_.symm | exact h_.1.1.2.1.2.1 e2_.symm | exact h_.2.1.2.1.2.1 e2_.symm | exact h_.1.2.2.1.2.1 e2_.symm | exact h_.2.2.2.1.2.1 e2_.symm | exact h_.1.1.1.2.2.1 e2_.symm | exact h_.2.1.1.2.2.1 e2_.symm | exact h_.1.2.1.2.2.1 e2_.symm | exact h_.2.2.1.2.2.1 e2_.symm | exact h_.1.1.2.2.2.1 e2_.symm | exact h_.2.1.2.2.2.1 e2_.symm | exact h_.1.2.2.2.2.1 e2_.symm | exact h_.2.2.2.2.2.1 e2_.symm | exact h_.1.1.1.1.1.2 e2_.symm | exact h_.2.1.1.1.1.2 e2_.symm | exact h_.1.2.1.1.1.2 e2_.symm | exact h_.2.2.1.1.1.2 e2_.symm | exact h_.1.1.2.1.1.2 e2_.symm | exact h_.2.1.2.1.1.2 e2_.symm | exact h_.1.2.2.1.1.2 e2_.symm | exact h_.2.2.2.1.1.2 e2_.symm | exact h_.1.1.1.2.1.2 e2_.symm | exact h_.2.1.1.2.1.2 e2_.symm | exact h_.1.2.1.2.1.2 e2_.symm | exact h_.2.2.1.2.1.2 e2_.symm | exact h_.1.1.2.2.1.2 e2_.symm | exact h_.2.1.2.2.1.2 e2_.symm | exact h_.1.2.2.2.1.2 e2_.symm | exact h_.2.2.2.2.1.2 e2_.symm | exact h_.1.1.1.1.2.2 e2_.symm | exact h_.2.1.1.1.2.2 e2_.symm | exact h_.1.2.1.1.2.2 e2_.symm | exact h_.2.2.1.1.2.2 e2_.symm | exact h_.1.1.2.1.2.2 e2_.symm | exact h_.2.1.2.1.2.2 e2_.symm | exact h_.1.2.2.1.2.2 e2_.symm | exact h_.2.2.2.1.2.2 e2_.symm | exact h_.1.1.1.2.2.2 e2_.symm | exact h_.2.1.1.2.2.2 e2_.symm | exact h_.1.2.1.2.2.2 e2_.symm | exact h_.2.2.1.2.2.2 e2_.symm | exact h_.1.1.2.2.2.2 e2_.symm | exact h_.2.1.2.2.2.2 e2_.symm | exact h_.1.2.2.2.2.2 e2_.symm | exact h_.2.2.2.2.2.2 e2_.symm) | (have h_ := HO_2.out.1 k_ e2_; first | exact h_ e_.symm | exact h_.1 e_.symm | exact h_.2 e_.symm | exact h_.1.1 e_.symm | exact h_.2.1 e_.symm | exact h_.1.2 e_.symm | exact h_.2.2 e_.symm | exact h_.1.1.1 e_.symm | exact h_.2.1.1 e_.symm | exact h_.1.2.1 e_.symm | exact h_.2.2.1 e_.symm | exact h_.1.1.2 e_.symm | exact h_.2.1.2 e_.symm | exact h_.1.2.2 e_.symm | exact h_.2.2.2 e_.symm | exact h_.1.1.1.1 e_.symm | exact h_.2.1.1.1 e_.symm | exact h_.1.2.1.1 e_.symm | exact h_.2.2.1.1 e_.symm | exact h_.1.1.2.1 e_.symm | exact h_.2.1.2.1 e_.symm | exact h_.1.2.2.1 e_.symm | exact h_.2.2.2.1 e_.symm | exact h_.1.1.1.2 e_.symm | exact h_.2.1.1.2 e_.symm | exact h_.1.2.1.2 e_.symm | exact h_.2.2.1.2 e_.symm | exact h_.1.1.2.2 e_.symm | exact h_.2.1.2.2 e_.symm | exact h_.1.2.2.2 e_.symm | exact h_.2.2.2.2 e_.symm | exact h_.1.1.1.1.1 e_.symm | exact h_.2.1.1.1.1 e_.symm | exact h_.1.2.1.1.1 e_.symm | exact h_.2.2.1.1.1 e_.symm | exact h_.1.1.2.1.1 e_.symm | exact h_.2.1.2.1.1 e_.symm | exact h_.1.2.2.1.1 e_.symm | exact h_.2.2.2.1.1 e_.symm | exact h_.1.1.1.2.1 e_.symm | exact h_.2.1.1.2.1 e_.symm | exact h_.1.2.1.2.1 e_.symm | exact h_.2.2.1.2.1 e_.symm | exact h_.1.1.2.2.1 e_.symm | exact h_.2.1.2.2.1 e_.symm | exact h_.1.2.2.2.1 e_.symm | exact h_.2.2.2.2.1 e_.symm | exact h_.1.1.1.1.2 e_.symm | exact h_.2.1.1.1.2 e_.symm | exact h_.1.2.1.1.2 e_.symm | exact h_.2.2.1.1.2 e_.symm | exact h_.1.1.2.1.2 e_.symm | exact h_.2.1.2.1.2 e_.symm | exact h_.1.2.2.1.2 e_.symm | exact h_.2.2.2.1.2 e_.symm | exact h_.1.1.1.2.2 e_.symm | exact h_.2.1.1.2.2 e_.symm | exact h_.1.2.1.2.2 e_.symm | exact h_.2.2.1.2.2 e_.symm | exact h_.1.1.2.2.2 e_.symm | exact h_.2.1.2.2.2 e_.symm | exact h_.1.2.2.2.2 e_.symm | exact h_.2.2.2.2.2 e_.symm | exact h_.1.1.1.1.1.1 e_.symm | exact h_.2.1.1.1.1.1 e_.symm | exact h_.1.2.1.1.1.1 e_.symm | exact h_.2.2.1.1.1.1 e_.symm | exact h_.1.1.2.1.1.1 e_.symm | exact h_.2.1.2.1.1.1 e_.symm | exact h_.1.2.2.1.1.1 e_.symm | exact h_.2.2.2.1.1.1 e_.symm | exact h_.1.1.1.2.1.1 e_.symm | exact h_.2.1.1.2.1.1 e_.symm | exact h_.1.2.1.2.1.1 e_.symm | exact h_.2.2.1.2.1.1 e_.symm | exact h_.1.1.2.2.1.1 e_.symm | exact h_.2.1.2.2.1.1 e_.symm | exact h_.1.2.2.2.1.1 e_.symm | exact h_.2.2.2.2.1.1 e_.symm | exact h_.1.1.1.1.2.1 e_.symm | exact h_.2.1.1.1.2.1 e_.symm | exact h_.1.2.1.1.2.1 e_.symm | exact h_.2.2.1.1.2.1 e_.symm | exact h_.1.1.2.1.2.1 e_.symm | exact h_.2.1.2.1.2.1 e_.symm | exact h_.1.2.2.1.2.1 e_.symm | exact h_.2.2.2.1.2.1 e_.symm | exact h_.1.1.1.2.2.1 e_.symm | exact h_.2.1.1.2.2.1 e_.symm | exact h_.1.2.1.2.2.1 e_.symm | exact h_.2.2.1.2.2.1 e_.symm | exact h_.1.1.2.2.2.1 e_.symm | exact h_.2.1.2.2.2.1 e_.symm | exact h_.1.2.2.2.2.1 e_.symm | exact h_.2.2.2.2.2.1 e_.symm | exact h_.1.1.1.1.1.2 e_.symm | exact h_.2.1.1.1.1.2 e_.symm | exact h_.1.2.1.1.1.2 e_.symm | exact h_.2.2.1.1.1.2 e_.symm | exact h_.1.1.2.1.1.2 e_.symm | exact h_.2.1.2.1.1.2 e_.symm | exact h_.1.2.2.1.1.2 e_.symm | exact h_.2.2.2.1.1.2 e_.symm | exact h_.1.1.1.2.1.2 e_.symm | exact h_.2.1.1.2.1.2 e_.symm | exact h_.1.2.1.2.1.2 e_.symm | exact h_.2.2.1.2.1.2 e_.symm | exact h_.1.1.2.2.1.2 e_.symm | exact h_.2.1.2.2.1.2 e_.symm | exact h_.1.2.2.2.1.2 e_.symm | exact h_.2.2.2.2.1.2 e_.symm | exact h_.1.1.1.1.2.2 e_.symm | exact h_.2.1.1.1.2.2 e_.symm | exact h_.1.2.1.1.2.2 e_.symm | exact h_.2.2.1.1.2.2 e_.symm | exact h_.1.1.2.1.2.2 e_.symm | exact h_.2.1.2.1.2.2 e_.symm | exact h_.1.2.2.1.2.2 e_.symm | exact h_.2.2.2.1.2.2 e_.symm | exact h_.1.1.1.2.2.2 e_.symm | exact h_.2.1.1.2.2.2 e_.symm | exact h_.1.2.1.2.2.2 e_.symm | exact h_.2.2.1.2.2.2 e_.symm | exact h_.1.1.2.2.2.2 e_.symm | exact h_.2.1.2.2.2.2 e_.symm | exact h_.1.2.2.2.2.2 e_.symm | exact h_.2.2.2.2.2.2 e_.symm)) (fun k_ e_ e2_ => by first | (have h_ := HO152.out.1 k_ e_; first | exact h_ e2_.symm | exact h_.1 e2_.symm | exact h_.2 e2_.symm | exact h_.1.1 e2_.symm | exact h_.2.1 e2_.symm | exact h_.1.2 e2_.symm | exact h_.2.2 e2_.symm | exact h_.1.1.1 e2_.symm | exact h_.2.1.1 e2_.symm | exact h_.1.2.1 e2_.symm | exact h_.2.2.1 e2_.symm | exact h_.1.1.2 e2_.symm | exact h_.2.1.2 e2_.symm | exact h_.1.2.2 e2_.symm | exact h_.2.2.2 e2_.symm | exact h_.1.1.1.1 e2_.symm | exact h_.2.1.1.1 e2_.symm | exact h_.1.2.1.1 e2_.symm | exact h_.2.2.1.1 e2_.symm | exact h_.1.1.2.1 e2_.symm | exact h_.2.1.2.1 e2_.symm | exact h_.1.2.2.1 e2_.symm | exact h_.2.2.2.1 e2_.symm | exact h_.1.1.1.2 e2_.symm | exact h_.2.1.1.2 e2_.symm | exact h_.1.2.1.2 e2_.symm | exact h_.2.2.1.2 e2_.symm | exact h_.1.1.2.2 e2_.symm | exact h_.2.1.2.2 e2_.symm | exact h_.1.2.2.2 e2_.symm | exact h_.2.2.2.2 e2_.symm | exact h_.1.1.1.1.1 e2_.symm | exact h_.2.1.1.1.1 e2_.symm | exact h_.1.2.1.1.1 e2_.symm | exact h_.2.2.1.1.1 e2_.symm | exact h_.1.1.2.1.1 e2_.symm | exact h_.2.1.2.1.1 e2_.symm | exact h_.1.2.2.1.1 e2_.symm | exact h_.2.2.2.1.1 e2_.symm | exact h_.1.1.1.2.1 e2_.symm | exact h_.2.1.1.2.1 e2_.symm | exact h_.1.2.1.2.1 e2_.symm | exact h_.2.2.1.2.1 e2_.symm | exact h_.1.1.2.2.1 e2_.symm | exact h_.2.1.2.2.1 e2_.symm | exact h_.1.2.2.2.1 e2_.symm | exact h_.2.2.2.2.1 e2_.symm | exact h_.1.1.1.1.2 e2_.symm | exact h_.2.1.1.1.2 e2_.symm | exact h_.1.2.1.1.2 e2_.symm | exact h_.2.2.1.1.2 e2_.symm | exact h_.1.1.2.1.2 e2_.symm | exact h_.2.1.2.1.2 e2_.symm | exact h_.1.2.2.1.2 e2_.symm | exact h_.2.2.2.1.2 e2_.symm | exact h_.1.1.1.2.2 e2_.symm | exact h_.2.1.1.2.2 e2_.symm | exact h_.1.2.1.2.2 e2_.symm | exact h_.2.2.1.2.2 e2_.symm | exact h_.1.1.2.2.2 e2_.symm | exact h_.2.1.2.2.2 e2_.symm | exact h_.1.2.2.2.2 e2_.symm | exact h_.2.2.2.2.2 e2_.symm | exact h_.1.1.1.1.1.1 e2_.symm | exact h_.2.1.1.1.1.1 e2_.symm | exact h_.1.2.1.1.1.1 e2_.symm | exact h_.2.2.1.1.1.1 e2_.symm | exact h_.1.1.2.1.1.1 e2_.symm | exact h_.2.1.2.1.1.1 e2_.symm | exact h_.1.2.2.1.1.1 e2_.symm | exact h_.2.2.2.1.1.1 e2_.symm | exact h_.1.1.1.2.1.1 e2_.symm | exact h_.2.1.1.2.1.1 e2_.symm | exact h_.1.2.1.2.1.1 e2_.symm | exact h_.2.2.1.2.1.1 e2_.symm | exact h_.1.1.2.2.1.1 e2_.symm | exact h_.2.1.2.2.1.1 e2_.symm | exact h_.1.2.2.2.1.1 e2_.symm | exact h_.2.2.2.2.1.1 e2_.symm | exact h_.1.1.1.1.2.1 e2_.symm | exact h_.2.1.1.1.2.1 e2_.symm | exact h_.1.2.1.1.2.1 e2_.symm | exact h_.2.2.1.1.2.1 e2_.symm | exact h_.1.1.2.1.2.1 e2_.symm | exact h_.2.1.2.1.2.1 e2_.symm | exact h_.1.2.2.1.2.1 e2_.symm | exact h_.2.2.2.1.2.1 e2_.symm | exact h_.1.1.1.2.2.1 e2_.symm | exact h_.2.1.1.2.2.1 e2_.symm | exact h_.1.2.1.2.2.1 e2_.symm | exact h_.2.2.1.2.2.1 e2_.symm | exact h_.1.1.2.2.2.1 e2_.symm | exact h_.2.1.2.2.2.1 e2_.symm | exact h_.1.2.2.2.2.1 e2_.symm | exact h_.2.2.2.2.2.1 e2_.symm | exact h_.1.1.1.1.1.2 e2_.symm | exact h_.2.1.1.1.1.2 e2_.symm | exact h_.1.2.1.1.1.2 e2_.symm | exact h_.2.2.1.1.1.2 e2_.symm | exact h_.1.1.2.1.1.2 e2_.symm | exact h_.2.1.2.1.1.2 e2_.symm | exact h_.1.2.2.1.1.2 e2_.symm | exact h_.2.2.2.1.1.2 e2_.symm | exact h_.1.1.1.2.1.2 e2_.symm | exact h_.2.1.1.2.1.2 e2_.symm | exact h_.1.2.1.2.1.2 e2_.symm | exact h_.2.2.1.2.1.2 e2_.symm | exact h_.1.1.2.2.1.2 e2_.symm | exact h_.2.1.2.2.1.2 e2_.symm | exact h_.1.2.2.2.1.2 e2_.symm | exact h_.2.2.2.2.1.2 e2_.symm | exact h_.1.1.1.1.2.2 e2_.symm | exact h_.2.1.1.1.2.2 e2_.symm | exact h_.1.2.1.1.2.2 e2_.symm | exact h_.2.2.1.1.2.2 e2_.symm | exact h_.1.1.2.1.2.2 e2_.symm | exact h_.2.1.2.1.2.2 e2_.symm | exact h_.1.2.2.1.2.2 e2_.symm | exact h_.2.2.2.1.2.2 e2_.symm | exact h_.1.1.1.2.2.2 e2_.symm | exact h_.2.1.1.2.2.2 e2_.symm | exact h_.1.2.1.2.2.2 e2_.symm | exact h_.2.2.1.2.2.2 e2_.symm | exact h_.1.1.2.2.2.2 e2_.symm | exact h_.2.1.2.2.2.2 e2_.symm | exact h_.1.2.2.2.2.2 e2_.symm | exact h_.2.2.2.2.2.2 e2_.symm) | (have h_ := HO155.out.1 k_ e2_; first | exact h_ e_.symm | exact h_.1 e_.symm | exact h_.2 e_.symm | exact h_.1.1 e_.symm | exact h_.2.1 e_.symm | exact h_.1.2 e_.symm | exact h_.2.2 e_.symm | exact h_.1.1.1 e_.symm | exact h_.2.1.1 e_.symm | exact h_.1.2.1 e_.symm | exact h_.2.2.1 e_.symm | exact h_.1.1.2 e_.symm | exact h_.2.1.2 e_.symm | exact h_.1.2.2 e_.symm | exact h_.2.2.2 e_.symm | exact h_.1.1.1.1 e_.symm | exact h_.2.1.1.1 e_.symm | exact h_.1.2.1.1 e_.symm | exact h_.2.2.1.1 e_.symm | exact h_.1.1.2.1 e_.symm | exact h_.2.1.2.1 e_.symm | exact h_.1.2.2.1 e_.symm | exact h_.2.2.2.1 e_.symm | exact h_.1.1.1.2 e_.symm | exact h_.2.1.1.2 e_.symm | exact h_.1.2.1.2 e_.symm | exact h_.2.2.1.2 e_.symm | exact h_.1.1.2.2 e_.symm | exact h_.2.1.2.2 e_.symm | exact h_.1.2.2.2 e_.symm | exact h_.2.2.2.2 e_.symm | exact h_.1.1.1.1.1 e_.symm | exact h_.2.1.1.1.1 e_.symm | exact h_.1.2.1.1.1 e_.symm | exact h_.2.2.1.1.1 e_.symm | exact h_.1.1.2.1.1 e_.symm | exact h_.2.1.2.1.1 e_.symm | exact h_.1.2.2.1.1 e_.symm | exact h_.2.2.2.1.1 e_.symm | exact h_.1.1.1.2.1 e_.symm | exact h_.2.1.1.2.1 e_.symm | exact h_.1.2.1.2.1 e_.symm | exact h_.2.2.1.2.1 e_.symm | exact h_.1.1.2.2.1 e_.symm | exact h_.2.1.2.2.1 e_.symm | exact h_.1.2.2.2.1 e_.symm | exact h_.2.2.2.2.1 e_.symm | exact h_.1.1.1.1.2 e_.symm | exact h_.2.1.1.1.2 e_.symm | exact h_.1.2.1.1.2 e_.symm | exact h_.2.2.1.1.2 e_.symm | exact h_.1.1.2.1.2 e_.symm | exact h_.2.1.2.1.2 e_.symm | exact h_.1.2.2.1.2 e_.symm | exact h_.2.2.2.1.2 e_.symm | exact h_.1.1.1.2.2 e_.symm | exact h_.2.1.1.2.2 e_.symm | exact h_.1.2.1.2.2 e_.symm | exact h_.2.2.1.2.2 e_.symm | exact h_.1.1.2.2.2 e_.symm | exact h_.2.1.2.2.2 e_.symm | exact h_.1.2.2.2.2 e_.symm | exact h_.2.2.2.2.2 e_.symm | exact h_.1.1.1.1.1.1 e_.symm | exact h_.2.1.1.1.1.1 e_.symm | exact h_.1.2.1.1.1.1 e_.symm | exact h_.2.2.1.1.1.1 e_.symm | exact h_.1.1.2.1.1.1 e_.symm | exact h_.2.1.2.1.1.1 e_.symm | exact h_.1.2.2.1.1.1 e_.symm | exact h_.2.2.2.1.1.1 e_.symm | exact h_.1.1.1.2.1.1 e_.symm | exact h_.2.1.1.2.1.1 e_.symm | exact h_.1.2.1.2.1.1 e_.symm | exact h_.2.2.1.2.1.1 e_.symm | exact h_.1.1.2.2.1.1 e_.symm | exact h_.2.1.2.2.1.1 e_.symm | exact h_.1.2.2.2.1.1 e_.symm | exact h_.2.2.2.2.1.1 e_.symm | exact h_.1.1.1.1.2.1 e_.symm | exact h_.2.1.1.1.2.1 e_.symm | exact h_.1.2.1.1.2.1 e_.symm | exact h_.2.2.1.1.2.1 e_.symm | exact h_.1.1.2.1.2.1 e_.symm | exact h_.2.1.2.1.2.1 e_.symm | exact h_.1.2.2.1.2.1 e_.symm | exact h_.2.2.2.1.2.1 e_.symm | exact h_.1.1.1.2.2.1 e_.symm | exact h_.2.1.1.2.2.1 e_.symm | exact h_.1.2.1.2.2.1 e_.symm | exact h_.2.2.1.2.2.1 e_.symm | exact h_.1.1.2.2.2.1 e_.symm | exact h_.2.1.2.2.2.1 e_.symm | exact h_.1.2.2.2.2.1 e_.symm | exact h_.2.2.2.2.2.1 e_.symm | exact h_.1.1.1.1.1.2 e_.symm | exact h_.2.1.1.1.1.2 e_.symm | exact h_.1.2.1.1.1.2 e_.symm | exact h_.2.2.1.1.1.2 e_.symm | exact h_.1.1.2.1.1.2 e_.symm | exact h_.2.1.2.1.1.2 e_.symm | exact h_.1.2.2.1.1.2 e_.symm | exact h_.2.2.2.1.1.2 e_.symm | exact h_.1.1.1.2.1.2 e_.symm | exact h_.2.1.1.2.1.2 e_.symm | exact h_.1.2.1.2.1.2 e_.symm | exact h_.2.2.1.2.1.2 e_.symm | exact h_.1.1.2.2.1.2 e_.symm | exact h_.2.1.2.2.1.2 e_.symm | exact h_.1.2.2.2.1.2 e_.symm | exact h_.2.2.2.2.1.2 e_.symm | exact h_.1.1.1.1.2.2 e_.symm | exact h_.2.1.1.1.2.2 e_.symm | exact h_.1.2.1.1.2.2 e_.symm | exact h_.2.2.1.1.2.2 e_.symm | exact h_.1.1.2.1.2.2 e_.symm | exact h_.2.1.2.1.2.2 e_.symm | exact h_.1.2.2.1.2.2 e_.symm | exact h_.2.2.2.1.2.2 e_.symm | exact h_.1.1.1.2.2.2 e_.symm | exact h_.2.1.1.2.2.2 e_.symm | exact h_.1.2.1.2.2.2 e_.symm | exact h_.2.2.1.2.2.2 e_.symm | exact h_.1.1.2.2.2.2 e_.symm | exact h_.2.1.2.2.2.2 e_.symm | exact h_.1.2.2.2.2.2 e_.symm | exact h_.2.2.2.2.2.2 e_.symm)) (fun k_ e_ e2_ => by first | (have h_ := HO_2.out.1 k_ e_; first | exact h_ e2_.symm | exact h_.1 e2_.symm | exact h_.2 e2_.symm | exact h_.1.1 e2_.symm | exact h_.2.1 e2_.symm | exact h_.1.2 e2_.symm | exact h_.2.2 e2_.symm | exact h_.1.1.1 e2_.symm | exact h_.2.1.1 e2_.symm | exact h_.1.2.1 e2_.symm | exact h_.2.2.1 e2_.symm | exact h_.1.1.2 e2_.symm | exact h_.2.1.2 e2_.symm | exact h_.1.2.2 e2_.symm | exact h_.2.2.2 e2_.symm | exact h_.1.1.1.1 e2_.symm | exact h_.2.1.1.1 e2_.symm | exact h_.1.2.1.1 e2_.symm | exact h_.2.2.1.1 e2_.symm | exact h_.1.1.2.1 e2_.symm | exact h_.2.1.2.1 e2_.symm | exact h_.1.2.2.1 e2_.symm | exact h_.2.2.2.1 e2_.symm | exact h_.1.1.1.2 e2_.symm | exact h_.2.1.1.2 e2_.symm | exact h_.1.2.1.2 e2_.symm | exact h_.2.2.1.2 e2_.symm | exact h_.1.1.2.2 e2_.symm | exact h_.2.1.2.2 e2_.symm | exact h_.1.2.2.2 e2_.symm | exact h_.2.2.2.2 e2_.symm | exact h_.1.1.1.1.1 e2_.symm | exact h_.2.1.1.1.1 e2_.symm | exact h_.1.2.1.1.1 e2_.symm | exact h_.2.2.1.1.1 e2_.symm | exact h_.1.1.2.1.1 e2_.symm | exact h_.2.1.2.1.1 e2_.symm | exact h_.1.2.2.1.1 e2_.symm | exact h_.2.2.2.1.1 e2_.symm | exact h_.1.1.1.2.1 e2_.symm | exact h_.2.1.1.2.1 e2_.symm | exact h_.1.2.1.2.1 e2_.symm | exact h_.2.2.1.2.1 e2_.symm | exact h_.1.1.2.2.1 e2_.symm | exact h_.2.1.2.2.1 e2_.symm | exact h_.1.2.2.2.1 e2_.symm | exact h_.2.2.2.2.1 e2_.symm | exact h_.1.1.1.1.2 e2_.symm | exact h_.2.1.1.1.2 e2_.symm | exact h_.1.2.1.1.2 e2_.symm | exact h_.2.2.1.1.2 e2_.symm | exact h_.1.1.2.1.2 e2_.symm | exact h_.2.1.2.1.2 e2_.symm | exact h_.1.2.2.1.2 e2_.symm | exact h_.2.2.2.1.2 e2_.symm | exact h_.1.1.1.2.2 e2_.symm | exact h_.2.1.1.2.2 e2_.symm | exact h_.1.2.1.2.2 e2_.symm | exact h_.2.2.1.2.2 e2_.symm | exact h_.1.1.2.2.2 e2_.symm | exact h_.2.1.2.2.2 e2_.symm | exact h_.1.2.2.2.2 e2_.symm | exact h_.2.2.2.2.2 e2_.symm | exact h_.1.1.1.1.1.1 e2_.symm | exact h_.2.1.1.1.1.1 e2_.symm | exact h_.1.2.1.1.1.1 e2_.symm | exact h_.2.2.1.1.1.1 e2_.symm | exact h_.1.1.2.1.1.1 e2_.symm | exact h_.2.1.2.1.1.1 e2_.symm | exact h_.1.2.2.1.1.1 e2_.symm | exact h_.2.2.2.1.1.1 e2_.symm | exact h_.1.1.1.2.1.1 e2_.symm | exact h_.2.1.1.2.1.1 e2_.symm | exact h_.1.2.1.2.1.1 e2_.symm | exact h_.2.2.1.2.1.1 e2_.symm | exact h_.1.1.2.2.1.1 e2_.symm | exact h_.2.1.2.2.1.1 e2_.symm | exact h_.1.2.2.2.1.1 e2_.symm | exact h_.2.2.2.2.1.1 e2_.symm | exact h_.1.1.1.1.2.1 e2_.symm | exact h_.2.1.1.1.2.1 e2_.symm | exact h_.1.2.1.1.2.1 e2_.symm | exact h_.2.2.1.1.2.1 e2_.symm | exact h_.1.1.2.1.2.1 e2_.symm | exact h_.2.1.2.1.2.1 e2_.symm | exact h_.1.2.2.1.2.1 e2_.symm | exact h_.2.2.2.1.2.1 e2_.symm | exact h_.1.1.1.2.2.1 e2_.symm | exact h_.2.1.1.2.2.1 e2_.symm | exact h_.1.2.1.2.2.1 e2_.symm | exact h_.2.2.1.2.2.1 e2_.symm | exact h_.1.1.2.2.2.1 e2_.symm | exact h_.2.1.2.2.2.1 e2_.symm | exact h_.1.2.2.2.2.1 e2_.symm | exact h_.2.2.2.2.2.1 e2_.symm | exact h_.1.1.1.1.1.2 e2_.symm | exact h_.2.1.1.1.1.2 e2_.symm | exact h_.1.2.1.1.1.2 e2_.symm | exact h_.2.2.1.1.1.2 e2_.symm | exact h_.1.1.2.1.1.2 e2_.symm | exact h_.2.1.2.1.1.2 e2_.symm | exact h_.1.2.2.1.1.2 e2_.symm | exact h_.2.2.2.1.1.2 e2_.symm | exact h_.1.1.1.2.1.2 e2_.symm | exact h_.2.1.1.2.1.2 e2_.symm | exact h_.1.2.1.2.1.2 e2_.symm | exact h_.2.2.1.2.1.2 e2_.symm | exact h_.1.1.2.2.1.2 e2_.symm | exact h_.2.1.2.2.1.2 e2_.symm | exact h_.1.2.2.2.1.2 e2_.symm | exact h_.2.2.2.2.1.2 e2_.symm | exact h_.1.1.1.1.2.2 e2_.symm | exact h_.2.1.1.1.2.2 e2_.symm | exact h_.1.2.1.1.2.2 e2_.symm | exact h_.2.2.1.1.2.2 e2_.symm | exact h_.1.1.2.1.2.2 e2_.symm | exact h_.2.1.2.1.2.2 e2_.symm | exact h_.1.2.2.1.2.2 e2_.symm | exact h_.2.2.2.1.2.2 e2_.symm | exact h_.1.1.1.2.2.2 e2_.symm | exact h_.2.1.1.2.2.2 e2_.symm | exact h_.1.2.1.2.2.2 e2_.symm | exact h_.2.2.1.2.2.2 e2_.symm | exact h_.1.1.2.2.2.2 e2_.symm | exact h_.2.1.2.2.2.2 e2_.symm | exact h_.1.2.2.2.2.2 e2_.symm | exact h_.2.2.2.2.2.2 e2_.symm) | (have h_ := HO155.out.1 k_ e2_; first | exact h_ e_.symm | exact h_.1 e_.symm | exact h_.2 e_.symm | exact h_.1.1 e_.symm | exact h_.2.1 e_.symm | exact h_.1.2 e_.symm | exact h_.2.2 e_.symm | exact h_.1.1.1 e_.symm | exact h_.2.1.1 e_.symm | exact h_.1.2.1 e_.symm | exact h_.2.2.1 e_.symm | exact h_.1.1.2 e_.symm | exact h_.2.1.2 e_.symm | exact h_.1.2.2 e_.symm | exact h_.2.2.2 e_.symm | exact h_.1.1.1.1 e_.symm | exact h_.2.1.1.1 e_.symm | exact h_.1.2.1.1 e_.symm | exact h_.2.2.1.1 e_.symm | exact h_.1.1.2.1 e_.symm | exact h_.2.1.2.1 e_.symm | exact h_.1.2.2.1 e_.symm | exact h_.2.2.2.1 e_.symm | exact h_.1.1.1.2 e_.symm | exact h_.2.1.1.2 e_.symm | exact h_.1.2.1.2 e_.symm | exact h_.2.2.1.2 e_.symm | exact h_.1.1.2.2 e_.symm | exact h_.2.1.2.2 e_.symm | exact h_.1.2.2.2 e_.symm | exact h_.2.2.2.2 e_.symm | exact h_.1.1.1.1.1 e_.symm | exact h_.2.1.1.1.1 e_.symm | exact h_.1.2.1.1.1 e_.symm | exact h_.2.2.1.1.1 e_.symm | exact h_.1.1.2.1.1 e_.symm | exact h_.2.1.2.1.1 e_.symm | exact h_.1.2.2.1.1 e_.symm | exact h_.2.2.2.1.1 e_.symm | exact h_.1.1.1.2.1 e_.symm | exact h_.2.1.1.2.1 e_.symm | exact h_.1.2.1.2.1 e_.symm | exact h_.2.2.1.2.1 e_.symm | exact h_.1.1.2.2.1 e_.symm | exact h_.2.1.2.2.1 e_.symm | exact h_.1.2.2.2.1 e_.symm | exact h_.2.2.2.2.1 e_.symm | exact h_.1.1.1.1.2 e_.symm | exact h_.2.1.1.1.2 e_.symm | exact h_.1.2.1.1.2 e_.symm | exact h_.2.2.1.1.2 e_.symm | exact h_.1.1.2.1.2 e_.symm | exact h_.2.1.2.1.2 e_.symm | exact h_.1.2.2.1.2 e_.symm | exact h_.2.2.2.1.2 e_.symm | exact h_.1.1.1.2.2 e_.symm | exact h_.2.1.1.2.2 e_.symm | exact h_.1.2.1.2.2 e_.symm | exact h_.2.2.1.2.2 e_.symm | exact h_.1.1.2.2.2 e_.symm | exact h_.2.1.2.2.2 e_.symm | exact h_.1.2.2.2.2 e_.symm | exact h_.2.2.2.2.2 e_.symm | exact h_.1.1.1.1.1.1 e_.symm | exact h_.2.1.1.1.1.1 e_.symm | exact h_.1.2.1.1.1.1 e_.symm | exact h_.2.2.1.1.1.1 e_.symm | exact h_.1.1.2.1.1.1 e_.symm | exact h_.2.1.2.1.1.1 e_.symm | exact h_.1.2.2.1.1.1 e_.symm | exact h_.2.2.2.1.1.1 e_.symm | exact h_.1.1.1.2.1.1 e_.symm | exact h_.2.1.1.2.1.1 e_.symm | exact h_.1.2.1.2.1.1 e_.symm | exact h_.2.2.1.2.1.1 e_.symm | exact h_.1.1.2.2.1.1 e_.symm | exact h_.2.1.2.2.1.1 e_.symm | exact h_.1.2.2.2.1.1 e_.symm | exact h_.2.2.2.2.1.1 e_.symm | exact h_.1.1.1.1.2.1 e_.symm | exact h_.2.1.1.1.2.1 e_.symm | exact h_.1.2.1.1.2.1 e_.symm | exact h_.2.2.1.1.2.1 e_.symm | exact h_.1.1.2.1.2.1 e_.symm | exact h_.2.1.2.1.2.1 e_.symm | exact h_.1.2.2.1.2.1 e_.symm | exact h_.2.2.2.1.2.1 e_.symm | exact h_.1.1.1.2.2.1 e_.symm | exact h_.2.1.1.2.2.1 e_.symm | exact h_.1.2.1.2.2.1 e_.symm | exact h_.2.2.1.2.2.1 e_.symm | exact h_.1.1.2.2.2.1 e_.symm | exact h_.2.1.2.2.2.1 e_.symm | exact h_.1.2.2.2.2.1 e_.symm | exact h_.2.2.2.2.2.1 e_.symm | exact h_.1.1.1.1.1.2 e_.symm | exact h_.2.1.1.1.1.2 e_.symm | exact h_.1.2.1.1.1.2 e_.symm | exact h_.2.2.1.1.1.2 e_.symm | exact h_.1.1.2.1.1.2 e_.symm | exact h_.2.1.2.1.1.2 e_.symm | exact h_.1.2.2.1.1.2 e_.symm | exact h_.2.2.2.1.1.2 e_.symm | exact h_.1.1.1.2.1.2 e_.symm | exact h_.2.1.1.2.1.2 e_.symm | exact h_.1.2.1.2.1.2 e_.symm | exact h_.2.2.1.2.1.2 e_.symm | exact h_.1.1.2.2.1.2 e_.symm | exact h_.2.1.2.2.1.2 e_.symm | exact h_.1.2.2.2.1.2 e_.symm | exact h_.2.2.2.2.1.2 e_.symm | exact h_.1.1.1.1.2.2 e_.symm | exact h_.2.1.1.1.2.2 e_.symm | exact h_.1.2.1.1.2.2 e_.symm | exact h_.2.2.1.1.2.2 e_.symm | exact h_.1.1.2.1.2.2 e_.symm | exact h_.2.1.2.1.2.2 e_.symm | exact h_.1.2.2.1.2.2 e_.symm | exact h_.2.2.2.1.2.2 e_.symm | exact h_.1.1.1.2.2.2 e_.symm | exact h_.2.1.1.2.2.2 e_.symm | exact h_.1.2.1.2.2.2 e_.symm | exact h_.2.2.1.2.2.2 e_.symm | exact h_.1.1.2.2.2.2 e_.symm | exact h_.2.1.2.2.2.2 e_.symm | exact h_.1.2.2.2.2.2 e_.symm | exact h_.2.2.2.2.2.2 e_.symm)))
       (case aB => exact (bZ HB))
       (case aF => exact (fun k_ hk => Kd.fresh' (Kd.R_lt (rP HO_3)) k_ hk))
       (case aO => exact (by (with_reducible repeat (first | apply Kd.S_alloc | apply Kd.S_drewN | apply Kd.S_drew)); exact Kd.S_mono HO_130002.out (fun k_ hk => ⟨hk.1.1.2, fun e_ => e_.elim (fun h_ => hk.1.2 h_) (fun h_ => h_.elim (fun h_ => hk.1.1.1 h_) (fun h_ => hk.2 h_))⟩)))
       (case aS => exact (below_size (bZ HB)))
       (case aL => have := LMc43.out; omega)
       intro v157 w53 ho hb hg hat
       rw [← Ny156.out] at ho
       replace HO_3 := Aside0.mk (Kd.R_over' (rP HO_3) (Kd.S_typed (by (with_reducible repeat (first | apply Kd.S_alloc | apply Kd.S_drewN | apply Kd.S_drew)); exact HO_130002.out)) (by decide) hg)
       replace BK128 := Aside0.mk (blk_grown (bP BK128) hg (Kd.S_ne HO_130002.out BK128.out (by decide)))
       replace BK129 := Aside0.mk (blk_grown (bP BK129) hg (Kd.S_ne HO_130002.out BK129.out (by decide)))
       replace HB := Aside0.mk (hb)
       have HO158 := Aside0.mk (ho)
       clear HO_130002 HO152 HO155 HO_2
       clear ho hb hg hat
       obtain ⟨Ao54, co54, eo54⟩ := Kd.S_slice HO158.out
       (first | subst eo54 | (injection eo54 with f1_ f2_ f3_; have f4_ := f1_.symm; have f5_ := f3_.symm; clear f1_ f2_ f3_; subst f4_; subst f5_))
       refine hK.out _ _ (bT3 BK129) (fun hHeld => ?_)
       clear hK K
       refine nO (some 57) ?_
       refine pI 12 (some 58) HT_.out ?_
       refine last_ (i := 13) (N := none) #[true, true, true, true, true, true, true, true, true, true, true, true, true, true] rfl rfl (one_of HT_.out (by kernel_rfl)) (by decide) (fun K hK => ?_)
       have hs55 : w53.cell? ⟨gb129, 2, none⟩ = some (u130002) := bc BK129 2
       have hfs55 := blk_frozen BK129.out 2
       obtain ⟨hns55_0, hms55_0⟩ := nB NB128_129
       refine skip_ (w1 := ?_) (by rfl) rfl ?_ ?_
       rotate_left
       ·go_simp
        rfl
       refine hK.out _ _ ?_
       clear hK K
       refine done_ (done_of HT_.out (by kernel_rfl)) ?_
       try go_wp2
       obtain ⟨w56, hW_⟩ : ∃ W_ : World, W_ = (w53.setCell ⟨gb129, 2, none⟩ (.slice Ao54 y156.length co54)) := ⟨_, rfl⟩
       have n0_ : Aside0 (Kd.R (Kd.int .i64) 3 (w53.setCell ⟨gb129, 2, none⟩ (.slice Ao54 y156.length co54)) w.heap.size (fun _ => True) v134 x3_1) := ⟨by (with_reducible repeat (first | apply Kd.R_alloc | apply Kd.R_drewN | apply Kd.R_drew)); exact Kd.R_mono (Kd.R_far (p := ⟨gb129, 2, none⟩) (Kd.R_types HO_3.out BK129.out (by decide)) (fun _ hk => hk.2) (.slice Ao54 y156.length co54)) (fun _ hk => trivial)⟩
       rw [← hW_] at n0_
       have n1_ : Aside0 (Kd.S k75 75 (w53.setCell ⟨gb129, 2, none⟩ (.slice Ao54 y156.length co54)) w.heap.size (fun k_ => some k_ ≠ (v134 : Value).ownBlock) (.slice Ao54 y156.length co54) y156) := ⟨by (with_reducible repeat (first | apply Kd.S_alloc | apply Kd.S_drewN | apply Kd.S_drew)); exact Kd.S_mono (Kd.S_far (p := ⟨gb129, 2, none⟩) (Kd.S_types HO158.out BK129.out (by decide)) (fun _ hk => hk.2) (.slice Ao54 y156.length co54)) (fun _ hk => hk.1)⟩
       rw [← hW_] at n1_
       replace BK128 := bW hW_ BK128
       replace BK129 := bX hW_ 43 #[.int .i64 11, .int .i64 2, .slice Ao54 y156.length co54] BK129
       (try clear HO_3)
       (try clear HO158)
       have HO_3 := n0_
       clear n0_
       have HO158 := n1_
       clear n1_
       replace HB := zW hW_ HB
       rw [← hW_]
       clear hW_
       replace HO_3 := Aside0.mk (Kd.R_drew HO_3.out)
       replace HO158 := Aside0.mk (Kd.S_drew HO158.out)
       replace BK128 := Aside0.mk (blk_drew BK128.out)
       replace BK129 := Aside0.mk (blk_drew BK129.out)
       replace HB := Aside0.mk (below_drew1 HB.out)
       refine start_ (n := 14) (S := fun w' => SQ3 w' gb129 (.int .i64 11) (.int .i64 2) (.slice Ao54 y156.length co54)) (ds := [13]) #[false, false, false, false, false, false, false, false, false, false, false, false, false, false] (by kernel_rfl) rfl rfl (bT3 BK129) (fun hHeld => ?_); refine with_tabW impl_CountSystem.tab12 impl_CountSystem.bits12 (fun HT_ HW_ => ?_)
       generalize w56.drew = w57 at HO_3 HO158 BK128 BK129 HB hHeld ⊢
       refine pI 0 (some 59) HT_.out ?_
       refine pI 2 (some 61) HT_.out ?_
       refine pI 5 (some 64) HT_.out ?_
       refine pI 6 (some 65) HT_.out ?_
       refine tI3 1 (some 60) HT_.out HW_.out hHeld ?_
       refine tI3 3 (some 62) HT_.out HW_.out hHeld ?_
       refine tI3 7 (some 66) HT_.out HW_.out hHeld ?_
       refine oI 4 (some 63) HT_.out (fun K hK => ?_)
       refine gO Try.func67 #[.int .i64 11, .int .i64 0] ?_
       with_reducible refine (impl_unit.calls 11 0 t159 _ A44.out).mono ?_
       rintro e w58 ⟨v160, rfl, ho0, hb⟩
       refine ⟨_, rfl, ?_⟩
       replace HO158 := Aside0.mk (Kd.S_elder' (by (with_reducible repeat (first | apply Kd.S_alloc | apply Kd.S_drewN | apply Kd.S_drew)); exact HO158.out) (Kd.R_base ho0) hb)
       have HO161 := Aside0.mk (Kd.R_lower (Kd.R_new' ho0 (Kd.R_lt (rP HO_3))) (below_size (bZ HB)))
       replace HO_3 := Aside0.mk (Kd.R_elder' (rP HO_3) (Kd.R_base ho0) hb)
       replace BK128 := bB BK128 hb
       replace BK129 := bB BK129 hb
       replace HB := bS HB hb
       (try clear hb)
       (try clear ho0)
       refine hK.out _ _ (bT3 BK129) (fun hHeld => ?_)
       clear hK K
       refine nO (some 63) ?_
       refine oI 8 (some 67) HT_.out (fun K hK => ?_)
       refine gO Try.func67 #[.int .i64 11, .int .i64 2] ?_
       with_reducible refine (impl_unit.calls 11 2 t162 _ A45.out).mono ?_
       rintro e w59 ⟨v163, rfl, ho0, hb⟩
       refine ⟨_, rfl, ?_⟩
       replace HO158 := Aside0.mk (Kd.S_elder' (by (with_reducible repeat (first | apply Kd.S_alloc | apply Kd.S_drewN | apply Kd.S_drew)); exact HO158.out) (Kd.R_base ho0) hb)
       have HO164 := Aside0.mk (Kd.R_lower (Kd.R_new' (Kd.R_new' ho0 (Kd.R_lt (rP HO_3))) (Kd.R_lt (rP HO161))) (below_size (bZ HB)))
       replace HO_3 := Aside0.mk (Kd.R_elder' (rP HO_3) (Kd.R_base ho0) hb)
       replace HO161 := Aside0.mk (Kd.R_elder' (rP HO161) (Kd.R_base ho0) hb)
       replace BK128 := bB BK128 hb
       replace BK129 := bB BK129 hb
       replace HB := bS HB hb
       (try clear hb)
       (try clear ho0)
       obtain ⟨Ao60, co60, eo60⟩ := Kd.R_slice HO164.out
       (first | subst eo60 | (injection eo60 with f1_ f2_ f3_; have f4_ := f1_.symm; have f5_ := f3_.symm; clear f1_ f2_ f3_; subst f4_; subst f5_))
       obtain ⟨Ao61, co61, eo61⟩ := Kd.R_slice HO_3.out
       (first | subst eo61 | (injection eo61 with f1_ f2_ f3_; have f4_ := f1_.symm; have f5_ := f3_.symm; clear f1_ f2_ f3_; subst f4_; subst f5_))
       obtain ⟨Ao62, co62, eo62⟩ := Kd.R_slice HO161.out
       (first | subst eo62 | (injection eo62 with f1_ f2_ f3_; have f4_ := f1_.symm; have f5_ := f3_.symm; clear f1_ f2_ f3_; subst f4_; subst f5_))
       refine hK.out _ _ (bT3 BK129) (fun hHeld => ?_)
       clear hK K
       refine nO (some 67) ?_
       refine pI 9 (some 68) HT_.out ?_
       refine oI 10 (some 69) HT_.out (fun K hK => ?_)
       refine value_ (w1 := ?_) (v := ?_) (by rfl) rfl ?_ ?_
       rotate_left 2
       ·go_simp
        constructor
        ·rfl
        ·rfl
       refine hK.out _ _ ⟨(blk_cell (blk_alloc BK129.out _) 0).trans rfl, (blk_cell (blk_alloc BK129.out _) 1).trans rfl, (blk_cell (blk_alloc BK129.out _) 2).trans rfl⟩ (fun hHeld => ?_)
       clear hK K
       refine nO (some 69) ?_
       refine oI 11 (some 70) HT_.out (fun K hK => ?_)
       refine Kd.S_append_step k75 (w0 := w) w.heap.size (by rfl) (.tmp 60) (.tmp 69) 41 75 (.agg #[(.slice none 0 0), (.slice none 0 0), (.slice none 0 0)]) 72 rfl Try.underlying41 info75 rfl (by decide) (by omega) (.slice Ao54 y156.length co54) y156 (⟨t159, x3_1, t162⟩ : S75) [.slice Ao62 t159.length co62, .slice Ao61 x3_1.length co61, .slice Ao60 t162.length co60] (fun _ => True) (fun k_ => some k_ = (.slice Ao62 t159.length co62 : Value).ownBlock ∨ some k_ = (.slice Ao61 x3_1.length co61 : Value).ownBlock ∨ some k_ = (.slice Ao60 t162.length co60 : Value).ownBlock) rfl rfl ?aP (fun k_ hk_ => hk_.elim (fun h_ => ((Kd.R_mono (ok' := fun k_ => ((fun _ => True)) k_ ∧ some k_ ≠ (.slice Ao54 y156.length co54 : Value).ownBlock) (Kd.R_apart' (HO161.out) (Kd.S_typed HO158.out) (by decide)) (fun k_ hk => ⟨trivial, hk.2⟩))).1 k_ h_.symm) (fun h_ => h_.elim (fun h_ => ((Kd.R_mono (ok' := fun k_ => ((fun _ => True)) k_ ∧ some k_ ≠ (.slice Ao54 y156.length co54 : Value).ownBlock) (Kd.R_apart' (HO_3.out) (Kd.S_typed HO158.out) (by decide)) (fun k_ hk => ⟨trivial, hk.2⟩))).1 k_ h_.symm) (fun h_ => ((Kd.R_mono (ok' := fun k_ => ((fun _ => True)) k_ ∧ some k_ ≠ (.slice Ao54 y156.length co54 : Value).ownBlock) (Kd.R_apart' (HO164.out) (Kd.S_typed HO158.out) (by decide)) (fun k_ hk => ⟨trivial, hk.2⟩))).1 k_ h_.symm))) ?aF ?aO ?aB ?aS ?aL ?_
       (case aP => exact k75_mkM _ _ _ (⟨t159, x3_1, t162⟩ : S75) (Kd.R_mono (Kd.R_tight rfl (Kd.R_mono (ok' := fun k_ => ((fun _ => True)) k_ ∧ some k_ ≠ (.slice Ao54 y156.length co54 : Value).ownBlock) (Kd.R_apart' (HO161.out) (Kd.S_typed HO158.out) (by decide)) (fun k_ hk => ⟨trivial, hk.2⟩))) (fun _ h_ => Or.inl h_)) (Kd.R_mono (Kd.R_tight rfl (Kd.R_mono (ok' := fun k_ => ((fun _ => True)) k_ ∧ some k_ ≠ (.slice Ao54 y156.length co54 : Value).ownBlock) (Kd.R_apart' (HO_3.out) (Kd.S_typed HO158.out) (by decide)) (fun k_ hk => ⟨trivial, hk.2⟩))) (fun _ h_ => Or.inr (Or.inl h_))) (Kd.R_mono (Kd.R_tight rfl (Kd.R_mono (ok' := fun k_ => ((fun _ => True)) k_ ∧ some k_ ≠ (.slice Ao54 y156.length co54 : Value).ownBlock) (Kd.R_apart' (HO164.out) (Kd.S_typed HO158.out) (by decide)) (fun k_ hk => ⟨trivial, hk.2⟩))) (fun _ h_ => Or.inr (Or.inr (h_)))) (fun k_ e_ e2_ => by first | (have h_ := HO161.out.1 k_ e_; first | exact h_ e2_.symm | exact h_.1 e2_.symm | exact h_.2 e2_.symm | exact h_.1.1 e2_.symm | exact h_.2.1 e2_.symm | exact h_.1.2 e2_.symm | exact h_.2.2 e2_.symm | exact h_.1.1.1 e2_.symm | exact h_.2.1.1 e2_.symm | exact h_.1.2.1 e2_.symm | exact h_.2.2.1 e2_.symm | exact h_.1.1.2 e2_.symm | exact h_.2.1.2 e2_.symm | exact h_.1.2.2 e2_.symm | exact h_.2.2.2 e2_.symm | exact h_.1.1.1.1 e2_.symm | exact h_.2.1.1.1 e2_.symm | exact h_.1.2.1.1 e2_.symm | exact h_.2.2.1.1 e2_.symm | exact h_.1.1.2.1 e2_.symm | exact h_.2.1.2.1 e2_.symm | exact h_.1.2.2.1 e2_.symm | exact h_.2.2.2.1 e2_.symm | exact h_.1.1.1.2 e2_.symm | exact h_.2.1.1.2 e2_.symm | exact h_.1.2.1.2 e2_.symm | exact h_.2.2.1.2 e2_.symm | exact h_.1.1.2.2 e2_.symm | exact h_.2.1.2.2 e2_.symm | exact h_.1.2.2.2 e2_.symm | exact h_.2.2.2.2 e2_.symm | exact h_.1.1.1.1.1 e2_.symm | exact h_.2.1.1.1.1 e2_.symm | exact h_.1.2.1.1.1 e2_.symm | exact h_.2.2.1.1.1 e2_.symm | exact h_.1.1.2.1.1 e2_.symm | exact h_.2.1.2.1.1 e2_.symm | exact h_.1.2.2.1.1 e2_.symm | exact h_.2.2.2.1.1 e2_.symm | exact h_.1.1.1.2.1 e2_.symm | exact h_.2.1.1.2.1 e2_.symm | exact h_.1.2.1.2.1 e2_.symm | exact h_.2.2.1.2.1 e2_.symm | exact h_.1.1.2.2.1 e2_.symm | exact h_.2.1.2.2.1 e2_.symm | exact h_.1.2.2.2.1 e2_.symm | exact h_.2.2.2.2.1 e2_.symm | exact h_.1.1.1.1.2 e2_.symm | exact h_.2.1.1.1.2 e2_.symm | exact h_.1.2.1.1.2 e2_.symm | exact h_.2.2.1.1.2 e2_.symm | exact h_.1.1.2.1.2 e2_.symm | exact h_.2.1.2.1.2 e2_.symm | exact h_.1.2.2.1.2 e2_.symm | exact h_.2.2.2.1.2 e2_.symm | exact h_.1.1.1.2.2 e2_.symm | exact h_.2.1.1.2.2 e2_.symm | exact h_.1.2.1.2.2 e2_.symm | exact h_.2.2.1.2.2 e2_.symm | exact h_.1.1.2.2.2 e2_.symm | exact h_.2.1.2.2.2 e2_.symm | exact h_.1.2.2.2.2 e2_.symm | exact h_.2.2.2.2.2 e2_.symm | exact h_.1.1.1.1.1.1 e2_.symm | exact h_.2.1.1.1.1.1 e2_.symm | exact h_.1.2.1.1.1.1 e2_.symm | exact h_.2.2.1.1.1.1 e2_.symm | exact h_.1.1.2.1.1.1 e2_.symm | exact h_.2.1.2.1.1.1 e2_.symm | exact h_.1.2.2.1.1.1 e2_.symm | exact h_.2.2.2.1.1.1 e2_.symm | exact h_.1.1.1.2.1.1 e2_.symm | exact h_.2.1.1.2.1.1 e2_.symm | exact h_.1.2.1.2.1.1 e2_.symm | exact h_.2.2.1.2.1.1 e2_.symm | exact h_.1.1.2.2.1.1 e2_.symm | exact h_.2.1.2.2.1.1 e2_.symm | exact h_.1.2.2.2.1.1 e2_.symm | exact h_.2.2.2.2.1.1 e2_.symm | exact h_.1.1.1.1.2.1 e2_.symm | exact h_.2.1.1.1.2.1 e2_.symm | exact h_.1.2.1.1.2.1 e2_.symm | exact h_.2.2.1.1.2.1 e2_.symm | exact h_.1.1.2.1.2.1 e2_.symm | exact h_.2.1.2.1.2.1 e2_.symm | exact h_.1.2.2.1.2.1 e2_.symm | exact h_.2.2.2.1.2.1 e2_.symm | exact h_.1.1.1.2.2.1 e2_.symm | exact h_.2.1.1.2.2.1 e2_.symm | exact h_.1.2.1.2.2.1 e2_.symm | exact h_.2.2.1.2.2.1 e2_.symm | exact h_.1.1.2.2.2.1 e2_.symm | exact h_.2.1.2.2.2.1 e2_.symm | exact h_.1.2.2.2.2.1 e2_.symm | exact h_.2.2.2.2.2.1 e2_.symm | exact h_.1.1.1.1.1.2 e2_.symm | exact h_.2.1.1.1.1.2 e2_.symm | exact h_.1.2.1.1.1.2 e2_.symm | exact h_.2.2.1.1.1.2 e2_.symm | exact h_.1.1.2.1.1.2 e2_.symm | exact h_.2.1.2.1.1.2 e2_.symm | exact h_.1.2.2.1.1.2 e2_.symm | exact h_.2.2.2.1.1.2 e2_.symm | exact h_.1.1.1.2.1.2 e2_.symm | exact h_.2.1.1.2.1.2 e2_.symm | exact h_.1.2.1.2.1.2 e2_.symm | exact h_.2.2.1.2.1.2 e2_.symm | exact h_.1.1.2.2.1.2 e2_.symm | exact h_.2.1.2.2.1.2 e2_.symm | exact h_.1.2.2.2.1.2 e2_.symm | exact h_.2.2.2.2.1.2 e2_.symm | exact h_.1.1.1.1.2.2 e2_.symm | exact h_.2.1.1.1.2.2 e2_.symm | exact h_.1.2.1.1.2.2 e2_.symm | exact h_.2.2.1.1.2.2 e2_.symm | exact h_.1.1.2.1.2.2 e2_.symm | exact h_.2.1.2.1.2.2 e2_.symm | exact h_.1.2.2.1.2.2 e2_.symm | exact h_.2.2.2.1.2.2 e2_.symm | exact h_.1.1.1.2.2.2 e2_.symm | exact h_.2.1.1.2.2.2 e2_.symm | exact h_.1.2.1.2.2.2 e2_.symm | exact h_.2.2.1.2.2.2 e2_.symm | exact h_.1.1.2.2.2.2 e2_.symm | exact h_.2.1.2.2.2.2 e2_.symm | exact h_.1.2.2.2.2.2 e2_.symm | exact h_.2.2.2.2.2.2 e2_.symm) | (have h_ := HO_3.out.1 k_ e2_; first | exact h_ e_.symm | exact h_.1 e_.symm | exact h_.2 e_.symm | exact h_.1.1 e_.symm | exact h_.2.1 e_.symm | exact h_.1.2 e_.symm | exact h_.2.2 e_.symm | exact h_.1.1.1 e_.symm | exact h_.2.1.1 e_.symm | exact h_.1.2.1 e_.symm | exact h_.2.2.1 e_.symm | exact h_.1.1.2 e_.symm | exact h_.2.1.2 e_.symm | exact h_.1.2.2 e_.symm | exact h_.2.2.2 e_.symm | exact h_.1.1.1.1 e_.symm | exact h_.2.1.1.1 e_.symm | exact h_.1.2.1.1 e_.symm | exact h_.2.2.1.1 e_.symm | exact h_.1.1.2.1 e_.symm | exact h_.2.1.2.1 e_.symm | exact h_.1.2.2.1 e_.symm | exact h_.2.2.2.1 e_.symm | exact h_.1.1.1.2 e_.symm | exact h_.2.1.1.2 e_.symm | exact h_.1.2.1.2 e_.symm | exact h_.2.2.1.2 e_.symm | exact h_.1.1.2.2 e_.symm | exact h_.2.1.2.2 e_.symm | exact h_.1.2.2.2 e_.symm | exact h_.2.2.2.2 e_.symm | exact h_.1.1.1.1.1 e_.symm | exact h_.2.1.1.1.1 e_.symm | exact h_.1.2.1.1.1 e_.symm | exact h_.2.2.1.1.1 e_.symm | exact h_.1.1.2.1.1 e_.symm | exact h_.2.1.2.1.1 e_.symm | exact h_.1.2.2.1.1 e_.symm | exact h_.2.2.2.1.1 e_.symm | exact h_.1.1.1.2.1 e_.symm | exact h_.2.1.1.2.1 e_.symm | exact h_.1.2.1.2.1 e_.symm | exact h_.2.2.1.2.1 e_.symm | exact h_.1.1.2.2.1 e_.symm | exact h_.2.1.2.2.1 e_.symm | exact h_.1.2.2.2.1 e_.symm | exact h_.2.2.2.2.1 e_.symm | exact h_.1.1.1.1.2 e_.symm | exact h_.2.1.1.1.2 e_.symm | exact h_.1.2.1.1.2 e_.symm | exact h_.2.2.1.1.2 e_.symm | exact h_.1.1.2.1.2 e_.symm | exact h_.2.1.2.1.2 e_.symm | exact h_.1.2.2.1.2 e_.symm | exact h_.2.2.2.1.2 e_.symm | exact h_.1.1.1.2.2 e_.symm | exact h_.2.1.1.2.2 e_.symm | exact h_.1.2.1.2.2 e_.symm | exact h_.2.2.1.2.2 e_.symm | exact h_.1.1.2.2.2 e_.symm | exact h_.2.1.2.2.2 e_.symm | exact h_.1.2.2.2.2 e_.symm | exact h_.2.2.2.2.2 e_.symm | exact h_.1.1.1.1.1.1 e_.symm | exact h_.2.1.1.1.1.1 e_.symm | exact h_.1.2.1.1.1.1 e_.symm | exact h_.2.2.1.1.1.1 e_.symm | exact h_.1.1.2.1.1.1 e_.symm | exact h_.2.1.2.1.1.1 e_.symm | exact h_.1.2.2.1.1.1 e_.symm | exact h_.2.2.2.1.1.1 e_.symm | exact h_.1.1.1.2.1.1 e_.symm | exact h_.2.1.1.2.1.1 e_.symm | exact h_.1.2.1.2.1.1 e_.symm | exact h_.2.2.1.2.1.1 e_.symm | exact h_.1.1.2.2.1.1 e_.symm | exact h_.2.1.2.2.1.1 e_.symm | exact h_.1.2.2.2.1.1 e_.symm | exact h_.2.2.2.2.1.1 e_.symm | exact h_.1.1.1.1.2.1 e_.symm | exact h_.2.1.1.1.2.1 e_.symm | exact h_.1.2.1.1.2.1 e_.symm | exact h_.2.2.1.1.2.1 e_.symm | exact h_.1.1.2.1.2.1 e_.symm | exact h_.2.1.2.1.2.1 e_.symm | exact h_.1.2.2.1.2.1 e_.symm | exact h_.2.2.2.1.2.1 e_.symm | exact h_.1.1.1.2.2.1 e_.symm | exact h_.2.1.1.2.2.1 e_.symm | exact h_.1.2.1.2.2.1 e_.symm | exact h_.2.2.1.2.2.1 e_.symm | exact h_.1.1.2.2.2.1 e_.symm | exact h_.2.1.2.2.2.1 e_.symm | exact h_.1.2.2.2.2.1 e_.symm | exact h_.2.2.2.2.2.1 e_.symm | exact h_.1.1.1.1.1.2 e_.symm | exact h_.2.1.1.1.1.2 e_.symm | exact h_.1.2.1.1.1.2 e_.symm | exact h_.2.2.1.1.1.2 e_.symm | exact h_.1.1.2.1.1.2 e_.symm | exact h_.2.1.2.1.1.2 e_.symm | exact h_.1.2.2.1.1.2 e_.symm | exact h_.2.2.2.1.1.2 e_.symm | exact h_.1.1.1.2.1.2 e_.symm | exact h_.2.1.1.2.1.2 e_.symm | exact h_.1.2.1.2.1.2 e_.symm | exact h_.2.2.1.2.1.2 e_.symm | exact h_.1.1.2.2.1.2 e_.symm | exact h_.2.1.2.2.1.2 e_.symm | exact h_.1.2.2.2.1.2 e_.symm | exact h_.2.2.2.2.1.2 e_.symm | exact h_.1.1.1.1.2.2 e_.symm | exact h_.2.1.1.1.2.2 e_.symm | exact h_.1.2.1.1.2.2 e_.symm | exact h_.2.2.1.1.2.2 e_.symm | exact h_.1.1.2.1.2.2 e_.symm | exact h_.2.1.2.1.2.2 e_.symm | exact h_.1.2.2.1.2.2 e_.symm | exact h_.2.2.2.1.2.2 e_.symm | exact h_.1.1.1.2.2.2 e_.symm | exact h_.2.1.1.2.2.2 e_.symm | exact h_.1.2.1.2.2.2 e_.symm | exact h_.2.2.1.2.2.2 e_.symm | exact h_.1.1.2.2.2.2 e_.symm | exact h_.2.1.2.2.2.2 e_.symm | exact h_.1.2.2.2.2.2 e_.symm | exact h_.2.2.2.2.2.2 e_.symm)) (fun k_ e_ e2_ => by first | (have h_ := HO161.out.1 k_ e_; first | exact h_ e2_.symm | exact h_.1 e2_.symm | exact h_.2 e2_.symm | exact h_.1.1 e2_.symm | exact h_.2.1 e2_.symm | exact h_.1.2 e2_.symm | exact h_.2.2 e2_.symm | exact h_.1.1.1 e2_.symm | exact h_.2.1.1 e2_.symm | exact h_.1.2.1 e2_.symm | exact h_.2.2.1 e2_.symm | exact h_.1.1.2 e2_.symm | exact h_.2.1.2 e2_.symm | exact h_.1.2.2 e2_.symm | exact h_.2.2.2 e2_.symm | exact h_.1.1.1.1 e2_.symm | exact h_.2.1.1.1 e2_.symm | exact h_.1.2.1.1 e2_.symm | exact h_.2.2.1.1 e2_.symm | exact h_.1.1.2.1 e2_.symm | exact h_.2.1.2.1 e2_.symm | exact h_.1.2.2.1 e2_.symm | exact h_.2.2.2.1 e2_.symm | exact h_.1.1.1.2 e2_.symm | exact h_.2.1.1.2 e2_.symm | exact h_.1.2.1.2 e2_.symm | exact h_.2.2.1.2 e2_.symm | exact h_.1.1.2.2 e2_.symm | exact h_.2.1.2.2 e2_.symm | exact h_.1.2.2.2 e2_.symm | exact h_.2.2.2.2 e2_.symm | exact h_.1.1.1.1.1 e2_.symm | exact h_.2.1.1.1.1 e2_.symm | exact h_.1.2.1.1.1 e2_.symm | exact h_.2.2.1.1.1 e2_.symm | exact h_.1.1.2.1.1 e2_.symm | exact h_.2.1.2.1.1 e2_.symm | exact h_.1.2.2.1.1 e2_.symm | exact h_.2.2.2.1.1 e2_.symm | exact h_.1.1.1.2.1 e2_.symm | exact h_.2.1.1.2.1 e2_.symm | exact h_.1.2.1.2.1 e2_.symm | exact h_.2.2.1.2.1 e2_.symm | exact h_.1.1.2.2.1 e2_.symm | exact h_.2.1.2.2.1 e2_.symm | exact h_.1.2.2.2.1 e2_.symm | exact h_.2.2.2.2.1 e2_.symm | exact h_.1.1.1.1.2 e2_.symm | exact h_.2.1.1.1.2 e2_.symm | exact h_.1.2.1.1.2 e2_.symm | exact h_.2.2.1.1.2 e2_.symm | exact h_.1.1.2.1.2 e2_.symm | exact h_.2.1.2.1.2 e2_.symm | exact h_.1.2.2.1.2 e2_.symm | exact h_.2.2.2.1.2 e2_.symm | exact h_.1.1.1.2.2 e2_.symm | exact h_.2.1.1.2.2 e2_.symm | exact h_.1.2.1.2.2 e2_.symm | exact h_.2.2.1.2.2 e2_.symm | exact h_.1.1.2.2.2 e2_.symm | exact h_.2.1.2.2.2 e2_.symm | exact h_.1.2.2.2.2 e2_.symm | exact h_.2.2.2.2.2 e2_.symm | exact h_.1.1.1.1.1.1 e2_.symm | exact h_.2.1.1.1.1.1 e2_.symm | exact h_.1.2.1.1.1.1 e2_.symm | exact h_.2.2.1.1.1.1 e2_.symm | exact h_.1.1.2.1.1.1 e2_.symm | exact h_.2.1.2.1.1.1 e2_.symm | exact h_.1.2.2.1.1.1 e2_.symm | exact h_.2.2.2.1.1.1 e2_.symm | exact h_.1.1.1.2.1.1 e2_.symm | exact h_.2.1.1.2.1.1 e2_.symm | exact h_.1.2.1.2.1.1 e2_.symm | exact h_.2.2.1.2.1.1 e2_.symm | exact h_.1.1.2.2.1.1 e2_.symm | exact h_.2.1.2.2.1.1 e2_.symm | exact h_.1.2.2.2.1.1 e2_.symm | exact h_.2.2.2.2.1.1 e2_.symm | exact h_.1.1.1.1.2.1 e2_.symm | exact h_.2.1.1.1.2.1 e2_.symm | exact h_.1.2.1.1.2.1 e2_.symm | exact h_.2.2.1.1.2.1 e2_.symm | exact h_.1.1.2.1.2.1 e2_.symm | exact h_.2.1.2.1.2.1 e2_.symm | exact h_.1.2.2.1.2.1 e2_.symm | exact h_.2.2.2.1.2.1 e2_.symm | exact h_.1.1.1.2.2.1 e2_.symm | exact h_.2.1.1.2.2.1 e2_.symm | exact h_.1.2.1.2.2.1 e2_.symm | exact h_.2.2.1.2.2.1 e2_.symm | exact h_.1.1.2.2.2.1 e2_.symm | exact h_.2.1.2.2.2.1 e2_.symm | exact h_.1.2.2.2.2.1 e2_.symm | exact h_.2.2.2.2.2.1 e2_.symm | exact h_.1.1.1.1.1.2 e2_.symm | exact h_.2.1.1.1.1.2 e2_.symm | exact h_.1.2.1.1.1.2 e2_.symm | exact h_.2.2.1.1.1.2 e2_.symm | exact h_.1.1.2.1.1.2 e2_.symm | exact h_.2.1.2.1.1.2 e2_.symm | exact h_.1.2.2.1.1.2 e2_.symm | exact h_.2.2.2.1.1.2 e2_.symm | exact h_.1.1.1.2.1.2 e2_.symm | exact h_.2.1.1.2.1.2 e2_.symm | exact h_.1.2.1.2.1.2 e2_.symm | exact h_.2.2.1.2.1.2 e2_.symm | exact h_.1.1.2.2.1.2 e2_.symm | exact h_.2.1.2.2.1.2 e2_.symm | exact h_.1.2.2.2.1.2 e2_.symm | exact h_.2.2.2.2.1.2 e2_.symm | exact h_.1.1.1.1.2.2 e2_.symm | exact h_.2.1.1.1.2.2 e2_.symm | exact h_.1.2.1.1.2.2 e2_.symm | exact h_.2.2.1.1.2.2 e2_.symm | exact h_.1.1.2.1.2.2 e2_.symm | exact h_.2.1.2.1.2.2 e2_.symm | exact h_.1.2.2.1.2.2 e2_.symm | exact h_.2.2.2.1.2.2 e2_.symm | exact h_.1.1.1.2.2.2 e2_.symm | exact h_.2.1.1.2.2.2 e2_.symm | exact h_.1.2.1.2.2.2 e2_.symm | exact h_.2.2.1.2.2.2 e2_.symm | exact h_.1.1.2.2.2.2 e2_.symm | exact h_.2.1.2.2.2.2 e2_.symm | exact h_.1.2.2.2.2.2 e2_.symm | exact h_.2.2.2.2.2.2 e2_.symm) | (have h_ := HO164.out.1 k_ e2_; first | exact h_ e_.symm | exact h_.1 e_.symm | exact h_.2 e_.symm | exact h_.1.1 e_.symm | exact h_.2.1 e_.symm | exact h_.1.2 e_.symm | exact h_.2.2 e_.symm | exact h_.1.1.1 e_.symm | exact h_.2.1.1 e_.symm | exact h_.1.2.1 e_.symm | exact h_.2.2.1 e_.symm | exact h_.1.1.2 e_.symm | exact h_.2.1.2 e_.symm | exact h_.1.2.2 e_.symm | exact h_.2.2.2 e_.symm | exact h_.1.1.1.1 e_.symm | exact h_.2.1.1.1 e_.symm | exact h_.1.2.1.1 e_.symm | exact h_.2.2.1.1 e_.symm | exact h_.1.1.2.1 e_.symm | exact h_.2.1.2.1 e_.symm | exact h_.1.2.2.1 e_.symm | exact h_.2.2.2.1 e_.symm | exact h_.1.1.1.2 e_.symm | exact h_.2.1.1.2 e_.symm | exact h_.1.2.1.2 e_.symm | exact h_.2.2.1.2 e_.symm | exact h_.1.1.2.2 e_.symm | exact h_.2.1.2.2 e_.symm | exact h_.1.2.2.2 e_.symm | exact h_.2.2.2.2 e_.symm | exact h_.1.1.1.1.1 e_.symm | exact h_.2.1.1.1.1 e_.symm | exact h_.1.2.1.1.1 e_.symm | exact h_.2.2.1.1.1 e_.symm | exact h_.1.1.2.1.1 e_.symm | exact h_.2.1.2.1.1 e_.symm | exact h_.1.2.2.1.1 e_.symm | exact h_.2.2.2.1.1 e_.symm | exact h_.1.1.1.2.1 e_.symm | exact h_.2.1.1.2.1 e_.symm | exact h_.1.2.1.2.1 e_.symm | exact h_.2.2.1.2.1 e_.symm | exact h_.1.1.2.2.1 e_.symm | exact h_.2.1.2.2.1 e_.symm | exact h_.1.2.2.2.1 e_.symm | exact h_.2.2.2.2.1 e_.symm | exact h_.1.1.1.1.2 e_.symm | exact h_.2.1.1.1.2 e_.symm | exact h_.1.2.1.1.2 e_.symm | exact h_.2.2.1.1.2 e_.symm | exact h_.1.1.2.1.2 e_.symm | exact h_.2.1.2.1.2 e_.symm | exact h_.1.2.2.1.2 e_.symm | exact h_.2.2.2.1.2 e_.symm | exact h_.1.1.1.2.2 e_.symm | exact h_.2.1.1.2.2 e_.symm | exact h_.1.2.1.2.2 e_.symm | exact h_.2.2.1.2.2 e_.symm | exact h_.1.1.2.2.2 e_.symm | exact h_.2.1.2.2.2 e_.symm | exact h_.1.2.2.2.2 e_.symm | exact h_.2.2.2.2.2 e_.symm | exact h_.1.1.1.1.1.1 e_.symm | exact h_.2.1.1.1.1.1 e_.symm | exact h_.1.2.1.1.1.1 e_.symm | exact h_.2.2.1.1.1.1 e_.symm | exact h_.1.1.2.1.1.1 e_.symm | exact h_.2.1.2.1.1.1 e_.symm | exact h_.1.2.2.1.1.1 e_.symm | exact h_.2.2.2.1.1.1 e_.symm | exact h_.1.1.1.2.1.1 e_.symm | exact h_.2.1.1.2.1.1 e_.symm | exact h_.1.2.1.2.1.1 e_.symm | exact h_.2.2.1.2.1.1 e_.symm | exact h_.1.1.2.2.1.1 e_.symm | exact h_.2.1.2.2.1.1 e_.symm | exact h_.1.2.2.2.1.1 e_.symm | exact h_.2.2.2.2.1.1 e_.symm | exact h_.1.1.1.1.2.1 e_.symm | exact h_.2.1.1.1.2.1 e_.symm | exact h_.1.2.1.1.2.1 e_.symm | exact h_.2.2.1.1.2.1 e_.symm | exact h_.1.1.2.1.2.1 e_.symm | exact h_.2.1.2.1.2.1 e_.symm | exact h_.1.2.2.1.2.1 e_.symm | exact h_.2.2.2.1.2.1 e_.symm | exact h_.1.1.1.2.2.1 e_.symm | exact h_.2.1.1.2.2.1 e_.symm | exact h_.1.2.1.2.2.1 e_.symm | exact h_.2.2.1.2.2.1 e_.symm | exact h_.1.1.2.2.2.1 e_.symm | exact h_.2.1.2.2.2.1 e_.symm | exact h_.1.2.2.2.2.1 e_.symm | exact h_.2.2.2.2.2.1 e_.symm | exact h_.1.1.1.1.1.2 e_.symm | exact h_.2.1.1.1.1.2 e_.symm | exact h_.1.2.1.1.1.2 e_.symm | exact h_.2.2.1.1.1.2 e_.symm | exact h_.1.1.2.1.1.2 e_.symm | exact h_.2.1.2.1.1.2 e_.symm | exact h_.1.2.2.1.1.2 e_.symm | exact h_.2.2.2.1.1.2 e_.symm | exact h_.1.1.1.2.1.2 e_.symm | exact h_.2.1.1.2.1.2 e_.symm | exact h_.1.2.1.2.1.2 e_.symm | exact h_.2.2.1.2.1.2 e_.symm | exact h_.1.1.2.2.1.2 e_.symm | exact h_.2.1.2.2.1.2 e_.symm | exact h_.1.2.2.2.1.2 e_.symm | exact h_.2.2.2.2.1.2 e_.symm | exact h_.1.1.1.1.2.2 e_.symm | exact h_.2.1.1.1.2.2 e_.symm | exact h_.1.2.1.1.2.2 e_.symm | exact h_.2.2.1.1.2.2 e_.symm | exact h_.1.1.2.1.2.2 e_.symm | exact h_.2.1.2.1.2.2 e_.symm | exact h_.1.2.2.1.2.2 e_.symm | exact h_.2.2.2.1.2.2 e_.symm | exact h_.1.1.1.2.2.2 e_.symm | exact h_.2.1.1.2.2.2 e_.symm | exact h_.1.2.1.2.2.2 e_.symm | exact h_.2.2.1.2.2.2 e_.symm | exact h_.1.1.2.2.2.2 e_.symm | exact h_.2.1.2.2.2.2 e_.symm | exact h_.1.2.2.2.2.2 e_.symm | exact h_.2.2.2.2.2.2 e_.symm)) (fun k_ e_ e2_ => by first | (have h_ := HO_3.out.1 k_ e_; first | exact h_ e2_.symm | exact h_.1 e2_.symm | exact h_.2 e2_.symm | exact h_.1.1 e2_.symm | exact h_.2.1 e2_.symm | exact h_.1.2 e2_.symm | exact h_.2.2 e2_.symm | exact h_.1.1.1 e2_.symm | exact h_.2.1.1 e2_.symm | exact h_.1.2.1 e2_.symm | exact h_.2.2.1 e2_.symm | exact h_.1.1.2 e2_.symm | exact h_.2.1.2 e2_.symm | exact h_.1.2.2 e2_.symm | exact h_.2.2.2 e2_.symm | exact h_.1.1.1.1 e2_.symm | exact h_.2.1.1.1 e2_.symm | exact h_.1.2.1.1 e2_.symm | exact h_.2.2.1.1 e2_.symm | exact h_.1.1.2.1 e2_.symm | exact h_.2.1.2.1 e2_.symm | exact h_.1.2.2.1 e2_.symm | exact h_.2.2.2.1 e2_.symm | exact h_.1.1.1.2 e2_.symm | exact h_.2.1.1.2 e2_.symm | exact h_.1.2.1.2 e2_.symm | exact h_.2.2.1.2 e2_.symm | exact h_.1.1.2.2 e2_.symm | exact h_.2.1.2.2 e2_.symm | exact h_.1.2.2.2 e2_.symm | exact h_.2.2.2.2 e2_.symm | exact h_.1.1.1.1.1 e2_.symm | exact h_.2.1.1.1.1 e2_.symm | exact h_.1.2.1.1.1 e2_.symm | exact h_.2.2.1.1.1 e2_.symm | exact h_.1.1.2.1.1 e2_.symm | exact h_.2.1.2.1.1 e2_.symm | exact h_.1.2.2.1.1 e2_.symm | exact h_.2.2.2.1.1 e2_.symm | exact h_.1.1.1.2.1 e2_.symm | exact h_.2.1.1.2.1 e2_.symm | exact h_.1.2.1.2.1 e2_.symm | exact h_.2.2.1.2.1 e2_.symm | exact h_.1.1.2.2.1 e2_.symm | exact h_.2.1.2.2.1 e2_.symm | exact h_.1.2.2.2.1 e2_.symm | exact h_.2.2.2.2.1 e2_.symm | exact h_.1.1.1.1.2 e2_.symm | exact h_.2.1.1.1.2 e2_.symm | exact h_.1.2.1.1.2 e2_.symm | exact h_.2.2.1.1.2 e2_.symm | exact h_.1.1.2.1.2 e2_.symm | exact h_.2.1.2.1.2 e2_.symm | exact h_.1.2.2.1.2 e2_.symm | exact h_.2.2.2.1.2 e2_.symm | exact h_.1.1.1.2.2 e2_.symm | exact h_.2.1.1.2.2 e2_.symm | exact h_.1.2.1.2.2 e2_.symm | exact h_.2.2.1.2.2 e2_.symm | exact h_.1.1.2.2.2 e2_.symm | exact h_.2.1.2.2.2 e2_.symm | exact h_.1.2.2.2.2 e2_.symm | exact h_.2.2.2.2.2 e2_.symm | exact h_.1.1.1.1.1.1 e2_.symm | exact h_.2.1.1.1.1.1 e2_.symm | exact h_.1.2.1.1.1.1 e2_.symm | exact h_.2.2.1.1.1.1 e2_.symm | exact h_.1.1.2.1.1.1 e2_.symm | exact h_.2.1.2.1.1.1 e2_.symm | exact h_.1.2.2.1.1.1 e2_.symm | exact h_.2.2.2.1.1.1 e2_.symm | exact h_.1.1.1.2.1.1 e2_.symm | exact h_.2.1.1.2.1.1 e2_.symm | exact h_.1.2.1.2.1.1 e2_.symm | exact h_.2.2.1.2.1.1 e2_.symm | exact h_.1.1.2.2.1.1 e2_.symm | exact h_.2.1.2.2.1.1 e2_.symm | exact h_.1.2.2.2.1.1 e2_.symm | exact h_.2.2.2.2.1.1 e2_.symm | exact h_.1.1.1.1.2.1 e2_.symm | exact h_.2.1.1.1.2.1 e2_.symm | exact h_.1.2.1.1.2.1 e2_.symm | exact h_.2.2.1.1.2.1 e2_.symm | exact h_.1.1.2.1.2.1 e2_.symm | exact h_.2.1.2.1.2.1 e2_.symm | exact h_.1.2.2.1.2.1 e2_.symm | exact h_.2.2.2.1.2.1 e2_.symm | exact h_.1.1.1.2.2.1 e2_.symm | exact h_.2.1.1.2.2.1 e2_.symm | exact h_.1.2.1.2.2.1 e2_.symm | exact h_.2.2.1.2.2.1 e2_.symm | exact h_.1.1.2.2.2.1 e2_.symm | exact h_.2.1.2.2.2.1 e2_.symm | exact h_.1.2.2.2.2.1 e2_.symm | exact h_.2.2.2.2.2.1 e2_.symm | exact h_.1.1.1.1.1.2 e2_.symm | exact h_.2.1.1.1.1.2 e2_.symm | exact h_.1.2.1.1.1.2 e2_.symm | exact h_.2.2.1.1.1.2 e2_.symm | exact h_.1.1.2.1.1.2 e2_.symm | exact h_.2.1.2.1.1.2 e2_.symm | exact h_.1.2.2.1.1.2 e2_.symm | exact h_.2.2.2.1.1.2 e2_.symm | exact h_.1.1.1.2.1.2 e2_.symm | exact h_.2.1.1.2.1.2 e2_.symm | exact h_.1.2.1.2.1.2 e2_.symm | exact h_.2.2.1.2.1.2 e2_.symm | exact h_.1.1.2.2.1.2 e2_.symm | exact h_.2.1.2.2.1.2 e2_.symm | exact h_.1.2.2.2.1.2 e2_.symm | exact h_.2.2.2.2.1.2 e2_.symm | exact h_.1.1.1.1.2.2 e2_.symm | exact h_.2.1.1.1.2.2 e2_.symm | exact h_.1.2.1.1.2.2 e2_.symm | exact h_.2.2.1.1.2.2 e2_.symm | exact h_.1.1.2.1.2.2 e2_.symm | exact h_.2.1.2.1.2.2 e2_.symm | exact h_.1.2.2.1.2.2 e2_.symm | exact h_.2.2.2.1.2.2 e2_.symm | exact h_.1.1.1.2.2.2 e2_.symm | exact h_.2.1.1.2.2.2 e2_.symm | exact h_.1.2.1.2.2.2 e2_.symm | exact h_.2.2.1.2.2.2 e2_.symm | exact h_.1.1.2.2.2.2 e2_.symm | exact h_.2.1.2.2.2.2 e2_.symm | exact h_.1.2.2.2.2.2 e2_.symm | exact h_.2.2.2.2.2.2 e2_.symm) | (have h_ := HO164.out.1 k_ e2_; first | exact h_ e_.symm | exact h_.1 e_.symm | exact h_.2 e_.symm | exact h_.1.1 e_.symm | exact h_.2.1 e_.symm | exact h_.1.2 e_.symm | exact h_.2.2 e_.symm | exact h_.1.1.1 e_.symm | exact h_.2.1.1 e_.symm | exact h_.1.2.1 e_.symm | exact h_.2.2.1 e_.symm | exact h_.1.1.2 e_.symm | exact h_.2.1.2 e_.symm | exact h_.1.2.2 e_.symm | exact h_.2.2.2 e_.symm | exact h_.1.1.1.1 e_.symm | exact h_.2.1.1.1 e_.symm | exact h_.1.2.1.1 e_.symm | exact h_.2.2.1.1 e_.symm | exact h_.1.1.2.1 e_.symm | exact h_.2.1.2.1 e_.symm | exact h_.1.2.2.1 e_.symm | exact h_.2.2.2.1 e_.symm | exact h_.1.1.1.2 e_.symm | exact h_.2.1.1.2 e_.symm | exact h_.1.2.1.2 e_.symm | exact h_.2.2.1.2 e_.symm | exact h_.1.1.2.2 e_.symm | exact h_.2.1.2.2 e_.symm | exact h_.1.2.2.2 e_.symm | exact h_.2.2.2.2 e_.symm | exact h_.1.1.1.1.1 e_.symm | exact h_.2.1.1.1.1 e_.symm | exact h_.1.2.1.1.1 e_.symm | exact h_.2.2.1.1.1 e_.symm | exact h_.1.1.2.1.1 e_.symm | exact h_.2.1.2.1.1 e_.symm | exact h_.1.2.2.1.1 e_.symm | exact h_.2.2.2.1.1 e_.symm | exact h_.1.1.1.2.1 e_.symm | exact h_.2.1.1.2.1 e_.symm | exact h_.1.2.1.2.1 e_.symm | exact h_.2.2.1.2.1 e_.symm | exact h_.1.1.2.2.1 e_.symm | exact h_.2.1.2.2.1 e_.symm | exact h_.1.2.2.2.1 e_.symm | exact h_.2.2.2.2.1 e_.symm | exact h_.1.1.1.1.2 e_.symm | exact h_.2.1.1.1.2 e_.symm | exact h_.1.2.1.1.2 e_.symm | exact h_.2.2.1.1.2 e_.symm | exact h_.1.1.2.1.2 e_.symm | exact h_.2.1.2.1.2 e_.symm | exact h_.1.2.2.1.2 e_.symm | exact h_.2.2.2.1.2 e_.symm | exact h_.1.1.1.2.2 e_.symm | exact h_.2.1.1.2.2 e_.symm | exact h_.1.2.1.2.2 e_.symm | exact h_.2.2.1.2.2 e_.symm | exact h_.1.1.2.2.2 e_.symm | exact h_.2.1.2.2.2 e_.symm | exact h_.1.2.2.2.2 e_.symm | exact h_.2.2.2.2.2 e_.symm | exact h_.1.1.1.1.1.1 e_.symm | exact h_.2.1.1.1.1.1 e_.symm | exact h_.1.2.1.1.1.1 e_.symm | exact h_.2.2.1.1.1.1 e_.symm | exact h_.1.1.2.1.1.1 e_.symm | exact h_.2.1.2.1.1.1 e_.symm | exact h_.1.2.2.1.1.1 e_.symm | exact h_.2.2.2.1.1.1 e_.symm | exact h_.1.1.1.2.1.1 e_.symm | exact h_.2.1.1.2.1.1 e_.symm | exact h_.1.2.1.2.1.1 e_.symm | exact h_.2.2.1.2.1.1 e_.symm | exact h_.1.1.2.2.1.1 e_.symm | exact h_.2.1.2.2.1.1 e_.symm | exact h_.1.2.2.2.1.1 e_.symm | exact h_.2.2.2.2.1.1 e_.symm | exact h_.1.1.1.1.2.1 e_.symm | exact h_.2.1.1.1.2.1 e_.symm | exact h_.1.2.1.1.2.1 e_.symm | exact h_.2.2.1.1.2.1 e_.symm | exact h_.1.1.2.1.2.1 e_.symm | exact h_.2.1.2.1.2.1 e_.symm | exact h_.1.2.2.1.2.1 e_.symm | exact h_.2.2.2.1.2.1 e_.symm | exact h_.1.1.1.2.2.1 e_.symm | exact h_.2.1.1.2.2.1 e_.symm | exact h_.1.2.1.2.2.1 e_.symm | exact h_.2.2.1.2.2.1 e_.symm | exact h_.1.1.2.2.2.1 e_.symm | exact h_.2.1.2.2.2.1 e_.symm | exact h_.1.2.2.2.2.1 e_.symm | exact h_.2.2.2.2.2.1 e_.symm | exact h_.1.1.1.1.1.2 e_.symm | exact h_.2.1.1.1.1.2 e_.symm | exact h_.1.2.1.1.1.2 e_.symm | exact h_.2.2.1.1.1.2 e_.symm | exact h_.1.1.2.1.1.2 e_.symm | exact h_.2.1.2.1.1.2 e_.symm | exact h_.1.2.2.1.1.2 e_.symm | exact h_.2.2.2.1.1.2 e_.symm | exact h_.1.1.1.2.1.2 e_.symm | exact h_.2.1.1.2.1.2 e_.symm | exact h_.1.2.1.2.1.2 e_.symm | exact h_.2.2.1.2.1.2 e_.symm | exact h_.1.1.2.2.1.2 e_.symm | exact h_.2.1.2.2.1.2 e_.symm | exact h_.1.2.2.2.1.2 e_.symm | exact h_.2.2.2.2.1.2 e_.symm | exact h_.1.1.1.1.2.2 e_.symm | exact h_.2.1.1.1.2.2 e_.symm | exact h_.1.2.1.1.2.2 e_.symm | exact h_.2.2.1.1.2.2 e_.symm | exact h_.1.1.2.1.2.2 e_.symm | exact h_.2.1.2.1.2.2 e_.symm | exact h_.1.2.2.1.2.2 e_.symm | exact h_.2.2.2.1.2.2 e_.symm | exact h_.1.1.1.2.2.2 e_.symm | exact h_.2.1.1.2.2.2 e_.symm | exact h_.1.2.1.2.2.2 e_.symm | exact h_.2.2.1.2.2.2 e_.symm | exact h_.1.1.2.2.2.2 e_.symm | exact h_.2.1.2.2.2.2 e_.symm | exact h_.1.2.2.2.2.2 e_.symm | exact h_.2.2.2.2.2.2 e_.symm)))
       (case aB => exact (bZ HB))
       (case aF => exact (fun _ _ => trivial))
       (case aO => exact (by (with_reducible repeat (first | apply Kd.S_alloc | apply Kd.S_drewN | apply Kd.S_drew)); exact Kd.S_mono HO158.out (fun k_ hk => ⟨trivial, fun e_ => e_.elim (fun h_ => hk.1.2 h_) (fun h_ => h_.elim (fun h_ => hk.1.1 h_) (fun h_ => hk.2 h_))⟩)))
       (case aS => exact (below_size (bZ HB)))
       (case aL => have := LMc46.out; omega)
       intro v166 w63 ho hb hg hat
       rw [← Ny165.out] at ho
       replace BK128 := Aside0.mk (blk_grown (bP BK128) hg (Kd.S_ne HO158.out BK128.out (by decide)))
       replace BK129 := Aside0.mk (blk_grown (bP BK129) hg (Kd.S_ne HO158.out BK129.out (by decide)))
       replace HB := Aside0.mk (hb)
       have HO167 := Aside0.mk (ho)
       clear HO158 HO161 HO164 HO_3
       clear ho hb hg hat
       obtain ⟨Ao64, co64, eo64⟩ := Kd.S_slice HO167.out
       (first | subst eo64 | (injection eo64 with f1_ f2_ f3_; have f4_ := f1_.symm; have f5_ := f3_.symm; clear f1_ f2_ f3_; subst f4_; subst f5_))
       refine hK.out _ _ (bT3 BK129) (fun hHeld => ?_)
       clear hK K
       refine nO (some 70) ?_
       refine pI 12 (some 71) HT_.out ?_
       refine last_ (i := 13) (N := none) #[true, true, true, true, true, true, true, true, true, true, true, true, true, true] rfl rfl (one_of HT_.out (by kernel_rfl)) (by decide) (fun K hK => ?_)
       have hs65 : w63.cell? ⟨gb129, 2, none⟩ = some (.slice Ao54 y156.length co54) := bc BK129 2
       have hfs65 := blk_frozen BK129.out 2
       obtain ⟨hns65_0, hms65_0⟩ := nB NB128_129
       refine skip_ (w1 := ?_) (by rfl) rfl ?_ ?_
       rotate_left
       ·go_simp
        rfl
       refine hK.out _ _ ?_
       clear hK K
       refine done_ (done_of HT_.out (by kernel_rfl)) ?_
       obtain ⟨hnb66, hnc66⟩ := nB NB129_128
       obtain ⟨hcz67_0, hcz67_1, hcz67_2, hfz67_0, hfz67_1, hfz67_2⟩ := bK3 (w := w63) BK129
       obtain ⟨hcz68_0, hcz68_1, hcz68_2, hfz68_0, hfz68_1, hfz68_2⟩ := bK3 (w := w63) BK128
       try go_wp2
       refine rC gb128 43 #[.int .i64 11, .int .i64 2, .slice Ao64 y165.length co64] (bU BK128) Try.underlying43 ?_
       exact ⟨_, by first | rfl | (simp [errW_none, errW_some] <;> rfl) | (simp [*, errW_none, errW_some] <;> rfl), by (with_reducible repeat (first | apply Kd.S_alloc | apply Kd.S_drewN | apply Kd.S_drew)); exact Kd.S_mono (Kd.S_far (p := ⟨gb128, 2, none⟩) (Kd.S_far (p := ⟨gb128, 1, none⟩) (Kd.S_far (p := ⟨gb128, 0, none⟩) (Kd.S_far (p := ⟨gb129, 2, none⟩) (Kd.S_types (Kd.S_types HO167.out BK129.out (by decide)) BK128.out (by decide)) (fun _ hk => hk.1.2) (.slice Ao64 y165.length co64)) (fun _ hk => hk.2) (.int .i64 11)) (fun _ hk => hk.2) (.int .i64 2)) (fun _ hk => hk.2) (.slice Ao64 y165.length co64)) (fun _ hk => trivial), bZ HB⟩
      ·rw [if_neg c46] at H
       exact absurd H (by simp)
     ·rw [if_neg c43] at H
      exact absurd H (by simp)
 ·rw [if_neg c1] at H
  exact absurd H (by simp)
def spec_l01In.f (a0 : Int) (a1 : Int) (a2 : Int) : Option (Bool) := if a0 ≥ a1 then (some (decide (a0 ≤ a2))) else (some false)
theorem spec_l01In.calls (a0 : Int) (a1 : Int) (a2 : Int) (r : Bool) (w : World) (h : spec_l01In.f a0 a1 a2 = some r) :
  Calls Try.prog 54 #[.int .i64 a0, .int .i64 a1, .int .i64 a2] w fun e w' => e = .returned (.bool r) ∧ Drawn0 w w' := by
 have H : (if a0 ≥ a1 then (some (decide (a0 ≤ a2))) else (some false)) = some r := h
 clear h
 by_cases c4 : a0 ≥ a1
 ·rw [if_pos c4] at H
  have c4b0 := decide_eq_true c4
  clear c4
  obtain rfl := Option.some.inj H
  go_enter Try.func54, Try.ntmps54
  go_wp2
  go_ret
  exact ⟨rS, rD⟩
 ·rw [if_neg c4] at H
  have c4b0 := decide_eq_false c4
  clear c4
  obtain rfl := Option.some.inj H
  go_enter Try.func54, Try.ntmps54
  go_wp2
  go_ret
  exact ⟨rS, rD⟩
def spec_l13Wide.l0 : Nat → List Int → Int → Int → Option (Bool)
 | 0, _, _, _ => none
 | k + 1, x0, x1, x5 => if x5 < (x0.length : Int) then (if 0 ≤ x5 then ((spec_l01In.f (rd x0 x5) 0 1008).bind fun t169 => (if t169 = true then (spec_l13Wide.l0 k x0 x1 (wrap64 (x5 + 1))) else (some false))) else (none)) else (some ((x0.length : Int) == x1))
def spec_l13Wide.f (k : Nat) (l0 : List Int) (a1 : Int) : Option (Bool) := spec_l13Wide.l0 k l0 a1 0
theorem spec_l13Wide.calls (k : Nat) (A0 : Option Addr) (c0 : Nat) (l0 : List Int) (a1 : Int) (r : Bool) (w : World) (hr0 : Kd.C (Kd.int .i64) w A0 l0.length l0) (hc0 : l0.length ≤ c0) (h : spec_l13Wide.f k l0 a1 = some r) :
  Calls Try.prog 72 #[.slice A0 l0.length c0, .int .i64 a1] w fun e w' => e = .returned (.bool r) ∧ Drawn0 w w' := by
 have HR0 := Aside0.mk hr0
 have HC0 := Aside0.mk hc0
 clear hr0 hc0
 have H : (spec_l13Wide.l0 k l0 a1 0) = some r := h
 clear h
 have H' := Aside0.mk H
 clear H
 go_enter Try.func72, Try.ntmps72
 go_wp2
 go_loopg [5] k (fun kq v5 w' => ∃ (x5_1 : Int), v5 = .int .i64 x5_1 ∧ Aside0 (spec_l13Wide.l0 kq l0 a1 x5_1 = some r) ∧ Aside0 (kq ≤ k) ∧ Drawn0 w w')
 case atStart => exact ⟨(0), rS, H', ⟨Nat.le_refl _⟩, by repeat (first | exact Drawn0.refl _ | apply Drawn0.step)⟩
 case round =>
  clear H'
  try clear p2
  obtain ⟨x5_1, rfl, HA, HK1, ⟨m1, rfl⟩⟩ := hrel
  cases gk with
  | zero => exact absurd HA.out (by simp [spec_l13Wide.l0])
  | succ k1 =>
   have H := HA.out
   clear HA
   simp only [spec_l13Wide.l0] at H
   by_cases c3 : x5_1 < (l0.length : Int)
   ·rw [if_pos c3] at H
    have c3b0 := decide_eq_true c3
    clear c3
    by_cases c4 : 0 ≤ x5_1
    ·rw [if_pos c4] at H
     have c4b0 := decide_eq_true c4
     clear c4
     replace H := Option.bind_eq_some_iff.mp H
     obtain ⟨t169, A50, H⟩ := H
     have A5 := Aside0.mk A50
     clear A50
     by_cases c6 : t169 = true
     ·subst c6
      rw [if_pos rfl] at H
      have H' := Aside0.mk H
      clear H
      have p168 : 0 ≤ (x5_1 : Int) := of_decide_eq_true (by first | (with_reducible assumption) | assumption)
      have q168 : x5_1 < (l0.length : Int) := of_decide_eq_true (by first | (with_reducible assumption) | assumption)
      obtain ⟨ad168, e168, hx168_0⟩ := Kd.at_int HR0.out x5_1 p168 q168
      cases e168
      replace p168 := eq_true p168
      replace q168 := eq_true q168
      go_wp2_with (first | (refine gC (some 16) Try.func54 #[.int .i64 (rd l0 x5_1), .int .i64 0, .int .i64 1008] ?_; (with_reducible refine (spec_l01In.calls (rd l0 x5_1) 0 1008 true _ A5.out).mono ?_); rintro e w' ⟨rfl, ⟨nd, rfl⟩⟩; refine ⟨_, rfl, ?_⟩))
      go_roundg k1
      case measure => have := HK1.out; omega
      case rel => exact ⟨(wrap64 (x5_1 + 1)), rS, H', ⟨by have := HK1.out; omega⟩, by repeat (first | exact Drawn0.refl _ | apply Drawn0.step)⟩
     ·replace c6 := Bool.eq_false_iff.mpr c6
      subst c6
      rw [if_neg (show ¬ (false = true) by decide)] at H
      obtain rfl := Option.some.inj H
      have p168 : 0 ≤ (x5_1 : Int) := of_decide_eq_true (by first | (with_reducible assumption) | assumption)
      have q168 : x5_1 < (l0.length : Int) := of_decide_eq_true (by first | (with_reducible assumption) | assumption)
      obtain ⟨ad168, e168, hx168_0⟩ := Kd.at_int HR0.out x5_1 p168 q168
      cases e168
      replace p168 := eq_true p168
      replace q168 := eq_true q168
      go_wp2_with (first | (refine gC (some 16) Try.func54 #[.int .i64 (rd l0 x5_1), .int .i64 0, .int .i64 1008] ?_; (with_reducible refine (spec_l01In.calls (rd l0 x5_1) 0 1008 false _ A5.out).mono ?_); rintro e w' ⟨rfl, ⟨nd, rfl⟩⟩; refine ⟨_, rfl, ?_⟩))
      go_ret
      exact ⟨rS, rD⟩
    ·rw [if_neg c4] at H
     exact absurd H (by simp)
   ·rw [if_neg c3] at H
    have c3b0 := decide_eq_false c3
    clear c3
    obtain rfl := Option.some.inj H
    go_wp2
    go_ret
    exact ⟨rS, rD⟩
end Go.Proofs.Ythdpfjkdpeamnaa.Pf
end
section
namespace Go.Proofs.Ythdpfjkdpeamnaa.Pf
open Go.RowKit Go.Proofs.YthdpfjkdpeamnaaW.PrintWords Go.Proofs.YthdpfjkdpeamnaaW.PrintLast Go.Proofs.YthdpfjkdpeamnaaW.PrintMore
attribute [local go_sem] max2_int min2_int max_two min_two max_three min_three max_four min_four
set_option linter.unusedVariables false
set_option linter.unusedSimpArgs false
set_option maxHeartbeats 8000000
set_option maxRecDepth 100000
mutual
def spec_SystemOk.j0 : Nat → Bool → Int → Int → List (S75) → Option (Bool)
 | 0, _, _, _, _ => none
 | k + 1, x23, x171000, x171001, x171002 => if x23 = true then (some false) else (spec_SystemOk.l0 k 0 x171000 x171001 x171002)
def spec_SystemOk.l0 : Nat → Int → Int → Int → List (S75) → Option (Bool)
 | 0, _, _, _, _ => none
 | k + 1, x3, x171000, x171001, x171002 => if x3 < (x171002.length : Int) then (if 0 ≤ x3 then ((spec_l13Wide.f k ((rd_T75 x171002 x3).f0) x171000).bind fun t175 => (if t175 = true then ((spec_l13Wide.f k ((rd_T75 x171002 x3).f1) x171000).bind fun t177 => (if t177 = true then ((spec_l13Wide.f k ((rd_T75 x171002 x3).f2) x171000).bind fun t179 => (if t179 = true then (spec_SystemOk.l0 k (wrap64 (x3 + 1)) x171000 x171001 x171002) else (some false))) else (some false))) else (some false))) else (none)) else (some true)
end
def spec_SystemOk.f (k : Nat) (a0_0 : Int) (a0_1 : Int) (l0_2 : List (S75)) : Option (Bool) := (spec_l01In.f a0_0 1 20).bind fun t171 => (if t171 = true then ((spec_l01In.f a0_1 0 (wrap64 (a0_0 - 1))).bind fun t172 => (if t172 = true then ((spec_l01In.f (l0_2.length : Int) 1 16).bind fun t173 => (spec_SystemOk.j0 k (!t173) a0_0 a0_1 l0_2)) else (spec_SystemOk.j0 k true a0_0 a0_1 l0_2))) else (spec_SystemOk.j0 k true a0_0 a0_1 l0_2))
def spec_SystemOk.T6 : Bool × List (List Nat × List Nat) := (true, [([], []), ([0], [0]), ([], []), ([1, 2], [1, 2]), ([3], [3]), ([4], [4]), ([], []), ([6], [6]), ([5, 7], [5, 7]), ([8], [8]), ([9, 8], [9]), ([10], [10]), ([11, 10], [10, 11]), ([10], [10]), ([12, 13, 10], [10, 12, 13]), ([14, 10], [10, 14]), ([15, 10], [10, 15]), ([10], [10]), ([17, 10], [10, 17]), ([16, 18, 10, 10], [10, 16, 18]), ([19, 10], [10, 19]), ([10, 20], [10, 20]), ([21, 19], [21]), ([22], [22]), ([23, 22], [22, 23]), ([22], [22]), ([24, 25, 22], [22, 24, 25]), ([26, 22], [22, 26]), ([27, 22], [22, 27]), ([22], [22]), ([29, 22], [22, 29]), ([28, 30, 22, 22], [22, 28, 30]), ([31, 22], [22, 31]), ([22, 32], [22, 32])])
def spec_SystemOk.B6 : List Nat := [0, 1, 0, 7, 15, 31, 0, 64, 255, 511, 1023, 2047, 4095, 2047, 16383, 32767, 65535, 2047, 133119, 524287, 1048575, 2097151, 4194303, 8388607, 16777215, 8388607, 67108863, 134217727, 268435455, 8388607, 545259519, 2147483647, 4294967295, 8589934591]
theorem spec_SystemOk.tab6 : rtab .any (opsOf Try.f43 6) = spec_SystemOk.T6 := by kernel_rfl
theorem spec_SystemOk.bits6 : waitsOk spec_SystemOk.T6.2 spec_SystemOk.B6 = true := by kernel_rfl
theorem spec_SystemOk.calls (k : Nat) (a0_0 : Int) (a0_1 : Int) (A0_2 : Option Addr) (c0_2 : Nat) (l0_2 : List (S75)) (r : Bool) (w : World) (hr0_2 : Kd.C k75 w A0_2 l0_2.length l0_2) (hc0_2 : l0_2.length ≤ c0_2) (h : spec_SystemOk.f k a0_0 a0_1 l0_2 = some r) :
  Calls Try.prog 43 #[.agg #[.int .i64 a0_0, .int .i64 a0_1, .slice A0_2 l0_2.length c0_2]] w fun e w' => e = .returned (.bool r) ∧ Below w.heap.size w w' := by
 have hu43 := Try.underlying43
 have HR0_2 := Aside0.mk hr0_2
 have HC0_2 := Aside0.mk hc0_2
 clear hr0_2 hc0_2
 have HB := Aside0.mk (Below.refl w.heap.size w)
 have H : ((spec_l01In.f a0_0 1 20).bind fun t171 => (if t171 = true then ((spec_l01In.f a0_1 0 (wrap64 (a0_0 - 1))).bind fun t172 => (if t172 = true then ((spec_l01In.f (l0_2.length : Int) 1 16).bind fun t173 => (spec_SystemOk.j0 k (!t173) a0_0 a0_1 l0_2)) else (spec_SystemOk.j0 k true a0_0 a0_1 l0_2))) else (spec_SystemOk.j0 k true a0_0 a0_1 l0_2))) = some r := h
 clear h
 have HC2 := Aside0.mk H
 clear H
 go_enter Try.func43, Try.ntmps43
 go_upto_region 1 with (first | ((with_reducible refine gate_dst (N := 1) rfl ?_); (try (refine gate_guard (by rfl) ?_; dsimp only)); refine box_event ?hg (N := 1) ?hd (cs := #[.int .i64 a0_0, .int .i64 a0_1, .slice A0_2 l0_2.length c0_2]) (t := 43) ?hr ?_; (case hd => rfl); (case hg => rfl); (case hr => first | (go_simp; done) | (go_simp; rfl)); intro gb170 hg w3 hbox hb; have BK170 := Aside0.mk (hbox); have GW170 := bG HB hg; replace HB := bS HB hb; clear hb hbox hg))
 (try simp only [Act.put, List.setIfInBounds_toArray, List.set_cons_zero, List.set_cons_succ])
 go_cut [23] (fun v23 wc => ∃ (kq : Nat) (x23_1 : Bool), v23 = .bool x23_1 ∧ Aside0 (spec_SystemOk.j0 kq x23_1 a0_0 a0_1 l0_2 = some r) ∧ Aside0 (kq ≤ k) ∧ Aside0 (wc.heap[gb170]? = some (.cells #[.int .i64 a0_0, .int .i64 a0_1, (.slice A0_2 l0_2.length c0_2)] 43 (0, 0))) ∧ Aside0 (Below w.heap.size w wc))
 case first =>
  have H := HC2.out
  clear HC2
  replace H := Option.bind_eq_some_iff.mp H
  obtain ⟨t171, A40, H⟩ := H
  have A4 := Aside0.mk A40
  clear A40
  by_cases c5 : t171 = true
  ·subst c5
   rw [if_pos rfl] at H
   replace H := Option.bind_eq_some_iff.mp H
   obtain ⟨t172, A60, H⟩ := H
   have A6 := Aside0.mk A60
   clear A60
   by_cases c7 : t172 = true
   ·subst c7
    rw [if_pos rfl] at H
    replace H := Option.bind_eq_some_iff.mp H
    obtain ⟨t173, A80, H⟩ := H
    have A8 := Aside0.mk A80
    clear A80
    have H' := Aside0.mk H
    clear H
    obtain ⟨hcz9_0, hcz9_1, hcz9_2, hfz9_0, hfz9_1, hfz9_2⟩ := bK3 (w := w3) BK170
    go_wp2_with (first | (refine gC (some 6) Try.func54 #[.int .i64 a0_0, .int .i64 1, .int .i64 20] ?_; (with_reducible refine (spec_l01In.calls a0_0 1 20 true _ A4.out).mono ?_); rintro e w' ⟨rfl, ⟨nd, rfl⟩⟩; refine ⟨_, rfl, ?_⟩) | (go_at_call 54; (with_reducible refine (spec_l01In.calls a0_1 0 (wrap64 (a0_0 - 1)) true _ A6.out).mono ?_); rintro e w' ⟨rfl, ⟨nd, rfl⟩⟩) | (go_at_call 54; (with_reducible refine (spec_l01In.calls (l0_2.length : Int) 1 16 t173 _ A8.out).mono ?_); rintro e w' ⟨rfl, ⟨nd, rfl⟩⟩))
    go_meet
    case rel => exact ⟨_, (!t173), rS, H', ⟨by first | omega | exact Nat.le_refl _⟩, ⟨bP BK170⟩, ⟨bZ HB⟩⟩
   ·replace c7 := Bool.eq_false_iff.mpr c7
    subst c7
    rw [if_neg (show ¬ (false = true) by decide)] at H
    have H' := Aside0.mk H
    clear H
    obtain ⟨hcz10_0, hcz10_1, hcz10_2, hfz10_0, hfz10_1, hfz10_2⟩ := bK3 (w := w3) BK170
    go_wp2_with (first | (refine gC (some 6) Try.func54 #[.int .i64 a0_0, .int .i64 1, .int .i64 20] ?_; (with_reducible refine (spec_l01In.calls a0_0 1 20 true _ A4.out).mono ?_); rintro e w' ⟨rfl, ⟨nd, rfl⟩⟩; refine ⟨_, rfl, ?_⟩) | (go_at_call 54; (with_reducible refine (spec_l01In.calls a0_1 0 (wrap64 (a0_0 - 1)) false _ A6.out).mono ?_); rintro e w' ⟨rfl, ⟨nd, rfl⟩⟩))
    go_meet
    case rel => exact ⟨_, (true), rS, H', ⟨by first | omega | exact Nat.le_refl _⟩, ⟨bP BK170⟩, ⟨bZ HB⟩⟩
  ·replace c5 := Bool.eq_false_iff.mpr c5
   subst c5
   rw [if_neg (show ¬ (false = true) by decide)] at H
   have H' := Aside0.mk H
   clear H
   obtain ⟨hcz11_0, hcz11_1, hcz11_2, hfz11_0, hfz11_1, hfz11_2⟩ := bK3 (w := w3) BK170
   go_wp2_with (first | (refine gC (some 6) Try.func54 #[.int .i64 a0_0, .int .i64 1, .int .i64 20] ?_; (with_reducible refine (spec_l01In.calls a0_0 1 20 false _ A4.out).mono ?_); rintro e w' ⟨rfl, ⟨nd, rfl⟩⟩; refine ⟨_, rfl, ?_⟩))
   go_meet
   case rel => exact ⟨_, (true), rS, H', ⟨by first | omega | exact Nat.le_refl _⟩, ⟨bP BK170⟩, ⟨bZ HB⟩⟩
 case rest =>
  clear HC2
  try clear p2
  try clear c4
  try clear c5
  try clear p6
  try clear c7
  try clear hcz10_0
  try clear hcz10_1
  try clear hcz10_2
  try clear hcz11_0
  try clear hcz11_1
  try clear hcz11_2
  try clear hcz9_0
  try clear hcz9_1
  try clear hcz9_2
  try clear hfz10_0
  try clear hfz10_1
  try clear hfz10_2
  try clear hfz11_0
  try clear hfz11_1
  try clear hfz11_2
  try clear hfz9_0
  try clear hfz9_1
  try clear hfz9_2
  obtain ⟨kq, x23_1, rfl, HA, HJ1, BK170, HB⟩ := hcut
  cases kq with
  | zero => exact absurd HA.out (by simp [spec_SystemOk.j0])
  | succ kj1 =>
   have H := HA.out
   clear HA
   simp only [spec_SystemOk.j0] at H
   by_cases c12 : x23_1 = true
   ·subst c12
    rw [if_pos rfl] at H
    obtain rfl := Option.some.inj H
    go_wp2
    go_ret
    exact ⟨rR, bZ HB⟩
   ·replace c12 := Bool.eq_false_iff.mpr c12
    subst c12
    rw [if_neg (show ¬ (false = true) by decide)] at H
    have H' := Aside0.mk H
    clear H
    go_wp2
    go_loopg [3] kj1 (fun kq v3 w' => ∃ (x3_2 : Int), v3 = .int .i64 x3_2 ∧ Aside0 (spec_SystemOk.l0 kq x3_2 a0_0 a0_1 l0_2 = some r) ∧ Aside0 (kq ≤ kj1) ∧ Aside0 (w'.heap[gb170]? = some (.cells #[.int .i64 a0_0, .int .i64 a0_1, (.slice A0_2 l0_2.length c0_2)] 43 (0, 0))) ∧ Aside0 (Below w.heap.size w w'))
    case atStart => exact ⟨(0), rS, H', ⟨Nat.le_refl _⟩, ⟨bP BK170⟩, ⟨bZ HB⟩⟩
    case round =>
     clear H'
     try clear c1
     try clear p2
     try clear c4
     try clear c5
     try clear p6
     try clear c7
     try clear c12
     try clear hcz10_0
     try clear hcz10_1
     try clear hcz10_2
     try clear hcz11_0
     try clear hcz11_1
     try clear hcz11_2
     try clear hcz9_0
     try clear hcz9_1
     try clear hcz9_2
     try clear hfz10_0
     try clear hfz10_1
     try clear hfz10_2
     try clear hfz11_0
     try clear hfz11_1
     try clear hfz11_2
     try clear hfz9_0
     try clear hfz9_1
     try clear hfz9_2
     try clear p2
     try clear p6
     obtain ⟨x3_2, rfl, HA, HK2, BK170, HB⟩ := hrel
     cases gk with
     | zero => exact absurd HA.out (by simp [spec_SystemOk.l0])
     | succ k2 =>
      have H := HA.out
      clear HA
      simp only [spec_SystemOk.l0] at H
      by_cases c13 : x3_2 < (l0_2.length : Int)
      ·rw [if_pos c13] at H
       have c13b0 := decide_eq_true c13
       clear c13
       by_cases c14 : 0 ≤ x3_2
       ·rw [if_pos c14] at H
        have c14b0 := decide_eq_true c14
        clear c14
        replace H := Option.bind_eq_some_iff.mp H
        obtain ⟨t175, A150, H⟩ := H
        have A15 := Aside0.mk A150
        clear A150
        by_cases c16 : t175 = true
        ·subst c16
         rw [if_pos rfl] at H
         replace H := Option.bind_eq_some_iff.mp H
         obtain ⟨t177, A170, H⟩ := H
         have A17 := Aside0.mk A170
         clear A170
         by_cases c18 : t177 = true
         ·subst c18
          rw [if_pos rfl] at H
          replace H := Option.bind_eq_some_iff.mp H
          obtain ⟨t179, A190, H⟩ := H
          have A19 := Aside0.mk A190
          clear A190
          by_cases c20 : t179 = true
          ·subst c20
           rw [if_pos rfl] at H
           have H' := Aside0.mk H
           clear H
           obtain ⟨hcz21_0, hcz21_1, hcz21_2, hfz21_0, hfz21_1, hfz21_2⟩ := bK3 (w := wr) BK170
           try go_wp2
           replace BK170 := Aside0.mk (blk_drew BK170.out)
           replace HB := Aside0.mk (below_drew1 HB.out)
           have p174 : 0 ≤ (x3_2 : Int) := of_decide_eq_true (by first | (with_reducible assumption) | assumption)
           have q174 : x3_2 < (l0_2.length : Int) := of_decide_eq_true (by first | (with_reducible assumption) | assumption)
           obtain ⟨ad174, A174_0, c174_0, A174_1, c174_1, A174_2, c174_2, e174, hx174_0, hx174_1, hx174_2, hl174_0, hi174_0, hl174_1, hi174_1, hl174_2, hi174_2⟩ := at_T75 HR0_2.out x3_2 p174 q174
           have hw174_2 := hx174_2
           have hw174_1 := hx174_1
           have hw174_0 := hx174_0
           cases e174
           replace hx174_0 := (hC HB hx174_0 :)
           replace hx174_1 := (hC HB hx174_1 :)
           replace hx174_2 := (hC HB hx174_2 :)
           have HR174_0 := Aside0.mk hi174_0
           have HC174_0 := Aside0.mk hl174_0
           clear hi174_0 hl174_0
           have HR174_1 := Aside0.mk hi174_1
           have HC174_1 := Aside0.mk hl174_1
           clear hi174_1 hl174_1
           have HR174_2 := Aside0.mk hi174_2
           have HC174_2 := Aside0.mk hl174_2
           clear hi174_2 hl174_2
           replace p174 := eq_true p174
           replace q174 := eq_true q174
           have p176 : 0 ≤ (x3_2 : Int) := of_decide_eq_true (by first | (with_reducible assumption) | assumption)
           have q176 : x3_2 < (l0_2.length : Int) := of_decide_eq_true (by first | (with_reducible assumption) | assumption)
           obtain ⟨ad176, A176_0, c176_0, A176_1, c176_1, A176_2, c176_2, e176, hx176_0, hx176_1, hx176_2, hl176_0, hi176_0, hl176_1, hi176_1, hl176_2, hi176_2⟩ := at_T75 HR0_2.out x3_2 p176 q176
           have hw176_2 := hx176_2
           have hw176_1 := hx176_1
           have hw176_0 := hx176_0
           obtain rfl : ad174 = ad176 := (by injection e176)
           replace hx176_0 := (hC HB hx176_0 :)
           replace hx176_1 := (hC HB hx176_1 :)
           replace hx176_2 := (hC HB hx176_2 :)
           have HR176_0 := Aside0.mk hi176_0
           have HC176_0 := Aside0.mk hl176_0
           clear hi176_0 hl176_0
           have HR176_1 := Aside0.mk hi176_1
           have HC176_1 := Aside0.mk hl176_1
           clear hi176_1 hl176_1
           have HR176_2 := Aside0.mk hi176_2
           have HC176_2 := Aside0.mk hl176_2
           clear hi176_2 hl176_2
           replace p176 := eq_true p176
           replace q176 := eq_true q176
           have ea_ := Option.some.inj (hx174_0.symm.trans hx176_0)
           injection ea_ with ea_ en_ ec_
           subst ea_
           subst ec_
           clear en_
           have ea_ := Option.some.inj (hx174_1.symm.trans hx176_1)
           injection ea_ with ea_ en_ ec_
           subst ea_
           subst ec_
           clear en_
           have ea_ := Option.some.inj (hx174_2.symm.trans hx176_2)
           injection ea_ with ea_ en_ ec_
           subst ea_
           subst ec_
           clear en_
           have p178 : 0 ≤ (x3_2 : Int) := of_decide_eq_true (by first | (with_reducible assumption) | assumption)
           have q178 : x3_2 < (l0_2.length : Int) := of_decide_eq_true (by first | (with_reducible assumption) | assumption)
           obtain ⟨ad178, A178_0, c178_0, A178_1, c178_1, A178_2, c178_2, e178, hx178_0, hx178_1, hx178_2, hl178_0, hi178_0, hl178_1, hi178_1, hl178_2, hi178_2⟩ := at_T75 HR0_2.out x3_2 p178 q178
           have hw178_2 := hx178_2
           have hw178_1 := hx178_1
           have hw178_0 := hx178_0
           obtain rfl : ad174 = ad178 := (by injection e178)
           replace hx178_0 := (hC HB hx178_0 :)
           replace hx178_1 := (hC HB hx178_1 :)
           replace hx178_2 := (hC HB hx178_2 :)
           have HR178_0 := Aside0.mk hi178_0
           have HC178_0 := Aside0.mk hl178_0
           clear hi178_0 hl178_0
           have HR178_1 := Aside0.mk hi178_1
           have HC178_1 := Aside0.mk hl178_1
           clear hi178_1 hl178_1
           have HR178_2 := Aside0.mk hi178_2
           have HC178_2 := Aside0.mk hl178_2
           clear hi178_2 hl178_2
           replace p178 := eq_true p178
           replace q178 := eq_true q178
           have ea_ := Option.some.inj (hx174_0.symm.trans hx178_0)
           injection ea_ with ea_ en_ ec_
           subst ea_
           subst ec_
           clear en_
           have ea_ := Option.some.inj (hx174_1.symm.trans hx178_1)
           injection ea_ with ea_ en_ ec_
           subst ea_
           subst ec_
           clear en_
           have ea_ := Option.some.inj (hx174_2.symm.trans hx178_2)
           injection ea_ with ea_ en_ ec_
           subst ea_
           subst ec_
           clear en_
           refine start_ (n := 34) (S := fun w' => w'.cell? ⟨gb170, 0, none⟩ = some (.int .i64 a0_0) ∧ w'.cell? ⟨gb170, 1, none⟩ = some (.int .i64 a0_1) ∧ w'.cell? ⟨gb170, 2, none⟩ = some (.slice (some ad174) l0_2.length c0_2) ∧ w'.cell? (ad174.add ((x3_2).toNat * 3)) = some (.slice A174_0 ((rd_T75 l0_2 x3_2).f0).length c174_0) ∧ w'.cell? ⟨(ad174.add ((x3_2).toNat * 3)).block, (ad174.add ((x3_2).toNat * 3)).off + 1, none⟩ = some (.slice A174_1 ((rd_T75 l0_2 x3_2).f1).length c174_1) ∧ w'.cell? ⟨(ad174.add ((x3_2).toNat * 3)).block, (ad174.add ((x3_2).toNat * 3)).off + 2, none⟩ = some (.slice A174_2 ((rd_T75 l0_2 x3_2).f2).length c174_2) ∧ w'.cell? (ad174.add ((x3_2).toNat * 3)) = some (.slice A174_0 ((rd_T75 l0_2 x3_2).f0).length c174_0) ∧ w'.cell? ⟨(ad174.add ((x3_2).toNat * 3)).block, (ad174.add ((x3_2).toNat * 3)).off + 1, none⟩ = some (.slice A174_1 ((rd_T75 l0_2 x3_2).f1).length c174_1) ∧ w'.cell? ⟨(ad174.add ((x3_2).toNat * 3)).block, (ad174.add ((x3_2).toNat * 3)).off + 2, none⟩ = some (.slice A174_2 ((rd_T75 l0_2 x3_2).f2).length c174_2) ∧ w'.cell? (ad174.add ((x3_2).toNat * 3)) = some (.slice A174_0 ((rd_T75 l0_2 x3_2).f0).length c174_0) ∧ w'.cell? ⟨(ad174.add ((x3_2).toNat * 3)).block, (ad174.add ((x3_2).toNat * 3)).off + 1, none⟩ = some (.slice A174_1 ((rd_T75 l0_2 x3_2).f1).length c174_1) ∧ w'.cell? ⟨(ad174.add ((x3_2).toNat * 3)).block, (ad174.add ((x3_2).toNat * 3)).off + 2, none⟩ = some (.slice A174_2 ((rd_T75 l0_2 x3_2).f2).length c174_2)) (ds := []) #[false, false, false, false, false, false, false, false, false, false, false, false, false, false, false, false, false, false, false, false, false, false, false, false, false, false, false, false, false, false, false, false, false, false] (by kernel_rfl) rfl rfl ⟨bc BK170 0, bc BK170 1, bc BK170 2, ((hC HB hw174_0 :)), ((hC HB hw174_1 :)), ((hC HB hw174_2 :)), ((hC HB hw176_0 :)), ((hC HB hw176_1 :)), ((hC HB hw176_2 :)), ((hC HB hw178_0 :)), ((hC HB hw178_1 :)), ((hC HB hw178_2 :))⟩ (fun hHeld => ?_); refine with_tabW spec_SystemOk.tab6 spec_SystemOk.bits6 (fun HT_ HW_ => ?_)
           generalize wr.drew = w22 at BK170 HB HR174_0 HR174_1 HR174_2 HR176_0 HR176_1 HR176_2 HR178_0 HR178_1 HR178_2 hx174_0 hx174_1 hx174_2 hx176_0 hx176_1 hx176_2 hx178_0 hx178_1 hx178_2 hHeld ⊢
           refine pI 0 (some 31) HT_.out ?_
           refine pI 2 (some 33) HT_.out ?_
           refine pI 6 (some 37) HT_.out ?_
           refine tI12 1 (some 32) HT_.out HW_.out hHeld ?_
           refine pI 3 (some 34) HT_.out ?_
           refine pI 4 (some 35) HT_.out ?_
           refine tI12 5 (some 36) HT_.out HW_.out hHeld ?_
           refine tI12 7 (some 38) HT_.out HW_.out hHeld ?_
           refine oI 8 (some 39) HT_.out (fun K hK => ?_)
           refine gO Try.func72 #[.slice A174_0 ((rd_T75 l0_2 x3_2).f0).length c174_0, .int .i64 a0_0] ?_
           with_reducible refine (spec_l13Wide.calls k2 _ _ ((rd_T75 l0_2 x3_2).f0) a0_0 true _ ?side1 ?side2 A15.out).mono ?_
           (case side1 => exact cP (Kd.C_below HR174_0.out HB.out))
           (case side2 => exact HC174_0.out)
           rintro e w' ⟨rfl, ⟨nd, rfl⟩⟩
           refine ⟨_, rfl, ?_⟩
           refine hK.out _ _ ⟨bc BK170 0, bc BK170 1, bc BK170 2, ((hC HB hw174_0 :)), ((hC HB hw174_1 :)), ((hC HB hw174_2 :)), ((hC HB hw176_0 :)), ((hC HB hw176_1 :)), ((hC HB hw176_2 :)), ((hC HB hw178_0 :)), ((hC HB hw178_1 :)), ((hC HB hw178_2 :))⟩ (fun hHeld => ?_)
           clear hK K
           refine nO (some 39) ?_
           refine pI 9 (some 40) HT_.out ?_
           refine pI 10 (some 41) HT_.out ?_
           refine pI 11 (some 42) HT_.out ?_
           refine pI 13 (some 44) HT_.out ?_
           refine pI 17 (some 48) HT_.out ?_
           refine tI12 12 (some 43) HT_.out HW_.out hHeld ?_
           refine pI 14 (some 45) HT_.out ?_
           refine pI 15 (some 46) HT_.out ?_
           refine tI12 16 (some 47) HT_.out HW_.out hHeld ?_
           refine tI12 18 (some 49) HT_.out HW_.out hHeld ?_
           refine oI 19 (some 50) HT_.out (fun K hK => ?_)
           refine gO Try.func72 #[.slice A174_1 ((rd_T75 l0_2 x3_2).f1).length c174_1, .int .i64 a0_0] ?_
           with_reducible refine (spec_l13Wide.calls k2 _ _ ((rd_T75 l0_2 x3_2).f1) a0_0 true _ ?side1 ?side2 A17.out).mono ?_
           (case side1 => exact cP (Kd.C_below HR176_1.out (bZ HB)))
           (case side2 => exact HC176_1.out)
           rintro e w' ⟨rfl, ⟨nd, rfl⟩⟩
           refine ⟨_, rfl, ?_⟩
           refine hK.out _ _ ⟨bc BK170 0, bc BK170 1, bc BK170 2, ((hC HB hw174_0 :)), ((hC HB hw174_1 :)), ((hC HB hw174_2 :)), ((hC HB hw176_0 :)), ((hC HB hw176_1 :)), ((hC HB hw176_2 :)), ((hC HB hw178_0 :)), ((hC HB hw178_1 :)), ((hC HB hw178_2 :))⟩ (fun hHeld => ?_)
           clear hK K
           refine nO (some 50) ?_
           refine pI 20 (some 51) HT_.out ?_
           refine pI 21 (some 52) HT_.out ?_
           refine pI 22 (some 53) HT_.out ?_
           refine pI 23 (some 54) HT_.out ?_
           refine pI 25 (some 56) HT_.out ?_
           refine pI 29 (some 60) HT_.out ?_
           refine tI12 24 (some 55) HT_.out HW_.out hHeld ?_
           refine pI 26 (some 57) HT_.out ?_
           refine pI 27 (some 58) HT_.out ?_
           refine tI12 28 (some 59) HT_.out HW_.out hHeld ?_
           refine tI12 30 (some 61) HT_.out HW_.out hHeld ?_
           refine oI 31 (some 62) HT_.out (fun K hK => ?_)
           refine gO Try.func72 #[.slice A174_2 ((rd_T75 l0_2 x3_2).f2).length c174_2, .int .i64 a0_0] ?_
           with_reducible refine (spec_l13Wide.calls k2 _ _ ((rd_T75 l0_2 x3_2).f2) a0_0 true _ ?side1 ?side2 A19.out).mono ?_
           (case side1 => exact cP (Kd.C_below HR178_2.out (bZ HB)))
           (case side2 => exact HC178_2.out)
           rintro e w' ⟨rfl, ⟨nd, rfl⟩⟩
           refine ⟨_, rfl, ?_⟩
           refine hK.out _ _ ⟨bc BK170 0, bc BK170 1, bc BK170 2, ((hC HB hw174_0 :)), ((hC HB hw174_1 :)), ((hC HB hw174_2 :)), ((hC HB hw176_0 :)), ((hC HB hw176_1 :)), ((hC HB hw176_2 :)), ((hC HB hw178_0 :)), ((hC HB hw178_1 :)), ((hC HB hw178_2 :))⟩ (fun hHeld => ?_)
           clear hK K
           refine nO (some 62) ?_
           refine pI 32 (some 63) HT_.out ?_
           refine pI 33 (some 64) HT_.out ?_
           refine done_ (done_of HT_.out (by kernel_rfl)) ?_
           try go_wp2
           go_roundg k2
           case measure => have := HJ1.out; have := HK2.out; omega
           case rel => exact ⟨(wrap64 (x3_2 + 1)), rS, H', ⟨by have := HJ1.out; have := HK2.out; omega⟩, ⟨bP BK170⟩, ⟨bZ HB⟩⟩
          ·replace c20 := Bool.eq_false_iff.mpr c20
           subst c20
           rw [if_neg (show ¬ (false = true) by decide)] at H
           obtain rfl := Option.some.inj H
           obtain ⟨hcz23_0, hcz23_1, hcz23_2, hfz23_0, hfz23_1, hfz23_2⟩ := bK3 (w := wr) BK170
           try go_wp2
           replace BK170 := Aside0.mk (blk_drew BK170.out)
           replace HB := Aside0.mk (below_drew1 HB.out)
           have p174 : 0 ≤ (x3_2 : Int) := of_decide_eq_true (by first | (with_reducible assumption) | assumption)
           have q174 : x3_2 < (l0_2.length : Int) := of_decide_eq_true (by first | (with_reducible assumption) | assumption)
           obtain ⟨ad174, A174_0, c174_0, A174_1, c174_1, A174_2, c174_2, e174, hx174_0, hx174_1, hx174_2, hl174_0, hi174_0, hl174_1, hi174_1, hl174_2, hi174_2⟩ := at_T75 HR0_2.out x3_2 p174 q174
           have hw174_2 := hx174_2
           have hw174_1 := hx174_1
           have hw174_0 := hx174_0
           cases e174
           replace hx174_0 := (hC HB hx174_0 :)
           replace hx174_1 := (hC HB hx174_1 :)
           replace hx174_2 := (hC HB hx174_2 :)
           have HR174_0 := Aside0.mk hi174_0
           have HC174_0 := Aside0.mk hl174_0
           clear hi174_0 hl174_0
           have HR174_1 := Aside0.mk hi174_1
           have HC174_1 := Aside0.mk hl174_1
           clear hi174_1 hl174_1
           have HR174_2 := Aside0.mk hi174_2
           have HC174_2 := Aside0.mk hl174_2
           clear hi174_2 hl174_2
           replace p174 := eq_true p174
           replace q174 := eq_true q174
           have p176 : 0 ≤ (x3_2 : Int) := of_decide_eq_true (by first | (with_reducible assumption) | assumption)
           have q176 : x3_2 < (l0_2.length : Int) := of_decide_eq_true (by first | (with_reducible assumption) | assumption)
           obtain ⟨ad176, A176_0, c176_0, A176_1, c176_1, A176_2, c176_2, e176, hx176_0, hx176_1, hx176_2, hl176_0, hi176_0, hl176_1, hi176_1, hl176_2, hi176_2⟩ := at_T75 HR0_2.out x3_2 p176 q176
           have hw176_2 := hx176_2
           have hw176_1 := hx176_1
           have hw176_0 := hx176_0
           obtain rfl : ad174 = ad176 := (by injection e176)
           replace hx176_0 := (hC HB hx176_0 :)
           replace hx176_1 := (hC HB hx176_1 :)
           replace hx176_2 := (hC HB hx176_2 :)
           have HR176_0 := Aside0.mk hi176_0
           have HC176_0 := Aside0.mk hl176_0
           clear hi176_0 hl176_0
           have HR176_1 := Aside0.mk hi176_1
           have HC176_1 := Aside0.mk hl176_1
           clear hi176_1 hl176_1
           have HR176_2 := Aside0.mk hi176_2
           have HC176_2 := Aside0.mk hl176_2
           clear hi176_2 hl176_2
           replace p176 := eq_true p176
           replace q176 := eq_true q176
           have ea_ := Option.some.inj (hx174_0.symm.trans hx176_0)
           injection ea_ with ea_ en_ ec_
           subst ea_
           subst ec_
           clear en_
           have ea_ := Option.some.inj (hx174_1.symm.trans hx176_1)
           injection ea_ with ea_ en_ ec_
           subst ea_
           subst ec_
           clear en_
           have ea_ := Option.some.inj (hx174_2.symm.trans hx176_2)
           injection ea_ with ea_ en_ ec_
           subst ea_
           subst ec_
           clear en_
           have p178 : 0 ≤ (x3_2 : Int) := of_decide_eq_true (by first | (with_reducible assumption) | assumption)
           have q178 : x3_2 < (l0_2.length : Int) := of_decide_eq_true (by first | (with_reducible assumption) | assumption)
           obtain ⟨ad178, A178_0, c178_0, A178_1, c178_1, A178_2, c178_2, e178, hx178_0, hx178_1, hx178_2, hl178_0, hi178_0, hl178_1, hi178_1, hl178_2, hi178_2⟩ := at_T75 HR0_2.out x3_2 p178 q178
           have hw178_2 := hx178_2
           have hw178_1 := hx178_1
           have hw178_0 := hx178_0
           obtain rfl : ad174 = ad178 := (by injection e178)
           replace hx178_0 := (hC HB hx178_0 :)
           replace hx178_1 := (hC HB hx178_1 :)
           replace hx178_2 := (hC HB hx178_2 :)
           have HR178_0 := Aside0.mk hi178_0
           have HC178_0 := Aside0.mk hl178_0
           clear hi178_0 hl178_0
           have HR178_1 := Aside0.mk hi178_1
           have HC178_1 := Aside0.mk hl178_1
           clear hi178_1 hl178_1
           have HR178_2 := Aside0.mk hi178_2
           have HC178_2 := Aside0.mk hl178_2
           clear hi178_2 hl178_2
           replace p178 := eq_true p178
           replace q178 := eq_true q178
           have ea_ := Option.some.inj (hx174_0.symm.trans hx178_0)
           injection ea_ with ea_ en_ ec_
           subst ea_
           subst ec_
           clear en_
           have ea_ := Option.some.inj (hx174_1.symm.trans hx178_1)
           injection ea_ with ea_ en_ ec_
           subst ea_
           subst ec_
           clear en_
           have ea_ := Option.some.inj (hx174_2.symm.trans hx178_2)
           injection ea_ with ea_ en_ ec_
           subst ea_
           subst ec_
           clear en_
           refine start_ (n := 34) (S := fun w' => w'.cell? ⟨gb170, 0, none⟩ = some (.int .i64 a0_0) ∧ w'.cell? ⟨gb170, 1, none⟩ = some (.int .i64 a0_1) ∧ w'.cell? ⟨gb170, 2, none⟩ = some (.slice (some ad174) l0_2.length c0_2) ∧ w'.cell? (ad174.add ((x3_2).toNat * 3)) = some (.slice A174_0 ((rd_T75 l0_2 x3_2).f0).length c174_0) ∧ w'.cell? ⟨(ad174.add ((x3_2).toNat * 3)).block, (ad174.add ((x3_2).toNat * 3)).off + 1, none⟩ = some (.slice A174_1 ((rd_T75 l0_2 x3_2).f1).length c174_1) ∧ w'.cell? ⟨(ad174.add ((x3_2).toNat * 3)).block, (ad174.add ((x3_2).toNat * 3)).off + 2, none⟩ = some (.slice A174_2 ((rd_T75 l0_2 x3_2).f2).length c174_2) ∧ w'.cell? (ad174.add ((x3_2).toNat * 3)) = some (.slice A174_0 ((rd_T75 l0_2 x3_2).f0).length c174_0) ∧ w'.cell? ⟨(ad174.add ((x3_2).toNat * 3)).block, (ad174.add ((x3_2).toNat * 3)).off + 1, none⟩ = some (.slice A174_1 ((rd_T75 l0_2 x3_2).f1).length c174_1) ∧ w'.cell? ⟨(ad174.add ((x3_2).toNat * 3)).block, (ad174.add ((x3_2).toNat * 3)).off + 2, none⟩ = some (.slice A174_2 ((rd_T75 l0_2 x3_2).f2).length c174_2) ∧ w'.cell? (ad174.add ((x3_2).toNat * 3)) = some (.slice A174_0 ((rd_T75 l0_2 x3_2).f0).length c174_0) ∧ w'.cell? ⟨(ad174.add ((x3_2).toNat * 3)).block, (ad174.add ((x3_2).toNat * 3)).off + 1, none⟩ = some (.slice A174_1 ((rd_T75 l0_2 x3_2).f1).length c174_1) ∧ w'.cell? ⟨(ad174.add ((x3_2).toNat * 3)).block, (ad174.add ((x3_2).toNat * 3)).off + 2, none⟩ = some (.slice A174_2 ((rd_T75 l0_2 x3_2).f2).length c174_2)) (ds := []) #[false, false, false, false, false, false, false, false, false, false, false, false, false, false, false, false, false, false, false, false, false, false, false, false, false, false, false, false, false, false, false, false, false, false] (by kernel_rfl) rfl rfl ⟨bc BK170 0, bc BK170 1, bc BK170 2, ((hC HB hw174_0 :)), ((hC HB hw174_1 :)), ((hC HB hw174_2 :)), ((hC HB hw176_0 :)), ((hC HB hw176_1 :)), ((hC HB hw176_2 :)), ((hC HB hw178_0 :)), ((hC HB hw178_1 :)), ((hC HB hw178_2 :))⟩ (fun hHeld => ?_); refine with_tabW spec_SystemOk.tab6 spec_SystemOk.bits6 (fun HT_ HW_ => ?_)
           generalize wr.drew = w24 at BK170 HB HR174_0 HR174_1 HR174_2 HR176_0 HR176_1 HR176_2 HR178_0 HR178_1 HR178_2 hx174_0 hx174_1 hx174_2 hx176_0 hx176_1 hx176_2 hx178_0 hx178_1 hx178_2 hHeld ⊢
           refine pI 0 (some 31) HT_.out ?_
           refine pI 2 (some 33) HT_.out ?_
           refine pI 6 (some 37) HT_.out ?_
           refine tI12 1 (some 32) HT_.out HW_.out hHeld ?_
           refine pI 3 (some 34) HT_.out ?_
           refine pI 4 (some 35) HT_.out ?_
           refine tI12 5 (some 36) HT_.out HW_.out hHeld ?_
           refine tI12 7 (some 38) HT_.out HW_.out hHeld ?_
           refine oI 8 (some 39) HT_.out (fun K hK => ?_)
           refine gO Try.func72 #[.slice A174_0 ((rd_T75 l0_2 x3_2).f0).length c174_0, .int .i64 a0_0] ?_
           with_reducible refine (spec_l13Wide.calls k2 _ _ ((rd_T75 l0_2 x3_2).f0) a0_0 true _ ?side1 ?side2 A15.out).mono ?_
           (case side1 => exact cP (Kd.C_below HR174_0.out HB.out))
           (case side2 => exact HC174_0.out)
           rintro e w' ⟨rfl, ⟨nd, rfl⟩⟩
           refine ⟨_, rfl, ?_⟩
           refine hK.out _ _ ⟨bc BK170 0, bc BK170 1, bc BK170 2, ((hC HB hw174_0 :)), ((hC HB hw174_1 :)), ((hC HB hw174_2 :)), ((hC HB hw176_0 :)), ((hC HB hw176_1 :)), ((hC HB hw176_2 :)), ((hC HB hw178_0 :)), ((hC HB hw178_1 :)), ((hC HB hw178_2 :))⟩ (fun hHeld => ?_)
           clear hK K
           refine nO (some 39) ?_
           refine pI 9 (some 40) HT_.out ?_
           refine pI 10 (some 41) HT_.out ?_
           refine pI 11 (some 42) HT_.out ?_
           refine pI 13 (some 44) HT_.out ?_
           refine pI 17 (some 48) HT_.out ?_
           refine tI12 12 (some 43) HT_.out HW_.out hHeld ?_
           refine pI 14 (some 45) HT_.out ?_
           refine pI 15 (some 46) HT_.out ?_
           refine tI12 16 (some 47) HT_.out HW_.out hHeld ?_
           refine tI12 18 (some 49) HT_.out HW_.out hHeld ?_
           refine oI 19 (some 50) HT_.out (fun K hK => ?_)
           refine gO Try.func72 #[.slice A174_1 ((rd_T75 l0_2 x3_2).f1).length c174_1, .int .i64 a0_0] ?_
           with_reducible refine (spec_l13Wide.calls k2 _ _ ((rd_T75 l0_2 x3_2).f1) a0_0 true _ ?side1 ?side2 A17.out).mono ?_
           (case side1 => exact cP (Kd.C_below HR176_1.out (bZ HB)))
           (case side2 => exact HC176_1.out)
           rintro e w' ⟨rfl, ⟨nd, rfl⟩⟩
           refine ⟨_, rfl, ?_⟩
           refine hK.out _ _ ⟨bc BK170 0, bc BK170 1, bc BK170 2, ((hC HB hw174_0 :)), ((hC HB hw174_1 :)), ((hC HB hw174_2 :)), ((hC HB hw176_0 :)), ((hC HB hw176_1 :)), ((hC HB hw176_2 :)), ((hC HB hw178_0 :)), ((hC HB hw178_1 :)), ((hC HB hw178_2 :))⟩ (fun hHeld => ?_)
           clear hK K
           refine nO (some 50) ?_
           refine pI 20 (some 51) HT_.out ?_
           refine pI 21 (some 52) HT_.out ?_
           refine pI 22 (some 53) HT_.out ?_
           refine pI 23 (some 54) HT_.out ?_
           refine pI 25 (some 56) HT_.out ?_
           refine pI 29 (some 60) HT_.out ?_
           refine tI12 24 (some 55) HT_.out HW_.out hHeld ?_
           refine pI 26 (some 57) HT_.out ?_
           refine pI 27 (some 58) HT_.out ?_
           refine tI12 28 (some 59) HT_.out HW_.out hHeld ?_
           refine tI12 30 (some 61) HT_.out HW_.out hHeld ?_
           refine oI 31 (some 62) HT_.out (fun K hK => ?_)
           refine gO Try.func72 #[.slice A174_2 ((rd_T75 l0_2 x3_2).f2).length c174_2, .int .i64 a0_0] ?_
           with_reducible refine (spec_l13Wide.calls k2 _ _ ((rd_T75 l0_2 x3_2).f2) a0_0 false _ ?side1 ?side2 A19.out).mono ?_
           (case side1 => exact cP (Kd.C_below HR178_2.out (bZ HB)))
           (case side2 => exact HC178_2.out)
           rintro e w' ⟨rfl, ⟨nd, rfl⟩⟩
           refine ⟨_, rfl, ?_⟩
           refine hK.out _ _ ⟨bc BK170 0, bc BK170 1, bc BK170 2, ((hC HB hw174_0 :)), ((hC HB hw174_1 :)), ((hC HB hw174_2 :)), ((hC HB hw176_0 :)), ((hC HB hw176_1 :)), ((hC HB hw176_2 :)), ((hC HB hw178_0 :)), ((hC HB hw178_1 :)), ((hC HB hw178_2 :))⟩ (fun hHeld => ?_)
           clear hK K
           refine nO (some 62) ?_
           refine pI 32 (some 63) HT_.out ?_
           refine pI 33 (some 64) HT_.out ?_
           refine done_ (done_of HT_.out (by kernel_rfl)) ?_
           try go_wp2
           go_ret
           exact ⟨rR, bZ HB⟩
         ·replace c18 := Bool.eq_false_iff.mpr c18
          subst c18
          rw [if_neg (show ¬ (false = true) by decide)] at H
          obtain rfl := Option.some.inj H
          obtain ⟨hcz25_0, hcz25_1, hcz25_2, hfz25_0, hfz25_1, hfz25_2⟩ := bK3 (w := wr) BK170
          try go_wp2
          replace BK170 := Aside0.mk (blk_drew BK170.out)
          replace HB := Aside0.mk (below_drew1 HB.out)
          have p174 : 0 ≤ (x3_2 : Int) := of_decide_eq_true (by first | (with_reducible assumption) | assumption)
          have q174 : x3_2 < (l0_2.length : Int) := of_decide_eq_true (by first | (with_reducible assumption) | assumption)
          obtain ⟨ad174, A174_0, c174_0, A174_1, c174_1, A174_2, c174_2, e174, hx174_0, hx174_1, hx174_2, hl174_0, hi174_0, hl174_1, hi174_1, hl174_2, hi174_2⟩ := at_T75 HR0_2.out x3_2 p174 q174
          have hw174_2 := hx174_2
          have hw174_1 := hx174_1
          have hw174_0 := hx174_0
          cases e174
          replace hx174_0 := (hC HB hx174_0 :)
          replace hx174_1 := (hC HB hx174_1 :)
          replace hx174_2 := (hC HB hx174_2 :)
          have HR174_0 := Aside0.mk hi174_0
          have HC174_0 := Aside0.mk hl174_0
          clear hi174_0 hl174_0
          have HR174_1 := Aside0.mk hi174_1
          have HC174_1 := Aside0.mk hl174_1
          clear hi174_1 hl174_1
          have HR174_2 := Aside0.mk hi174_2
          have HC174_2 := Aside0.mk hl174_2
          clear hi174_2 hl174_2
          replace p174 := eq_true p174
          replace q174 := eq_true q174
          have p176 : 0 ≤ (x3_2 : Int) := of_decide_eq_true (by first | (with_reducible assumption) | assumption)
          have q176 : x3_2 < (l0_2.length : Int) := of_decide_eq_true (by first | (with_reducible assumption) | assumption)
          obtain ⟨ad176, A176_0, c176_0, A176_1, c176_1, A176_2, c176_2, e176, hx176_0, hx176_1, hx176_2, hl176_0, hi176_0, hl176_1, hi176_1, hl176_2, hi176_2⟩ := at_T75 HR0_2.out x3_2 p176 q176
          have hw176_2 := hx176_2
          have hw176_1 := hx176_1
          have hw176_0 := hx176_0
          obtain rfl : ad174 = ad176 := (by injection e176)
          replace hx176_0 := (hC HB hx176_0 :)
          replace hx176_1 := (hC HB hx176_1 :)
          replace hx176_2 := (hC HB hx176_2 :)
          have HR176_0 := Aside0.mk hi176_0
          have HC176_0 := Aside0.mk hl176_0
          clear hi176_0 hl176_0
          have HR176_1 := Aside0.mk hi176_1
          have HC176_1 := Aside0.mk hl176_1
          clear hi176_1 hl176_1
          have HR176_2 := Aside0.mk hi176_2
          have HC176_2 := Aside0.mk hl176_2
          clear hi176_2 hl176_2
          replace p176 := eq_true p176
          replace q176 := eq_true q176
          have ea_ := Option.some.inj (hx174_0.symm.trans hx176_0)
          injection ea_ with ea_ en_ ec_
          subst ea_
          subst ec_
          clear en_
          have ea_ := Option.some.inj (hx174_1.symm.trans hx176_1)
          injection ea_ with ea_ en_ ec_
          subst ea_
          subst ec_
          clear en_
          have ea_ := Option.some.inj (hx174_2.symm.trans hx176_2)
          injection ea_ with ea_ en_ ec_
          subst ea_
          subst ec_
          clear en_
          refine start_ (n := 34) (S := fun w' => w'.cell? ⟨gb170, 0, none⟩ = some (.int .i64 a0_0) ∧ w'.cell? ⟨gb170, 1, none⟩ = some (.int .i64 a0_1) ∧ w'.cell? ⟨gb170, 2, none⟩ = some (.slice (some ad174) l0_2.length c0_2) ∧ w'.cell? (ad174.add ((x3_2).toNat * 3)) = some (.slice A174_0 ((rd_T75 l0_2 x3_2).f0).length c174_0) ∧ w'.cell? ⟨(ad174.add ((x3_2).toNat * 3)).block, (ad174.add ((x3_2).toNat * 3)).off + 1, none⟩ = some (.slice A174_1 ((rd_T75 l0_2 x3_2).f1).length c174_1) ∧ w'.cell? ⟨(ad174.add ((x3_2).toNat * 3)).block, (ad174.add ((x3_2).toNat * 3)).off + 2, none⟩ = some (.slice A174_2 ((rd_T75 l0_2 x3_2).f2).length c174_2) ∧ w'.cell? (ad174.add ((x3_2).toNat * 3)) = some (.slice A174_0 ((rd_T75 l0_2 x3_2).f0).length c174_0) ∧ w'.cell? ⟨(ad174.add ((x3_2).toNat * 3)).block, (ad174.add ((x3_2).toNat * 3)).off + 1, none⟩ = some (.slice A174_1 ((rd_T75 l0_2 x3_2).f1).length c174_1) ∧ w'.cell? ⟨(ad174.add ((x3_2).toNat * 3)).block, (ad174.add ((x3_2).toNat * 3)).off + 2, none⟩ = some (.slice A174_2 ((rd_T75 l0_2 x3_2).f2).length c174_2)) (ds := []) #[false, false, false, false, false, false, false, false, false, false, false, false, false, false, false, false, false, false, false, false, false, false, false, false, false, false, false, false, false, false, false, false, false, false] (by kernel_rfl) rfl rfl ⟨bc BK170 0, bc BK170 1, bc BK170 2, ((hC HB hw174_0 :)), ((hC HB hw174_1 :)), ((hC HB hw174_2 :)), ((hC HB hw176_0 :)), ((hC HB hw176_1 :)), ((hC HB hw176_2 :))⟩ (fun hHeld => ?_); refine with_tabW spec_SystemOk.tab6 spec_SystemOk.bits6 (fun HT_ HW_ => ?_)
          generalize wr.drew = w26 at BK170 HB HR174_0 HR174_1 HR174_2 HR176_0 HR176_1 HR176_2 hx174_0 hx174_1 hx174_2 hx176_0 hx176_1 hx176_2 hHeld ⊢
          refine pI 0 (some 31) HT_.out ?_
          refine pI 2 (some 33) HT_.out ?_
          refine pI 6 (some 37) HT_.out ?_
          refine tI9 1 (some 32) HT_.out HW_.out hHeld ?_
          refine pI 3 (some 34) HT_.out ?_
          refine pI 4 (some 35) HT_.out ?_
          refine tI9 5 (some 36) HT_.out HW_.out hHeld ?_
          refine tI9 7 (some 38) HT_.out HW_.out hHeld ?_
          refine oI 8 (some 39) HT_.out (fun K hK => ?_)
          refine gO Try.func72 #[.slice A174_0 ((rd_T75 l0_2 x3_2).f0).length c174_0, .int .i64 a0_0] ?_
          with_reducible refine (spec_l13Wide.calls k2 _ _ ((rd_T75 l0_2 x3_2).f0) a0_0 true _ ?side1 ?side2 A15.out).mono ?_
          (case side1 => exact cP (Kd.C_below HR174_0.out HB.out))
          (case side2 => exact HC174_0.out)
          rintro e w' ⟨rfl, ⟨nd, rfl⟩⟩
          refine ⟨_, rfl, ?_⟩
          refine hK.out _ _ ⟨bc BK170 0, bc BK170 1, bc BK170 2, ((hC HB hw174_0 :)), ((hC HB hw174_1 :)), ((hC HB hw174_2 :)), ((hC HB hw176_0 :)), ((hC HB hw176_1 :)), ((hC HB hw176_2 :))⟩ (fun hHeld => ?_)
          clear hK K
          refine nO (some 39) ?_
          refine pI 9 (some 40) HT_.out ?_
          refine pI 10 (some 41) HT_.out ?_
          refine pI 11 (some 42) HT_.out ?_
          refine pI 13 (some 44) HT_.out ?_
          refine pI 17 (some 48) HT_.out ?_
          refine tI9 12 (some 43) HT_.out HW_.out hHeld ?_
          refine pI 14 (some 45) HT_.out ?_
          refine pI 15 (some 46) HT_.out ?_
          refine tI9 16 (some 47) HT_.out HW_.out hHeld ?_
          refine tI9 18 (some 49) HT_.out HW_.out hHeld ?_
          refine oI 19 (some 50) HT_.out (fun K hK => ?_)
          refine gO Try.func72 #[.slice A174_1 ((rd_T75 l0_2 x3_2).f1).length c174_1, .int .i64 a0_0] ?_
          with_reducible refine (spec_l13Wide.calls k2 _ _ ((rd_T75 l0_2 x3_2).f1) a0_0 false _ ?side1 ?side2 A17.out).mono ?_
          (case side1 => exact cP (Kd.C_below HR176_1.out (bZ HB)))
          (case side2 => exact HC176_1.out)
          rintro e w' ⟨rfl, ⟨nd, rfl⟩⟩
          refine ⟨_, rfl, ?_⟩
          refine hK.out _ _ ⟨bc BK170 0, bc BK170 1, bc BK170 2, ((hC HB hw174_0 :)), ((hC HB hw174_1 :)), ((hC HB hw174_2 :)), ((hC HB hw176_0 :)), ((hC HB hw176_1 :)), ((hC HB hw176_2 :))⟩ (fun hHeld => ?_)
          clear hK K
          refine nO (some 50) ?_
          refine pI 20 (some 51) HT_.out ?_
          refine pI 21 (some 52) HT_.out ?_
          refine pI 22 (some 53) HT_.out ?_
          refine pK 23 (some 54) HT_.out ?_
          refine pK 24 (some 55) HT_.out ?_
          refine pK 25 (some 56) HT_.out ?_
          refine pK 26 (some 57) HT_.out ?_
          refine pK 27 (some 58) HT_.out ?_
          refine pK 28 (some 59) HT_.out ?_
          refine pK 29 (some 60) HT_.out ?_
          refine pK 30 (some 61) HT_.out ?_
          refine pK 31 (some 62) HT_.out ?_
          refine pK 32 (some 63) HT_.out ?_
          refine pI 33 (some 64) HT_.out ?_
          refine done_ (done_of HT_.out (by kernel_rfl)) ?_
          try go_wp2
          go_ret
          exact ⟨rR, bZ HB⟩
        ·replace c16 := Bool.eq_false_iff.mpr c16
         subst c16
         rw [if_neg (show ¬ (false = true) by decide)] at H
         obtain rfl := Option.some.inj H
         obtain ⟨hcz27_0, hcz27_1, hcz27_2, hfz27_0, hfz27_1, hfz27_2⟩ := bK3 (w := wr) BK170
         try go_wp2
         replace BK170 := Aside0.mk (blk_drew BK170.out)
         replace HB := Aside0.mk (below_drew1 HB.out)
         have p174 : 0 ≤ (x3_2 : Int) := of_decide_eq_true (by first | (with_reducible assumption) | assumption)
         have q174 : x3_2 < (l0_2.length : Int) := of_decide_eq_true (by first | (with_reducible assumption) | assumption)
         obtain ⟨ad174, A174_0, c174_0, A174_1, c174_1, A174_2, c174_2, e174, hx174_0, hx174_1, hx174_2, hl174_0, hi174_0, hl174_1, hi174_1, hl174_2, hi174_2⟩ := at_T75 HR0_2.out x3_2 p174 q174
         have hw174_2 := hx174_2
         have hw174_1 := hx174_1
         have hw174_0 := hx174_0
         cases e174
         replace hx174_0 := (hC HB hx174_0 :)
         replace hx174_1 := (hC HB hx174_1 :)
         replace hx174_2 := (hC HB hx174_2 :)
         have HR174_0 := Aside0.mk hi174_0
         have HC174_0 := Aside0.mk hl174_0
         clear hi174_0 hl174_0
         have HR174_1 := Aside0.mk hi174_1
         have HC174_1 := Aside0.mk hl174_1
         clear hi174_1 hl174_1
         have HR174_2 := Aside0.mk hi174_2
         have HC174_2 := Aside0.mk hl174_2
         clear hi174_2 hl174_2
         replace p174 := eq_true p174
         replace q174 := eq_true q174
         refine start_ (n := 34) (S := fun w' => w'.cell? ⟨gb170, 0, none⟩ = some (.int .i64 a0_0) ∧ w'.cell? ⟨gb170, 1, none⟩ = some (.int .i64 a0_1) ∧ w'.cell? ⟨gb170, 2, none⟩ = some (.slice (some ad174) l0_2.length c0_2) ∧ w'.cell? (ad174.add ((x3_2).toNat * 3)) = some (.slice A174_0 ((rd_T75 l0_2 x3_2).f0).length c174_0) ∧ w'.cell? ⟨(ad174.add ((x3_2).toNat * 3)).block, (ad174.add ((x3_2).toNat * 3)).off + 1, none⟩ = some (.slice A174_1 ((rd_T75 l0_2 x3_2).f1).length c174_1) ∧ w'.cell? ⟨(ad174.add ((x3_2).toNat * 3)).block, (ad174.add ((x3_2).toNat * 3)).off + 2, none⟩ = some (.slice A174_2 ((rd_T75 l0_2 x3_2).f2).length c174_2)) (ds := []) #[false, false, false, false, false, false, false, false, false, false, false, false, false, false, false, false, false, false, false, false, false, false, false, false, false, false, false, false, false, false, false, false, false, false] (by kernel_rfl) rfl rfl ⟨bc BK170 0, bc BK170 1, bc BK170 2, ((hC HB hw174_0 :)), ((hC HB hw174_1 :)), ((hC HB hw174_2 :))⟩ (fun hHeld => ?_); refine with_tabW spec_SystemOk.tab6 spec_SystemOk.bits6 (fun HT_ HW_ => ?_)
         generalize wr.drew = w28 at BK170 HB HR174_0 HR174_1 HR174_2 hx174_0 hx174_1 hx174_2 hHeld ⊢
         refine pI 0 (some 31) HT_.out ?_
         refine pI 2 (some 33) HT_.out ?_
         refine pI 6 (some 37) HT_.out ?_
         refine tI6 1 (some 32) HT_.out HW_.out hHeld ?_
         refine pI 3 (some 34) HT_.out ?_
         refine pI 4 (some 35) HT_.out ?_
         refine tI6 5 (some 36) HT_.out HW_.out hHeld ?_
         refine tI6 7 (some 38) HT_.out HW_.out hHeld ?_
         refine oI 8 (some 39) HT_.out (fun K hK => ?_)
         refine gO Try.func72 #[.slice A174_0 ((rd_T75 l0_2 x3_2).f0).length c174_0, .int .i64 a0_0] ?_
         with_reducible refine (spec_l13Wide.calls k2 _ _ ((rd_T75 l0_2 x3_2).f0) a0_0 false _ ?side1 ?side2 A15.out).mono ?_
         (case side1 => exact cP (Kd.C_below HR174_0.out HB.out))
         (case side2 => exact HC174_0.out)
         rintro e w' ⟨rfl, ⟨nd, rfl⟩⟩
         refine ⟨_, rfl, ?_⟩
         refine hK.out _ _ ⟨bc BK170 0, bc BK170 1, bc BK170 2, ((hC HB hw174_0 :)), ((hC HB hw174_1 :)), ((hC HB hw174_2 :))⟩ (fun hHeld => ?_)
         clear hK K
         refine nO (some 39) ?_
         refine pI 9 (some 40) HT_.out ?_
         refine pI 10 (some 41) HT_.out ?_
         refine pK 11 (some 42) HT_.out ?_
         refine pK 12 (some 43) HT_.out ?_
         refine pK 13 (some 44) HT_.out ?_
         refine pK 14 (some 45) HT_.out ?_
         refine pK 15 (some 46) HT_.out ?_
         refine pK 16 (some 47) HT_.out ?_
         refine pK 17 (some 48) HT_.out ?_
         refine pK 18 (some 49) HT_.out ?_
         refine pK 19 (some 50) HT_.out ?_
         refine pK 20 (some 51) HT_.out ?_
         refine pI 21 (some 52) HT_.out ?_
         refine pI 22 (some 53) HT_.out ?_
         refine pK 23 (some 54) HT_.out ?_
         refine pK 24 (some 55) HT_.out ?_
         refine pK 25 (some 56) HT_.out ?_
         refine pK 26 (some 57) HT_.out ?_
         refine pK 27 (some 58) HT_.out ?_
         refine pK 28 (some 59) HT_.out ?_
         refine pK 29 (some 60) HT_.out ?_
         refine pK 30 (some 61) HT_.out ?_
         refine pK 31 (some 62) HT_.out ?_
         refine pK 32 (some 63) HT_.out ?_
         refine pI 33 (some 64) HT_.out ?_
         refine done_ (done_of HT_.out (by kernel_rfl)) ?_
         try go_wp2
         go_ret
         exact ⟨rR, bZ HB⟩
       ·rw [if_neg c14] at H
        exact absurd H (by simp)
      ·rw [if_neg c13] at H
       have c13b0 := decide_eq_false c13
       clear c13
       obtain rfl := Option.some.inj H
       obtain ⟨hcz29_0, hcz29_1, hcz29_2, hfz29_0, hfz29_1, hfz29_2⟩ := bK3 (w := wr) BK170
       go_wp2
       go_ret
       exact ⟨rR, bZ HB⟩
end Go.Proofs.Ythdpfjkdpeamnaa.Pf
end
section
namespace Go.Proofs.Ythdpfjkdpeamnaa.Pf
open Go.RowKit Go.Proofs.YthdpfjkdpeamnaaW.PrintWords Go.Proofs.YthdpfjkdpeamnaaW.PrintLast Go.Proofs.YthdpfjkdpeamnaaW.PrintMore
attribute [local go_sem] max2_int min2_int max_two min_two max_three min_three max_four min_four
set_option linter.unusedVariables false
set_option linter.unusedSimpArgs false
set_option maxHeartbeats 8000000
set_option maxRecDepth 100000
def impl_isScalar.f (a0 : Int) : Option (Bool) := if a0 ≥ 0 then (some (decide (a0 < 1009))) else (some false)
theorem impl_isScalar.calls (a0 : Int) (r : Bool) (w : World) (h : impl_isScalar.f a0 = some r) :
  Calls Try.prog 93 #[.int .i64 a0] w fun e w' => e = .returned (.bool r) ∧ Drawn0 w w' := by
 have H : (if a0 ≥ 0 then (some (decide (a0 < 1009))) else (some false)) = some r := h
 clear h
 by_cases c2 : a0 ≥ 0
 ·rw [if_pos c2] at H
  have c2b0 := decide_eq_true c2
  clear c2
  obtain rfl := Option.some.inj H
  go_enter Try.func93, Try.ntmps93
  go_wp2
  go_ret
  exact ⟨rS, rD⟩
 ·rw [if_neg c2] at H
  have c2b0 := decide_eq_false c2
  clear c2
  obtain rfl := Option.some.inj H
  go_enter Try.func93, Try.ntmps93
  go_wp2
  go_ret
  exact ⟨rS, rD⟩
def impl_areScalars.l0 : Nat → List Int → Int → Int → Option (Bool)
 | 0, _, _, _ => none
 | k + 1, x5, x6, x7 => if x7 < x6 then (if 0 ≤ x7 then (if x7 < (x5.length : Int) then ((impl_isScalar.f (rd x5 x7)).bind fun t181 => (if t181 = true then (impl_areScalars.l0 k x5 x6 (wrap64 (x7 + 1))) else (some false))) else (none)) else (none)) else (some true)
def impl_areScalars.f (k : Nat) (l0 : List Int) : Option (Bool) := impl_areScalars.l0 k l0 (l0.length : Int) 0
theorem impl_areScalars.calls (k : Nat) (A0 : Option Addr) (c0 : Nat) (l0 : List Int) (r : Bool) (w : World) (hr0 : Kd.C (Kd.int .i64) w A0 l0.length l0) (hc0 : l0.length ≤ c0) (h : impl_areScalars.f k l0 = some r) :
  Calls Try.prog 74 #[.slice A0 l0.length c0] w fun e w' => e = .returned (.bool r) ∧ Drawn0 w w' := by
 have HR0 := Aside0.mk hr0
 have HC0 := Aside0.mk hc0
 clear hr0 hc0
 have H : (impl_areScalars.l0 k l0 (l0.length : Int) 0) = some r := h
 clear h
 have H' := Aside0.mk H
 clear H
 go_enter Try.func74, Try.ntmps74
 go_wp2
 go_loopg [7] k (fun kq v7 w' => ∃ (x7_1 : Int), v7 = .int .i64 x7_1 ∧ Aside0 (impl_areScalars.l0 kq l0 (l0.length : Int) x7_1 = some r) ∧ Aside0 (kq ≤ k) ∧ Drawn0 w w')
 case atStart => exact ⟨(0), rS, H', ⟨Nat.le_refl _⟩, by repeat (first | exact Drawn0.refl _ | apply Drawn0.step)⟩
 case round =>
  clear H'
  obtain ⟨x7_1, rfl, HA, HK1, ⟨m1, rfl⟩⟩ := hrel
  cases gk with
  | zero => exact absurd HA.out (by simp [impl_areScalars.l0])
  | succ k1 =>
   have H := HA.out
   clear HA
   simp only [impl_areScalars.l0] at H
   by_cases c2 : x7_1 < (l0.length : Int)
   ·rw [if_pos c2] at H
    have c2b0 := decide_eq_true c2
    clear c2
    by_cases c3 : 0 ≤ x7_1
    ·rw [if_pos c3] at H
     have c3b0 := decide_eq_true c3
     clear c3
     by_cases c4 : x7_1 < (l0.length : Int)
     ·rw [if_pos c4] at H
      have c4b0 := decide_eq_true c4
      clear c4
      replace H := Option.bind_eq_some_iff.mp H
      obtain ⟨t181, A50, H⟩ := H
      have A5 := Aside0.mk A50
      clear A50
      by_cases c6 : t181 = true
      ·subst c6
       rw [if_pos rfl] at H
       have H' := Aside0.mk H
       clear H
       have p180 : 0 ≤ (x7_1 : Int) := of_decide_eq_true (by first | (with_reducible assumption) | assumption)
       have q180 : x7_1 < (l0.length : Int) := of_decide_eq_true (by first | (with_reducible assumption) | assumption)
       obtain ⟨ad180, e180, hx180_0⟩ := Kd.at_int HR0.out x7_1 p180 q180
       cases e180
       replace p180 := eq_true p180
       replace q180 := eq_true q180
       go_wp2_with (first | (refine gC (some 12) Try.func93 #[.int .i64 (rd l0 x7_1)] ?_; (with_reducible refine (impl_isScalar.calls (rd l0 x7_1) true _ A5.out).mono ?_); rintro e w' ⟨rfl, ⟨nd, rfl⟩⟩; refine ⟨_, rfl, ?_⟩))
       go_roundg k1
       case measure => have := HK1.out; omega
       case rel => exact ⟨(wrap64 (x7_1 + 1)), rS, H', ⟨by have := HK1.out; omega⟩, by repeat (first | exact Drawn0.refl _ | apply Drawn0.step)⟩
      ·replace c6 := Bool.eq_false_iff.mpr c6
       subst c6
       rw [if_neg (show ¬ (false = true) by decide)] at H
       obtain rfl := Option.some.inj H
       have p180 : 0 ≤ (x7_1 : Int) := of_decide_eq_true (by first | (with_reducible assumption) | assumption)
       have q180 : x7_1 < (l0.length : Int) := of_decide_eq_true (by first | (with_reducible assumption) | assumption)
       obtain ⟨ad180, e180, hx180_0⟩ := Kd.at_int HR0.out x7_1 p180 q180
       cases e180
       replace p180 := eq_true p180
       replace q180 := eq_true q180
       go_wp2_with (first | (refine gC (some 12) Try.func93 #[.int .i64 (rd l0 x7_1)] ?_; (with_reducible refine (impl_isScalar.calls (rd l0 x7_1) false _ A5.out).mono ?_); rintro e w' ⟨rfl, ⟨nd, rfl⟩⟩; refine ⟨_, rfl, ?_⟩))
       go_ret
       exact ⟨rS, rD⟩
     ·rw [if_neg c4] at H
      exact absurd H (by simp)
    ·rw [if_neg c3] at H
     exact absurd H (by simp)
   ·rw [if_neg c2] at H
    have c2b0 := decide_eq_false c2
    clear c2
    obtain rfl := Option.some.inj H
    go_wp2
    go_ret
    exact ⟨rS, rD⟩
end Go.Proofs.Ythdpfjkdpeamnaa.Pf
end
