/- What is proved here: part 1 of 2 of the proof of the given statement FnExactCountSystem: the contracts of the Go functions that it reaches, the plain facts on lists and numbers, and (in the last part) the statement itself. No conditions beyond the given ones. -/
import Derived.Test.YthdpfjkdpeamnaaProg
import Derived.Below
import Derived.Deep.Draws
import Derived.Deep.AppendLies
import Derived.Maps.AppendAt
import Derived.OwnWalk
import Derived.Laws.BytesArg
import Derived.Laws.MakeOwn
import Derived.Laws.OwnMore
import Derived.Deep.OwnRows
import Derived.Tactics
import Derived.Lib.ConvBytes
import Derived.Laws.Slices
import Derived.WalkKit
import Derived.KernelRfl
import Derived.RowKit3
import Derived.Deep.LoopGhost
import Derived.Deep.QuietTactic
import Derived.BigQuiet
import Derived.WideLaws
import Derived.Deep.DeepCutAuto
import Derived.Deep.CutBlock
import Derived.Deep.RegionHeld3
import Derived.Laws.Rows
import Derived.Lib.AppendStr
import Derived.ArgAppend
import Derived.Laws.IdiomCopy
import Derived.OrdersHeld
import Derived.Laws.BitsLemmas
import Derived.RowKit
import Derived.Test.YthdpfjkdpeamnaaMFnExactCountSystemwWords
import Derived.Test.YthdpfjkdpeamnaaMFnExactCountSystemwLast
import Derived.Test.YthdpfjkdpeamnaaMFnExactCountSystemwTab
import Derived.Test.YthdpfjkdpeamnaaMFnExactCountSystemwFour
import Derived.Test.YthdpfjkdpeamnaaMFnExactCountSystemwQPut
import Derived.Test.YthdpfjkdpeamnaaMFnExactCountSystemwApart
import Derived.Test.YthdpfjkdpeamnaaMFnExactCountSystemwArr
import Derived.Test.YthdpfjkdpeamnaaMFnExactCountSystemwZeros
import Derived.Test.YthdpfjkdpeamnaaMFnExactCountSystemwFoot
import Derived.Test.YthdpfjkdpeamnaaMFnExactCountSystemwKept
import Derived.Test.YthdpfjkdpeamnaaMFnExactCountSystemwShare
import Derived.Test.YthdpfjkdpeamnaaMFnExactCountSystemwN
import Derived.Test.YthdpfjkdpeamnaaMFnExactCountSystemwFootNe
import Derived.Test.YthdpfjkdpeamnaaMFnExactCountSystemwAt
import Derived.Test.YthdpfjkdpeamnaaMFnExactCountSystemwEqStruct
import Derived.Test.YthdpfjkdpeamnaaMFnExactCountSystemwRepsOne
import Derived.Test.YthdpfjkdpeamnaaMFnExactCountSystemwInv
import Derived.Test.YthdpfjkdpeamnaaMFnExactCountSystemwInvWords
import Derived.Test.YthdpfjkdpeamnaaMFnExactCountSystemwGuard
import Derived.Test.YthdpfjkdpeamnaaMFnExactCountSystemwNEv
import Derived.Test.YthdpfjkdpeamnaaMFnExactCountSystemwMore
import Derived.Test.YthdpfjkdpeamnaaMFnExactCountSystemwSlim

section
namespace Go.Proofs.Ythdpfjkdpeamnaa.Pf
open Go.RowKit Go.Proofs.YthdpfjkdpeamnaaW.PrintWords Go.Proofs.YthdpfjkdpeamnaaW.PrintLast Go.Proofs.YthdpfjkdpeamnaaW.PrintMore
attribute [local go_sem] max2_int min2_int max_two min_two max_three min_three max_four min_four   -- for this text's walks alone
set_option linter.unusedVariables false
set_option linter.unusedSimpArgs false
def errW : Option Int → Value
  | none => .nilIface
  | some c => .iface 0 (.int .i64 c)
theorem errW_none : errW none = .nilIface := rfl
theorem errW_some (c : Int) : errW (some c) = .iface 0 (.int .i64 c) := rfl
theorem info3 : (Try.prog.info? 3).map (fun i => (i.zero, i.size, i.bytes)) = some (some (.int .i64 0), 1, 8) := by kernel_rfl
theorem info75 : (Try.prog.info? 75).map (fun i => (i.zero, i.size, i.bytes)) = some (some (.agg #[(.slice none 0 0), (.slice none 0 0), (.slice none 0 0)]), 3, 72) := by kernel_rfl
def pairA {α β : Type} (a : Kd α) (b : Kd β) : Kd (α × β) where
  sz := a.sz + b.sz
  E := a.E ++ b.E
  K := fun w x cs => ∃ c0 c1, cs = c0 ++ c1 ∧ a.K w x.1 c0 ∧ b.K w x.2 c1
  M := fun w base ok x cs => ∃ o0 o1 : Nat → Prop, (∀ k, o0 k → ok k) ∧ (∀ k, o1 k → ok k) ∧ (∀ k, o0 k → ¬ o1 k) ∧ ∃ c0 c1, cs = c0 ++ c1 ∧ a.M w base o0 x.1 c0 ∧ b.M w base o1 x.2 c1
  K_len := by
    rintro w x cs ⟨c0, c1, rfl, h0, h1⟩
    rw [List.length_append, a.K_len h0, b.K_len h1]
  K_one := by
    rintro w x cs ⟨c0, c1, rfl, h0, h1⟩ u hu
    rcases List.mem_append.1 hu with hu | hu
    · exact a.K_one h0 u hu
    · exact b.K_one h1 u hu
  K_below := by
    rintro w w1 x cs hb ⟨c0, c1, rfl, h0, h1⟩
    exact ⟨c0, c1, rfl, a.K_below hb h0, b.K_below hb h1⟩
  K_of_M := by
    rintro w base ok x cs ⟨o0, o1, _, _, _, c0, c1, rfl, h0, h1⟩
    exact ⟨c0, c1, rfl, a.K_of_M h0, b.K_of_M h1⟩
  M_mono := by
    rintro w base ok ok' x cs hok ⟨o0, o1, i0, i1, ap, c0, c1, rfl, h0, h1⟩
    exact ⟨o0, o1, fun k hk => hok k (i0 k hk), fun k hk => hok k (i1 k hk), ap, c0, c1, rfl, h0, h1⟩
  M_bound := by
    rintro w base ok x cs ⟨o0, o1, i0, i1, ap, c0, c1, rfl, h0, h1⟩
    refine ⟨_, _, ?_, ?_, ?_, c0, c1, rfl, a.M_bound h0, b.M_bound h1⟩
    · rintro k ⟨h2, h3, h4, q, hq, hc⟩
      exact ⟨i0 k h2, h3, h4, q, List.mem_append_left _ hq, hc⟩
    · rintro k ⟨h2, h3, h4, q, hq, hc⟩
      exact ⟨i1 k h2, h3, h4, q, List.mem_append_right _ hq, hc⟩
    · exact fun k h2 h3 => ap k h2.1 h3.1
  M_move := by
    rintro w w1 base ok x cs hm ⟨o0, o1, i0, i1, ap, c0, c1, rfl, h0, h1⟩
    exact ⟨o0, o1, i0, i1, ap, c0, c1, rfl, a.M_move (fun k hk => hm k (i0 k hk)) h0, b.M_move (fun k hk => hm k (i1 k hk)) h1⟩
  M_lower := by
    rintro w base base' ok x cs hb ⟨o0, o1, i0, i1, ap, c0, c1, rfl, h0, h1⟩
    exact ⟨o0, o1, i0, i1, ap, c0, c1, rfl, a.M_lower hb h0, b.M_lower hb h1⟩
theorem rowA {k : IntKind} {w : World} {base e : Nat} {ok : Nat → Prop} {v : Value} {xs : List Int} (h : (Kd.int k).R e w base ok v xs) : (Kd.int k).R e w base (fun k => some k = v.ownBlock ∧ ok k) v xs := Kd.R_tight2 rfl h
structure S75 where
  f0 : (List Int)
  f1 : (List Int)
  f2 : (List Int)
def z75 : S75 := ⟨([] : List Int), ([] : List Int), ([] : List Int)⟩
def k75 : Kd S75 := Kd.iso (pairA (Kd.slice 3 (Kd.int .i64)) (pairA (Kd.slice 3 (Kd.int .i64)) (Kd.slice 3 (Kd.int .i64)))) (fun x : S75 => (x.f0, x.f1, x.f2))
theorem k75_open {w : World} {x : S75} {cs : List Value} (h : k75.K w x cs) : ∃ A0 c0 A1 c1 A2 c2, cs = [.slice A0 x.f0.length c0, .slice A1 x.f1.length c1, .slice A2 x.f2.length c2] ∧ x.f0.length ≤ c0 ∧ (Kd.int .i64).C w A0 x.f0.length x.f0 ∧ x.f1.length ≤ c1 ∧ (Kd.int .i64).C w A1 x.f1.length x.f1 ∧ x.f2.length ≤ c2 ∧ (Kd.int .i64).C w A2 x.f2.length x.f2 := by
  obtain ⟨_, _, rfl, ⟨A0, c0, rfl, l0, g0⟩, ⟨_, _, rfl, ⟨A1, c1, rfl, l1, g1⟩, ⟨A2, c2, rfl, l2, g2⟩⟩⟩ := h
  exact ⟨A0, c0, A1, c1, A2, c2, rfl, l0, g0, l1, g1, l2, g2⟩
theorem k75_openA {w : World} {base : Nat} {ok : Nat → Prop} {x : S75} {cs : List Value} (h : k75.M w base ok x cs) : ∃ v0 v1 v2, cs = [v0, v1, v2] ∧ ∃ o0 o1 o2 : Nat → Prop, (∀ k, o0 k → ok k) ∧ (∀ k, o1 k → ok k) ∧ (∀ k, o2 k → ok k) ∧ (∀ k, o0 k → ¬ o1 k) ∧ (∀ k, o0 k → ¬ o2 k) ∧ (∀ k, o1 k → ¬ o2 k) ∧ (Kd.int .i64).R 3 w base o0 v0 x.f0 ∧ (Kd.int .i64).R 3 w base o1 v1 x.f1 ∧ (Kd.int .i64).R 3 w base o2 v2 x.f2 := by
  obtain ⟨o0, o1, i0, i1, ap, _, _, rfl, ⟨v0, rfl, g0⟩, ⟨p0, p1, j0, j1, aq, _, _, rfl, ⟨v1, rfl, g1⟩, ⟨v2, rfl, g2⟩⟩⟩ := h
  exact ⟨v0, v1, v2, rfl, o0, p0, p1, i0, fun k hk => i1 k (j0 k hk), fun k hk => i1 k (j1 k hk), fun k h h2 => ap k h (j0 k h2), fun k h h2 => ap k h (j1 k h2), aq, g0, g1, g2⟩
theorem k75_mk (w : World) (x : S75) {A0 : Option Addr} {c0 : Nat} (l0 : x.f0.length ≤ c0) (g0 : (Kd.int .i64).C w A0 x.f0.length x.f0) {A1 : Option Addr} {c1 : Nat} (l1 : x.f1.length ≤ c1) (g1 : (Kd.int .i64).C w A1 x.f1.length x.f1) {A2 : Option Addr} {c2 : Nat} (l2 : x.f2.length ≤ c2) (g2 : (Kd.int .i64).C w A2 x.f2.length x.f2) : k75.K w x [.slice A0 x.f0.length c0, .slice A1 x.f1.length c1, .slice A2 x.f2.length c2] := ⟨[.slice A0 x.f0.length c0], [.slice A1 x.f1.length c1, .slice A2 x.f2.length c2], rfl, ⟨A0, c0, rfl, l0, g0⟩, ⟨[.slice A1 x.f1.length c1], [.slice A2 x.f2.length c2], rfl, ⟨A1, c1, rfl, l1, g1⟩, ⟨A2, c2, rfl, l2, g2⟩⟩⟩
theorem k75_mkA (w : World) (base : Nat) (ok o0 o1 o2 : Nat → Prop) (x : S75) {v0 v1 v2 : Value} (i0 : ∀ k, o0 k → ok k) (i1 : ∀ k, o1 k → ok k) (i2 : ∀ k, o2 k → ok k) (a01 : ∀ k, o0 k → ¬ o1 k) (a02 : ∀ k, o0 k → ¬ o2 k) (a12 : ∀ k, o1 k → ¬ o2 k) (g0 : (Kd.int .i64).R 3 w base o0 v0 x.f0) (g1 : (Kd.int .i64).R 3 w base o1 v1 x.f1) (g2 : (Kd.int .i64).R 3 w base o2 v2 x.f2) : k75.M w base ok x [v0, v1, v2] :=
  ⟨o0, fun k => o1 k ∨ o2 k, i0, fun k h => h.elim (i1 k) (i2 k), fun k h h2 => h2.elim (a01 k h) (a02 k h), [v0], [v1, v2], rfl, ⟨v0, rfl, g0⟩, ⟨o1, o2, fun _ h => .inl h, fun _ h => .inr h, a12, [v1], [v2], rfl, ⟨v1, rfl, g1⟩, ⟨v2, rfl, g2⟩⟩⟩
theorem k75_mkM (w : World) (base : Nat) (ok : Nat → Prop) (x : S75) {v0 : Value} (g0 : (Kd.int .i64).R 3 w base ok v0 x.f0) {v1 : Value} (g1 : (Kd.int .i64).R 3 w base ok v1 x.f1) {v2 : Value} (g2 : (Kd.int .i64).R 3 w base ok v2 x.f2) (a01 : ∀ k, v0.ownBlock = some k → v1.ownBlock ≠ some k) (a02 : ∀ k, v0.ownBlock = some k → v2.ownBlock ≠ some k) (a12 : ∀ k, v1.ownBlock = some k → v2.ownBlock ≠ some k) : k75.M w base ok x [v0, v1, v2] :=
  k75_mkA w base ok _ _ _ x (fun _ h => h.2) (fun _ h => h.2) (fun _ h => h.2) (fun k h h2 => a01 k h.1.symm h2.1.symm) (fun k h h2 => a02 k h.1.symm h2.1.symm) (fun k h h2 => a12 k h.1.symm h2.1.symm) (rowA g0) (rowA g1) (rowA g2)
theorem k75_mkF (W : World) (ok : Nat → Prop) (x : S75) {A0 : Option Addr} {c0 : Nat} (l0 : x.f0.length ≤ c0) (g0 : Kd.F (Kd.int .i64) W ok A0 x.f0.length x.f0) {A1 : Option Addr} {c1 : Nat} (l1 : x.f1.length ≤ c1) (g1 : Kd.F (Kd.int .i64) W ok A1 x.f1.length x.f1) {A2 : Option Addr} {c2 : Nat} (l2 : x.f2.length ≤ c2) (g2 : Kd.F (Kd.int .i64) W ok A2 x.f2.length x.f2) : Kd.FK k75 W ok x [.slice A0 x.f0.length c0, .slice A1 x.f1.length c1, .slice A2 x.f2.length c2] := fun W2 hW => k75_mk W2 x l0 (g0 W2 hW) l1 (g1 W2 hW) l2 (g2 W2 hW)
theorem k75_mkFV (w : World) (base : Nat) (ok : Nat → Prop) (x : S75) {v0 : Value} (g0 : (Kd.int .i64).R 3 w base ok v0 x.f0) {v1 : Value} (g1 : (Kd.int .i64).R 3 w base ok v1 x.f1) {v2 : Value} (g2 : (Kd.int .i64).R 3 w base ok v2 x.f2) : Kd.FK k75 w ok x [v0, v1, v2] := by
  obtain ⟨A0_, c0_, rfl⟩ := Kd.R_slice g0
  obtain ⟨A1_, c1_, rfl⟩ := Kd.R_slice g1
  obtain ⟨A2_, c2_, rfl⟩ := Kd.R_slice g2
  exact k75_mkF w ok x (Kd.R_reads' g0).2.1 (Kd.R_F g0) (Kd.R_reads' g1).2.1 (Kd.R_F g1) (Kd.R_reads' g2).2.1 (Kd.R_F g2)
def rd_T75 (xs : List S75) (i : Int) : S75 := xs.getD i.toNat z75
theorem at_T75 {w : World} {A : Option Addr} {n : Nat} {xs : List S75} (h : Kd.C k75 w A n xs) (i : Int) (h0 : 0 ≤ i) (h1 : i < n) : ∃ ad A0 c0 A1 c1 A2 c2, A = some ad ∧ w.cell? (ad.add (i.toNat * 3)) = some (.slice A0 (rd_T75 xs i).f0.length c0) ∧ w.cell? ⟨(ad.add (i.toNat * 3)).block, (ad.add (i.toNat * 3)).off + 1, none⟩ = some (.slice A1 (rd_T75 xs i).f1.length c1) ∧ w.cell? ⟨(ad.add (i.toNat * 3)).block, (ad.add (i.toNat * 3)).off + 2, none⟩ = some (.slice A2 (rd_T75 xs i).f2.length c2) ∧ (rd_T75 xs i).f0.length ≤ c0 ∧ (Kd.int .i64).C w A0 (rd_T75 xs i).f0.length (rd_T75 xs i).f0 ∧ (rd_T75 xs i).f1.length ≤ c1 ∧ (Kd.int .i64).C w A1 (rd_T75 xs i).f1.length (rd_T75 xs i).f1 ∧ (rd_T75 xs i).f2.length ≤ c2 ∧ (Kd.int .i64).C w A2 (rd_T75 xs i).f2.length (rd_T75 xs i).f2 := by
  obtain ⟨ad, c, e, _, hK, hc0⟩ := Kd.C_get h z75 i h0 h1
  have hc : ∀ j u, c[j]? = some u → w.cell? (ad.add (i.toNat * 3 + j)) = some u := hc0
  obtain ⟨A0, c0, A1, c1, A2, c2, rfl, l0, g0, l1, g1, l2, g2⟩ := k75_open hK
  exact ⟨ad, A0, c0, A1, c1, A2, c2, e, hc 0 _ rfl, by rw [← add_field _ _ 1 (by omega)]; exact hc 1 _ rfl, by rw [← add_field _ _ 2 (by omega)]; exact hc 2 _ rfl, l0, g0, l1, g1, l2, g2⟩
def spec_l13Row.f (a0 : Int) : Option (List Int × List Int × List Int) := if 0 ≤ a0 then (if (a0 : Int).toNat ≤ 35184372088832 then (some ((List.replicate (a0 : Int).toNat 0), (List.replicate (a0 : Int).toNat 0), (List.replicate (a0 : Int).toNat 0))) else (none)) else (none)
def spec_l13Row.T1 : Bool × List (List Nat × List Nat) := (true, [([], []), ([0, 0], [0]), ([], []), ([2, 2], [2]), ([], []), ([4, 4], [4]), ([1, 3, 5], [1, 3, 5]), ([6, 0, 1, 2, 3, 4, 5, 6], [6])])
def spec_l13Row.B1 : List Nat := [0, 1, 0, 4, 0, 16, 63, 127]
theorem spec_l13Row.tab1 : rtab .any (opsOf Try.f66 1) = spec_l13Row.T1 := by kernel_rfl
theorem spec_l13Row.bits1 : waitsOk spec_l13Row.T1.2 spec_l13Row.B1 = true := by kernel_rfl
set_option maxHeartbeats 8000000 in
set_option maxRecDepth 100000 in
theorem spec_l13Row.calls (a0 : Int) (r1 : List Int) (r2 : List Int) (r3 : List Int) (w : World) (h : spec_l13Row.f a0 = some (r1, r2, r3)) :
  Calls Try.prog 66 #[.int .i64 a0] w fun e w' => ∃ v0_ v1_ v2_ : Value, e = .returned (.agg #[v0_, v1_, v2_]) ∧ Kd.R (Kd.int .i64) 3 w' w.heap.size (fun k_ => some k_ ≠ (v1_ : Value).ownBlock ∧ some k_ ≠ (v2_ : Value).ownBlock) v0_ r1 ∧ Kd.R (Kd.int .i64) 3 w' w.heap.size (fun k_ => some k_ ≠ (v0_ : Value).ownBlock ∧ some k_ ≠ (v2_ : Value).ownBlock) v1_ r2 ∧ Kd.R (Kd.int .i64) 3 w' w.heap.size (fun k_ => some k_ ≠ (v0_ : Value).ownBlock ∧ some k_ ≠ (v1_ : Value).ownBlock) v2_ r3 ∧ Below w.heap.size w w' := by
 have hu75 := Try.underlying75
 have HB := Aside0.mk (Below.refl w.heap.size w)
 have H : (if 0 ≤ a0 then (if (a0 : Int).toNat ≤ 35184372088832 then (some ((List.replicate (a0 : Int).toNat 0), (List.replicate (a0 : Int).toNat 0), (List.replicate (a0 : Int).toNat 0))) else (none)) else (none)) = some (r1, r2, r3) := h
 clear h
 by_cases c2 : 0 ≤ a0
 ·rw [if_pos c2] at H
  have c2b0 := eq_true c2
  have c2b1 : decide (0 ≤ a0) = true := decide_eq_true c2
  clear c2
  by_cases c3 : (a0 : Int).toNat ≤ 35184372088832
  ·rw [if_pos c3] at H
   have c3b0 := eq_true c3
   have c3b1 : decide ((a0 : Int).toNat ≤ 35184372088832) = true := decide_eq_true c3
   clear c3
   obtain ⟨y102, hy102⟩ : ∃ y_ : List Int, y_ = (List.replicate (a0 : Int).toNat 0) := ⟨_, rfl⟩
   replace H : (some (y102, (List.replicate (a0 : Int).toNat 0), (List.replicate (a0 : Int).toNat 0))) = some (r1, r2, r3) := by first | (rw [hy102]; with_reducible exact H) | (have H2_ := (Option.bind_some _ _).symm.trans H; rw [hy102]; with_reducible exact H2_) | (have H2_ := (Option.bind_some _ _).symm.trans H; with_reducible exact H2_) | with_reducible exact H | (rw [hy102]; exact H) | exact H
   have Ny102 := Aside0.mk hy102
   clear hy102
   obtain ⟨y105, hy105⟩ : ∃ y_ : List Int, y_ = (List.replicate (a0 : Int).toNat 0) := ⟨_, rfl⟩
   replace H : (some (y102, y105, (List.replicate (a0 : Int).toNat 0))) = some (r1, r2, r3) := by first | (rw [hy105]; with_reducible exact H) | (have H2_ := (Option.bind_some _ _).symm.trans H; rw [hy105]; with_reducible exact H2_) | (have H2_ := (Option.bind_some _ _).symm.trans H; with_reducible exact H2_) | with_reducible exact H | (rw [hy105]; exact H) | exact H
   have Ny105 := Aside0.mk hy105
   clear hy105
   obtain ⟨y108, hy108⟩ : ∃ y_ : List Int, y_ = (List.replicate (a0 : Int).toNat 0) := ⟨_, rfl⟩
   replace H : (some (y102, y105, y108)) = some (r1, r2, r3) := by first | (rw [hy108]; with_reducible exact H) | (have H2_ := (Option.bind_some _ _).symm.trans H; rw [hy108]; with_reducible exact H2_) | (have H2_ := (Option.bind_some _ _).symm.trans H; with_reducible exact H2_) | with_reducible exact H | (rw [hy108]; exact H) | exact H
   have Ny108 := Aside0.mk hy108
   clear hy108
   simp only [Option.some.injEq, Prod.mk.injEq] at H
   obtain ⟨rfl, rfl, rfl⟩ := H
   go_enter Try.func66, Try.ntmps66
   try go_wp2_with (first | ((with_reducible refine gate_dst (N := 2) rfl ?_); refine bE 2 #[.slice none 0 0, .slice none 0 0, .slice none 0 0] 75 ?_; intro gb101 hg w4 hbox hb; have BK101 := Aside0.mk (hbox); have GW101 := bG HB hg; have GE101 := bG HB hg; replace HB := bS HB hb; clear hb hbox hg))
   replace BK101 := Aside0.mk (blk_drew BK101.out)
   replace HB := Aside0.mk (below_drew1 HB.out)
   refine start_ (n := 8) (S := fun w' => True) (ds := []) #[false, false, false, false, false, false, false, false] (by kernel_rfl) rfl rfl trivial (fun hHeld => ?_); refine with_tabW spec_l13Row.tab1 spec_l13Row.bits1 (fun HT_ HW_ => ?_)
   generalize w4.drew = w5 at BK101 HB hHeld ⊢
   refine pI 0 (some 3) HT_.out ?_
   refine pI 2 (some 5) HT_.out ?_
   refine pI 4 (some 7) HT_.out ?_
   refine join_ (σ := Value × Value × Value) 2 #[true, true, true, true, true, true, false, false] (fun s_ => [(4, s_.1), (6, s_.2.1), (8, s_.2.2)]) (fun s_ w' => (Kd.R (Kd.int .i64) 3 w' w.heap.size (fun k_ => some k_ ≠ (s_.2.1 : Value).ownBlock ∧ some k_ ≠ (s_.2.2 : Value).ownBlock) s_.1 y102) ∧ (Kd.R (Kd.int .i64) 3 w' w.heap.size (fun k_ => some k_ ≠ (s_.1 : Value).ownBlock ∧ some k_ ≠ (s_.2.2 : Value).ownBlock) s_.2.1 y105) ∧ (Kd.R (Kd.int .i64) 3 w' w.heap.size (fun k_ => some k_ ≠ (s_.1 : Value).ownBlock ∧ some k_ ≠ (s_.2.1 : Value).ownBlock) s_.2.2 y108) ∧ (w'.heap[gb101]? = some (.cells #[.slice none 0 0, .slice none 0 0, .slice none 0 0] 75 (0, 0))) ∧ (Below w.heap.size w w')) ?_ ?_
   rotate_left
   ·intro hJ1_3_5
    refine join_ (σ := Value × Value) 3 #[true, true, true, true, true, false, false, false] (fun s_ => [(4, s_.1), (6, s_.2)]) (fun s_ w' => (Kd.R (Kd.int .i64) 3 w' w.heap.size (fun k_ => some k_ ≠ (s_.2 : Value).ownBlock) s_.1 y102) ∧ (Kd.R (Kd.int .i64) 3 w' w.heap.size (fun k_ => some k_ ≠ (s_.1 : Value).ownBlock) s_.2 y105) ∧ (w'.heap[gb101]? = some (.cells #[.slice none 0 0, .slice none 0 0, .slice none 0 0] 75 (0, 0))) ∧ (Below w.heap.size w w')) ?_ ?_
    rotate_left
    ·intro hJ1_3
     refine join_ (σ := Value × Value) 3 #[true, true, true, false, true, true, false, false] (fun s_ => [(4, s_.1), (8, s_.2)]) (fun s_ w' => (Kd.R (Kd.int .i64) 3 w' w.heap.size (fun k_ => some k_ ≠ (s_.2 : Value).ownBlock) s_.1 y102) ∧ (Kd.R (Kd.int .i64) 3 w' w.heap.size (fun k_ => some k_ ≠ (s_.1 : Value).ownBlock) s_.2 y108) ∧ (w'.heap[gb101]? = some (.cells #[.slice none 0 0, .slice none 0 0, .slice none 0 0] 75 (0, 0))) ∧ (Below w.heap.size w w')) ?_ ?_
     rotate_left
     ·intro hJ1_5
      refine join_ (σ := Value × Value) 3 #[true, false, true, true, true, true, false, false] (fun s_ => [(6, s_.1), (8, s_.2)]) (fun s_ w' => (Kd.R (Kd.int .i64) 3 w' w.heap.size (fun k_ => some k_ ≠ (s_.2 : Value).ownBlock) s_.1 y105) ∧ (Kd.R (Kd.int .i64) 3 w' w.heap.size (fun k_ => some k_ ≠ (s_.1 : Value).ownBlock) s_.2 y108) ∧ (w'.heap[gb101]? = some (.cells #[.slice none 0 0, .slice none 0 0, .slice none 0 0] 75 (0, 0))) ∧ (Below w.heap.size w w')) ?_ ?_
      rotate_left
      ·intro hJ3_5
       refine join_ (σ := Value) 4 #[true, true, true, false, true, false, false, false] (fun s_ => [(4, s_)]) (fun s_ w' => (Kd.R (Kd.int .i64) 3 w' w.heap.size (fun _ => True) s_ y102) ∧ (w'.heap[gb101]? = some (.cells #[.slice none 0 0, .slice none 0 0, .slice none 0 0] 75 (0, 0))) ∧ (Below w.heap.size w w')) ?_ ?_
       rotate_left
       ·intro hJ1
        refine join_ (σ := Value) 4 #[true, false, true, true, true, false, false, false] (fun s_ => [(6, s_)]) (fun s_ w' => (Kd.R (Kd.int .i64) 3 w' w.heap.size (fun _ => True) s_ y105) ∧ (w'.heap[gb101]? = some (.cells #[.slice none 0 0, .slice none 0 0, .slice none 0 0] 75 (0, 0))) ∧ (Below w.heap.size w w')) ?_ ?_
        rotate_left
        ·intro hJ3
         refine join_ (σ := Value) 4 #[true, false, true, false, true, true, false, false] (fun s_ => [(8, s_)]) (fun s_ w' => (Kd.R (Kd.int .i64) 3 w' w.heap.size (fun _ => True) s_ y108) ∧ (w'.heap[gb101]? = some (.cells #[.slice none 0 0, .slice none 0 0, .slice none 0 0] 75 (0, 0))) ∧ (Below w.heap.size w w')) ?_ ?_
         rotate_left
         ·intro hJ5
          refine three_ (i := 1) (j := 3) (k := 5) (Ni := some 4) (Nj := some 6) (Nk := some 8) #[true, true, true, false, true, false, false, false] #[true, false, true, true, true, false, false, false] #[true, false, true, false, true, true, false, false] rfl rfl rfl rfl rfl rfl (three_of HT_.out (by kernel_rfl)) (by decide) (by decide) (by decide) (fun K hK => ?_) (fun K hK => ?_) (fun K hK => ?_)
          ·skip
           refine Kd.R_make_step (Kd.int .i64) _ 3 (by rfl) (N := 4) rfl 31 _ _ rfl a0 rfl rfl Try.underlying31 (.int .i64 0) 8 info3 rfl (by decide) (by omega) 0 (ok := fun _ => True) (okp := fun _ => True) rfl (fun _ hk => hk) trivial (of_decide_eq_true (by first | (with_reducible assumption) | assumption)) (Nat.le_trans (Nat.mul_le_mul_right _ (of_decide_eq_true (by first | (with_reducible assumption) | assumption) : a0.toNat ≤ 35184372088832)) (by omega)) (Below.refl _ _) (Nat.le_refl _) ?_
           intro v103 w6 ho7 hb hg_ hnew_
           clear hg_ hnew_
           (first | rw [← Ny102.out] at ho7 | (simp only [Int.reduceToNat] at ho7; rw [← Ny102.out] at ho7))
           have HO104 := Aside0.mk (Kd.R_lower ho7 (below_size (bZ HB)))
           replace BK101 := bB BK101 hb
           replace HB := bS HB hb
           clear hb ho7
           refine hK.out _ _ trivial (fun hHeld => ?_)
           clear hK K
           refine nO (some 4) ?_
           exact norm_ (by first | (simp only [putAll, Act.put, List.setIfInBounds_toArray, List.set_cons_zero, List.set_cons_succ]; done) | (simp only [putAll, Act.put, List.setIfInBounds_toArray, List.set_cons_zero, List.set_cons_succ]; rfl)) (hJ1 (v103) _ ⟨(rP HO104), (bP BK101), (bZ HB)⟩)
          ·skip
           refine Kd.R_make_step (Kd.int .i64) _ 3 (by rfl) (N := 6) rfl 31 _ _ rfl a0 rfl rfl Try.underlying31 (.int .i64 0) 8 info3 rfl (by decide) (by omega) 0 (ok := fun _ => True) (okp := fun _ => True) rfl (fun _ hk => hk) trivial (of_decide_eq_true (by first | (with_reducible assumption) | assumption)) (Nat.le_trans (Nat.mul_le_mul_right _ (of_decide_eq_true (by first | (with_reducible assumption) | assumption) : a0.toNat ≤ 35184372088832)) (by omega)) (Below.refl _ _) (Nat.le_refl _) ?_
           intro v106 w6 ho7 hb hg_ hnew_
           clear hg_ hnew_
           (first | rw [← Ny105.out] at ho7 | (simp only [Int.reduceToNat] at ho7; rw [← Ny105.out] at ho7))
           have HO107 := Aside0.mk (Kd.R_lower ho7 (below_size (bZ HB)))
           replace BK101 := bB BK101 hb
           replace HB := bS HB hb
           clear hb ho7
           refine hK.out _ _ trivial (fun hHeld => ?_)
           clear hK K
           refine nO (some 6) ?_
           exact norm_ (by first | (simp only [putAll, Act.put, List.setIfInBounds_toArray, List.set_cons_zero, List.set_cons_succ]; done) | (simp only [putAll, Act.put, List.setIfInBounds_toArray, List.set_cons_zero, List.set_cons_succ]; rfl)) (hJ3 (v106) _ ⟨(rP HO107), (bP BK101), (bZ HB)⟩)
          ·skip
           refine Kd.R_make_step (Kd.int .i64) _ 3 (by rfl) (N := 8) rfl 31 _ _ rfl a0 rfl rfl Try.underlying31 (.int .i64 0) 8 info3 rfl (by decide) (by omega) 0 (ok := fun _ => True) (okp := fun _ => True) rfl (fun _ hk => hk) trivial (of_decide_eq_true (by first | (with_reducible assumption) | assumption)) (Nat.le_trans (Nat.mul_le_mul_right _ (of_decide_eq_true (by first | (with_reducible assumption) | assumption) : a0.toNat ≤ 35184372088832)) (by omega)) (Below.refl _ _) (Nat.le_refl _) ?_
           intro v109 w6 ho7 hb hg_ hnew_
           clear hg_ hnew_
           (first | rw [← Ny108.out] at ho7 | (simp only [Int.reduceToNat] at ho7; rw [← Ny108.out] at ho7))
           have HO110 := Aside0.mk (Kd.R_lower ho7 (below_size (bZ HB)))
           replace BK101 := bB BK101 hb
           replace HB := bS HB hb
           clear hb ho7
           refine hK.out _ _ trivial (fun hHeld => ?_)
           clear hK K
           refine nO (some 8) ?_
           exact norm_ (by first | (simp only [putAll, Act.put, List.setIfInBounds_toArray, List.set_cons_zero, List.set_cons_succ]; done) | (simp only [putAll, Act.put, List.setIfInBounds_toArray, List.set_cons_zero, List.set_cons_succ]; rfl)) (hJ5 (v109) _ ⟨(rP HO110), (bP BK101), (bZ HB)⟩)
         ·skip
          rintro v109 w8 ⟨h0_, h1_, h2_⟩
          have HO110 : Aside0 (Kd.R (Kd.int .i64) 3 w8 w.heap.size (fun _ => True) v109 y108) := ⟨h0_⟩
          replace BK101 : Aside0 (w8.heap[gb101]? = some (.cells #[.slice none 0 0, .slice none 0 0, .slice none 0 0] 75 (0, 0))) := ⟨h1_⟩
          replace HB : Aside0 (Below w.heap.size w w8) := ⟨h2_⟩
          clear h0_ h1_ h2_
          have hHeld := trivial
          refine norm_ (a' := ?_) ?_ ?_
          rotate_left
          ·simp only [putAll, Act.put, List.setIfInBounds_toArray, List.set_cons_zero, List.set_cons_succ]
           rfl
          refine two_ (i := 1) (j := 3) (Ni := some 4) (Nj := some 6) #[true, true, true, false, true, true, false, false] #[true, false, true, true, true, true, false, false] rfl rfl rfl rfl (two_of HT_.out (by kernel_rfl)) (by decide) (by decide) (fun K hK => ?_) (fun K hK => ?_)
          ·skip
           refine Kd.R_make_step (Kd.int .i64) _ 3 (by rfl) (N := 4) rfl 31 _ _ rfl a0 rfl rfl Try.underlying31 (.int .i64 0) 8 info3 rfl (by decide) (by omega) 0 (ok := fun _ => True) (okp := fun _ => True) rfl (fun _ hk => hk) trivial (of_decide_eq_true (by first | (with_reducible assumption) | assumption)) (Nat.le_trans (Nat.mul_le_mul_right _ (of_decide_eq_true (by first | (with_reducible assumption) | assumption) : a0.toNat ≤ 35184372088832)) (by omega)) (Below.refl _ _) (Nat.le_refl _) ?_
           intro v103 w9 ho10 hb hg_ hnew_
           clear hg_ hnew_
           (first | rw [← Ny102.out] at ho10 | (simp only [Int.reduceToNat] at ho10; rw [← Ny102.out] at ho10))
           have HO104 := Aside0.mk (Kd.R_lower (Kd.R_new' ho10 (Kd.R_lt (rP HO110))) (below_size (bZ HB)))
           replace HO110 := Aside0.mk (Kd.R_elder' (rP HO110) (Kd.R_base ho10) hb)
           replace BK101 := bB BK101 hb
           replace HB := bS HB hb
           clear hb ho10
           refine hK.out _ _ trivial (fun hHeld => ?_)
           clear hK K
           refine nO (some 4) ?_
           exact norm_ (by first | (simp only [putAll, Act.put, List.setIfInBounds_toArray, List.set_cons_zero, List.set_cons_succ]; done) | (simp only [putAll, Act.put, List.setIfInBounds_toArray, List.set_cons_zero, List.set_cons_succ]; rfl)) (hJ1_5 (v103, v109) _ ⟨(by (with_reducible repeat (first | apply Kd.R_alloc | apply Kd.R_drewN | apply Kd.R_drew)); exact Kd.R_mono HO104.out (fun _ hk => hk.2)), (by (with_reducible repeat (first | apply Kd.R_alloc | apply Kd.R_drewN | apply Kd.R_drew)); exact Kd.R_mono HO110.out (fun _ hk => hk.2)), (bP BK101), (bZ HB)⟩)
          ·skip
           refine Kd.R_make_step (Kd.int .i64) _ 3 (by rfl) (N := 6) rfl 31 _ _ rfl a0 rfl rfl Try.underlying31 (.int .i64 0) 8 info3 rfl (by decide) (by omega) 0 (ok := fun _ => True) (okp := fun _ => True) rfl (fun _ hk => hk) trivial (of_decide_eq_true (by first | (with_reducible assumption) | assumption)) (Nat.le_trans (Nat.mul_le_mul_right _ (of_decide_eq_true (by first | (with_reducible assumption) | assumption) : a0.toNat ≤ 35184372088832)) (by omega)) (Below.refl _ _) (Nat.le_refl _) ?_
           intro v106 w9 ho10 hb hg_ hnew_
           clear hg_ hnew_
           (first | rw [← Ny105.out] at ho10 | (simp only [Int.reduceToNat] at ho10; rw [← Ny105.out] at ho10))
           have HO107 := Aside0.mk (Kd.R_lower (Kd.R_new' ho10 (Kd.R_lt (rP HO110))) (below_size (bZ HB)))
           replace HO110 := Aside0.mk (Kd.R_elder' (rP HO110) (Kd.R_base ho10) hb)
           replace BK101 := bB BK101 hb
           replace HB := bS HB hb
           clear hb ho10
           refine hK.out _ _ trivial (fun hHeld => ?_)
           clear hK K
           refine nO (some 6) ?_
           exact norm_ (by first | (simp only [putAll, Act.put, List.setIfInBounds_toArray, List.set_cons_zero, List.set_cons_succ]; done) | (simp only [putAll, Act.put, List.setIfInBounds_toArray, List.set_cons_zero, List.set_cons_succ]; rfl)) (hJ3_5 (v106, v109) _ ⟨(by (with_reducible repeat (first | apply Kd.R_alloc | apply Kd.R_drewN | apply Kd.R_drew)); exact Kd.R_mono HO107.out (fun _ hk => hk.2)), (by (with_reducible repeat (first | apply Kd.R_alloc | apply Kd.R_drewN | apply Kd.R_drew)); exact Kd.R_mono HO110.out (fun _ hk => hk.2)), (bP BK101), (bZ HB)⟩)
        ·skip
         rintro v106 w8 ⟨h0_, h1_, h2_⟩
         have HO107 : Aside0 (Kd.R (Kd.int .i64) 3 w8 w.heap.size (fun _ => True) v106 y105) := ⟨h0_⟩
         replace BK101 : Aside0 (w8.heap[gb101]? = some (.cells #[.slice none 0 0, .slice none 0 0, .slice none 0 0] 75 (0, 0))) := ⟨h1_⟩
         replace HB : Aside0 (Below w.heap.size w w8) := ⟨h2_⟩
         clear h0_ h1_ h2_
         have hHeld := trivial
         refine norm_ (a' := ?_) ?_ ?_
         rotate_left
         ·simp only [putAll, Act.put, List.setIfInBounds_toArray, List.set_cons_zero, List.set_cons_succ]
          rfl
         refine two_ (i := 1) (j := 5) (Ni := some 4) (Nj := some 8) #[true, true, true, true, true, false, false, false] #[true, false, true, true, true, true, false, false] rfl rfl rfl rfl (two_of HT_.out (by kernel_rfl)) (by decide) (by decide) (fun K hK => ?_) (fun K hK => ?_)
         ·skip
          refine Kd.R_make_step (Kd.int .i64) _ 3 (by rfl) (N := 4) rfl 31 _ _ rfl a0 rfl rfl Try.underlying31 (.int .i64 0) 8 info3 rfl (by decide) (by omega) 0 (ok := fun _ => True) (okp := fun _ => True) rfl (fun _ hk => hk) trivial (of_decide_eq_true (by first | (with_reducible assumption) | assumption)) (Nat.le_trans (Nat.mul_le_mul_right _ (of_decide_eq_true (by first | (with_reducible assumption) | assumption) : a0.toNat ≤ 35184372088832)) (by omega)) (Below.refl _ _) (Nat.le_refl _) ?_
          intro v103 w9 ho10 hb hg_ hnew_
          clear hg_ hnew_
          (first | rw [← Ny102.out] at ho10 | (simp only [Int.reduceToNat] at ho10; rw [← Ny102.out] at ho10))
          have HO104 := Aside0.mk (Kd.R_lower (Kd.R_new' ho10 (Kd.R_lt (rP HO107))) (below_size (bZ HB)))
          replace HO107 := Aside0.mk (Kd.R_elder' (rP HO107) (Kd.R_base ho10) hb)
          replace BK101 := bB BK101 hb
          replace HB := bS HB hb
          clear hb ho10
          refine hK.out _ _ trivial (fun hHeld => ?_)
          clear hK K
          refine nO (some 4) ?_
          exact norm_ (by first | (simp only [putAll, Act.put, List.setIfInBounds_toArray, List.set_cons_zero, List.set_cons_succ]; done) | (simp only [putAll, Act.put, List.setIfInBounds_toArray, List.set_cons_zero, List.set_cons_succ]; rfl)) (hJ1_3 (v103, v106) _ ⟨(by (with_reducible repeat (first | apply Kd.R_alloc | apply Kd.R_drewN | apply Kd.R_drew)); exact Kd.R_mono HO104.out (fun _ hk => hk.2)), (by (with_reducible repeat (first | apply Kd.R_alloc | apply Kd.R_drewN | apply Kd.R_drew)); exact Kd.R_mono HO107.out (fun _ hk => hk.2)), (bP BK101), (bZ HB)⟩)
         ·skip
          refine Kd.R_make_step (Kd.int .i64) _ 3 (by rfl) (N := 8) rfl 31 _ _ rfl a0 rfl rfl Try.underlying31 (.int .i64 0) 8 info3 rfl (by decide) (by omega) 0 (ok := fun _ => True) (okp := fun _ => True) rfl (fun _ hk => hk) trivial (of_decide_eq_true (by first | (with_reducible assumption) | assumption)) (Nat.le_trans (Nat.mul_le_mul_right _ (of_decide_eq_true (by first | (with_reducible assumption) | assumption) : a0.toNat ≤ 35184372088832)) (by omega)) (Below.refl _ _) (Nat.le_refl _) ?_
          intro v109 w9 ho10 hb hg_ hnew_
          clear hg_ hnew_
          (first | rw [← Ny108.out] at ho10 | (simp only [Int.reduceToNat] at ho10; rw [← Ny108.out] at ho10))
          have HO110 := Aside0.mk (Kd.R_lower (Kd.R_new' ho10 (Kd.R_lt (rP HO107))) (below_size (bZ HB)))
          replace HO107 := Aside0.mk (Kd.R_elder' (rP HO107) (Kd.R_base ho10) hb)
          replace BK101 := bB BK101 hb
          replace HB := bS HB hb
          clear hb ho10
          refine hK.out _ _ trivial (fun hHeld => ?_)
          clear hK K
          refine nO (some 8) ?_
          exact norm_ (by first | (simp only [putAll, Act.put, List.setIfInBounds_toArray, List.set_cons_zero, List.set_cons_succ]; done) | (simp only [putAll, Act.put, List.setIfInBounds_toArray, List.set_cons_zero, List.set_cons_succ]; rfl)) (hJ3_5 (v106, v109) _ ⟨(by (with_reducible repeat (first | apply Kd.R_alloc | apply Kd.R_drewN | apply Kd.R_drew)); exact Kd.R_mono HO107.out (fun _ hk => hk.2)), (by (with_reducible repeat (first | apply Kd.R_alloc | apply Kd.R_drewN | apply Kd.R_drew)); exact Kd.R_mono HO110.out (fun _ hk => hk.2)), (bP BK101), (bZ HB)⟩)
       ·skip
        rintro v103 w8 ⟨h0_, h1_, h2_⟩
        have HO104 : Aside0 (Kd.R (Kd.int .i64) 3 w8 w.heap.size (fun _ => True) v103 y102) := ⟨h0_⟩
        replace BK101 : Aside0 (w8.heap[gb101]? = some (.cells #[.slice none 0 0, .slice none 0 0, .slice none 0 0] 75 (0, 0))) := ⟨h1_⟩
        replace HB : Aside0 (Below w.heap.size w w8) := ⟨h2_⟩
        clear h0_ h1_ h2_
        have hHeld := trivial
        refine norm_ (a' := ?_) ?_ ?_
        rotate_left
        ·simp only [putAll, Act.put, List.setIfInBounds_toArray, List.set_cons_zero, List.set_cons_succ]
         rfl
        refine two_ (i := 3) (j := 5) (Ni := some 6) (Nj := some 8) #[true, true, true, true, true, false, false, false] #[true, true, true, false, true, true, false, false] rfl rfl rfl rfl (two_of HT_.out (by kernel_rfl)) (by decide) (by decide) (fun K hK => ?_) (fun K hK => ?_)
        ·skip
         refine Kd.R_make_step (Kd.int .i64) _ 3 (by rfl) (N := 6) rfl 31 _ _ rfl a0 rfl rfl Try.underlying31 (.int .i64 0) 8 info3 rfl (by decide) (by omega) 0 (ok := fun _ => True) (okp := fun _ => True) rfl (fun _ hk => hk) trivial (of_decide_eq_true (by first | (with_reducible assumption) | assumption)) (Nat.le_trans (Nat.mul_le_mul_right _ (of_decide_eq_true (by first | (with_reducible assumption) | assumption) : a0.toNat ≤ 35184372088832)) (by omega)) (Below.refl _ _) (Nat.le_refl _) ?_
         intro v106 w9 ho10 hb hg_ hnew_
         clear hg_ hnew_
         (first | rw [← Ny105.out] at ho10 | (simp only [Int.reduceToNat] at ho10; rw [← Ny105.out] at ho10))
         have HO107 := Aside0.mk (Kd.R_lower (Kd.R_new' ho10 (Kd.R_lt (rP HO104))) (below_size (bZ HB)))
         replace HO104 := Aside0.mk (Kd.R_elder' (rP HO104) (Kd.R_base ho10) hb)
         replace BK101 := bB BK101 hb
         replace HB := bS HB hb
         clear hb ho10
         refine hK.out _ _ trivial (fun hHeld => ?_)
         clear hK K
         refine nO (some 6) ?_
         exact norm_ (by first | (simp only [putAll, Act.put, List.setIfInBounds_toArray, List.set_cons_zero, List.set_cons_succ]; done) | (simp only [putAll, Act.put, List.setIfInBounds_toArray, List.set_cons_zero, List.set_cons_succ]; rfl)) (hJ1_3 (v103, v106) _ ⟨(by (with_reducible repeat (first | apply Kd.R_alloc | apply Kd.R_drewN | apply Kd.R_drew)); exact Kd.R_mono HO104.out (fun _ hk => hk.2)), (by (with_reducible repeat (first | apply Kd.R_alloc | apply Kd.R_drewN | apply Kd.R_drew)); exact Kd.R_mono HO107.out (fun _ hk => hk.2)), (bP BK101), (bZ HB)⟩)
        ·skip
         refine Kd.R_make_step (Kd.int .i64) _ 3 (by rfl) (N := 8) rfl 31 _ _ rfl a0 rfl rfl Try.underlying31 (.int .i64 0) 8 info3 rfl (by decide) (by omega) 0 (ok := fun _ => True) (okp := fun _ => True) rfl (fun _ hk => hk) trivial (of_decide_eq_true (by first | (with_reducible assumption) | assumption)) (Nat.le_trans (Nat.mul_le_mul_right _ (of_decide_eq_true (by first | (with_reducible assumption) | assumption) : a0.toNat ≤ 35184372088832)) (by omega)) (Below.refl _ _) (Nat.le_refl _) ?_
         intro v109 w9 ho10 hb hg_ hnew_
         clear hg_ hnew_
         (first | rw [← Ny108.out] at ho10 | (simp only [Int.reduceToNat] at ho10; rw [← Ny108.out] at ho10))
         have HO110 := Aside0.mk (Kd.R_lower (Kd.R_new' ho10 (Kd.R_lt (rP HO104))) (below_size (bZ HB)))
         replace HO104 := Aside0.mk (Kd.R_elder' (rP HO104) (Kd.R_base ho10) hb)
         replace BK101 := bB BK101 hb
         replace HB := bS HB hb
         clear hb ho10
         refine hK.out _ _ trivial (fun hHeld => ?_)
         clear hK K
         refine nO (some 8) ?_
         exact norm_ (by first | (simp only [putAll, Act.put, List.setIfInBounds_toArray, List.set_cons_zero, List.set_cons_succ]; done) | (simp only [putAll, Act.put, List.setIfInBounds_toArray, List.set_cons_zero, List.set_cons_succ]; rfl)) (hJ1_5 (v103, v109) _ ⟨(by (with_reducible repeat (first | apply Kd.R_alloc | apply Kd.R_drewN | apply Kd.R_drew)); exact Kd.R_mono HO104.out (fun _ hk => hk.2)), (by (with_reducible repeat (first | apply Kd.R_alloc | apply Kd.R_drewN | apply Kd.R_drew)); exact Kd.R_mono HO110.out (fun _ hk => hk.2)), (bP BK101), (bZ HB)⟩)
      ·skip
       rintro ⟨v106, v109⟩ w10 ⟨h0_, h1_, h2_, h3_⟩
       have HO107 : Aside0 (Kd.R (Kd.int .i64) 3 w10 w.heap.size (fun k_ => some k_ ≠ (v109 : Value).ownBlock) v106 y105) := ⟨h0_⟩
       have HO110 : Aside0 (Kd.R (Kd.int .i64) 3 w10 w.heap.size (fun k_ => some k_ ≠ (v106 : Value).ownBlock) v109 y108) := ⟨h1_⟩
       replace BK101 : Aside0 (w10.heap[gb101]? = some (.cells #[.slice none 0 0, .slice none 0 0, .slice none 0 0] 75 (0, 0))) := ⟨h2_⟩
       replace HB : Aside0 (Below w.heap.size w w10) := ⟨h3_⟩
       clear h0_ h1_ h2_ h3_
       have hHeld := trivial
       refine norm_ (a' := ?_) ?_ ?_
       rotate_left
       ·simp only [putAll, Act.put, List.setIfInBounds_toArray, List.set_cons_zero, List.set_cons_succ]
        rfl
       refine oI 1 (some 4) HT_.out (fun K hK => ?_)
       refine Kd.R_make_step (Kd.int .i64) _ 3 (by rfl) (N := 4) rfl 31 _ _ rfl a0 rfl rfl Try.underlying31 (.int .i64 0) 8 info3 rfl (by decide) (by omega) 0 (ok := fun _ => True) (okp := fun _ => True) rfl (fun _ hk => hk) trivial (of_decide_eq_true (by first | (with_reducible assumption) | assumption)) (Nat.le_trans (Nat.mul_le_mul_right _ (of_decide_eq_true (by first | (with_reducible assumption) | assumption) : a0.toNat ≤ 35184372088832)) (by omega)) (Below.refl _ _) (Nat.le_refl _) ?_
       intro v103 w11 ho12 hb hg_ hnew_
       clear hg_ hnew_
       (first | rw [← Ny102.out] at ho12 | (simp only [Int.reduceToNat] at ho12; rw [← Ny102.out] at ho12))
       have HO104 := Aside0.mk (Kd.R_lower (Kd.R_new' (Kd.R_new' ho12 (Kd.R_lt (rP HO107))) (Kd.R_lt (rP HO110))) (below_size (bZ HB)))
       replace HO107 := Aside0.mk (Kd.R_elder' (rP HO107) (Kd.R_base ho12) hb)
       replace HO110 := Aside0.mk (Kd.R_elder' (rP HO110) (Kd.R_base ho12) hb)
       replace BK101 := bB BK101 hb
       replace HB := bS HB hb
       clear hb ho12
       obtain ⟨Ao13, co13, eo13⟩ := Kd.R_slice HO110.out
       (first | subst eo13 | (injection eo13 with f1_ f2_ f3_; have f4_ := f1_.symm; have f5_ := f3_.symm; clear f1_ f2_ f3_; subst f4_; subst f5_))
       obtain ⟨Ao14, co14, eo14⟩ := Kd.R_slice HO107.out
       (first | subst eo14 | (injection eo14 with f1_ f2_ f3_; have f4_ := f1_.symm; have f5_ := f3_.symm; clear f1_ f2_ f3_; subst f4_; subst f5_))
       obtain ⟨Ao15, co15, eo15⟩ := Kd.R_slice HO104.out
       (first | subst eo15 | (injection eo15 with f1_ f2_ f3_; have f4_ := f1_.symm; have f5_ := f3_.symm; clear f1_ f2_ f3_; subst f4_; subst f5_))
       refine hK.out _ _ trivial (fun hHeld => ?_)
       clear hK K
       refine nO (some 4) ?_
       exact norm_ (by first | (simp only [putAll, Act.put, List.setIfInBounds_toArray, List.set_cons_zero, List.set_cons_succ]; done) | (simp only [putAll, Act.put, List.setIfInBounds_toArray, List.set_cons_zero, List.set_cons_succ]; rfl)) (hJ1_3_5 (.slice Ao15 y102.length co15, .slice Ao14 y105.length co14, .slice Ao13 y108.length co13) _ ⟨(by (with_reducible repeat (first | apply Kd.R_alloc | apply Kd.R_drewN | apply Kd.R_drew)); exact Kd.R_mono HO104.out (fun _ hk => ⟨hk.1.2, hk.2⟩)), (by (with_reducible repeat (first | apply Kd.R_alloc | apply Kd.R_drewN | apply Kd.R_drew)); exact Kd.R_mono HO107.out (fun _ hk => ⟨hk.2, hk.1⟩)), (by (with_reducible repeat (first | apply Kd.R_alloc | apply Kd.R_drewN | apply Kd.R_drew)); exact Kd.R_mono HO110.out (fun _ hk => ⟨hk.2, hk.1⟩)), (bP BK101), (bZ HB)⟩)
     ·skip
      rintro ⟨v103, v109⟩ w10 ⟨h0_, h1_, h2_, h3_⟩
      have HO104 : Aside0 (Kd.R (Kd.int .i64) 3 w10 w.heap.size (fun k_ => some k_ ≠ (v109 : Value).ownBlock) v103 y102) := ⟨h0_⟩
      have HO110 : Aside0 (Kd.R (Kd.int .i64) 3 w10 w.heap.size (fun k_ => some k_ ≠ (v103 : Value).ownBlock) v109 y108) := ⟨h1_⟩
      replace BK101 : Aside0 (w10.heap[gb101]? = some (.cells #[.slice none 0 0, .slice none 0 0, .slice none 0 0] 75 (0, 0))) := ⟨h2_⟩
      replace HB : Aside0 (Below w.heap.size w w10) := ⟨h3_⟩
      clear h0_ h1_ h2_ h3_
      have hHeld := trivial
      refine norm_ (a' := ?_) ?_ ?_
      rotate_left
      ·simp only [putAll, Act.put, List.setIfInBounds_toArray, List.set_cons_zero, List.set_cons_succ]
       rfl
      refine oI 3 (some 6) HT_.out (fun K hK => ?_)
      refine Kd.R_make_step (Kd.int .i64) _ 3 (by rfl) (N := 6) rfl 31 _ _ rfl a0 rfl rfl Try.underlying31 (.int .i64 0) 8 info3 rfl (by decide) (by omega) 0 (ok := fun _ => True) (okp := fun _ => True) rfl (fun _ hk => hk) trivial (of_decide_eq_true (by first | (with_reducible assumption) | assumption)) (Nat.le_trans (Nat.mul_le_mul_right _ (of_decide_eq_true (by first | (with_reducible assumption) | assumption) : a0.toNat ≤ 35184372088832)) (by omega)) (Below.refl _ _) (Nat.le_refl _) ?_
      intro v106 w11 ho12 hb hg_ hnew_
      clear hg_ hnew_
      (first | rw [← Ny105.out] at ho12 | (simp only [Int.reduceToNat] at ho12; rw [← Ny105.out] at ho12))
      have HO107 := Aside0.mk (Kd.R_lower (Kd.R_new' (Kd.R_new' ho12 (Kd.R_lt (rP HO104))) (Kd.R_lt (rP HO110))) (below_size (bZ HB)))
      replace HO104 := Aside0.mk (Kd.R_elder' (rP HO104) (Kd.R_base ho12) hb)
      replace HO110 := Aside0.mk (Kd.R_elder' (rP HO110) (Kd.R_base ho12) hb)
      replace BK101 := bB BK101 hb
      replace HB := bS HB hb
      clear hb ho12
      obtain ⟨Ao13, co13, eo13⟩ := Kd.R_slice HO110.out
      (first | subst eo13 | (injection eo13 with f1_ f2_ f3_; have f4_ := f1_.symm; have f5_ := f3_.symm; clear f1_ f2_ f3_; subst f4_; subst f5_))
      obtain ⟨Ao14, co14, eo14⟩ := Kd.R_slice HO107.out
      (first | subst eo14 | (injection eo14 with f1_ f2_ f3_; have f4_ := f1_.symm; have f5_ := f3_.symm; clear f1_ f2_ f3_; subst f4_; subst f5_))
      obtain ⟨Ao15, co15, eo15⟩ := Kd.R_slice HO104.out
      (first | subst eo15 | (injection eo15 with f1_ f2_ f3_; have f4_ := f1_.symm; have f5_ := f3_.symm; clear f1_ f2_ f3_; subst f4_; subst f5_))
      refine hK.out _ _ trivial (fun hHeld => ?_)
      clear hK K
      refine nO (some 6) ?_
      exact norm_ (by first | (simp only [putAll, Act.put, List.setIfInBounds_toArray, List.set_cons_zero, List.set_cons_succ]; done) | (simp only [putAll, Act.put, List.setIfInBounds_toArray, List.set_cons_zero, List.set_cons_succ]; rfl)) (hJ1_3_5 (.slice Ao15 y102.length co15, .slice Ao14 y105.length co14, .slice Ao13 y108.length co13) _ ⟨(by (with_reducible repeat (first | apply Kd.R_alloc | apply Kd.R_drewN | apply Kd.R_drew)); exact Kd.R_mono HO104.out (fun _ hk => ⟨hk.2, hk.1⟩)), (by (with_reducible repeat (first | apply Kd.R_alloc | apply Kd.R_drewN | apply Kd.R_drew)); exact Kd.R_mono HO107.out (fun _ hk => ⟨hk.1.2, hk.2⟩)), (rP HO110), (bP BK101), (bZ HB)⟩)
    ·skip
     rintro ⟨v103, v106⟩ w10 ⟨h0_, h1_, h2_, h3_⟩
     have HO104 : Aside0 (Kd.R (Kd.int .i64) 3 w10 w.heap.size (fun k_ => some k_ ≠ (v106 : Value).ownBlock) v103 y102) := ⟨h0_⟩
     have HO107 : Aside0 (Kd.R (Kd.int .i64) 3 w10 w.heap.size (fun k_ => some k_ ≠ (v103 : Value).ownBlock) v106 y105) := ⟨h1_⟩
     replace BK101 : Aside0 (w10.heap[gb101]? = some (.cells #[.slice none 0 0, .slice none 0 0, .slice none 0 0] 75 (0, 0))) := ⟨h2_⟩
     replace HB : Aside0 (Below w.heap.size w w10) := ⟨h3_⟩
     clear h0_ h1_ h2_ h3_
     have hHeld := trivial
     refine norm_ (a' := ?_) ?_ ?_
     rotate_left
     ·simp only [putAll, Act.put, List.setIfInBounds_toArray, List.set_cons_zero, List.set_cons_succ]
      rfl
     refine oI 5 (some 8) HT_.out (fun K hK => ?_)
     refine Kd.R_make_step (Kd.int .i64) _ 3 (by rfl) (N := 8) rfl 31 _ _ rfl a0 rfl rfl Try.underlying31 (.int .i64 0) 8 info3 rfl (by decide) (by omega) 0 (ok := fun _ => True) (okp := fun _ => True) rfl (fun _ hk => hk) trivial (of_decide_eq_true (by first | (with_reducible assumption) | assumption)) (Nat.le_trans (Nat.mul_le_mul_right _ (of_decide_eq_true (by first | (with_reducible assumption) | assumption) : a0.toNat ≤ 35184372088832)) (by omega)) (Below.refl _ _) (Nat.le_refl _) ?_
     intro v109 w11 ho12 hb hg_ hnew_
     clear hg_ hnew_
     (first | rw [← Ny108.out] at ho12 | (simp only [Int.reduceToNat] at ho12; rw [← Ny108.out] at ho12))
     have HO110 := Aside0.mk (Kd.R_lower (Kd.R_new' (Kd.R_new' ho12 (Kd.R_lt (rP HO104))) (Kd.R_lt (rP HO107))) (below_size (bZ HB)))
     replace HO104 := Aside0.mk (Kd.R_elder' (rP HO104) (Kd.R_base ho12) hb)
     replace HO107 := Aside0.mk (Kd.R_elder' (rP HO107) (Kd.R_base ho12) hb)
     replace BK101 := bB BK101 hb
     replace HB := bS HB hb
     clear hb ho12
     obtain ⟨Ao13, co13, eo13⟩ := Kd.R_slice HO110.out
     (first | subst eo13 | (injection eo13 with f1_ f2_ f3_; have f4_ := f1_.symm; have f5_ := f3_.symm; clear f1_ f2_ f3_; subst f4_; subst f5_))
     obtain ⟨Ao14, co14, eo14⟩ := Kd.R_slice HO107.out
     (first | subst eo14 | (injection eo14 with f1_ f2_ f3_; have f4_ := f1_.symm; have f5_ := f3_.symm; clear f1_ f2_ f3_; subst f4_; subst f5_))
     obtain ⟨Ao15, co15, eo15⟩ := Kd.R_slice HO104.out
     (first | subst eo15 | (injection eo15 with f1_ f2_ f3_; have f4_ := f1_.symm; have f5_ := f3_.symm; clear f1_ f2_ f3_; subst f4_; subst f5_))
     refine hK.out _ _ trivial (fun hHeld => ?_)
     clear hK K
     refine nO (some 8) ?_
     exact norm_ (by first | (simp only [putAll, Act.put, List.setIfInBounds_toArray, List.set_cons_zero, List.set_cons_succ]; done) | (simp only [putAll, Act.put, List.setIfInBounds_toArray, List.set_cons_zero, List.set_cons_succ]; rfl)) (hJ1_3_5 (.slice Ao15 y102.length co15, .slice Ao14 y105.length co14, .slice Ao13 y108.length co13) _ ⟨(rP HO104), (rP HO107), (by (with_reducible repeat (first | apply Kd.R_alloc | apply Kd.R_drewN | apply Kd.R_drew)); exact Kd.R_mono HO110.out (fun _ hk => ⟨hk.1.2, hk.2⟩)), (bP BK101), (bZ HB)⟩)
   rintro ⟨v103, v106, v109⟩ w15 ⟨h0_, h1_, h2_, h3_, h4_⟩
   have HO104 : Aside0 (Kd.R (Kd.int .i64) 3 w15 w.heap.size (fun k_ => some k_ ≠ (v106 : Value).ownBlock ∧ some k_ ≠ (v109 : Value).ownBlock) v103 y102) := ⟨h0_⟩
   have HO107 : Aside0 (Kd.R (Kd.int .i64) 3 w15 w.heap.size (fun k_ => some k_ ≠ (v103 : Value).ownBlock ∧ some k_ ≠ (v109 : Value).ownBlock) v106 y105) := ⟨h1_⟩
   have HO110 : Aside0 (Kd.R (Kd.int .i64) 3 w15 w.heap.size (fun k_ => some k_ ≠ (v103 : Value).ownBlock ∧ some k_ ≠ (v106 : Value).ownBlock) v109 y108) := ⟨h2_⟩
   replace BK101 : Aside0 (w15.heap[gb101]? = some (.cells #[.slice none 0 0, .slice none 0 0, .slice none 0 0] 75 (0, 0))) := ⟨h3_⟩
   replace HB : Aside0 (Below w.heap.size w w15) := ⟨h4_⟩
   clear h0_ h1_ h2_ h3_ h4_
   have hHeld := trivial
   obtain ⟨Ao16, co16, eo16⟩ := Kd.R_slice HO110.out
   (first | subst eo16 | (injection eo16 with f1_ f2_ f3_; have f4_ := f1_.symm; have f5_ := f3_.symm; clear f1_ f2_ f3_; subst f4_; subst f5_))
   obtain ⟨Ao17, co17, eo17⟩ := Kd.R_slice HO107.out
   (first | subst eo17 | (injection eo17 with f1_ f2_ f3_; have f4_ := f1_.symm; have f5_ := f3_.symm; clear f1_ f2_ f3_; subst f4_; subst f5_))
   obtain ⟨Ao18, co18, eo18⟩ := Kd.R_slice HO104.out
   (first | subst eo18 | (injection eo18 with f1_ f2_ f3_; have f4_ := f1_.symm; have f5_ := f3_.symm; clear f1_ f2_ f3_; subst f4_; subst f5_))
   refine norm_ (a' := ?_) ?_ ?_
   rotate_left
   ·simp only [putAll, Act.put, List.setIfInBounds_toArray, List.set_cons_zero, List.set_cons_succ]
    rfl
   refine pI 6 (some 9) HT_.out ?_
   refine oI 7 (none) HT_.out (fun K hK => ?_)
   have hs19 : w15.cell? ⟨gb101, 0, none⟩ = some (.slice none 0 0) := bc BK101 0
   have hfs19 := blk_frozen BK101.out 0
   have hs20 : w15.cell? ⟨gb101, 1, none⟩ = some (.slice none 0 0) := bc BK101 1
   have hfs20 := blk_frozen BK101.out 1
   have hs21 : w15.cell? ⟨gb101, 2, none⟩ = some (.slice none 0 0) := bc BK101 2
   have hfs21 := blk_frozen BK101.out 2
   refine skip_ (w1 := ?_) (by rfl) rfl ?_ ?_
   rotate_left
   ·go_simp
    rfl
   refine hK.out _ _ trivial (fun hHeld => ?_)
   clear hK K
   refine done_ (done_of HT_.out (by kernel_rfl)) ?_
   try go_wp2
   refine rC gb101 75 #[.slice Ao18 y102.length co18, .slice Ao17 y105.length co17, .slice Ao16 y108.length co16] (bU BK101) Try.underlying75 ?_
   exact ⟨_, _, _, by first | rfl | (simp [errW_none, errW_some] <;> rfl) | (simp [*, errW_none, errW_some] <;> rfl), by (with_reducible repeat (first | apply Kd.R_alloc | apply Kd.R_drewN | apply Kd.R_drew)); exact Kd.R_mono (Kd.R_far (p := ⟨gb101, 2, none⟩) (Kd.R_far (p := ⟨gb101, 1, none⟩) (Kd.R_far (p := ⟨gb101, 0, none⟩) (Kd.R_types HO104.out BK101.out (by decide)) (fun _ hk => hk.2) (.slice Ao18 y102.length co18)) (fun _ hk => hk.2) (.slice Ao17 y105.length co17)) (fun _ hk => hk.2) (.slice Ao16 y108.length co16)) (fun _ hk => ⟨hk.1.1, hk.1.2⟩), by (with_reducible repeat (first | apply Kd.R_alloc | apply Kd.R_drewN | apply Kd.R_drew)); exact Kd.R_mono (Kd.R_far (p := ⟨gb101, 2, none⟩) (Kd.R_far (p := ⟨gb101, 1, none⟩) (Kd.R_far (p := ⟨gb101, 0, none⟩) (Kd.R_types HO107.out BK101.out (by decide)) (fun _ hk => hk.2) (.slice Ao18 y102.length co18)) (fun _ hk => hk.2) (.slice Ao17 y105.length co17)) (fun _ hk => hk.2) (.slice Ao16 y108.length co16)) (fun _ hk => ⟨hk.1.1, hk.1.2⟩), by (with_reducible repeat (first | apply Kd.R_alloc | apply Kd.R_drewN | apply Kd.R_drew)); exact Kd.R_mono (Kd.R_far (p := ⟨gb101, 2, none⟩) (Kd.R_far (p := ⟨gb101, 1, none⟩) (Kd.R_far (p := ⟨gb101, 0, none⟩) (Kd.R_types HO110.out BK101.out (by decide)) (fun _ hk => hk.2) (.slice Ao18 y102.length co18)) (fun _ hk => hk.2) (.slice Ao17 y105.length co17)) (fun _ hk => hk.2) (.slice Ao16 y108.length co16)) (fun _ hk => ⟨hk.1.1, hk.1.2⟩), bZ HB⟩
  ·rw [if_neg c3] at H
   exact absurd H (by simp)
 ·rw [if_neg c2] at H
  exact absurd H (by simp)
end Go.Proofs.Ythdpfjkdpeamnaa.Pf
end
section
namespace Go.Proofs.Ythdpfjkdpeamnaa.Pf
open Go.RowKit Go.Proofs.YthdpfjkdpeamnaaW.PrintWords Go.Proofs.YthdpfjkdpeamnaaW.PrintLast Go.Proofs.YthdpfjkdpeamnaaW.PrintMore
attribute [local go_sem] max2_int min2_int max_two min_two max_three min_three max_four min_four   -- for this text's walks alone
set_option linter.unusedVariables false
set_option linter.unusedSimpArgs false
mutual
def spec_CountSystem.l0 : Nat → Int → Int → Int → Int → List (S75) → Option (Int × Int × (List (S75)))
 | 0, _, _, _, _, _ => none
 | k + 1, x1, x3, x113000, x113001, x113002 => if x3 < 8 then ((spec_l13Row.f x1).bind fun bt113 => (if 0 ≤ (wrap64 (3 + x3)) then (if (wrap64 (3 + x3)) < (bt113.1.length : Int) then (if (wrap64 (3 + x3)) < (bt113.2.1.length : Int) then (if (wrap64 (3 + x3)) < (bt113.2.2.length : Int) then (if x113002.length < 1954687338268 then (spec_CountSystem.l0 k x1 (wrap64 (x3 + 1)) x113000 x113001 (x113002 ++ [(⟨(bt113.1.set ((wrap64 (3 + x3)) : Int).toNat 1), (bt113.2.1.set ((wrap64 (3 + x3)) : Int).toNat 1), (bt113.2.2.set ((wrap64 (3 + x3)) : Int).toNat 1)⟩ : S75)])) else (none)) else (none)) else (none)) else (none)) else (none))) else ((spec_l13Row.f x1).bind fun bt129 => ((spec_l13Row.f x1).bind fun bt139 => (if 0 < (bt129.1.length : Int) then (if 0 < (bt139.1.length : Int) then (spec_CountSystem.l1 k 0 x113000 x113001 x113002 (bt129.1.set (0 : Int).toNat 1) bt129.2.1 bt129.2.2 (bt139.1.set (0 : Int).toNat 1) bt139.2.1 bt139.2.2) else (none)) else (none))))
def spec_CountSystem.l1 : Nat → Int → Int → Int → List (S75) → List Int → List Int → List Int → List Int → List Int → List Int → Option (Int × Int × (List (S75)))
 | 0, _, _, _, _, _, _, _, _, _, _ => none
 | k + 1, x7, x113000, x113001, x113002, x139000, x139001, x139002, x149000, x149001, x149002 => if x7 < 8 then (if 0 ≤ (IntKind.u64.wrap (x7)) then (if 0 ≤ (wrap64 (3 + x7)) then (if (wrap64 (3 + x7)) < (x139001.length : Int) then (if (wrap64 (3 + x7)) < (x149001.length : Int) then (spec_CountSystem.l1 k (wrap64 (x7 + 1)) x113000 x113001 x113002 x139000 (x139001.set ((wrap64 (3 + x7)) : Int).toNat (shl .i64 1 (IntKind.u64.wrap (x7)))) x139002 x149000 (x149001.set ((wrap64 (3 + x7)) : Int).toNat 1) x149002) else (none)) else (none)) else (none)) else (none)) else (if 1 < (x139002.length : Int) then (if 2 < (x149002.length : Int) then ((some (([(⟨x139000, x139001, (x139002.set (1 : Int).toNat 1)⟩ : S75), (⟨x149000, x149001, (x149002.set (2 : Int).toNat 1)⟩ : S75)] : List (S75)) : List (S75))).bind fun y155 => (if x113002.length + y155.length < 1954687338268 then (some (x113000, x113001, (x113002 ++ y155))) else (none))) else (none)) else (none))
end
def spec_CountSystem.f (k : Nat)  : Option (Int × Int × (List (S75))) := spec_CountSystem.l0 k 11 0 11 2 ([] : List (S75))
set_option maxHeartbeats 8000000 in
set_option maxRecDepth 100000 in
theorem spec_CountSystem.calls (k : Nat)  (r1 : Int) (r2 : Int) (r3 : List (S75)) (w : World) (h : spec_CountSystem.f k  = some (r1, r2, r3)) :
  Calls Try.prog 37 #[] w fun e w' => ∃ v2_ : Value, e = .returned (.agg #[.int .i64 r1, .int .i64 r2, v2_]) ∧ Kd.N k75 75 w' w.heap.size (fun k_ => (w.heap.size ≤ k_)) v2_ r3 ∧ Below w.heap.size w w' := by
 have hu43 := Try.underlying43
 have hu75 := Try.underlying75
 have HB := Aside0.mk (Below.refl w.heap.size w)
 have H : (spec_CountSystem.l0 k 11 0 11 2 ([] : List (S75))) = some (r1, r2, r3) := h
 clear h
 have H' := Aside0.mk H
 clear H
 go_enter Try.func37, Try.ntmps37
 go_wp2_with (first | ((with_reducible refine gate_dst (N := 0) rfl ?_); refine bE 0 #[.int .i64 0, .int .i64 0, .slice none 0 0] 43 ?_; intro gb111 hg w1 hbox hb; have BK111 := Aside0.mk (hbox); have GW111 := bG HB hg; have GE111 := bG HB hg; replace HB := bS HB hb; clear hb hbox hg) | ((with_reducible refine gate_dst (N := 2) rfl ?_); refine bE 2 #[.int .i64 0, .int .i64 0, .slice none 0 0] 43 ?_; intro gb112 hg w2 hbox hb; have BK112 := Aside0.mk (hbox); have GW112 := bG HB hg; have GE112 := bG HB hg; replace HB := bS HB hb; have NB111_112 := bL BK111 hg; have NB112_111 := bR BK111 hg; replace BK111 := bB BK111 hb; clear hb hbox hg; obtain ⟨hnb3, hnc3⟩ := nB NB112_111; obtain ⟨hcz4_0, hcz4_1, hcz4_2, hfz4_0, hfz4_1, hfz4_2⟩ := bK3 (w := w2) BK112))
 go_loopg [3] k (fun kq v3 w' => ∃ (x3_1 : Int) (x113002_1 : List (S75)) (u113002 : Value), v3 = .int .i64 x3_1 ∧ Aside0 (spec_CountSystem.l0 kq 11 x3_1 11 2 x113002_1 = some (r1, r2, r3)) ∧ Aside0 (kq ≤ k) ∧ Aside0 (Kd.N k75 75 w' w.heap.size (fun k_ => (w.heap.size ≤ k_) ∧ k_ ≠ gb111 ∧ k_ ≠ gb112) u113002 x113002_1) ∧ Aside0 (w'.heap[gb111]? = some (.cells #[.int .i64 0, .int .i64 0, (.slice none 0 0)] 43 (0, 0))) ∧ Aside0 (w'.heap[gb112]? = some (.cells #[.int .i64 11, .int .i64 2, u113002] 43 (0, 0))) ∧ Aside0 (Below w.heap.size w w'))
 case atStart => exact ⟨(0), (([] : List (S75))), (.slice none 0 0), rS, H', ⟨Nat.le_refl _⟩, ⟨by first | exact Kd.S_nil _ _ _ _ _ | exact Kd.N_nil _ _ _ _ _ | exact Kd.V_nil _ _ _ _ _ | exact Kd.Q_nil _ _ _ _ _ | exact Kd.R_nil _ _ _ _ _⟩, ⟨bP BK111⟩, ⟨bU BK112⟩, ⟨bZ HB⟩⟩
 case round =>
  clear H'
  try clear p2
  try clear c3
  try clear hcz4_0
  try clear hcz4_1
  try clear hcz4_2
  try clear hfz4_0
  try clear hfz4_1
  try clear hfz4_2
  obtain ⟨x3_1, x113002_1, u113002, rfl, HA, HK1, HO_113002, BK111, BK112, HB⟩ := hrel
  cases gk with
  | zero => exact absurd HA.out (by simp [spec_CountSystem.l0])
  | succ k1 =>
   have H := HA.out
   clear HA
   simp only [spec_CountSystem.l0] at H
   by_cases c5 : x3_1 < 8
   ·rw [if_pos c5] at H
    have c5b0 : decide (x3_1 < 8) = true := decide_eq_true c5
    clear c5
    replace H := Option.bind_eq_some_iff.mp H
    obtain ⟨⟨t113, t116, t119⟩, A60, H⟩ := H
    have A6 := Aside0.mk A60
    clear A60
    obtain ⟨ji7, hji7⟩ : ∃ j_ : Int, (wrap64 (3 + x3_1)) = j_ := ⟨_, rfl⟩
    replace H : (if 0 ≤ (ji7) then (if (ji7) < (t113.length : Int) then (if (ji7) < (t116.length : Int) then (if (ji7) < (t119.length : Int) then (if x113002_1.length < 1954687338268 then (spec_CountSystem.l0 k1 11 (wrap64 (x3_1 + 1)) 11 2 (x113002_1 ++ [(⟨(t113.set ((ji7) : Int).toNat 1), (t116.set ((ji7) : Int).toNat 1), (t119.set ((ji7) : Int).toNat 1)⟩ : S75)])) else (none)) else (none)) else (none)) else (none)) else (none)) = some (r1, r2, r3) := by first | (rw [hji7] at H; exact H) | (simp only [hji7] at H ⊢; exact H)
    (try rw [hji7] at A6)
    have hji7w : (IntKind.i64.wrap (3 + x3_1)) = ji7 := (i64_w _).trans hji7
    by_cases c8 : 0 ≤ (ji7)
    ·rw [if_pos c8] at H
     have c8b0 : decide (0 ≤ (ji7)) = true := decide_eq_true c8
     clear c8
     by_cases c9 : (ji7) < (t113.length : Int)
     ·rw [if_pos c9] at H
      have c9b0 : decide ((ji7) < (t113.length : Int)) = true := decide_eq_true c9
      clear c9
      obtain ⟨y123, hy123⟩ : ∃ y_ : List Int, y_ = (t113.set ((ji7) : Int).toNat 1) := ⟨_, rfl⟩
      replace H : (if (ji7) < (t116.length : Int) then (if (ji7) < (t119.length : Int) then (if x113002_1.length < 1954687338268 then (spec_CountSystem.l0 k1 11 (wrap64 (x3_1 + 1)) 11 2 (x113002_1 ++ [(⟨y123, (t116.set ((ji7) : Int).toNat 1), (t119.set ((ji7) : Int).toNat 1)⟩ : S75)])) else (none)) else (none)) else (none)) = some (r1, r2, r3) := by first | (rw [hy123]; with_reducible exact H) | (have H2_ := (Option.bind_some _ _).symm.trans H; rw [hy123]; with_reducible exact H2_) | (have H2_ := (Option.bind_some _ _).symm.trans H; with_reducible exact H2_) | with_reducible exact H | (rw [hy123]; exact H) | exact H
      have Ny123 := Aside0.mk hy123
      clear hy123
      by_cases c11 : (ji7) < (t116.length : Int)
      ·rw [if_pos c11] at H
       have c11b0 : decide ((ji7) < (t116.length : Int)) = true := decide_eq_true c11
       clear c11
       obtain ⟨y124, hy124⟩ : ∃ y_ : List Int, y_ = (t116.set ((ji7) : Int).toNat 1) := ⟨_, rfl⟩
       replace H : (if (ji7) < (t119.length : Int) then (if x113002_1.length < 1954687338268 then (spec_CountSystem.l0 k1 11 (wrap64 (x3_1 + 1)) 11 2 (x113002_1 ++ [(⟨y123, y124, (t119.set ((ji7) : Int).toNat 1)⟩ : S75)])) else (none)) else (none)) = some (r1, r2, r3) := by first | (rw [hy124]; with_reducible exact H) | (have H2_ := (Option.bind_some _ _).symm.trans H; rw [hy124]; with_reducible exact H2_) | (have H2_ := (Option.bind_some _ _).symm.trans H; with_reducible exact H2_) | with_reducible exact H | (rw [hy124]; exact H) | exact H
       have Ny124 := Aside0.mk hy124
       clear hy124
       by_cases c13 : (ji7) < (t119.length : Int)
       ·rw [if_pos c13] at H
        have c13b0 : decide ((ji7) < (t119.length : Int)) = true := decide_eq_true c13
        clear c13
        obtain ⟨y125, hy125⟩ : ∃ y_ : List Int, y_ = (t119.set ((ji7) : Int).toNat 1) := ⟨_, rfl⟩
        replace H : (if x113002_1.length < 1954687338268 then (spec_CountSystem.l0 k1 11 (wrap64 (x3_1 + 1)) 11 2 (x113002_1 ++ [(⟨y123, y124, y125⟩ : S75)])) else (none)) = some (r1, r2, r3) := by first | (rw [hy125]; with_reducible exact H) | (have H2_ := (Option.bind_some _ _).symm.trans H; rw [hy125]; with_reducible exact H2_) | (have H2_ := (Option.bind_some _ _).symm.trans H; with_reducible exact H2_) | with_reducible exact H | (rw [hy125]; exact H) | exact H
        have Ny125 := Aside0.mk hy125
        clear hy125
        by_cases c15 : x113002_1.length < 1954687338268
        ·rw [if_pos c15] at H
         have LMc15 := Aside0.mk c15
         clear c15
         obtain ⟨y126, hy126⟩ : ∃ y_ : List (S75), y_ = (x113002_1 ++ [(⟨y123, y124, y125⟩ : S75)]) := ⟨_, rfl⟩
         replace H : (spec_CountSystem.l0 k1 11 (wrap64 (x3_1 + 1)) 11 2 y126) = some (r1, r2, r3) := by first | (rw [hy126]; with_reducible exact H) | (have H2_ := (Option.bind_some _ _).symm.trans H; rw [hy126]; with_reducible exact H2_) | (have H2_ := (Option.bind_some _ _).symm.trans H; with_reducible exact H2_) | with_reducible exact H | (rw [hy126]; exact H) | exact H
         have Ny126 := Aside0.mk hy126
         clear hy126
         have H' := Aside0.mk H
         clear H
         go_wp2_with (first | ((with_reducible refine gate_callee (f := 66) rfl ?_); refine gL (some 15) Try.func66 #[.int .i64 11] ?_; (with_reducible refine (spec_l13Row.calls 11 t113 t116 t119 _ A6.out).mono ?_); rintro e w16 ⟨v114, v117, v120, rfl, ho0, ho1, ho2, hb⟩; refine ⟨_, rfl, ?_⟩; replace HO_113002 := Aside0.mk (Kd.N_mono (Kd.N_told (Kd.N_told (Kd.N_told (Kd.N_old (by (with_reducible repeat (first | apply Kd.N_alloc | apply Kd.N_drewN | apply Kd.N_drew)); exact HO_113002.out) hb) (Kd.R_base ho0)) (Kd.R_base ho1)) (Kd.R_base ho2)) (fun _ h_ => h_.1)); have HO115 := Aside0.mk (Kd.R_lower (Kd.R_newM (M := fun k_ => (w.heap.size ≤ k_)) ho0 (below_size (bZ HB)) (fun k_ h_ => h_)) (below_size (bZ HB))); have HO118 := Aside0.mk (Kd.R_lower (Kd.R_newM (M := fun k_ => (w.heap.size ≤ k_)) ho1 (below_size (bZ HB)) (fun k_ h_ => h_)) (below_size (bZ HB))); have HO121 := Aside0.mk (Kd.R_lower (Kd.R_newM (M := fun k_ => (w.heap.size ≤ k_)) ho2 (below_size (bZ HB)) (fun k_ h_ => h_)) (below_size (bZ HB))); replace BK111 := bB BK111 hb; replace BK112 := bB BK112 hb; replace HB := bS HB hb; (try clear hb); (try clear ho0); (try clear ho1); (try clear ho2)) | ((with_reducible refine gate_dst (N := 4) rfl ?_); refine bE 4 #[.slice none 0 0, .slice none 0 0, .slice none 0 0] 75 ?_; intro gb122 hg w17 hbox hb; replace HO_113002 := Aside0.mk (Kd.N_below (Kd.N_elderB (by (with_reducible repeat (first | apply Kd.N_alloc | apply Kd.N_drewN | apply Kd.N_drew)); exact HO_113002.out) gb122 (Nat.le_of_eq hg.symm)) hb); replace HO115 := Aside0.mk (Kd.R_below (rP HO115) hb); replace HO118 := Aside0.mk (Kd.R_below (rP HO118) hb); replace HO121 := Aside0.mk (Kd.R_below (rP HO121) hb); have BK122 := Aside0.mk (hbox); have GW122 := bG HB hg; have GE122 := bG HB hg; replace HB := bS HB hb; have NB111_122 := bL BK111 hg; have NB122_111 := bR BK111 hg; replace BK111 := bB BK111 hb; have NB112_122 := bL BK112 hg; have NB122_112 := bR BK112 hg; replace BK112 := bB BK112 hb; clear hb hbox hg; obtain ⟨Ao18, co18, eo18⟩ := Kd.R_slice HO115.out; subst eo18; obtain ⟨hnb19, hnc19⟩ := nB NB122_111; obtain ⟨hnb20, hnc20⟩ := nB NB122_112; obtain ⟨hcz21_0, hcz21_1, hcz21_2, hfz21_0, hfz21_1, hfz21_2⟩ := bK3 (w := w17) BK122; obtain ⟨Ao22, co22, eo22⟩ := Kd.R_slice HO118.out; subst eo22; obtain ⟨Ao23, co23, eo23⟩ := Kd.R_slice HO121.out; subst eo23) | ((with_reducible refine gate_store (t := 75) (p := 4) rfl ?_); refine store_event (t := 75) (p := 4) (v := ?vo_w24) (w1 := (((w17.setCell ⟨gb122, 0, none⟩ (.slice Ao18 t113.length co18)).setCell ⟨gb122, 1, none⟩ (.slice Ao22 t116.length co22)).setCell ⟨gb122, 2, none⟩ (.slice Ao23 t119.length co23))) ?hg ?ho ?hn ?hr ?_; (case ho => rfl); (case hg => rfl); (case hn => rfl); (case hr => first | (go_simp; done) | (go_simp; rfl)); intro w24 hw; replace HO_113002 : Aside0 (Kd.N k75 75 w24 w.heap.size (fun k_ => (w.heap.size ≤ k_) ∧ some k_ ≠ (.slice Ao18 t113.length co18 : Value).ownBlock ∧ some k_ ≠ (.slice Ao22 t116.length co22 : Value).ownBlock ∧ some k_ ≠ (.slice Ao23 t119.length co23 : Value).ownBlock ∧ k_ ≠ gb111 ∧ k_ ≠ gb112 ∧ k_ ≠ gb122) u113002 x113002_1) := ⟨(by rw [hw]; exact (by (with_reducible repeat (first | apply Kd.N_alloc | apply Kd.N_drewN | apply Kd.N_drew)); exact Kd.N_mono (Kd.N_far (p := ⟨gb122, 2, none⟩) (Kd.N_far (p := ⟨gb122, 1, none⟩) (Kd.N_far (p := ⟨gb122, 0, none⟩) (Kd.N_mono HO_113002.out (fun k_ hk => (⟨hk, hk.2⟩ : _ ∧ k_ ≠ gb122))) (fun _ hk => hk.2) (.slice Ao18 t113.length co18)) (fun _ hk => hk.2) (.slice Ao22 t116.length co22)) (fun _ hk => hk.2) (.slice Ao23 t119.length co23)) (fun _ hk => ⟨hk.1.1.1.1.1.1, ⟨hk.1.1.1.1.2, ⟨hk.1.1.1.2, ⟨hk.1.1.2, ⟨hk.1.1.1.1.1.2.1, ⟨hk.1.1.1.1.1.2.2, hk.1.2⟩⟩⟩⟩⟩⟩)))⟩; replace HO115 : Aside0 (Kd.R (Kd.int .i64) 3 w24 w.heap.size (fun k_ => (w.heap.size ≤ k_) ∧ some k_ ≠ (.slice Ao22 t116.length co22 : Value).ownBlock ∧ some k_ ≠ (.slice Ao23 t119.length co23 : Value).ownBlock) (.slice Ao18 t113.length co18) t113) := ⟨(by rw [hw]; exact (by (with_reducible repeat (first | apply Kd.R_alloc | apply Kd.R_drewN | apply Kd.R_drew)); exact Kd.R_mono (Kd.R_far (p := ⟨gb122, 2, none⟩) (Kd.R_far (p := ⟨gb122, 1, none⟩) (Kd.R_far (p := ⟨gb122, 0, none⟩) (Kd.R_types HO115.out BK122.out (by decide)) (fun _ hk => hk.2) (.slice Ao18 t113.length co18)) (fun _ hk => hk.2) (.slice Ao22 t116.length co22)) (fun _ hk => hk.2) (.slice Ao23 t119.length co23)) (fun _ hk => ⟨hk.1.1, ⟨hk.1.2.1, hk.1.2.2⟩⟩)))⟩; replace HO118 : Aside0 (Kd.R (Kd.int .i64) 3 w24 w.heap.size (fun k_ => (w.heap.size ≤ k_) ∧ some k_ ≠ (.slice Ao18 t113.length co18 : Value).ownBlock ∧ some k_ ≠ (.slice Ao23 t119.length co23 : Value).ownBlock) (.slice Ao22 t116.length co22) t116) := ⟨(by rw [hw]; exact (by (with_reducible repeat (first | apply Kd.R_alloc | apply Kd.R_drewN | apply Kd.R_drew)); exact Kd.R_mono (Kd.R_far (p := ⟨gb122, 2, none⟩) (Kd.R_far (p := ⟨gb122, 1, none⟩) (Kd.R_far (p := ⟨gb122, 0, none⟩) (Kd.R_types HO118.out BK122.out (by decide)) (fun _ hk => hk.2) (.slice Ao18 t113.length co18)) (fun _ hk => hk.2) (.slice Ao22 t116.length co22)) (fun _ hk => hk.2) (.slice Ao23 t119.length co23)) (fun _ hk => ⟨hk.1.1, ⟨hk.1.2.1, hk.1.2.2⟩⟩)))⟩; replace HO121 : Aside0 (Kd.R (Kd.int .i64) 3 w24 w.heap.size (fun k_ => (w.heap.size ≤ k_) ∧ some k_ ≠ (.slice Ao18 t113.length co18 : Value).ownBlock ∧ some k_ ≠ (.slice Ao22 t116.length co22 : Value).ownBlock) (.slice Ao23 t119.length co23) t119) := ⟨(by rw [hw]; exact (by (with_reducible repeat (first | apply Kd.R_alloc | apply Kd.R_drewN | apply Kd.R_drew)); exact Kd.R_mono (Kd.R_far (p := ⟨gb122, 2, none⟩) (Kd.R_far (p := ⟨gb122, 1, none⟩) (Kd.R_far (p := ⟨gb122, 0, none⟩) (Kd.R_types HO121.out BK122.out (by decide)) (fun _ hk => hk.2) (.slice Ao18 t113.length co18)) (fun _ hk => hk.2) (.slice Ao22 t116.length co22)) (fun _ hk => hk.2) (.slice Ao23 t119.length co23)) (fun _ hk => ⟨hk.1.1, ⟨hk.1.2.1, hk.1.2.2⟩⟩)))⟩; replace BK111 : Aside0 (w24.heap[gb111]? = some (.cells #[.int .i64 0, .int .i64 0, .slice none 0 0] 43 (0, 0))) := ⟨(by rw [hw]; exact (bP BK111))⟩; replace BK112 : Aside0 (w24.heap[gb112]? = some (.cells #[.int .i64 11, .int .i64 2, u113002] 43 (0, 0))) := ⟨(by rw [hw]; exact (bP BK112))⟩; replace BK122 : Aside0 (w24.heap[gb122]? = some (.cells #[.slice Ao18 t113.length co18, .slice Ao22 t116.length co22, .slice Ao23 t119.length co23] 75 (0, 0))) := ⟨(by rw [hw]; exact (bU BK122))⟩; replace HB : Aside0 (Below w.heap.size w w24) := ⟨(by rw [hw]; exact (bZ HB))⟩; clear hw; obtain ⟨hcz25_0, hcz25_1, hcz25_2, hfz25_0, hfz25_1, hfz25_2⟩ := bK3 (w := w24) BK122; have p10 : 0 ≤ ((ji7) : Int) := of_decide_eq_true (by first | (with_reducible assumption) | assumption); have q10 : ((ji7) : Int) < ((t113.length : Int) : Int) := of_decide_eq_true (by first | (with_reducible assumption) | assumption); obtain ⟨go10, co10, eo10, gb10, gl10, cl10, HG10⟩ := Kd.R_form HO115.out (by omega); (first | cases eo10 | (injection eo10 with ea_ en_ ec_; (first | subst ea_ | (injection ea_ with ea_; subst ea_)); subst ec_; clear en_)); have GB10 := Aside0.mk gb10; have GG10 := Aside0.mk HG10; clear gb10 gl10 HG10; obtain ⟨hx10_0, hf10_0⟩ := Kd.R_celln 0 HO115.out ((ji7) : Int) p10 q10; replace p10 := eq_true p10; replace q10 := eq_true q10; obtain ⟨hy26_, hz26_⟩ := Kd.R_celln 0 HO115.out ((ji7) : Int) (of_decide_eq_true (by first | (with_reducible assumption) | assumption)) (of_decide_eq_true (by first | (with_reducible assumption) | assumption)); have HP26 := Kd.R_putg HO115.out ((ji7) : Int) 1) | ((with_reducible refine gate_store (t := 3) (p := 20) rfl ?_); refine store_event (t := 3) (p := 20) (v := ?vo_w27) (w1 := (w24.setCell ⟨go10, ((ji7) : Int).toNat, none⟩ (.int .i64 1))) ?hg ?ho ?hn ?hr ?_; (case ho => rfl); (case hg => rfl); (case hn => rfl); (case hr => first | (go_simp; done) | (go_simp; rfl)); intro w27 hw; have hg : w24.grownBy w27 (some go10) := (by rw [hw]; exact HP26.2); have hp_ : Kd.R (Kd.int .i64) 3 w27 w.heap.size (fun k_ => (w.heap.size ≤ k_) ∧ some k_ ≠ (.slice Ao22 t116.length co22 : Value).ownBlock ∧ some k_ ≠ (.slice Ao23 t119.length co23 : Value).ownBlock) (.slice (some ⟨go10, 0, none⟩) t113.length co18) y123 := (by rw [hw, Ny123.out]; exact HP26.1); clear HP26; replace HO_113002 := Aside0.mk (Kd.N_afterv (v := (.slice (some ⟨go10, 0, none⟩) t113.length co18)) (v1 := (.slice (some ⟨go10, 0, none⟩) t113.length co18)) (ok := (fun k_ => (w.heap.size ≤ k_) ∧ some k_ ≠ (.slice Ao22 t116.length co22 : Value).ownBlock ∧ some k_ ≠ (.slice Ao23 t119.length co23 : Value).ownBlock ∧ k_ ≠ gb111 ∧ k_ ≠ gb112 ∧ k_ ≠ gb122)) (by (with_reducible repeat (first | apply Kd.N_alloc | apply Kd.N_drewN | apply Kd.N_drew)); exact Kd.N_mono HO_113002.out (fun _ hk => ⟨⟨hk.1, ⟨hk.2.2.1, ⟨hk.2.2.2.1, ⟨hk.2.2.2.2.1, ⟨hk.2.2.2.2.2.1, hk.2.2.2.2.2.2⟩⟩⟩⟩⟩, hk.2.1⟩)) hg (.inl rfl)); replace BK111 := Aside0.mk (blk_grown (bP BK111) hg (Kd.R_ne HO115.out BK111.out (by decide))); replace BK112 := Aside0.mk (blk_grown (bP BK112) hg (Kd.R_ne HO115.out BK112.out (by decide))); replace HO118 := Aside0.mk (Kd.R_after (v := (.slice (some ⟨go10, 0, none⟩) t113.length co18)) (v1 := (.slice (some ⟨go10, 0, none⟩) t113.length co18)) (ok := (fun k_ => (w.heap.size ≤ k_) ∧ some k_ ≠ (.slice Ao23 t119.length co23 : Value).ownBlock)) (by (with_reducible repeat (first | apply Kd.R_alloc | apply Kd.R_drewN | apply Kd.R_drew)); exact Kd.R_mono HO118.out (fun _ hk => ⟨⟨hk.1, hk.2.2⟩, hk.2.1⟩)) hg (.inl rfl)); replace HO121 := Aside0.mk (Kd.R_after (v := (.slice (some ⟨go10, 0, none⟩) t113.length co18)) (v1 := (.slice (some ⟨go10, 0, none⟩) t113.length co18)) (ok := (fun k_ => (w.heap.size ≤ k_) ∧ some k_ ≠ (.slice Ao22 t116.length co22 : Value).ownBlock)) (by (with_reducible repeat (first | apply Kd.R_alloc | apply Kd.R_drewN | apply Kd.R_drew)); exact Kd.R_mono HO121.out (fun _ hk => ⟨⟨hk.1, hk.2.2⟩, hk.2.1⟩)) hg (.inl rfl)); replace BK122 := Aside0.mk (blk_grown (bP BK122) hg (Kd.R_ne HO115.out BK122.out (by decide))); replace HO115 := Aside0.mk (hp_); replace HB := Aside0.mk ((by rw [hw]; exact below_set (HB.out) GB10.out : Below w.heap.size w w27)); clear hg hw hp_; obtain ⟨hcz28_0, hcz28_1, hcz28_2, hfz28_0, hfz28_1, hfz28_2⟩ := bK3 (w := w27) BK122; have p12 : 0 ≤ ((ji7) : Int) := of_decide_eq_true (by first | (with_reducible assumption) | assumption); have q12 : ((ji7) : Int) < ((t116.length : Int) : Int) := of_decide_eq_true (by first | (with_reducible assumption) | assumption); obtain ⟨go12, co12, eo12, gb12, gl12, cl12, HG12⟩ := Kd.R_form HO118.out (by omega); (first | cases eo12 | (injection eo12 with ea_ en_ ec_; (first | subst ea_ | (injection ea_ with ea_; subst ea_)); subst ec_; clear en_)); have GB12 := Aside0.mk gb12; have GG12 := Aside0.mk HG12; clear gb12 gl12 HG12; obtain ⟨hx12_0, hf12_0⟩ := Kd.R_celln 0 HO118.out ((ji7) : Int) p12 q12; replace p12 := eq_true p12; replace q12 := eq_true q12; have n_ := Aside0.mk (Kd.R_mono (ok' := (fun k_ => (w.heap.size ≤ k_) ∧ some k_ ≠ (.slice (some ⟨go10, 0, none⟩) t113.length co18 : Value).ownBlock ∧ some k_ ≠ (.slice Ao23 t119.length co23 : Value).ownBlock)) HO118.out (fun k_ hk => ⟨hk.1.1, ⟨hk.2, hk.1.2⟩⟩)); clear HO118; have HO118 := n_; clear n_; obtain ⟨hy29_, hz29_⟩ := Kd.R_celln 0 HO118.out ((ji7) : Int) (of_decide_eq_true (by first | (with_reducible assumption) | assumption)) (of_decide_eq_true (by first | (with_reducible assumption) | assumption)); have HP29 := Kd.R_putg HO118.out ((ji7) : Int) 1) | ((with_reducible refine gate_store (t := 3) (p := 25) rfl ?_); refine store_event (t := 3) (p := 25) (v := ?vo_w30) (w1 := (w27.setCell ⟨go12, ((ji7) : Int).toNat, none⟩ (.int .i64 1))) ?hg ?ho ?hn ?hr ?_; (case ho => rfl); (case hg => rfl); (case hn => rfl); (case hr => first | (go_simp; done) | (go_simp; rfl)); intro w30 hw; have hg : w27.grownBy w30 (some go12) := (by rw [hw]; exact HP29.2); have hp_ : Kd.R (Kd.int .i64) 3 w30 w.heap.size (fun k_ => (w.heap.size ≤ k_) ∧ some k_ ≠ (.slice (some ⟨go10, 0, none⟩) t113.length co18 : Value).ownBlock ∧ some k_ ≠ (.slice Ao23 t119.length co23 : Value).ownBlock) (.slice (some ⟨go12, 0, none⟩) t116.length co22) y124 := (by rw [hw, Ny124.out]; exact HP29.1); clear HP29; replace HO_113002 := Aside0.mk (Kd.N_afterv (v := (.slice (some ⟨go12, 0, none⟩) t116.length co22)) (v1 := (.slice (some ⟨go12, 0, none⟩) t116.length co22)) (ok := (fun k_ => (w.heap.size ≤ k_) ∧ some k_ ≠ (.slice (some ⟨go10, 0, none⟩) t113.length co18 : Value).ownBlock ∧ some k_ ≠ (.slice Ao23 t119.length co23 : Value).ownBlock ∧ k_ ≠ gb111 ∧ k_ ≠ gb112 ∧ k_ ≠ gb122)) (by (with_reducible repeat (first | apply Kd.N_alloc | apply Kd.N_drewN | apply Kd.N_drew)); exact Kd.N_mono HO_113002.out (fun _ hk => ⟨⟨hk.1.1, ⟨hk.2, ⟨hk.1.2.2.1, ⟨hk.1.2.2.2.1, ⟨hk.1.2.2.2.2.1, hk.1.2.2.2.2.2⟩⟩⟩⟩⟩, hk.1.2.1⟩)) hg (.inl rfl)); replace BK111 := Aside0.mk (blk_grown (bP BK111) hg (Kd.R_ne HO118.out BK111.out (by decide))); replace BK112 := Aside0.mk (blk_grown (bP BK112) hg (Kd.R_ne HO118.out BK112.out (by decide))); replace HO115 := Aside0.mk (Kd.R_after (v := (.slice (some ⟨go12, 0, none⟩) t116.length co22)) (v1 := (.slice (some ⟨go12, 0, none⟩) t116.length co22)) (ok := (fun k_ => (w.heap.size ≤ k_) ∧ some k_ ≠ (.slice Ao23 t119.length co23 : Value).ownBlock)) (by (with_reducible repeat (first | apply Kd.R_alloc | apply Kd.R_drewN | apply Kd.R_drew)); exact Kd.R_mono HO115.out (fun _ hk => ⟨⟨hk.1, hk.2.2⟩, hk.2.1⟩)) hg (.inl rfl)); replace HO121 := Aside0.mk (Kd.R_after (v := (.slice (some ⟨go12, 0, none⟩) t116.length co22)) (v1 := (.slice (some ⟨go12, 0, none⟩) t116.length co22)) (ok := (fun k_ => (w.heap.size ≤ k_) ∧ some k_ ≠ (.slice (some ⟨go10, 0, none⟩) t113.length co18 : Value).ownBlock)) (by (with_reducible repeat (first | apply Kd.R_alloc | apply Kd.R_drewN | apply Kd.R_drew)); exact Kd.R_mono HO121.out (fun _ hk => ⟨⟨hk.1.1, hk.2⟩, hk.1.2⟩)) hg (.inl rfl)); replace BK122 := Aside0.mk (blk_grown (bP BK122) hg (Kd.R_ne HO118.out BK122.out (by decide))); replace HO118 := Aside0.mk (hp_); replace HB := Aside0.mk ((by rw [hw]; exact below_set (HB.out) GB12.out : Below w.heap.size w w30)); clear hg hw hp_; obtain ⟨hcz31_0, hcz31_1, hcz31_2, hfz31_0, hfz31_1, hfz31_2⟩ := bK3 (w := w30) BK122; have p14 : 0 ≤ ((ji7) : Int) := of_decide_eq_true (by first | (with_reducible assumption) | assumption); have q14 : ((ji7) : Int) < ((t119.length : Int) : Int) := of_decide_eq_true (by first | (with_reducible assumption) | assumption); obtain ⟨go14, co14, eo14, gb14, gl14, cl14, HG14⟩ := Kd.R_form HO121.out (by omega); (first | cases eo14 | (injection eo14 with ea_ en_ ec_; (first | subst ea_ | (injection ea_ with ea_; subst ea_)); subst ec_; clear en_)); have GB14 := Aside0.mk gb14; have GG14 := Aside0.mk HG14; clear gb14 gl14 HG14; obtain ⟨hx14_0, hf14_0⟩ := Kd.R_celln 0 HO121.out ((ji7) : Int) p14 q14; replace p14 := eq_true p14; replace q14 := eq_true q14; have n_ := Aside0.mk (Kd.R_mono (ok' := (fun k_ => (w.heap.size ≤ k_) ∧ some k_ ≠ (.slice (some ⟨go10, 0, none⟩) t113.length co18 : Value).ownBlock ∧ some k_ ≠ (.slice (some ⟨go12, 0, none⟩) t116.length co22 : Value).ownBlock)) HO121.out (fun k_ hk => ⟨hk.1.1, ⟨hk.1.2, hk.2⟩⟩)); clear HO121; have HO121 := n_; clear n_; obtain ⟨hy32_, hz32_⟩ := Kd.R_celln 0 HO121.out ((ji7) : Int) (of_decide_eq_true (by first | (with_reducible assumption) | assumption)) (of_decide_eq_true (by first | (with_reducible assumption) | assumption)); have HP32 := Kd.R_putg HO121.out ((ji7) : Int) 1) | ((with_reducible refine gate_store (t := 3) (p := 30) rfl ?_); refine store_event (t := 3) (p := 30) (v := ?vo_w33) (w1 := (w30.setCell ⟨go14, ((ji7) : Int).toNat, none⟩ (.int .i64 1))) ?hg ?ho ?hn ?hr ?_; (case ho => rfl); (case hg => rfl); (case hn => rfl); (case hr => first | (go_simp; done) | (go_simp; rfl)); intro w33 hw; have hg : w30.grownBy w33 (some go14) := (by rw [hw]; exact HP32.2); have hp_ : Kd.R (Kd.int .i64) 3 w33 w.heap.size (fun k_ => (w.heap.size ≤ k_) ∧ some k_ ≠ (.slice (some ⟨go10, 0, none⟩) t113.length co18 : Value).ownBlock ∧ some k_ ≠ (.slice (some ⟨go12, 0, none⟩) t116.length co22 : Value).ownBlock) (.slice (some ⟨go14, 0, none⟩) t119.length co23) y125 := (by rw [hw, Ny125.out]; exact HP32.1); clear HP32; replace HO_113002 := Aside0.mk (Kd.N_afterv (v := (.slice (some ⟨go14, 0, none⟩) t119.length co23)) (v1 := (.slice (some ⟨go14, 0, none⟩) t119.length co23)) (ok := (fun k_ => (w.heap.size ≤ k_) ∧ some k_ ≠ (.slice (some ⟨go10, 0, none⟩) t113.length co18 : Value).ownBlock ∧ some k_ ≠ (.slice (some ⟨go12, 0, none⟩) t116.length co22 : Value).ownBlock ∧ k_ ≠ gb111 ∧ k_ ≠ gb112 ∧ k_ ≠ gb122)) (by (with_reducible repeat (first | apply Kd.N_alloc | apply Kd.N_drewN | apply Kd.N_drew)); exact Kd.N_mono HO_113002.out (fun _ hk => ⟨⟨hk.1.1, ⟨hk.1.2.1, ⟨hk.2, ⟨hk.1.2.2.2.1, ⟨hk.1.2.2.2.2.1, hk.1.2.2.2.2.2⟩⟩⟩⟩⟩, hk.1.2.2.1⟩)) hg (.inl rfl)); replace BK111 := Aside0.mk (blk_grown (bP BK111) hg (Kd.R_ne HO121.out BK111.out (by decide))); replace BK112 := Aside0.mk (blk_grown (bP BK112) hg (Kd.R_ne HO121.out BK112.out (by decide))); replace HO115 := Aside0.mk (Kd.R_after (v := (.slice (some ⟨go14, 0, none⟩) t119.length co23)) (v1 := (.slice (some ⟨go14, 0, none⟩) t119.length co23)) (ok := (fun k_ => (w.heap.size ≤ k_) ∧ some k_ ≠ (.slice (some ⟨go12, 0, none⟩) t116.length co22 : Value).ownBlock)) (by (with_reducible repeat (first | apply Kd.R_alloc | apply Kd.R_drewN | apply Kd.R_drew)); exact Kd.R_mono HO115.out (fun _ hk => ⟨⟨hk.1.1, hk.2⟩, hk.1.2⟩)) hg (.inl rfl)); replace HO118 := Aside0.mk (Kd.R_after (v := (.slice (some ⟨go14, 0, none⟩) t119.length co23)) (v1 := (.slice (some ⟨go14, 0, none⟩) t119.length co23)) (ok := (fun k_ => (w.heap.size ≤ k_) ∧ some k_ ≠ (.slice (some ⟨go10, 0, none⟩) t113.length co18 : Value).ownBlock)) (by (with_reducible repeat (first | apply Kd.R_alloc | apply Kd.R_drewN | apply Kd.R_drew)); exact Kd.R_mono HO118.out (fun _ hk => ⟨⟨hk.1, hk.2.1⟩, hk.2.2⟩)) hg (.inl rfl)); replace BK122 := Aside0.mk (blk_grown (bP BK122) hg (Kd.R_ne HO121.out BK122.out (by decide))); replace HO121 := Aside0.mk (hp_); replace HB := Aside0.mk ((by rw [hw]; exact below_set (HB.out) GB14.out : Below w.heap.size w w33)); clear hg hw hp_; obtain ⟨hnb34, hnc34⟩ := nB NB112_111; obtain ⟨hcz35_0, hcz35_1, hcz35_2, hfz35_0, hfz35_1, hfz35_2⟩ := bK3 (w := w33) BK112; obtain ⟨hcz36_0, hcz36_1, hcz36_2, hfz36_0, hfz36_1, hfz36_2⟩ := bK3 (w := w33) BK122) | ((with_reducible refine gate_builtin (b := .append) (xs := #[.tmp 32, .tmp 34]) rfl ?_); at_builtin; refine Kd.N_append k75 (w0 := w) w.heap.size rfl (.tmp 32) (.tmp 34) 41 75 (.agg #[(.slice none 0 0), (.slice none 0 0), (.slice none 0 0)]) 72 rfl Try.underlying41 info75 rfl (by decide) (by omega) u113002 x113002_1 (⟨y123, y124, y125⟩ : S75) [.slice (some ⟨go10, 0, none⟩) t113.length co18, .slice (some ⟨go12, 0, none⟩) t116.length co22, .slice (some ⟨go14, 0, none⟩) t119.length co23] (fun k_ => (w.heap.size ≤ k_) ∧ k_ ≠ gb111 ∧ k_ ≠ gb112 ∧ k_ ≠ gb122) (fun k_ => ((fun k_ => (w.heap.size ≤ k_) ∧ k_ ≠ gb111 ∧ k_ ≠ gb112 ∧ k_ ≠ gb122)) k_ ∧ some k_ ≠ (u113002 : Value).ownBlock) rfl rfl ?aP (fun _ hk => hk) ?aF ?aO ?aB ?aS ?aL ?_; (case aP => exact (k75_mkFV _ _ _ (⟨y123, y124, y125⟩ : S75) (Kd.R_mono (ok' := (fun k_ => ((fun k_ => (w.heap.size ≤ k_) ∧ k_ ≠ gb111 ∧ k_ ≠ gb112 ∧ k_ ≠ gb122)) k_ ∧ some k_ ≠ (u113002 : Value).ownBlock)) (Kd.R_types (Kd.R_types (Kd.R_types (Kd.R_apart' (HO115.out) (Kd.N_typed HO_113002.out) (by decide)) BK111.out (by decide)) BK112.out (by decide)) BK122.out (by decide)) (fun k_ hk => ⟨⟨hk.1.1.1.1.1.1, ⟨hk.1.1.2, ⟨hk.1.2, hk.2⟩⟩⟩, hk.1.1.1.2⟩)) (Kd.R_mono (ok' := (fun k_ => ((fun k_ => (w.heap.size ≤ k_) ∧ k_ ≠ gb111 ∧ k_ ≠ gb112 ∧ k_ ≠ gb122)) k_ ∧ some k_ ≠ (u113002 : Value).ownBlock)) (Kd.R_types (Kd.R_types (Kd.R_types (Kd.R_apart' (HO118.out) (Kd.N_typed HO_113002.out) (by decide)) BK111.out (by decide)) BK112.out (by decide)) BK122.out (by decide)) (fun k_ hk => ⟨⟨hk.1.1.1.1.1.1, ⟨hk.1.1.2, ⟨hk.1.2, hk.2⟩⟩⟩, hk.1.1.1.2⟩)) (Kd.R_mono (ok' := (fun k_ => ((fun k_ => (w.heap.size ≤ k_) ∧ k_ ≠ gb111 ∧ k_ ≠ gb112 ∧ k_ ≠ gb122)) k_ ∧ some k_ ≠ (u113002 : Value).ownBlock)) (Kd.R_types (Kd.R_types (Kd.R_types (Kd.R_apart' (HO121.out) (Kd.N_typed HO_113002.out) (by decide)) BK111.out (by decide)) BK112.out (by decide)) BK122.out (by decide)) (fun k_ hk => ⟨⟨hk.1.1.1.1.1, ⟨hk.1.1.2, ⟨hk.1.2, hk.2⟩⟩⟩, hk.1.1.1.2⟩)))); (case aB => exact (bZ HB)); (case aF => exact (fun k_ hk => ⟨(Nat.le_trans (below_size (bZ HB)) hk), Kd.freshB (bP BK111) k_ hk, Kd.freshB (bP BK112) k_ hk, Kd.freshB (bP BK122) k_ hk⟩)); (case aO => exact (by (with_reducible repeat (first | apply Kd.N_alloc | apply Kd.N_drewN | apply Kd.N_drew)); exact Kd.N_mono HO_113002.out (fun _ hk => ⟨hk.1.1, ⟨hk.1.2.2.2.1, ⟨hk.1.2.2.2.2.1, hk.1.2.2.2.2.2⟩⟩⟩))); (case aS => exact (below_size (bZ HB))); (case aL => have := LMc15.out; omega); intro v127 w37 ho hb hg hat; rw [← Ny126.out] at ho; replace BK111 := Aside0.mk (blk_grown (bP BK111) hg (Kd.N_ne HO_113002.out BK111.out (by decide))); replace BK112 := Aside0.mk (blk_grown (bP BK112) hg (Kd.N_ne HO_113002.out BK112.out (by decide))); replace BK122 := Aside0.mk (blk_grown (bP BK122) hg (Kd.N_away HO_113002.out (fun _ hk => hk.1.2.2.2.2.2))); replace HB := Aside0.mk (hb); have HO128 := Aside0.mk (ho); clear HO_113002 HO115 HO118 HO121; clear ho hb hg hat; obtain ⟨Ao38, co38, eo38⟩ := Kd.N_slice HO128.out; subst eo38; obtain ⟨hcz39_0, hcz39_1, hcz39_2, hfz39_0, hfz39_1, hfz39_2⟩ := bK3 (w := w37) BK112))
         go_roundg k1
         case measure => have := HK1.out; omega
         case rel => exact ⟨(wrap64 (x3_1 + 1)), (y126), (.slice Ao38 y126.length co38), rS, H', ⟨by have := HK1.out; omega⟩, ⟨by (with_reducible repeat (first | apply Kd.N_alloc | apply Kd.N_drewN | apply Kd.N_drew)); exact Kd.N_mono (Kd.N_far (p := ⟨gb112, 2, none⟩) (Kd.N_mono HO128.out (fun k_ hk => (⟨hk, hk.2.2.1⟩ : _ ∧ k_ ≠ gb112))) (fun _ hk => hk.2) (.slice Ao38 y126.length co38)) (fun _ hk => ⟨hk.1.1, ⟨hk.1.2.1, hk.1.2.2.1⟩⟩)⟩, ⟨bP BK111⟩, ⟨bU BK112⟩, ⟨bZ HB⟩⟩
        ·rw [if_neg c15] at H
         exact absurd H (by simp)
       ·rw [if_neg c13] at H
        exact absurd H (by simp)
      ·rw [if_neg c11] at H
       exact absurd H (by simp)
     ·rw [if_neg c9] at H
      exact absurd H (by simp)
    ·rw [if_neg c8] at H
     exact absurd H (by simp)
   ·rw [if_neg c5] at H
    have c5b0 : decide (x3_1 < 8) = false := decide_eq_false c5
    clear c5
    replace H := Option.bind_eq_some_iff.mp H
    obtain ⟨⟨t129, t132, t135⟩, A400, H⟩ := H
    have A40 := Aside0.mk A400
    clear A400
    replace H := Option.bind_eq_some_iff.mp H
    obtain ⟨⟨t139, t142, t145⟩, A410, H⟩ := H
    have A41 := Aside0.mk A410
    clear A410
    by_cases c42 : 0 < (t129.length : Int)
    ·rw [if_pos c42] at H
     have c42b0 : decide (0 < (t129.length : Int)) = true := decide_eq_true c42
     have c42b1 : decide (0 < t129.length) = true := decide_eq_true (by omega)
     clear c42
     obtain ⟨y149, hy149⟩ : ∃ y_ : List Int, y_ = (t129.set (0 : Int).toNat 1) := ⟨_, rfl⟩
     replace H : (if 0 < (t139.length : Int) then (spec_CountSystem.l1 k1 0 11 2 x113002_1 y149 t132 t135 (t139.set (0 : Int).toNat 1) t142 t145) else (none)) = some (r1, r2, r3) := by first | (rw [hy149]; with_reducible exact H) | (have H2_ := (Option.bind_some _ _).symm.trans H; rw [hy149]; with_reducible exact H2_) | (have H2_ := (Option.bind_some _ _).symm.trans H; with_reducible exact H2_) | with_reducible exact H | (rw [hy149]; exact H) | exact H
     have Ny149 := Aside0.mk hy149
     clear hy149
     by_cases c44 : 0 < (t139.length : Int)
     ·rw [if_pos c44] at H
      have c44b0 : decide (0 < (t139.length : Int)) = true := decide_eq_true c44
      have c44b1 : decide (0 < t139.length) = true := decide_eq_true (by omega)
      clear c44
      obtain ⟨y150, hy150⟩ : ∃ y_ : List Int, y_ = (t139.set (0 : Int).toNat 1) := ⟨_, rfl⟩
      replace H : (spec_CountSystem.l1 k1 0 11 2 x113002_1 y149 t132 t135 y150 t142 t145) = some (r1, r2, r3) := by first | (rw [hy150]; with_reducible exact H) | (have H2_ := (Option.bind_some _ _).symm.trans H; rw [hy150]; with_reducible exact H2_) | (have H2_ := (Option.bind_some _ _).symm.trans H; with_reducible exact H2_) | with_reducible exact H | (rw [hy150]; exact H) | exact H
      have Ny150 := Aside0.mk hy150
      clear hy150
      have H' := Aside0.mk H
      clear H
      go_wp2_with (first | ((with_reducible refine gate_callee (f := 66) rfl ?_); refine gL (some 38) Try.func66 #[.int .i64 11] ?_; (with_reducible refine (spec_l13Row.calls 11 t129 t132 t135 _ A40.out).mono ?_); rintro e w46 ⟨v130, v133, v136, rfl, ho0, ho1, ho2, hb⟩; refine ⟨_, rfl, ?_⟩; replace HO_113002 := Aside0.mk (Kd.N_mono (Kd.N_told (Kd.N_told (Kd.N_told (Kd.N_old (by (with_reducible repeat (first | apply Kd.N_alloc | apply Kd.N_drewN | apply Kd.N_drew)); exact HO_113002.out) hb) (Kd.R_base ho0)) (Kd.R_base ho1)) (Kd.R_base ho2)) (fun _ h_ => h_.1)); have HO131 := Aside0.mk (Kd.R_lower (Kd.R_newM (M := fun k_ => (w.heap.size ≤ k_)) ho0 (below_size (bZ HB)) (fun k_ h_ => h_)) (below_size (bZ HB))); have HO134 := Aside0.mk (Kd.R_lower (Kd.R_newM (M := fun k_ => (w.heap.size ≤ k_)) ho1 (below_size (bZ HB)) (fun k_ h_ => h_)) (below_size (bZ HB))); have HO137 := Aside0.mk (Kd.R_lower (Kd.R_newM (M := fun k_ => (w.heap.size ≤ k_)) ho2 (below_size (bZ HB)) (fun k_ h_ => h_)) (below_size (bZ HB))); replace BK111 := bB BK111 hb; replace BK112 := bB BK112 hb; replace HB := bS HB hb; (try clear hb); (try clear ho0); (try clear ho1); (try clear ho2)) | ((with_reducible refine gate_dst (N := 5) rfl ?_); refine bE 5 #[.slice none 0 0, .slice none 0 0, .slice none 0 0] 75 ?_; intro gb138 hg w47 hbox hb; replace HO_113002 := Aside0.mk (Kd.N_below (Kd.N_elderB (by (with_reducible repeat (first | apply Kd.N_alloc | apply Kd.N_drewN | apply Kd.N_drew)); exact HO_113002.out) gb138 (Nat.le_of_eq hg.symm)) hb); replace HO131 := Aside0.mk (Kd.R_below (rP HO131) hb); replace HO134 := Aside0.mk (Kd.R_below (rP HO134) hb); replace HO137 := Aside0.mk (Kd.R_below (rP HO137) hb); have BK138 := Aside0.mk (hbox); have GW138 := bG HB hg; have GE138 := bG HB hg; replace HB := bS HB hb; have NB111_138 := bL BK111 hg; have NB138_111 := bR BK111 hg; replace BK111 := bB BK111 hb; have NB112_138 := bL BK112 hg; have NB138_112 := bR BK112 hg; replace BK112 := bB BK112 hb; clear hb hbox hg; obtain ⟨Ao48, co48, eo48⟩ := Kd.R_slice HO131.out; subst eo48; obtain ⟨hnb49, hnc49⟩ := nB NB138_111; obtain ⟨hnb50, hnc50⟩ := nB NB138_112; obtain ⟨hcz51_0, hcz51_1, hcz51_2, hfz51_0, hfz51_1, hfz51_2⟩ := bK3 (w := w47) BK138; obtain ⟨Ao52, co52, eo52⟩ := Kd.R_slice HO134.out; subst eo52; obtain ⟨Ao53, co53, eo53⟩ := Kd.R_slice HO137.out; subst eo53) | ((with_reducible refine gate_callee (f := 66) rfl ?_); refine gL (some 40) Try.func66 #[.int .i64 11] ?_; (with_reducible refine (spec_l13Row.calls 11 t139 t142 t145 _ A41.out).mono ?_); rintro e w54 ⟨v140, v143, v146, rfl, ho0, ho1, ho2, hb⟩; refine ⟨_, rfl, ?_⟩; replace HO_113002 := Aside0.mk (Kd.N_mono (Kd.N_told (Kd.N_told (Kd.N_told (Kd.N_old (by (with_reducible repeat (first | apply Kd.N_alloc | apply Kd.N_drewN | apply Kd.N_drew)); exact (Kd.N_mono (Kd.N_far (p := ⟨gb138, 2, none⟩) (Kd.N_far (p := ⟨gb138, 1, none⟩) (Kd.N_far (p := ⟨gb138, 0, none⟩) (Kd.N_mono HO_113002.out (fun k_ hk => (⟨hk, hk.2⟩ : _ ∧ k_ ≠ gb138))) (fun _ hk => hk.2) (.slice Ao48 t129.length co48)) (fun _ hk => hk.2) (.slice Ao52 t132.length co52)) (fun _ hk => hk.2) (.slice Ao53 t135.length co53)) (fun _ h_ => h_.1))) hb) (Kd.R_base ho0)) (Kd.R_base ho1)) (Kd.R_base ho2)) (fun _ h_ => h_.1)); have HO141 := Aside0.mk (Kd.R_lower (Kd.R_new' (Kd.R_new' (Kd.R_new' (Kd.R_newM (M := fun k_ => (w.heap.size ≤ k_)) ho0 (below_size (bZ HB)) (fun k_ h_ => h_)) (Kd.R_lt (by (with_reducible repeat (first | apply Kd.R_alloc | apply Kd.R_drewN | apply Kd.R_drew)); exact (Kd.R_mono (Kd.R_far (p := ⟨gb138, 2, none⟩) (Kd.R_far (p := ⟨gb138, 1, none⟩) (Kd.R_far (p := ⟨gb138, 0, none⟩) (Kd.R_types HO131.out BK138.out (by decide)) (fun _ hk => hk.2) (.slice Ao48 t129.length co48)) (fun _ hk => hk.2) (.slice Ao52 t132.length co52)) (fun _ hk => hk.2) (.slice Ao53 t135.length co53)) (fun _ h_ => h_.1))))) (Kd.R_lt (by (with_reducible repeat (first | apply Kd.R_alloc | apply Kd.R_drewN | apply Kd.R_drew)); exact (Kd.R_mono (Kd.R_far (p := ⟨gb138, 2, none⟩) (Kd.R_far (p := ⟨gb138, 1, none⟩) (Kd.R_far (p := ⟨gb138, 0, none⟩) (Kd.R_types HO134.out BK138.out (by decide)) (fun _ hk => hk.2) (.slice Ao48 t129.length co48)) (fun _ hk => hk.2) (.slice Ao52 t132.length co52)) (fun _ hk => hk.2) (.slice Ao53 t135.length co53)) (fun _ h_ => h_.1))))) (Kd.R_lt (by (with_reducible repeat (first | apply Kd.R_alloc | apply Kd.R_drewN | apply Kd.R_drew)); exact (Kd.R_mono (Kd.R_far (p := ⟨gb138, 2, none⟩) (Kd.R_far (p := ⟨gb138, 1, none⟩) (Kd.R_far (p := ⟨gb138, 0, none⟩) (Kd.R_types HO137.out BK138.out (by decide)) (fun _ hk => hk.2) (.slice Ao48 t129.length co48)) (fun _ hk => hk.2) (.slice Ao52 t132.length co52)) (fun _ hk => hk.2) (.slice Ao53 t135.length co53)) (fun _ h_ => h_.1))))) (below_size (bZ HB))); have HO144 := Aside0.mk (Kd.R_lower (Kd.R_new' (Kd.R_new' (Kd.R_new' (Kd.R_newM (M := fun k_ => (w.heap.size ≤ k_)) ho1 (below_size (bZ HB)) (fun k_ h_ => h_)) (Kd.R_lt (by (with_reducible repeat (first | apply Kd.R_alloc | apply Kd.R_drewN | apply Kd.R_drew)); exact (Kd.R_mono (Kd.R_far (p := ⟨gb138, 2, none⟩) (Kd.R_far (p := ⟨gb138, 1, none⟩) (Kd.R_far (p := ⟨gb138, 0, none⟩) (Kd.R_types HO131.out BK138.out (by decide)) (fun _ hk => hk.2) (.slice Ao48 t129.length co48)) (fun _ hk => hk.2) (.slice Ao52 t132.length co52)) (fun _ hk => hk.2) (.slice Ao53 t135.length co53)) (fun _ h_ => h_.1))))) (Kd.R_lt (by (with_reducible repeat (first | apply Kd.R_alloc | apply Kd.R_drewN | apply Kd.R_drew)); exact (Kd.R_mono (Kd.R_far (p := ⟨gb138, 2, none⟩) (Kd.R_far (p := ⟨gb138, 1, none⟩) (Kd.R_far (p := ⟨gb138, 0, none⟩) (Kd.R_types HO134.out BK138.out (by decide)) (fun _ hk => hk.2) (.slice Ao48 t129.length co48)) (fun _ hk => hk.2) (.slice Ao52 t132.length co52)) (fun _ hk => hk.2) (.slice Ao53 t135.length co53)) (fun _ h_ => h_.1))))) (Kd.R_lt (by (with_reducible repeat (first | apply Kd.R_alloc | apply Kd.R_drewN | apply Kd.R_drew)); exact (Kd.R_mono (Kd.R_far (p := ⟨gb138, 2, none⟩) (Kd.R_far (p := ⟨gb138, 1, none⟩) (Kd.R_far (p := ⟨gb138, 0, none⟩) (Kd.R_types HO137.out BK138.out (by decide)) (fun _ hk => hk.2) (.slice Ao48 t129.length co48)) (fun _ hk => hk.2) (.slice Ao52 t132.length co52)) (fun _ hk => hk.2) (.slice Ao53 t135.length co53)) (fun _ h_ => h_.1))))) (below_size (bZ HB))); have HO147 := Aside0.mk (Kd.R_lower (Kd.R_new' (Kd.R_new' (Kd.R_new' (Kd.R_newM (M := fun k_ => (w.heap.size ≤ k_)) ho2 (below_size (bZ HB)) (fun k_ h_ => h_)) (Kd.R_lt (by (with_reducible repeat (first | apply Kd.R_alloc | apply Kd.R_drewN | apply Kd.R_drew)); exact (Kd.R_mono (Kd.R_far (p := ⟨gb138, 2, none⟩) (Kd.R_far (p := ⟨gb138, 1, none⟩) (Kd.R_far (p := ⟨gb138, 0, none⟩) (Kd.R_types HO131.out BK138.out (by decide)) (fun _ hk => hk.2) (.slice Ao48 t129.length co48)) (fun _ hk => hk.2) (.slice Ao52 t132.length co52)) (fun _ hk => hk.2) (.slice Ao53 t135.length co53)) (fun _ h_ => h_.1))))) (Kd.R_lt (by (with_reducible repeat (first | apply Kd.R_alloc | apply Kd.R_drewN | apply Kd.R_drew)); exact (Kd.R_mono (Kd.R_far (p := ⟨gb138, 2, none⟩) (Kd.R_far (p := ⟨gb138, 1, none⟩) (Kd.R_far (p := ⟨gb138, 0, none⟩) (Kd.R_types HO134.out BK138.out (by decide)) (fun _ hk => hk.2) (.slice Ao48 t129.length co48)) (fun _ hk => hk.2) (.slice Ao52 t132.length co52)) (fun _ hk => hk.2) (.slice Ao53 t135.length co53)) (fun _ h_ => h_.1))))) (Kd.R_lt (by (with_reducible repeat (first | apply Kd.R_alloc | apply Kd.R_drewN | apply Kd.R_drew)); exact (Kd.R_mono (Kd.R_far (p := ⟨gb138, 2, none⟩) (Kd.R_far (p := ⟨gb138, 1, none⟩) (Kd.R_far (p := ⟨gb138, 0, none⟩) (Kd.R_types HO137.out BK138.out (by decide)) (fun _ hk => hk.2) (.slice Ao48 t129.length co48)) (fun _ hk => hk.2) (.slice Ao52 t132.length co52)) (fun _ hk => hk.2) (.slice Ao53 t135.length co53)) (fun _ h_ => h_.1))))) (below_size (bZ HB))); replace HO131 := Aside0.mk (Kd.R_mono (Kd.R_told (Kd.R_told (Kd.R_told (Kd.R_old (by (with_reducible repeat (first | apply Kd.R_alloc | apply Kd.R_drewN | apply Kd.R_drew)); exact (Kd.R_mono (Kd.R_far (p := ⟨gb138, 2, none⟩) (Kd.R_far (p := ⟨gb138, 1, none⟩) (Kd.R_far (p := ⟨gb138, 0, none⟩) (Kd.R_types HO131.out BK138.out (by decide)) (fun _ hk => hk.2) (.slice Ao48 t129.length co48)) (fun _ hk => hk.2) (.slice Ao52 t132.length co52)) (fun _ hk => hk.2) (.slice Ao53 t135.length co53)) (fun _ h_ => h_.1))) hb) (Kd.R_base ho0)) (Kd.R_base ho1)) (Kd.R_base ho2)) (fun _ h_ => h_.1)); replace HO134 := Aside0.mk (Kd.R_mono (Kd.R_told (Kd.R_told (Kd.R_told (Kd.R_old (by (with_reducible repeat (first | apply Kd.R_alloc | apply Kd.R_drewN | apply Kd.R_drew)); exact (Kd.R_mono (Kd.R_far (p := ⟨gb138, 2, none⟩) (Kd.R_far (p := ⟨gb138, 1, none⟩) (Kd.R_far (p := ⟨gb138, 0, none⟩) (Kd.R_types HO134.out BK138.out (by decide)) (fun _ hk => hk.2) (.slice Ao48 t129.length co48)) (fun _ hk => hk.2) (.slice Ao52 t132.length co52)) (fun _ hk => hk.2) (.slice Ao53 t135.length co53)) (fun _ h_ => h_.1))) hb) (Kd.R_base ho0)) (Kd.R_base ho1)) (Kd.R_base ho2)) (fun _ h_ => h_.1)); replace HO137 := Aside0.mk (Kd.R_mono (Kd.R_told (Kd.R_told (Kd.R_told (Kd.R_old (by (with_reducible repeat (first | apply Kd.R_alloc | apply Kd.R_drewN | apply Kd.R_drew)); exact (Kd.R_mono (Kd.R_far (p := ⟨gb138, 2, none⟩) (Kd.R_far (p := ⟨gb138, 1, none⟩) (Kd.R_far (p := ⟨gb138, 0, none⟩) (Kd.R_types HO137.out BK138.out (by decide)) (fun _ hk => hk.2) (.slice Ao48 t129.length co48)) (fun _ hk => hk.2) (.slice Ao52 t132.length co52)) (fun _ hk => hk.2) (.slice Ao53 t135.length co53)) (fun _ h_ => h_.1))) hb) (Kd.R_base ho0)) (Kd.R_base ho1)) (Kd.R_base ho2)) (fun _ h_ => h_.1)); replace BK111 := bB BK111 hb; replace BK112 := bB BK112 hb; replace BK138 := bV 75 #[.slice Ao48 t129.length co48, .slice Ao52 t132.length co52, .slice Ao53 t135.length co53] BK138 hb; replace HB := bS HB hb; (try clear hb); (try clear ho0); (try clear ho1); (try clear ho2)) | ((with_reducible refine gate_dst (N := 6) rfl ?_); refine bE 6 #[.slice none 0 0, .slice none 0 0, .slice none 0 0] 75 ?_; intro gb148 hg w55 hbox hb; replace HO_113002 := Aside0.mk (Kd.N_below (Kd.N_elderB (by (with_reducible repeat (first | apply Kd.N_alloc | apply Kd.N_drewN | apply Kd.N_drew)); exact HO_113002.out) gb148 (Nat.le_of_eq hg.symm)) hb); replace HO131 := Aside0.mk (Kd.R_below (rP HO131) hb); replace HO134 := Aside0.mk (Kd.R_below (rP HO134) hb); replace HO137 := Aside0.mk (Kd.R_below (rP HO137) hb); replace HO141 := Aside0.mk (Kd.R_below (rP HO141) hb); replace HO144 := Aside0.mk (Kd.R_below (rP HO144) hb); replace HO147 := Aside0.mk (Kd.R_below (rP HO147) hb); have BK148 := Aside0.mk (hbox); have GW148 := bG HB hg; have GE148 := bG HB hg; replace HB := bS HB hb; have NB111_148 := bL BK111 hg; have NB148_111 := bR BK111 hg; replace BK111 := bB BK111 hb; have NB112_148 := bL BK112 hg; have NB148_112 := bR BK112 hg; replace BK112 := bB BK112 hb; have NB138_148 := bL BK138 hg; have NB148_138 := bR BK138 hg; replace BK138 := bB BK138 hb; clear hb hbox hg; obtain ⟨Ao56, co56, eo56⟩ := Kd.R_slice HO141.out; subst eo56; obtain ⟨hnb57, hnc57⟩ := nB NB148_111; obtain ⟨hnb58, hnc58⟩ := nB NB148_112; obtain ⟨hnb59, hnc59⟩ := nB NB148_138; obtain ⟨hcz60_0, hcz60_1, hcz60_2, hfz60_0, hfz60_1, hfz60_2⟩ := bK3 (w := w55) BK148; obtain ⟨Ao61, co61, eo61⟩ := Kd.R_slice HO144.out; subst eo61; obtain ⟨Ao62, co62, eo62⟩ := Kd.R_slice HO147.out; subst eo62) | ((with_reducible refine gate_store (t := 75) (p := 6) rfl ?_); refine store_event (t := 75) (p := 6) (v := ?vo_w63) (w1 := (((w55.setCell ⟨gb148, 0, none⟩ (.slice Ao56 t139.length co56)).setCell ⟨gb148, 1, none⟩ (.slice Ao61 t142.length co61)).setCell ⟨gb148, 2, none⟩ (.slice Ao62 t145.length co62))) ?hg ?ho ?hn ?hr ?_; (case ho => rfl); (case hg => rfl); (case hn => rfl); (case hr => first | (go_simp; done) | (go_simp; rfl)); intro w63 hw; replace HO_113002 : Aside0 (Kd.N k75 75 w63 w.heap.size (fun k_ => (w.heap.size ≤ k_) ∧ some k_ ≠ (.slice Ao48 t129.length co48 : Value).ownBlock ∧ some k_ ≠ (.slice Ao52 t132.length co52 : Value).ownBlock ∧ some k_ ≠ (.slice Ao53 t135.length co53 : Value).ownBlock ∧ some k_ ≠ (.slice Ao56 t139.length co56 : Value).ownBlock ∧ some k_ ≠ (.slice Ao61 t142.length co61 : Value).ownBlock ∧ some k_ ≠ (.slice Ao62 t145.length co62 : Value).ownBlock ∧ k_ ≠ gb111 ∧ k_ ≠ gb112 ∧ k_ ≠ gb138 ∧ k_ ≠ gb148) u113002 x113002_1) := ⟨(by rw [hw]; exact (by (with_reducible repeat (first | apply Kd.N_alloc | apply Kd.N_drewN | apply Kd.N_drew)); exact Kd.N_mono (Kd.N_far (p := ⟨gb148, 2, none⟩) (Kd.N_far (p := ⟨gb148, 1, none⟩) (Kd.N_far (p := ⟨gb148, 0, none⟩) (Kd.N_mono HO_113002.out (fun k_ hk => (⟨hk, hk.2⟩ : _ ∧ k_ ≠ gb148))) (fun _ hk => hk.2) (.slice Ao56 t139.length co56)) (fun _ hk => hk.2) (.slice Ao61 t142.length co61)) (fun _ hk => hk.2) (.slice Ao62 t145.length co62)) (fun _ hk => ⟨hk.1.1.1.1.1.1.1.1.1.1, ⟨hk.1.1.1.1.1.1.1.1.2, ⟨hk.1.1.1.1.1.1.1.2, ⟨hk.1.1.1.1.1.1.2, ⟨hk.1.1.1.1.2, ⟨hk.1.1.1.2, ⟨hk.1.1.2, ⟨hk.1.1.1.1.1.1.1.1.1.2.1, ⟨hk.1.1.1.1.1.1.1.1.1.2.2, ⟨hk.1.1.1.1.1.2, hk.1.2⟩⟩⟩⟩⟩⟩⟩⟩⟩⟩)))⟩; replace HO131 : Aside0 (Kd.R (Kd.int .i64) 3 w63 w.heap.size (fun k_ => (w.heap.size ≤ k_) ∧ some k_ ≠ (.slice Ao52 t132.length co52 : Value).ownBlock ∧ some k_ ≠ (.slice Ao53 t135.length co53 : Value).ownBlock ∧ some k_ ≠ (.slice Ao56 t139.length co56 : Value).ownBlock ∧ some k_ ≠ (.slice Ao61 t142.length co61 : Value).ownBlock ∧ some k_ ≠ (.slice Ao62 t145.length co62 : Value).ownBlock) (.slice Ao48 t129.length co48) t129) := ⟨(by rw [hw]; exact (by (with_reducible repeat (first | apply Kd.R_alloc | apply Kd.R_drewN | apply Kd.R_drew)); exact Kd.R_mono (Kd.R_far (p := ⟨gb148, 2, none⟩) (Kd.R_far (p := ⟨gb148, 1, none⟩) (Kd.R_far (p := ⟨gb148, 0, none⟩) (Kd.R_types HO131.out BK148.out (by decide)) (fun _ hk => hk.2) (.slice Ao56 t139.length co56)) (fun _ hk => hk.2) (.slice Ao61 t142.length co61)) (fun _ hk => hk.2) (.slice Ao62 t145.length co62)) (fun _ hk => ⟨hk.1.1.1.1.1, ⟨hk.1.1.1.1.2.1, ⟨hk.1.1.1.1.2.2, ⟨hk.1.1.1.2, ⟨hk.1.1.2, hk.1.2⟩⟩⟩⟩⟩)))⟩; replace HO134 : Aside0 (Kd.R (Kd.int .i64) 3 w63 w.heap.size (fun k_ => (w.heap.size ≤ k_) ∧ some k_ ≠ (.slice Ao48 t129.length co48 : Value).ownBlock ∧ some k_ ≠ (.slice Ao53 t135.length co53 : Value).ownBlock ∧ some k_ ≠ (.slice Ao56 t139.length co56 : Value).ownBlock ∧ some k_ ≠ (.slice Ao61 t142.length co61 : Value).ownBlock ∧ some k_ ≠ (.slice Ao62 t145.length co62 : Value).ownBlock) (.slice Ao52 t132.length co52) t132) := ⟨(by rw [hw]; exact (by (with_reducible repeat (first | apply Kd.R_alloc | apply Kd.R_drewN | apply Kd.R_drew)); exact Kd.R_mono (Kd.R_far (p := ⟨gb148, 2, none⟩) (Kd.R_far (p := ⟨gb148, 1, none⟩) (Kd.R_far (p := ⟨gb148, 0, none⟩) (Kd.R_types HO134.out BK148.out (by decide)) (fun _ hk => hk.2) (.slice Ao56 t139.length co56)) (fun _ hk => hk.2) (.slice Ao61 t142.length co61)) (fun _ hk => hk.2) (.slice Ao62 t145.length co62)) (fun _ hk => ⟨hk.1.1.1.1.1, ⟨hk.1.1.1.1.2.1, ⟨hk.1.1.1.1.2.2, ⟨hk.1.1.1.2, ⟨hk.1.1.2, hk.1.2⟩⟩⟩⟩⟩)))⟩; replace HO137 : Aside0 (Kd.R (Kd.int .i64) 3 w63 w.heap.size (fun k_ => (w.heap.size ≤ k_) ∧ some k_ ≠ (.slice Ao48 t129.length co48 : Value).ownBlock ∧ some k_ ≠ (.slice Ao52 t132.length co52 : Value).ownBlock ∧ some k_ ≠ (.slice Ao56 t139.length co56 : Value).ownBlock ∧ some k_ ≠ (.slice Ao61 t142.length co61 : Value).ownBlock ∧ some k_ ≠ (.slice Ao62 t145.length co62 : Value).ownBlock) (.slice Ao53 t135.length co53) t135) := ⟨(by rw [hw]; exact (by (with_reducible repeat (first | apply Kd.R_alloc | apply Kd.R_drewN | apply Kd.R_drew)); exact Kd.R_mono (Kd.R_far (p := ⟨gb148, 2, none⟩) (Kd.R_far (p := ⟨gb148, 1, none⟩) (Kd.R_far (p := ⟨gb148, 0, none⟩) (Kd.R_types HO137.out BK148.out (by decide)) (fun _ hk => hk.2) (.slice Ao56 t139.length co56)) (fun _ hk => hk.2) (.slice Ao61 t142.length co61)) (fun _ hk => hk.2) (.slice Ao62 t145.length co62)) (fun _ hk => ⟨hk.1.1.1.1.1, ⟨hk.1.1.1.1.2.1, ⟨hk.1.1.1.1.2.2, ⟨hk.1.1.1.2, ⟨hk.1.1.2, hk.1.2⟩⟩⟩⟩⟩)))⟩; replace HO141 : Aside0 (Kd.R (Kd.int .i64) 3 w63 w.heap.size (fun k_ => (w.heap.size ≤ k_) ∧ some k_ ≠ (.slice Ao48 t129.length co48 : Value).ownBlock ∧ some k_ ≠ (.slice Ao52 t132.length co52 : Value).ownBlock ∧ some k_ ≠ (.slice Ao53 t135.length co53 : Value).ownBlock ∧ some k_ ≠ (.slice Ao61 t142.length co61 : Value).ownBlock ∧ some k_ ≠ (.slice Ao62 t145.length co62 : Value).ownBlock) (.slice Ao56 t139.length co56) t139) := ⟨(by rw [hw]; exact (by (with_reducible repeat (first | apply Kd.R_alloc | apply Kd.R_drewN | apply Kd.R_drew)); exact Kd.R_mono (Kd.R_far (p := ⟨gb148, 2, none⟩) (Kd.R_far (p := ⟨gb148, 1, none⟩) (Kd.R_far (p := ⟨gb148, 0, none⟩) (Kd.R_types HO141.out BK148.out (by decide)) (fun _ hk => hk.2) (.slice Ao56 t139.length co56)) (fun _ hk => hk.2) (.slice Ao61 t142.length co61)) (fun _ hk => hk.2) (.slice Ao62 t145.length co62)) (fun _ hk => ⟨hk.1.1.1.1.1, ⟨hk.1.1.1.2, ⟨hk.1.1.2, ⟨hk.1.2, ⟨hk.1.1.1.1.2.1, hk.1.1.1.1.2.2⟩⟩⟩⟩⟩)))⟩; replace HO144 : Aside0 (Kd.R (Kd.int .i64) 3 w63 w.heap.size (fun k_ => (w.heap.size ≤ k_) ∧ some k_ ≠ (.slice Ao48 t129.length co48 : Value).ownBlock ∧ some k_ ≠ (.slice Ao52 t132.length co52 : Value).ownBlock ∧ some k_ ≠ (.slice Ao53 t135.length co53 : Value).ownBlock ∧ some k_ ≠ (.slice Ao56 t139.length co56 : Value).ownBlock ∧ some k_ ≠ (.slice Ao62 t145.length co62 : Value).ownBlock) (.slice Ao61 t142.length co61) t142) := ⟨(by rw [hw]; exact (by (with_reducible repeat (first | apply Kd.R_alloc | apply Kd.R_drewN | apply Kd.R_drew)); exact Kd.R_mono (Kd.R_far (p := ⟨gb148, 2, none⟩) (Kd.R_far (p := ⟨gb148, 1, none⟩) (Kd.R_far (p := ⟨gb148, 0, none⟩) (Kd.R_types HO144.out BK148.out (by decide)) (fun _ hk => hk.2) (.slice Ao56 t139.length co56)) (fun _ hk => hk.2) (.slice Ao61 t142.length co61)) (fun _ hk => hk.2) (.slice Ao62 t145.length co62)) (fun _ hk => ⟨hk.1.1.1.1.1, ⟨hk.1.1.1.2, ⟨hk.1.1.2, ⟨hk.1.2, ⟨hk.1.1.1.1.2.1, hk.1.1.1.1.2.2⟩⟩⟩⟩⟩)))⟩; replace HO147 : Aside0 (Kd.R (Kd.int .i64) 3 w63 w.heap.size (fun k_ => (w.heap.size ≤ k_) ∧ some k_ ≠ (.slice Ao48 t129.length co48 : Value).ownBlock ∧ some k_ ≠ (.slice Ao52 t132.length co52 : Value).ownBlock ∧ some k_ ≠ (.slice Ao53 t135.length co53 : Value).ownBlock ∧ some k_ ≠ (.slice Ao56 t139.length co56 : Value).ownBlock ∧ some k_ ≠ (.slice Ao61 t142.length co61 : Value).ownBlock) (.slice Ao62 t145.length co62) t145) := ⟨(by rw [hw]; exact (by (with_reducible repeat (first | apply Kd.R_alloc | apply Kd.R_drewN | apply Kd.R_drew)); exact Kd.R_mono (Kd.R_far (p := ⟨gb148, 2, none⟩) (Kd.R_far (p := ⟨gb148, 1, none⟩) (Kd.R_far (p := ⟨gb148, 0, none⟩) (Kd.R_types HO147.out BK148.out (by decide)) (fun _ hk => hk.2) (.slice Ao56 t139.length co56)) (fun _ hk => hk.2) (.slice Ao61 t142.length co61)) (fun _ hk => hk.2) (.slice Ao62 t145.length co62)) (fun _ hk => ⟨hk.1.1.1.1.1, ⟨hk.1.1.1.2, ⟨hk.1.1.2, ⟨hk.1.2, ⟨hk.1.1.1.1.2.1, hk.1.1.1.1.2.2⟩⟩⟩⟩⟩)))⟩; replace BK111 : Aside0 (w63.heap[gb111]? = some (.cells #[.int .i64 0, .int .i64 0, .slice none 0 0] 43 (0, 0))) := ⟨(by rw [hw]; exact (bP BK111))⟩; replace BK112 : Aside0 (w63.heap[gb112]? = some (.cells #[.int .i64 11, .int .i64 2, u113002] 43 (0, 0))) := ⟨(by rw [hw]; exact (bP BK112))⟩; replace BK138 : Aside0 (w63.heap[gb138]? = some (.cells #[.slice Ao48 t129.length co48, .slice Ao52 t132.length co52, .slice Ao53 t135.length co53] 75 (0, 0))) := ⟨(by rw [hw]; exact (bP BK138))⟩; replace BK148 : Aside0 (w63.heap[gb148]? = some (.cells #[.slice Ao56 t139.length co56, .slice Ao61 t142.length co61, .slice Ao62 t145.length co62] 75 (0, 0))) := ⟨(by rw [hw]; exact (bU BK148))⟩; replace HB : Aside0 (Below w.heap.size w w63) := ⟨(by rw [hw]; exact (bZ HB))⟩; clear hw; obtain ⟨hcz64_0, hcz64_1, hcz64_2, hfz64_0, hfz64_1, hfz64_2⟩ := bK3 (w := w63) BK138; have p43 : 0 ≤ (0 : Int) := (by omega); have q43 : (0 : Int) < ((t129.length : Int) : Int) := of_decide_eq_true (by first | (with_reducible assumption) | assumption); have qi43 : (0 < t129.length) = True := eq_true (by omega); obtain ⟨go43, co43, eo43, gb43, gl43, cl43, HG43⟩ := Kd.R_form HO131.out (by omega); (first | cases eo43 | (injection eo43 with ea_ en_ ec_; (first | subst ea_ | (injection ea_ with ea_; subst ea_)); subst ec_; clear en_)); have GB43 := Aside0.mk gb43; have GG43 := Aside0.mk HG43; clear gb43 gl43 HG43; obtain ⟨hx43_0, hf43_0⟩ := Kd.R_celln 0 HO131.out (0 : Int) p43 q43; (try rw [show ((0 : Int)).toNat = 0 from rfl] at hx43_0); (try simp only [Nat.reduceMul, Nat.zero_mul, Nat.zero_add, Nat.reduceAdd] at hx43_0); (try rw [show ((0 : Int)).toNat = 0 from rfl] at hf43_0); (try simp only [Nat.reduceMul, Nat.zero_mul, Nat.zero_add, Nat.reduceAdd] at hf43_0); replace p43 := eq_true p43; replace q43 := eq_true q43; obtain ⟨hy65_, hz65_⟩ := Kd.R_celln 0 HO131.out (0 : Int) (by omega) (of_decide_eq_true (by first | (with_reducible assumption) | assumption)); (try simp only [Int.reduceToNat, Int.toNat_zero, Int.toNat_ofNat, Nat.reduceMul, Nat.zero_mul, Nat.zero_add] at hy65_ hz65_); (try rw [show ((0 : Int)).toNat = 0 from rfl] at hy65_); (try rw [show ((0 : Int)).toNat = 0 from rfl] at hz65_); have HP65 := Kd.R_putg HO131.out (0 : Int) 1) | ((with_reducible refine gate_store (t := 3) (p := 43) rfl ?_); refine store_event (t := 3) (p := 43) (v := ?vo_w66) (w1 := (w63.setCell ⟨go43, (0 : Int).toNat, none⟩ (.int .i64 1))) ?hg ?ho ?hn ?hr ?_; (case ho => rfl); (case hg => rfl); (case hn => rfl); (case hr => first | (go_simp; done) | (go_simp; rfl)); intro w66 hw; have hg : w63.grownBy w66 (some go43) := (by rw [hw]; exact HP65.2); have hp_ : Kd.R (Kd.int .i64) 3 w66 w.heap.size (fun k_ => (w.heap.size ≤ k_) ∧ some k_ ≠ (.slice Ao52 t132.length co52 : Value).ownBlock ∧ some k_ ≠ (.slice Ao53 t135.length co53 : Value).ownBlock ∧ some k_ ≠ (.slice Ao56 t139.length co56 : Value).ownBlock ∧ some k_ ≠ (.slice Ao61 t142.length co61 : Value).ownBlock ∧ some k_ ≠ (.slice Ao62 t145.length co62 : Value).ownBlock) (.slice (some ⟨go43, 0, none⟩) t129.length co48) y149 := (by rw [hw, Ny149.out]; exact HP65.1); clear HP65; replace HO_113002 := Aside0.mk (Kd.N_afterv (v := (.slice (some ⟨go43, 0, none⟩) t129.length co48)) (v1 := (.slice (some ⟨go43, 0, none⟩) t129.length co48)) (ok := (fun k_ => (w.heap.size ≤ k_) ∧ some k_ ≠ (.slice Ao52 t132.length co52 : Value).ownBlock ∧ some k_ ≠ (.slice Ao53 t135.length co53 : Value).ownBlock ∧ some k_ ≠ (.slice Ao56 t139.length co56 : Value).ownBlock ∧ some k_ ≠ (.slice Ao61 t142.length co61 : Value).ownBlock ∧ some k_ ≠ (.slice Ao62 t145.length co62 : Value).ownBlock ∧ k_ ≠ gb111 ∧ k_ ≠ gb112 ∧ k_ ≠ gb138 ∧ k_ ≠ gb148)) (by (with_reducible repeat (first | apply Kd.N_alloc | apply Kd.N_drewN | apply Kd.N_drew)); exact Kd.N_mono HO_113002.out (fun _ hk => ⟨⟨hk.1, ⟨hk.2.2.1, ⟨hk.2.2.2.1, ⟨hk.2.2.2.2.1, ⟨hk.2.2.2.2.2.1, ⟨hk.2.2.2.2.2.2.1, ⟨hk.2.2.2.2.2.2.2.1, ⟨hk.2.2.2.2.2.2.2.2.1, ⟨hk.2.2.2.2.2.2.2.2.2.1, hk.2.2.2.2.2.2.2.2.2.2⟩⟩⟩⟩⟩⟩⟩⟩⟩, hk.2.1⟩)) hg (.inl rfl)); replace BK111 := Aside0.mk (blk_grown (bP BK111) hg (Kd.R_ne HO131.out BK111.out (by decide))); replace BK112 := Aside0.mk (blk_grown (bP BK112) hg (Kd.R_ne HO131.out BK112.out (by decide))); replace HO134 := Aside0.mk (Kd.R_after (v := (.slice (some ⟨go43, 0, none⟩) t129.length co48)) (v1 := (.slice (some ⟨go43, 0, none⟩) t129.length co48)) (ok := (fun k_ => (w.heap.size ≤ k_) ∧ some k_ ≠ (.slice Ao53 t135.length co53 : Value).ownBlock ∧ some k_ ≠ (.slice Ao56 t139.length co56 : Value).ownBlock ∧ some k_ ≠ (.slice Ao61 t142.length co61 : Value).ownBlock ∧ some k_ ≠ (.slice Ao62 t145.length co62 : Value).ownBlock)) (by (with_reducible repeat (first | apply Kd.R_alloc | apply Kd.R_drewN | apply Kd.R_drew)); exact Kd.R_mono HO134.out (fun _ hk => ⟨⟨hk.1, ⟨hk.2.2.1, ⟨hk.2.2.2.1, ⟨hk.2.2.2.2.1, hk.2.2.2.2.2⟩⟩⟩⟩, hk.2.1⟩)) hg (.inl rfl)); replace HO137 := Aside0.mk (Kd.R_after (v := (.slice (some ⟨go43, 0, none⟩) t129.length co48)) (v1 := (.slice (some ⟨go43, 0, none⟩) t129.length co48)) (ok := (fun k_ => (w.heap.size ≤ k_) ∧ some k_ ≠ (.slice Ao52 t132.length co52 : Value).ownBlock ∧ some k_ ≠ (.slice Ao56 t139.length co56 : Value).ownBlock ∧ some k_ ≠ (.slice Ao61 t142.length co61 : Value).ownBlock ∧ some k_ ≠ (.slice Ao62 t145.length co62 : Value).ownBlock)) (by (with_reducible repeat (first | apply Kd.R_alloc | apply Kd.R_drewN | apply Kd.R_drew)); exact Kd.R_mono HO137.out (fun _ hk => ⟨⟨hk.1, ⟨hk.2.2.1, ⟨hk.2.2.2.1, ⟨hk.2.2.2.2.1, hk.2.2.2.2.2⟩⟩⟩⟩, hk.2.1⟩)) hg (.inl rfl)); replace BK138 := Aside0.mk (blk_grown (bP BK138) hg (Kd.R_ne HO131.out BK138.out (by decide))); replace HO141 := Aside0.mk (Kd.R_after (v := (.slice (some ⟨go43, 0, none⟩) t129.length co48)) (v1 := (.slice (some ⟨go43, 0, none⟩) t129.length co48)) (ok := (fun k_ => (w.heap.size ≤ k_) ∧ some k_ ≠ (.slice Ao52 t132.length co52 : Value).ownBlock ∧ some k_ ≠ (.slice Ao53 t135.length co53 : Value).ownBlock ∧ some k_ ≠ (.slice Ao61 t142.length co61 : Value).ownBlock ∧ some k_ ≠ (.slice Ao62 t145.length co62 : Value).ownBlock)) (by (with_reducible repeat (first | apply Kd.R_alloc | apply Kd.R_drewN | apply Kd.R_drew)); exact Kd.R_mono HO141.out (fun _ hk => ⟨⟨hk.1, ⟨hk.2.2.1, ⟨hk.2.2.2.1, ⟨hk.2.2.2.2.1, hk.2.2.2.2.2⟩⟩⟩⟩, hk.2.1⟩)) hg (.inl rfl)); replace HO144 := Aside0.mk (Kd.R_after (v := (.slice (some ⟨go43, 0, none⟩) t129.length co48)) (v1 := (.slice (some ⟨go43, 0, none⟩) t129.length co48)) (ok := (fun k_ => (w.heap.size ≤ k_) ∧ some k_ ≠ (.slice Ao52 t132.length co52 : Value).ownBlock ∧ some k_ ≠ (.slice Ao53 t135.length co53 : Value).ownBlock ∧ some k_ ≠ (.slice Ao56 t139.length co56 : Value).ownBlock ∧ some k_ ≠ (.slice Ao62 t145.length co62 : Value).ownBlock)) (by (with_reducible repeat (first | apply Kd.R_alloc | apply Kd.R_drewN | apply Kd.R_drew)); exact Kd.R_mono HO144.out (fun _ hk => ⟨⟨hk.1, ⟨hk.2.2.1, ⟨hk.2.2.2.1, ⟨hk.2.2.2.2.1, hk.2.2.2.2.2⟩⟩⟩⟩, hk.2.1⟩)) hg (.inl rfl)); replace HO147 := Aside0.mk (Kd.R_after (v := (.slice (some ⟨go43, 0, none⟩) t129.length co48)) (v1 := (.slice (some ⟨go43, 0, none⟩) t129.length co48)) (ok := (fun k_ => (w.heap.size ≤ k_) ∧ some k_ ≠ (.slice Ao52 t132.length co52 : Value).ownBlock ∧ some k_ ≠ (.slice Ao53 t135.length co53 : Value).ownBlock ∧ some k_ ≠ (.slice Ao56 t139.length co56 : Value).ownBlock ∧ some k_ ≠ (.slice Ao61 t142.length co61 : Value).ownBlock)) (by (with_reducible repeat (first | apply Kd.R_alloc | apply Kd.R_drewN | apply Kd.R_drew)); exact Kd.R_mono HO147.out (fun _ hk => ⟨⟨hk.1, ⟨hk.2.2.1, ⟨hk.2.2.2.1, ⟨hk.2.2.2.2.1, hk.2.2.2.2.2⟩⟩⟩⟩, hk.2.1⟩)) hg (.inl rfl)); replace BK148 := Aside0.mk (blk_grown (bP BK148) hg (Kd.R_ne HO131.out BK148.out (by decide))); replace HO131 := Aside0.mk (hp_); replace HB := Aside0.mk ((by rw [hw]; exact below_set (HB.out) GB43.out : Below w.heap.size w w66)); clear hg hw hp_; obtain ⟨hcz67_0, hcz67_1, hcz67_2, hfz67_0, hfz67_1, hfz67_2⟩ := bK3 (w := w66) BK148; have p45 : 0 ≤ (0 : Int) := (by omega); have q45 : (0 : Int) < ((t139.length : Int) : Int) := of_decide_eq_true (by first | (with_reducible assumption) | assumption); have qi45 : (0 < t139.length) = True := eq_true (by omega); obtain ⟨go45, co45, eo45, gb45, gl45, cl45, HG45⟩ := Kd.R_form HO141.out (by omega); (first | cases eo45 | (injection eo45 with ea_ en_ ec_; (first | subst ea_ | (injection ea_ with ea_; subst ea_)); subst ec_; clear en_)); have GB45 := Aside0.mk gb45; have GG45 := Aside0.mk HG45; clear gb45 gl45 HG45; obtain ⟨hx45_0, hf45_0⟩ := Kd.R_celln 0 HO141.out (0 : Int) p45 q45; (try rw [show ((0 : Int)).toNat = 0 from rfl] at hx45_0); (try simp only [Nat.reduceMul, Nat.zero_mul, Nat.zero_add, Nat.reduceAdd] at hx45_0); (try rw [show ((0 : Int)).toNat = 0 from rfl] at hf45_0); (try simp only [Nat.reduceMul, Nat.zero_mul, Nat.zero_add, Nat.reduceAdd] at hf45_0); replace p45 := eq_true p45; replace q45 := eq_true q45; have n_ := Aside0.mk (Kd.R_mono (ok' := (fun k_ => (w.heap.size ≤ k_) ∧ some k_ ≠ (.slice (some ⟨go43, 0, none⟩) t129.length co48 : Value).ownBlock ∧ some k_ ≠ (.slice Ao52 t132.length co52 : Value).ownBlock ∧ some k_ ≠ (.slice Ao53 t135.length co53 : Value).ownBlock ∧ some k_ ≠ (.slice Ao61 t142.length co61 : Value).ownBlock ∧ some k_ ≠ (.slice Ao62 t145.length co62 : Value).ownBlock)) HO141.out (fun k_ hk => ⟨hk.1.1, ⟨hk.2, ⟨hk.1.2.1, ⟨hk.1.2.2.1, ⟨hk.1.2.2.2.1, hk.1.2.2.2.2⟩⟩⟩⟩⟩)); clear HO141; have HO141 := n_; clear n_; obtain ⟨hy68_, hz68_⟩ := Kd.R_celln 0 HO141.out (0 : Int) (by omega) (of_decide_eq_true (by first | (with_reducible assumption) | assumption)); (try simp only [Int.reduceToNat, Int.toNat_zero, Int.toNat_ofNat, Nat.reduceMul, Nat.zero_mul, Nat.zero_add] at hy68_ hz68_); (try rw [show ((0 : Int)).toNat = 0 from rfl] at hy68_); (try rw [show ((0 : Int)).toNat = 0 from rfl] at hz68_); have HP68 := Kd.R_putg HO141.out (0 : Int) 1) | ((with_reducible refine gate_store (t := 3) (p := 46) rfl ?_); refine store_event (t := 3) (p := 46) (v := ?vo_w69) (w1 := (w66.setCell ⟨go45, (0 : Int).toNat, none⟩ (.int .i64 1))) ?hg ?ho ?hn ?hr ?_; (case ho => rfl); (case hg => rfl); (case hn => rfl); (case hr => first | (go_simp; done) | (go_simp; rfl)); intro w69 hw; have hg : w66.grownBy w69 (some go45) := (by rw [hw]; exact HP68.2); have hp_ : Kd.R (Kd.int .i64) 3 w69 w.heap.size (fun k_ => (w.heap.size ≤ k_) ∧ some k_ ≠ (.slice (some ⟨go43, 0, none⟩) t129.length co48 : Value).ownBlock ∧ some k_ ≠ (.slice Ao52 t132.length co52 : Value).ownBlock ∧ some k_ ≠ (.slice Ao53 t135.length co53 : Value).ownBlock ∧ some k_ ≠ (.slice Ao61 t142.length co61 : Value).ownBlock ∧ some k_ ≠ (.slice Ao62 t145.length co62 : Value).ownBlock) (.slice (some ⟨go45, 0, none⟩) t139.length co56) y150 := (by rw [hw, Ny150.out]; exact HP68.1); clear HP68; replace HO_113002 := Aside0.mk (Kd.N_afterv (v := (.slice (some ⟨go45, 0, none⟩) t139.length co56)) (v1 := (.slice (some ⟨go45, 0, none⟩) t139.length co56)) (ok := (fun k_ => (w.heap.size ≤ k_) ∧ some k_ ≠ (.slice (some ⟨go43, 0, none⟩) t129.length co48 : Value).ownBlock ∧ some k_ ≠ (.slice Ao52 t132.length co52 : Value).ownBlock ∧ some k_ ≠ (.slice Ao53 t135.length co53 : Value).ownBlock ∧ some k_ ≠ (.slice Ao61 t142.length co61 : Value).ownBlock ∧ some k_ ≠ (.slice Ao62 t145.length co62 : Value).ownBlock ∧ k_ ≠ gb111 ∧ k_ ≠ gb112 ∧ k_ ≠ gb138 ∧ k_ ≠ gb148)) (by (with_reducible repeat (first | apply Kd.N_alloc | apply Kd.N_drewN | apply Kd.N_drew)); exact Kd.N_mono HO_113002.out (fun _ hk => ⟨⟨hk.1.1, ⟨hk.2, ⟨hk.1.2.1, ⟨hk.1.2.2.1, ⟨hk.1.2.2.2.2.1, ⟨hk.1.2.2.2.2.2.1, ⟨hk.1.2.2.2.2.2.2.1, ⟨hk.1.2.2.2.2.2.2.2.1, ⟨hk.1.2.2.2.2.2.2.2.2.1, hk.1.2.2.2.2.2.2.2.2.2⟩⟩⟩⟩⟩⟩⟩⟩⟩, hk.1.2.2.2.1⟩)) hg (.inl rfl)); replace BK111 := Aside0.mk (blk_grown (bP BK111) hg (Kd.R_ne HO141.out BK111.out (by decide))); replace BK112 := Aside0.mk (blk_grown (bP BK112) hg (Kd.R_ne HO141.out BK112.out (by decide))); replace HO131 := Aside0.mk (Kd.R_after (v := (.slice (some ⟨go45, 0, none⟩) t139.length co56)) (v1 := (.slice (some ⟨go45, 0, none⟩) t139.length co56)) (ok := (fun k_ => (w.heap.size ≤ k_) ∧ some k_ ≠ (.slice Ao52 t132.length co52 : Value).ownBlock ∧ some k_ ≠ (.slice Ao53 t135.length co53 : Value).ownBlock ∧ some k_ ≠ (.slice Ao61 t142.length co61 : Value).ownBlock ∧ some k_ ≠ (.slice Ao62 t145.length co62 : Value).ownBlock)) (by (with_reducible repeat (first | apply Kd.R_alloc | apply Kd.R_drewN | apply Kd.R_drew)); exact Kd.R_mono HO131.out (fun _ hk => ⟨⟨hk.1, ⟨hk.2.1, ⟨hk.2.2.1, ⟨hk.2.2.2.2.1, hk.2.2.2.2.2⟩⟩⟩⟩, hk.2.2.2.1⟩)) hg (.inl rfl)); replace HO134 := Aside0.mk (Kd.R_after (v := (.slice (some ⟨go45, 0, none⟩) t139.length co56)) (v1 := (.slice (some ⟨go45, 0, none⟩) t139.length co56)) (ok := (fun k_ => (w.heap.size ≤ k_) ∧ some k_ ≠ (.slice (some ⟨go43, 0, none⟩) t129.length co48 : Value).ownBlock ∧ some k_ ≠ (.slice Ao53 t135.length co53 : Value).ownBlock ∧ some k_ ≠ (.slice Ao61 t142.length co61 : Value).ownBlock ∧ some k_ ≠ (.slice Ao62 t145.length co62 : Value).ownBlock)) (by (with_reducible repeat (first | apply Kd.R_alloc | apply Kd.R_drewN | apply Kd.R_drew)); exact Kd.R_mono HO134.out (fun _ hk => ⟨⟨hk.1.1, ⟨hk.2, ⟨hk.1.2.1, ⟨hk.1.2.2.2.1, hk.1.2.2.2.2⟩⟩⟩⟩, hk.1.2.2.1⟩)) hg (.inl rfl)); replace HO137 := Aside0.mk (Kd.R_after (v := (.slice (some ⟨go45, 0, none⟩) t139.length co56)) (v1 := (.slice (some ⟨go45, 0, none⟩) t139.length co56)) (ok := (fun k_ => (w.heap.size ≤ k_) ∧ some k_ ≠ (.slice (some ⟨go43, 0, none⟩) t129.length co48 : Value).ownBlock ∧ some k_ ≠ (.slice Ao52 t132.length co52 : Value).ownBlock ∧ some k_ ≠ (.slice Ao61 t142.length co61 : Value).ownBlock ∧ some k_ ≠ (.slice Ao62 t145.length co62 : Value).ownBlock)) (by (with_reducible repeat (first | apply Kd.R_alloc | apply Kd.R_drewN | apply Kd.R_drew)); exact Kd.R_mono HO137.out (fun _ hk => ⟨⟨hk.1.1, ⟨hk.2, ⟨hk.1.2.1, ⟨hk.1.2.2.2.1, hk.1.2.2.2.2⟩⟩⟩⟩, hk.1.2.2.1⟩)) hg (.inl rfl)); replace BK138 := Aside0.mk (blk_grown (bP BK138) hg (Kd.R_ne HO141.out BK138.out (by decide))); replace HO144 := Aside0.mk (Kd.R_after (v := (.slice (some ⟨go45, 0, none⟩) t139.length co56)) (v1 := (.slice (some ⟨go45, 0, none⟩) t139.length co56)) (ok := (fun k_ => (w.heap.size ≤ k_) ∧ some k_ ≠ (.slice (some ⟨go43, 0, none⟩) t129.length co48 : Value).ownBlock ∧ some k_ ≠ (.slice Ao52 t132.length co52 : Value).ownBlock ∧ some k_ ≠ (.slice Ao53 t135.length co53 : Value).ownBlock ∧ some k_ ≠ (.slice Ao62 t145.length co62 : Value).ownBlock)) (by (with_reducible repeat (first | apply Kd.R_alloc | apply Kd.R_drewN | apply Kd.R_drew)); exact Kd.R_mono HO144.out (fun _ hk => ⟨⟨hk.1.1, ⟨hk.2, ⟨hk.1.2.1, ⟨hk.1.2.2.1, hk.1.2.2.2.2⟩⟩⟩⟩, hk.1.2.2.2.1⟩)) hg (.inl rfl)); replace HO147 := Aside0.mk (Kd.R_after (v := (.slice (some ⟨go45, 0, none⟩) t139.length co56)) (v1 := (.slice (some ⟨go45, 0, none⟩) t139.length co56)) (ok := (fun k_ => (w.heap.size ≤ k_) ∧ some k_ ≠ (.slice (some ⟨go43, 0, none⟩) t129.length co48 : Value).ownBlock ∧ some k_ ≠ (.slice Ao52 t132.length co52 : Value).ownBlock ∧ some k_ ≠ (.slice Ao53 t135.length co53 : Value).ownBlock ∧ some k_ ≠ (.slice Ao61 t142.length co61 : Value).ownBlock)) (by (with_reducible repeat (first | apply Kd.R_alloc | apply Kd.R_drewN | apply Kd.R_drew)); exact Kd.R_mono HO147.out (fun _ hk => ⟨⟨hk.1.1, ⟨hk.2, ⟨hk.1.2.1, ⟨hk.1.2.2.1, hk.1.2.2.2.2⟩⟩⟩⟩, hk.1.2.2.2.1⟩)) hg (.inl rfl)); replace BK148 := Aside0.mk (blk_grown (bP BK148) hg (Kd.R_ne HO141.out BK148.out (by decide))); replace HO141 := Aside0.mk (hp_); replace HB := Aside0.mk ((by rw [hw]; exact below_set (HB.out) GB45.out : Below w.heap.size w w69)); clear hg hw hp_))
      go_loopg [7] k1 (fun kq v7 w' => ∃ (x7_2 : Int) (x139000_2 : List Int) (x139001_2 : List Int) (x139002_2 : List Int) (x149000_2 : List Int) (x149001_2 : List Int) (x149002_2 : List Int) (u139000 : Value) (u139001 : Value) (u139002 : Value) (u149000 : Value) (u149001 : Value) (u149002 : Value), v7 = .int .i64 x7_2 ∧ Aside0 (spec_CountSystem.l1 kq x7_2 11 2 x113002_1 x139000_2 x139001_2 x139002_2 x149000_2 x149001_2 x149002_2 = some (r1, r2, r3)) ∧ Aside0 (kq ≤ k1) ∧ Aside0 (Kd.N k75 75 w' w.heap.size (fun k_ => (w.heap.size ≤ k_) ∧ some k_ ≠ (u139000 : Value).ownBlock ∧ some k_ ≠ (u139001 : Value).ownBlock ∧ some k_ ≠ (u139002 : Value).ownBlock ∧ some k_ ≠ (u149000 : Value).ownBlock ∧ some k_ ≠ (u149001 : Value).ownBlock ∧ some k_ ≠ (u149002 : Value).ownBlock ∧ k_ ≠ gb111 ∧ k_ ≠ gb112 ∧ k_ ≠ gb138 ∧ k_ ≠ gb148) u113002 x113002_1) ∧ Aside0 (Kd.R (Kd.int .i64) 3 w' w.heap.size (fun k_ => (w.heap.size ≤ k_) ∧ some k_ ≠ (u139001 : Value).ownBlock ∧ some k_ ≠ (u139002 : Value).ownBlock ∧ some k_ ≠ (u149000 : Value).ownBlock ∧ some k_ ≠ (u149001 : Value).ownBlock ∧ some k_ ≠ (u149002 : Value).ownBlock) u139000 x139000_2) ∧ Aside0 (Kd.R (Kd.int .i64) 3 w' w.heap.size (fun k_ => (w.heap.size ≤ k_) ∧ some k_ ≠ (u139000 : Value).ownBlock ∧ some k_ ≠ (u139002 : Value).ownBlock ∧ some k_ ≠ (u149000 : Value).ownBlock ∧ some k_ ≠ (u149001 : Value).ownBlock ∧ some k_ ≠ (u149002 : Value).ownBlock) u139001 x139001_2) ∧ Aside0 (Kd.R (Kd.int .i64) 3 w' w.heap.size (fun k_ => (w.heap.size ≤ k_) ∧ some k_ ≠ (u139000 : Value).ownBlock ∧ some k_ ≠ (u139001 : Value).ownBlock ∧ some k_ ≠ (u149000 : Value).ownBlock ∧ some k_ ≠ (u149001 : Value).ownBlock ∧ some k_ ≠ (u149002 : Value).ownBlock) u139002 x139002_2) ∧ Aside0 (Kd.R (Kd.int .i64) 3 w' w.heap.size (fun k_ => (w.heap.size ≤ k_) ∧ some k_ ≠ (u139000 : Value).ownBlock ∧ some k_ ≠ (u139001 : Value).ownBlock ∧ some k_ ≠ (u139002 : Value).ownBlock ∧ some k_ ≠ (u149001 : Value).ownBlock ∧ some k_ ≠ (u149002 : Value).ownBlock) u149000 x149000_2) ∧ Aside0 (Kd.R (Kd.int .i64) 3 w' w.heap.size (fun k_ => (w.heap.size ≤ k_) ∧ some k_ ≠ (u139000 : Value).ownBlock ∧ some k_ ≠ (u139001 : Value).ownBlock ∧ some k_ ≠ (u139002 : Value).ownBlock ∧ some k_ ≠ (u149000 : Value).ownBlock ∧ some k_ ≠ (u149002 : Value).ownBlock) u149001 x149001_2) ∧ Aside0 (Kd.R (Kd.int .i64) 3 w' w.heap.size (fun k_ => (w.heap.size ≤ k_) ∧ some k_ ≠ (u139000 : Value).ownBlock ∧ some k_ ≠ (u139001 : Value).ownBlock ∧ some k_ ≠ (u139002 : Value).ownBlock ∧ some k_ ≠ (u149000 : Value).ownBlock ∧ some k_ ≠ (u149001 : Value).ownBlock) u149002 x149002_2) ∧ Aside0 (w'.heap[gb111]? = some (.cells #[.int .i64 0, .int .i64 0, (.slice none 0 0)] 43 (0, 0))) ∧ Aside0 (w'.heap[gb112]? = some (.cells #[.int .i64 11, .int .i64 2, u113002] 43 (0, 0))) ∧ Aside0 (w'.heap[gb138]? = some (.cells #[u139000, u139001, u139002] 75 (0, 0))) ∧ Aside0 (w'.heap[gb148]? = some (.cells #[u149000, u149001, u149002] 75 (0, 0))) ∧ Aside0 (Below w.heap.size w w'))
      case atStart => exact ⟨(0), (y149), (t132), (t135), (y150), (t142), (t145), (.slice (some ⟨go43, 0, none⟩) t129.length co48), (.slice Ao52 t132.length co52), (.slice Ao53 t135.length co53), (.slice (some ⟨go45, 0, none⟩) t139.length co56), (.slice Ao61 t142.length co61), (.slice Ao62 t145.length co62), rS, H', ⟨Nat.le_refl _⟩, ⟨by (with_reducible repeat (first | apply Kd.N_alloc | apply Kd.N_drewN | apply Kd.N_drew)); exact Kd.N_mono HO_113002.out (fun _ hk => ⟨hk.1.1, ⟨hk.1.2.1, ⟨hk.1.2.2.1, ⟨hk.1.2.2.2.1, ⟨hk.2, ⟨hk.1.2.2.2.2.1, ⟨hk.1.2.2.2.2.2.1, ⟨hk.1.2.2.2.2.2.2.1, ⟨hk.1.2.2.2.2.2.2.2.1, ⟨hk.1.2.2.2.2.2.2.2.2.1, hk.1.2.2.2.2.2.2.2.2.2⟩⟩⟩⟩⟩⟩⟩⟩⟩⟩)⟩, ⟨by (with_reducible repeat (first | apply Kd.R_alloc | apply Kd.R_drewN | apply Kd.R_drew)); exact Kd.R_mono HO131.out (fun _ hk => ⟨hk.1.1, ⟨hk.1.2.1, ⟨hk.1.2.2.1, ⟨hk.2, ⟨hk.1.2.2.2.1, hk.1.2.2.2.2⟩⟩⟩⟩⟩)⟩, ⟨by (with_reducible repeat (first | apply Kd.R_alloc | apply Kd.R_drewN | apply Kd.R_drew)); exact Kd.R_mono HO134.out (fun _ hk => ⟨hk.1.1, ⟨hk.1.2.1, ⟨hk.1.2.2.1, ⟨hk.2, ⟨hk.1.2.2.2.1, hk.1.2.2.2.2⟩⟩⟩⟩⟩)⟩, ⟨by (with_reducible repeat (first | apply Kd.R_alloc | apply Kd.R_drewN | apply Kd.R_drew)); exact Kd.R_mono HO137.out (fun _ hk => ⟨hk.1.1, ⟨hk.1.2.1, ⟨hk.1.2.2.1, ⟨hk.2, ⟨hk.1.2.2.2.1, hk.1.2.2.2.2⟩⟩⟩⟩⟩)⟩, ⟨rP HO141⟩, ⟨by (with_reducible repeat (first | apply Kd.R_alloc | apply Kd.R_drewN | apply Kd.R_drew)); exact Kd.R_mono HO144.out (fun _ hk => ⟨hk.1.1, ⟨hk.1.2.1, ⟨hk.1.2.2.1, ⟨hk.1.2.2.2.1, ⟨hk.2, hk.1.2.2.2.2⟩⟩⟩⟩⟩)⟩, ⟨by (with_reducible repeat (first | apply Kd.R_alloc | apply Kd.R_drewN | apply Kd.R_drew)); exact Kd.R_mono HO147.out (fun _ hk => ⟨hk.1.1, ⟨hk.1.2.1, ⟨hk.1.2.2.1, ⟨hk.1.2.2.2.1, ⟨hk.2, hk.1.2.2.2.2⟩⟩⟩⟩⟩)⟩, ⟨bP BK111⟩, ⟨bP BK112⟩, ⟨bP BK138⟩, ⟨bP BK148⟩, ⟨bZ HB⟩⟩
      case round =>
       clear H'
       try clear c1
       try clear p1
       try clear q1
       try clear hx1
       try clear hf1
       try clear c2
       try clear p2
       try clear c3
       try clear c4
       try clear p4
       try clear q4
       try clear hx4
       try clear qi4
       try clear hf4
       try clear c5
       try clear c5b0
       try clear c6
       try clear p6
       try clear c8
       try clear c8b0
       try clear c9
       try clear c9b0
       try clear p10
       try clear q10
       try clear hx10
       try clear hf10
       try clear c11
       try clear c11b0
       try clear p12
       try clear q12
       try clear hx12
       try clear hf12
       try clear c13
       try clear c13b0
       try clear p14
       try clear q14
       try clear hx14
       try clear hf14
       try clear c15
       try clear c19
       try clear c20
       try clear c34
       try clear c37
       try clear c42
       try clear c42b0
       try clear c42b1
       try clear p43
       try clear q43
       try clear hx43
       try clear qi43
       try clear hf43
       try clear c44
       try clear c44b0
       try clear c44b1
       try clear p45
       try clear q45
       try clear hx45
       try clear qi45
       try clear hf45
       try clear c49
       try clear c50
       try clear c57
       try clear c58
       try clear c59
       try clear p64
       try clear c66
       try clear hcz21_0
       try clear hcz21_1
       try clear hcz21_2
       try clear hcz25_0
       try clear hcz25_1
       try clear hcz25_2
       try clear hcz28_0
       try clear hcz28_1
       try clear hcz28_2
       try clear hcz31_0
       try clear hcz31_1
       try clear hcz31_2
       try clear hcz35_0
       try clear hcz35_1
       try clear hcz35_2
       try clear hcz36_0
       try clear hcz36_1
       try clear hcz36_2
       try clear hcz39_0
       try clear hcz39_1
       try clear hcz39_2
       try clear hcz4_0
       try clear hcz4_1
       try clear hcz4_2
       try clear hcz51_0
       try clear hcz51_1
       try clear hcz51_2
       try clear hcz60_0
       try clear hcz60_1
       try clear hcz60_2
       try clear hcz64_0
       try clear hcz64_1
       try clear hcz64_2
       try clear hcz67_0
       try clear hcz67_1
       try clear hcz67_2
       try clear hfz21_0
       try clear hfz21_1
       try clear hfz21_2
       try clear hfz25_0
       try clear hfz25_1
       try clear hfz25_2
       try clear hfz28_0
       try clear hfz28_1
       try clear hfz28_2
       try clear hfz31_0
       try clear hfz31_1
       try clear hfz31_2
       try clear hfz35_0
       try clear hfz35_1
       try clear hfz35_2
       try clear hfz36_0
       try clear hfz36_1
       try clear hfz36_2
       try clear hfz39_0
       try clear hfz39_1
       try clear hfz39_2
       try clear hfz4_0
       try clear hfz4_1
       try clear hfz4_2
       try clear hfz51_0
       try clear hfz51_1
       try clear hfz51_2
       try clear hfz60_0
       try clear hfz60_1
       try clear hfz60_2
       try clear hfz64_0
       try clear hfz64_1
       try clear hfz64_2
       try clear hfz67_0
       try clear hfz67_1
       try clear hfz67_2
       try clear hx10_0
       try clear hx12_0
       try clear hx14_0
       try clear hx43_0
       try clear hx45_0
       try clear p10
       try clear p12
       try clear p14
       try clear p2
       try clear p43
       try clear p45
       try clear q10
       try clear q12
       try clear q14
       try clear q43
       try clear q45
       obtain ⟨x7_2, x139000_2, x139001_2, x139002_2, x149000_2, x149001_2, x149002_2, u139000, u139001, u139002, u149000, u149001, u149002, rfl, HA, HK2, HO_113002, HO_139000, HO_139001, HO_139002, HO_149000, HO_149001, HO_149002, BK111, BK112, BK138, BK148, HB⟩ := hrel
       cases gk with
       | zero => exact absurd HA.out (by simp [spec_CountSystem.l1])
       | succ k2 =>
        have H := HA.out
        clear HA
        simp only [spec_CountSystem.l1] at H
        by_cases c70 : x7_2 < 8
        ·rw [if_pos c70] at H
         have c70b0 : decide (x7_2 < 8) = true := decide_eq_true c70
         clear c70
         obtain ⟨ji71, hji71⟩ : ∃ j_ : Int, (IntKind.u64.wrap (x7_2)) = j_ := ⟨_, rfl⟩
         replace H : (if 0 ≤ (ji71) then (if 0 ≤ (wrap64 (3 + x7_2)) then (if (wrap64 (3 + x7_2)) < (x139001_2.length : Int) then (if (wrap64 (3 + x7_2)) < (x149001_2.length : Int) then (spec_CountSystem.l1 k2 (wrap64 (x7_2 + 1)) 11 2 x113002_1 x139000_2 (x139001_2.set ((wrap64 (3 + x7_2)) : Int).toNat (shl .i64 1 (ji71))) x139002_2 x149000_2 (x149001_2.set ((wrap64 (3 + x7_2)) : Int).toNat 1) x149002_2) else (none)) else (none)) else (none)) else (none)) = some (r1, r2, r3) := by first | (rw [hji71] at H; exact H) | (simp only [hji71] at H ⊢; exact H)
         by_cases c72 : 0 ≤ (ji71)
         ·rw [if_pos c72] at H
          have c72b0 := eq_true c72
          have c72b1 : decide (0 ≤ (ji71)) = true := decide_eq_true c72
          clear c72
          obtain ⟨ji73, hji73⟩ : ∃ j_ : Int, (shl .i64 1 (ji71)) = j_ := ⟨_, rfl⟩
          replace H : (if 0 ≤ (wrap64 (3 + x7_2)) then (if (wrap64 (3 + x7_2)) < (x139001_2.length : Int) then (if (wrap64 (3 + x7_2)) < (x149001_2.length : Int) then (spec_CountSystem.l1 k2 (wrap64 (x7_2 + 1)) 11 2 x113002_1 x139000_2 (x139001_2.set ((wrap64 (3 + x7_2)) : Int).toNat (ji73)) x139002_2 x149000_2 (x149001_2.set ((wrap64 (3 + x7_2)) : Int).toNat 1) x149002_2) else (none)) else (none)) else (none)) = some (r1, r2, r3) := by first | (rw [hji73] at H; exact H) | (simp only [hji73] at H ⊢; exact H)
          have hji73_ : (IntKind.i64.wrap (1 * 2 ^ min (ji71).toNat 64)) = ji73 := hji73
          have hji73z : (ji71) ≤ 64 → (IntKind.i64.wrap (1 * 2 ^ (ji71).toNat)) = ji73 := shl_small hji73
          have hji73u : (IntKind.i64.wrap (2 ^ min (ji71).toNat 64)) = ji73 := by have h_ := hji73_; rw [Int.one_mul] at h_; exact h_
          have hji73v : (ji71) ≤ 64 → (IntKind.i64.wrap (2 ^ (ji71).toNat)) = ji73 := fun hle_ => by have h_ := hji73z hle_; rw [Int.one_mul] at h_; exact h_
          have hji73y : (wrap64 (1 * 2 ^ min (ji71).toNat 64)) = ji73 := (i64_w _).symm.trans hji73_
          have hji73x : (ji71) ≤ 64 → (wrap64 (1 * 2 ^ (ji71).toNat)) = ji73 := fun h_ => (i64_w _).symm.trans (hji73z h_)
          obtain ⟨ji74, hji74⟩ : ∃ j_ : Int, (wrap64 (3 + x7_2)) = j_ := ⟨_, rfl⟩
          replace H : (if 0 ≤ (ji74) then (if (ji74) < (x139001_2.length : Int) then (if (ji74) < (x149001_2.length : Int) then (spec_CountSystem.l1 k2 (wrap64 (x7_2 + 1)) 11 2 x113002_1 x139000_2 (x139001_2.set ((ji74) : Int).toNat (ji73)) x139002_2 x149000_2 (x149001_2.set ((ji74) : Int).toNat 1) x149002_2) else (none)) else (none)) else (none)) = some (r1, r2, r3) := by first | (rw [hji74] at H; exact H) | (simp only [hji74] at H ⊢; exact H)
          have hji74w : (IntKind.i64.wrap (3 + x7_2)) = ji74 := (i64_w _).trans hji74
          by_cases c75 : 0 ≤ (ji74)
          ·rw [if_pos c75] at H
           have c75b0 : decide (0 ≤ (ji74)) = true := decide_eq_true c75
           clear c75
           by_cases c76 : (ji74) < (x139001_2.length : Int)
           ·rw [if_pos c76] at H
            have c76b0 : decide ((ji74) < (x139001_2.length : Int)) = true := decide_eq_true c76
            clear c76
            obtain ⟨y151, hy151⟩ : ∃ y_ : List Int, y_ = (x139001_2.set ((ji74) : Int).toNat (ji73)) := ⟨_, rfl⟩
            replace H : (if (ji74) < (x149001_2.length : Int) then (spec_CountSystem.l1 k2 (wrap64 (x7_2 + 1)) 11 2 x113002_1 x139000_2 y151 x139002_2 x149000_2 (x149001_2.set ((ji74) : Int).toNat 1) x149002_2) else (none)) = some (r1, r2, r3) := by first | (rw [hy151]; with_reducible exact H) | (have H2_ := (Option.bind_some _ _).symm.trans H; rw [hy151]; with_reducible exact H2_) | (have H2_ := (Option.bind_some _ _).symm.trans H; with_reducible exact H2_) | with_reducible exact H | (rw [hy151]; exact H) | exact H
            have Ny151 := Aside0.mk hy151
            clear hy151
            by_cases c78 : (ji74) < (x149001_2.length : Int)
            ·rw [if_pos c78] at H
             have c78b0 : decide ((ji74) < (x149001_2.length : Int)) = true := decide_eq_true c78
             clear c78
             obtain ⟨y152, hy152⟩ : ∃ y_ : List Int, y_ = (x149001_2.set ((ji74) : Int).toNat 1) := ⟨_, rfl⟩
             replace H : (spec_CountSystem.l1 k2 (wrap64 (x7_2 + 1)) 11 2 x113002_1 x139000_2 y151 x139002_2 x149000_2 y152 x149002_2) = some (r1, r2, r3) := by first | (rw [hy152]; with_reducible exact H) | (have H2_ := (Option.bind_some _ _).symm.trans H; rw [hy152]; with_reducible exact H2_) | (have H2_ := (Option.bind_some _ _).symm.trans H; with_reducible exact H2_) | with_reducible exact H | (rw [hy152]; exact H) | exact H
             have Ny152 := Aside0.mk hy152
             clear hy152
             have H' := Aside0.mk H
             clear H
             obtain ⟨hnb80, hnc80⟩ := nB NB138_111
             obtain ⟨hnb81, hnc81⟩ := nB NB138_112
             obtain ⟨hnb82, hnc82⟩ := nB NB138_148
             obtain ⟨hcz83_0, hcz83_1, hcz83_2, hfz83_0, hfz83_1, hfz83_2⟩ := bK3 (w := wr) BK138
             have p77 : 0 ≤ ((ji74) : Int) := of_decide_eq_true (by first | (with_reducible assumption) | assumption)
             have q77 : ((ji74) : Int) < ((x139001_2.length : Int) : Int) := of_decide_eq_true (by first | (with_reducible assumption) | assumption)
             obtain ⟨go77, co77, eo77, gb77, gl77, cl77, HG77⟩ := Kd.R_form HO_139001.out (by omega)
             (first | cases eo77 | (injection eo77 with ea_ en_ ec_; (first | subst ea_ | (injection ea_ with ea_; subst ea_)); subst ec_; clear en_))
             have GB77 := Aside0.mk gb77
             have GG77 := Aside0.mk HG77
             clear gb77 gl77 HG77
             obtain ⟨hx77_0, hf77_0⟩ := Kd.R_celln 0 HO_139001.out ((ji74) : Int) p77 q77
             replace p77 := eq_true p77
             replace q77 := eq_true q77
             have HP84 := Kd.R_putg HO_139001.out ((ji74) : Int) ji73
             go_wp2_with (first | ((with_reducible refine gate_store (t := 3) (p := 58) rfl ?_); refine store_event (t := 3) (p := 58) (v := ?vo_w85) (w1 := (wr.setCell ⟨go77, ((ji74) : Int).toNat, none⟩ (.int .i64 ji73))) ?hg ?ho ?hn ?hr ?_; (case ho => rfl); (case hg => rfl); (case hn => rfl); (case hr => first | (go_simp; done) | (go_simp; rfl)); intro w85 hw; have hg : wr.grownBy w85 (some go77) := (by rw [hw]; exact HP84.2); have hp_ : Kd.R (Kd.int .i64) 3 w85 w.heap.size (fun k_ => (w.heap.size ≤ k_) ∧ some k_ ≠ (u139000 : Value).ownBlock ∧ some k_ ≠ (u139002 : Value).ownBlock ∧ some k_ ≠ (u149000 : Value).ownBlock ∧ some k_ ≠ (u149001 : Value).ownBlock ∧ some k_ ≠ (u149002 : Value).ownBlock) (.slice (some ⟨go77, 0, none⟩) x139001_2.length co77) y151 := (by rw [hw, Ny151.out]; exact HP84.1); clear HP84; replace HO_113002 := Aside0.mk (Kd.N_afterv (v := (.slice (some ⟨go77, 0, none⟩) x139001_2.length co77)) (v1 := (.slice (some ⟨go77, 0, none⟩) x139001_2.length co77)) (ok := (fun k_ => (w.heap.size ≤ k_) ∧ some k_ ≠ (u139000 : Value).ownBlock ∧ some k_ ≠ (u139002 : Value).ownBlock ∧ some k_ ≠ (u149000 : Value).ownBlock ∧ some k_ ≠ (u149001 : Value).ownBlock ∧ some k_ ≠ (u149002 : Value).ownBlock ∧ k_ ≠ gb111 ∧ k_ ≠ gb112 ∧ k_ ≠ gb138 ∧ k_ ≠ gb148)) (by (with_reducible repeat (first | apply Kd.N_alloc | apply Kd.N_drewN | apply Kd.N_drew)); exact Kd.N_mono HO_113002.out (fun _ hk => ⟨⟨hk.1, ⟨hk.2.1, ⟨hk.2.2.2.1, ⟨hk.2.2.2.2.1, ⟨hk.2.2.2.2.2.1, ⟨hk.2.2.2.2.2.2.1, ⟨hk.2.2.2.2.2.2.2.1, ⟨hk.2.2.2.2.2.2.2.2.1, ⟨hk.2.2.2.2.2.2.2.2.2.1, hk.2.2.2.2.2.2.2.2.2.2⟩⟩⟩⟩⟩⟩⟩⟩⟩, hk.2.2.1⟩)) hg (.inl rfl)); replace HO_139000 := Aside0.mk (Kd.R_after (v := (.slice (some ⟨go77, 0, none⟩) x139001_2.length co77)) (v1 := (.slice (some ⟨go77, 0, none⟩) x139001_2.length co77)) (ok := (fun k_ => (w.heap.size ≤ k_) ∧ some k_ ≠ (u139002 : Value).ownBlock ∧ some k_ ≠ (u149000 : Value).ownBlock ∧ some k_ ≠ (u149001 : Value).ownBlock ∧ some k_ ≠ (u149002 : Value).ownBlock)) (by (with_reducible repeat (first | apply Kd.R_alloc | apply Kd.R_drewN | apply Kd.R_drew)); exact Kd.R_mono HO_139000.out (fun _ hk => ⟨⟨hk.1, ⟨hk.2.2.1, ⟨hk.2.2.2.1, ⟨hk.2.2.2.2.1, hk.2.2.2.2.2⟩⟩⟩⟩, hk.2.1⟩)) hg (.inl rfl)); replace HO_139002 := Aside0.mk (Kd.R_after (v := (.slice (some ⟨go77, 0, none⟩) x139001_2.length co77)) (v1 := (.slice (some ⟨go77, 0, none⟩) x139001_2.length co77)) (ok := (fun k_ => (w.heap.size ≤ k_) ∧ some k_ ≠ (u139000 : Value).ownBlock ∧ some k_ ≠ (u149000 : Value).ownBlock ∧ some k_ ≠ (u149001 : Value).ownBlock ∧ some k_ ≠ (u149002 : Value).ownBlock)) (by (with_reducible repeat (first | apply Kd.R_alloc | apply Kd.R_drewN | apply Kd.R_drew)); exact Kd.R_mono HO_139002.out (fun _ hk => ⟨⟨hk.1, ⟨hk.2.1, ⟨hk.2.2.2.1, ⟨hk.2.2.2.2.1, hk.2.2.2.2.2⟩⟩⟩⟩, hk.2.2.1⟩)) hg (.inl rfl)); replace HO_149000 := Aside0.mk (Kd.R_after (v := (.slice (some ⟨go77, 0, none⟩) x139001_2.length co77)) (v1 := (.slice (some ⟨go77, 0, none⟩) x139001_2.length co77)) (ok := (fun k_ => (w.heap.size ≤ k_) ∧ some k_ ≠ (u139000 : Value).ownBlock ∧ some k_ ≠ (u139002 : Value).ownBlock ∧ some k_ ≠ (u149001 : Value).ownBlock ∧ some k_ ≠ (u149002 : Value).ownBlock)) (by (with_reducible repeat (first | apply Kd.R_alloc | apply Kd.R_drewN | apply Kd.R_drew)); exact Kd.R_mono HO_149000.out (fun _ hk => ⟨⟨hk.1, ⟨hk.2.1, ⟨hk.2.2.2.1, ⟨hk.2.2.2.2.1, hk.2.2.2.2.2⟩⟩⟩⟩, hk.2.2.1⟩)) hg (.inl rfl)); replace HO_149001 := Aside0.mk (Kd.R_after (v := (.slice (some ⟨go77, 0, none⟩) x139001_2.length co77)) (v1 := (.slice (some ⟨go77, 0, none⟩) x139001_2.length co77)) (ok := (fun k_ => (w.heap.size ≤ k_) ∧ some k_ ≠ (u139000 : Value).ownBlock ∧ some k_ ≠ (u139002 : Value).ownBlock ∧ some k_ ≠ (u149000 : Value).ownBlock ∧ some k_ ≠ (u149002 : Value).ownBlock)) (by (with_reducible repeat (first | apply Kd.R_alloc | apply Kd.R_drewN | apply Kd.R_drew)); exact Kd.R_mono HO_149001.out (fun _ hk => ⟨⟨hk.1, ⟨hk.2.1, ⟨hk.2.2.2.1, ⟨hk.2.2.2.2.1, hk.2.2.2.2.2⟩⟩⟩⟩, hk.2.2.1⟩)) hg (.inl rfl)); replace HO_149002 := Aside0.mk (Kd.R_after (v := (.slice (some ⟨go77, 0, none⟩) x139001_2.length co77)) (v1 := (.slice (some ⟨go77, 0, none⟩) x139001_2.length co77)) (ok := (fun k_ => (w.heap.size ≤ k_) ∧ some k_ ≠ (u139000 : Value).ownBlock ∧ some k_ ≠ (u139002 : Value).ownBlock ∧ some k_ ≠ (u149000 : Value).ownBlock ∧ some k_ ≠ (u149001 : Value).ownBlock)) (by (with_reducible repeat (first | apply Kd.R_alloc | apply Kd.R_drewN | apply Kd.R_drew)); exact Kd.R_mono HO_149002.out (fun _ hk => ⟨⟨hk.1, ⟨hk.2.1, ⟨hk.2.2.2.1, ⟨hk.2.2.2.2.1, hk.2.2.2.2.2⟩⟩⟩⟩, hk.2.2.1⟩)) hg (.inl rfl)); replace BK111 := Aside0.mk (blk_grown (bP BK111) hg (Kd.R_ne HO_139001.out BK111.out (by decide))); replace BK112 := Aside0.mk (blk_grown (bP BK112) hg (Kd.R_ne HO_139001.out BK112.out (by decide))); replace BK138 := Aside0.mk (blk_grown (bP BK138) hg (Kd.R_ne HO_139001.out BK138.out (by decide))); replace BK148 := Aside0.mk (blk_grown (bP BK148) hg (Kd.R_ne HO_139001.out BK148.out (by decide))); replace HO_139001 := Aside0.mk (hp_); replace HB := Aside0.mk ((by rw [hw]; exact below_set (HB.out) GB77.out : Below w.heap.size w w85)); clear hg hw hp_; obtain ⟨hnb86, hnc86⟩ := nB NB148_111; obtain ⟨hnb87, hnc87⟩ := nB NB148_112; obtain ⟨hcz88_0, hcz88_1, hcz88_2, hfz88_0, hfz88_1, hfz88_2⟩ := bK3 (w := w85) BK148; have p79 : 0 ≤ ((ji74) : Int) := of_decide_eq_true (by first | (with_reducible assumption) | assumption); have q79 : ((ji74) : Int) < ((x149001_2.length : Int) : Int) := of_decide_eq_true (by first | (with_reducible assumption) | assumption); obtain ⟨go79, co79, eo79, gb79, gl79, cl79, HG79⟩ := Kd.R_form HO_149001.out (by omega); (first | cases eo79 | (injection eo79 with ea_ en_ ec_; (first | subst ea_ | (injection ea_ with ea_; subst ea_)); subst ec_; clear en_)); have GB79 := Aside0.mk gb79; have GG79 := Aside0.mk HG79; clear gb79 gl79 HG79; obtain ⟨hx79_0, hf79_0⟩ := Kd.R_celln 0 HO_149001.out ((ji74) : Int) p79 q79; replace p79 := eq_true p79; replace q79 := eq_true q79; have n_ := Aside0.mk (Kd.R_mono (ok' := (fun k_ => (w.heap.size ≤ k_) ∧ some k_ ≠ (u139000 : Value).ownBlock ∧ some k_ ≠ (.slice (some ⟨go77, 0, none⟩) x139001_2.length co77 : Value).ownBlock ∧ some k_ ≠ (u139002 : Value).ownBlock ∧ some k_ ≠ (u149000 : Value).ownBlock ∧ some k_ ≠ (u149002 : Value).ownBlock)) HO_149001.out (fun k_ hk => ⟨hk.1.1, ⟨hk.1.2.1, ⟨hk.2, ⟨hk.1.2.2.1, ⟨hk.1.2.2.2.1, hk.1.2.2.2.2⟩⟩⟩⟩⟩)); clear HO_149001; have HO_149001 := n_; clear n_; obtain ⟨hy89_, hz89_⟩ := Kd.R_celln 0 HO_149001.out ((ji74) : Int) (of_decide_eq_true (by first | (with_reducible assumption) | assumption)) (of_decide_eq_true (by first | (with_reducible assumption) | assumption)); have HP89 := Kd.R_putg HO_149001.out ((ji74) : Int) 1) | ((with_reducible refine gate_store (t := 3) (p := 63) rfl ?_); refine store_event (t := 3) (p := 63) (v := ?vo_w90) (w1 := (w85.setCell ⟨go79, ((ji74) : Int).toNat, none⟩ (.int .i64 1))) ?hg ?ho ?hn ?hr ?_; (case ho => rfl); (case hg => rfl); (case hn => rfl); (case hr => first | (go_simp; done) | (go_simp; rfl)); intro w90 hw; have hg : w85.grownBy w90 (some go79) := (by rw [hw]; exact HP89.2); have hp_ : Kd.R (Kd.int .i64) 3 w90 w.heap.size (fun k_ => (w.heap.size ≤ k_) ∧ some k_ ≠ (u139000 : Value).ownBlock ∧ some k_ ≠ (.slice (some ⟨go77, 0, none⟩) x139001_2.length co77 : Value).ownBlock ∧ some k_ ≠ (u139002 : Value).ownBlock ∧ some k_ ≠ (u149000 : Value).ownBlock ∧ some k_ ≠ (u149002 : Value).ownBlock) (.slice (some ⟨go79, 0, none⟩) x149001_2.length co79) y152 := (by rw [hw, Ny152.out]; exact HP89.1); clear HP89; replace HO_113002 := Aside0.mk (Kd.N_afterv (v := (.slice (some ⟨go79, 0, none⟩) x149001_2.length co79)) (v1 := (.slice (some ⟨go79, 0, none⟩) x149001_2.length co79)) (ok := (fun k_ => (w.heap.size ≤ k_) ∧ some k_ ≠ (u139000 : Value).ownBlock ∧ some k_ ≠ (.slice (some ⟨go77, 0, none⟩) x139001_2.length co77 : Value).ownBlock ∧ some k_ ≠ (u139002 : Value).ownBlock ∧ some k_ ≠ (u149000 : Value).ownBlock ∧ some k_ ≠ (u149002 : Value).ownBlock ∧ k_ ≠ gb111 ∧ k_ ≠ gb112 ∧ k_ ≠ gb138 ∧ k_ ≠ gb148)) (by (with_reducible repeat (first | apply Kd.N_alloc | apply Kd.N_drewN | apply Kd.N_drew)); exact Kd.N_mono HO_113002.out (fun _ hk => ⟨⟨hk.1.1, ⟨hk.1.2.1, ⟨hk.2, ⟨hk.1.2.2.1, ⟨hk.1.2.2.2.1, ⟨hk.1.2.2.2.2.2.1, ⟨hk.1.2.2.2.2.2.2.1, ⟨hk.1.2.2.2.2.2.2.2.1, ⟨hk.1.2.2.2.2.2.2.2.2.1, hk.1.2.2.2.2.2.2.2.2.2⟩⟩⟩⟩⟩⟩⟩⟩⟩, hk.1.2.2.2.2.1⟩)) hg (.inl rfl)); replace HO_139000 := Aside0.mk (Kd.R_after (v := (.slice (some ⟨go79, 0, none⟩) x149001_2.length co79)) (v1 := (.slice (some ⟨go79, 0, none⟩) x149001_2.length co79)) (ok := (fun k_ => (w.heap.size ≤ k_) ∧ some k_ ≠ (.slice (some ⟨go77, 0, none⟩) x139001_2.length co77 : Value).ownBlock ∧ some k_ ≠ (u139002 : Value).ownBlock ∧ some k_ ≠ (u149000 : Value).ownBlock ∧ some k_ ≠ (u149002 : Value).ownBlock)) (by (with_reducible repeat (first | apply Kd.R_alloc | apply Kd.R_drewN | apply Kd.R_drew)); exact Kd.R_mono HO_139000.out (fun _ hk => ⟨⟨hk.1.1, ⟨hk.2, ⟨hk.1.2.1, ⟨hk.1.2.2.1, hk.1.2.2.2.2⟩⟩⟩⟩, hk.1.2.2.2.1⟩)) hg (.inl rfl)); replace HO_139001 := Aside0.mk (Kd.R_after (v := (.slice (some ⟨go79, 0, none⟩) x149001_2.length co79)) (v1 := (.slice (some ⟨go79, 0, none⟩) x149001_2.length co79)) (ok := (fun k_ => (w.heap.size ≤ k_) ∧ some k_ ≠ (u139000 : Value).ownBlock ∧ some k_ ≠ (u139002 : Value).ownBlock ∧ some k_ ≠ (u149000 : Value).ownBlock ∧ some k_ ≠ (u149002 : Value).ownBlock)) (by (with_reducible repeat (first | apply Kd.R_alloc | apply Kd.R_drewN | apply Kd.R_drew)); exact Kd.R_mono HO_139001.out (fun _ hk => ⟨⟨hk.1, ⟨hk.2.1, ⟨hk.2.2.1, ⟨hk.2.2.2.1, hk.2.2.2.2.2⟩⟩⟩⟩, hk.2.2.2.2.1⟩)) hg (.inl rfl)); replace HO_139002 := Aside0.mk (Kd.R_after (v := (.slice (some ⟨go79, 0, none⟩) x149001_2.length co79)) (v1 := (.slice (some ⟨go79, 0, none⟩) x149001_2.length co79)) (ok := (fun k_ => (w.heap.size ≤ k_) ∧ some k_ ≠ (u139000 : Value).ownBlock ∧ some k_ ≠ (.slice (some ⟨go77, 0, none⟩) x139001_2.length co77 : Value).ownBlock ∧ some k_ ≠ (u149000 : Value).ownBlock ∧ some k_ ≠ (u149002 : Value).ownBlock)) (by (with_reducible repeat (first | apply Kd.R_alloc | apply Kd.R_drewN | apply Kd.R_drew)); exact Kd.R_mono HO_139002.out (fun _ hk => ⟨⟨hk.1.1, ⟨hk.1.2.1, ⟨hk.2, ⟨hk.1.2.2.1, hk.1.2.2.2.2⟩⟩⟩⟩, hk.1.2.2.2.1⟩)) hg (.inl rfl)); replace HO_149000 := Aside0.mk (Kd.R_after (v := (.slice (some ⟨go79, 0, none⟩) x149001_2.length co79)) (v1 := (.slice (some ⟨go79, 0, none⟩) x149001_2.length co79)) (ok := (fun k_ => (w.heap.size ≤ k_) ∧ some k_ ≠ (u139000 : Value).ownBlock ∧ some k_ ≠ (.slice (some ⟨go77, 0, none⟩) x139001_2.length co77 : Value).ownBlock ∧ some k_ ≠ (u139002 : Value).ownBlock ∧ some k_ ≠ (u149002 : Value).ownBlock)) (by (with_reducible repeat (first | apply Kd.R_alloc | apply Kd.R_drewN | apply Kd.R_drew)); exact Kd.R_mono HO_149000.out (fun _ hk => ⟨⟨hk.1.1, ⟨hk.1.2.1, ⟨hk.2, ⟨hk.1.2.2.1, hk.1.2.2.2.2⟩⟩⟩⟩, hk.1.2.2.2.1⟩)) hg (.inl rfl)); replace HO_149002 := Aside0.mk (Kd.R_after (v := (.slice (some ⟨go79, 0, none⟩) x149001_2.length co79)) (v1 := (.slice (some ⟨go79, 0, none⟩) x149001_2.length co79)) (ok := (fun k_ => (w.heap.size ≤ k_) ∧ some k_ ≠ (u139000 : Value).ownBlock ∧ some k_ ≠ (.slice (some ⟨go77, 0, none⟩) x139001_2.length co77 : Value).ownBlock ∧ some k_ ≠ (u139002 : Value).ownBlock ∧ some k_ ≠ (u149000 : Value).ownBlock)) (by (with_reducible repeat (first | apply Kd.R_alloc | apply Kd.R_drewN | apply Kd.R_drew)); exact Kd.R_mono HO_149002.out (fun _ hk => ⟨⟨hk.1.1, ⟨hk.1.2.1, ⟨hk.2, ⟨hk.1.2.2.1, hk.1.2.2.2.1⟩⟩⟩⟩, hk.1.2.2.2.2⟩)) hg (.inl rfl)); replace BK111 := Aside0.mk (blk_grown (bP BK111) hg (Kd.R_ne HO_149001.out BK111.out (by decide))); replace BK112 := Aside0.mk (blk_grown (bP BK112) hg (Kd.R_ne HO_149001.out BK112.out (by decide))); replace BK138 := Aside0.mk (blk_grown (bP BK138) hg (Kd.R_ne HO_149001.out BK138.out (by decide))); replace BK148 := Aside0.mk (blk_grown (bP BK148) hg (Kd.R_ne HO_149001.out BK148.out (by decide))); replace HO_149001 := Aside0.mk (hp_); replace HB := Aside0.mk ((by rw [hw]; exact below_set (HB.out) GB79.out : Below w.heap.size w w90)); clear hg hw hp_))
             go_roundg k2
             case measure => have := HK1.out; have := HK2.out; omega
             case rel => exact ⟨(wrap64 (x7_2 + 1)), (x139000_2), (y151), (x139002_2), (x149000_2), (y152), (x149002_2), (u139000), (.slice (some ⟨go77, 0, none⟩) x139001_2.length co77), (u139002), (u149000), (.slice (some ⟨go79, 0, none⟩) x149001_2.length co79), (u149002), rS, H', ⟨by have := HK1.out; have := HK2.out; omega⟩, ⟨by (with_reducible repeat (first | apply Kd.N_alloc | apply Kd.N_drewN | apply Kd.N_drew)); exact Kd.N_mono HO_113002.out (fun _ hk => ⟨hk.1.1, ⟨hk.1.2.1, ⟨hk.1.2.2.1, ⟨hk.1.2.2.2.1, ⟨hk.1.2.2.2.2.1, ⟨hk.2, ⟨hk.1.2.2.2.2.2.1, ⟨hk.1.2.2.2.2.2.2.1, ⟨hk.1.2.2.2.2.2.2.2.1, ⟨hk.1.2.2.2.2.2.2.2.2.1, hk.1.2.2.2.2.2.2.2.2.2⟩⟩⟩⟩⟩⟩⟩⟩⟩⟩)⟩, ⟨by (with_reducible repeat (first | apply Kd.R_alloc | apply Kd.R_drewN | apply Kd.R_drew)); exact Kd.R_mono HO_139000.out (fun _ hk => ⟨hk.1.1, ⟨hk.1.2.1, ⟨hk.1.2.2.1, ⟨hk.1.2.2.2.1, ⟨hk.2, hk.1.2.2.2.2⟩⟩⟩⟩⟩)⟩, ⟨by (with_reducible repeat (first | apply Kd.R_alloc | apply Kd.R_drewN | apply Kd.R_drew)); exact Kd.R_mono HO_139001.out (fun _ hk => ⟨hk.1.1, ⟨hk.1.2.1, ⟨hk.1.2.2.1, ⟨hk.1.2.2.2.1, ⟨hk.2, hk.1.2.2.2.2⟩⟩⟩⟩⟩)⟩, ⟨by (with_reducible repeat (first | apply Kd.R_alloc | apply Kd.R_drewN | apply Kd.R_drew)); exact Kd.R_mono HO_139002.out (fun _ hk => ⟨hk.1.1, ⟨hk.1.2.1, ⟨hk.1.2.2.1, ⟨hk.1.2.2.2.1, ⟨hk.2, hk.1.2.2.2.2⟩⟩⟩⟩⟩)⟩, ⟨by (with_reducible repeat (first | apply Kd.R_alloc | apply Kd.R_drewN | apply Kd.R_drew)); exact Kd.R_mono HO_149000.out (fun _ hk => ⟨hk.1.1, ⟨hk.1.2.1, ⟨hk.1.2.2.1, ⟨hk.1.2.2.2.1, ⟨hk.2, hk.1.2.2.2.2⟩⟩⟩⟩⟩)⟩, ⟨rP HO_149001⟩, ⟨by (with_reducible repeat (first | apply Kd.R_alloc | apply Kd.R_drewN | apply Kd.R_drew)); exact Kd.R_mono HO_149002.out (fun _ hk => ⟨hk.1.1, ⟨hk.1.2.1, ⟨hk.1.2.2.1, ⟨hk.1.2.2.2.1, ⟨hk.1.2.2.2.2, hk.2⟩⟩⟩⟩⟩)⟩, ⟨bP BK111⟩, ⟨bP BK112⟩, ⟨bP BK138⟩, ⟨bP BK148⟩, ⟨bZ HB⟩⟩
            ·rw [if_neg c78] at H
             exact absurd H (by simp)
           ·rw [if_neg c76] at H
            exact absurd H (by simp)
          ·rw [if_neg c75] at H
           exact absurd H (by simp)
         ·rw [if_neg c72] at H
          exact absurd H (by simp)
        ·rw [if_neg c70] at H
         have c70b0 : decide (x7_2 < 8) = false := decide_eq_false c70
         clear c70
         by_cases c91 : 1 < (x139002_2.length : Int)
         ·rw [if_pos c91] at H
          have c91b0 : decide (1 < (x139002_2.length : Int)) = true := decide_eq_true c91
          have c91b1 : decide (1 < x139002_2.length) = true := decide_eq_true (by omega)
          clear c91
          obtain ⟨y153, hy153⟩ : ∃ y_ : List Int, y_ = (x139002_2.set (1 : Int).toNat 1) := ⟨_, rfl⟩
          replace H : (if 2 < (x149002_2.length : Int) then ((some (([(⟨x139000_2, x139001_2, y153⟩ : S75), (⟨x149000_2, x149001_2, (x149002_2.set (2 : Int).toNat 1)⟩ : S75)] : List (S75)) : List (S75))).bind fun y155 => (if x113002_1.length + y155.length < 1954687338268 then (some (11, 2, (x113002_1 ++ y155))) else (none))) else (none)) = some (r1, r2, r3) := by first | (rw [hy153]; with_reducible exact H) | (have H2_ := (Option.bind_some _ _).symm.trans H; rw [hy153]; with_reducible exact H2_) | (have H2_ := (Option.bind_some _ _).symm.trans H; with_reducible exact H2_) | with_reducible exact H | (rw [hy153]; exact H) | exact H
          have Ny153 := Aside0.mk hy153
          clear hy153
          by_cases c93 : 2 < (x149002_2.length : Int)
          ·rw [if_pos c93] at H
           have c93b0 : decide (2 < (x149002_2.length : Int)) = true := decide_eq_true c93
           have c93b1 : decide (2 < x149002_2.length) = true := decide_eq_true (by omega)
           clear c93
           obtain ⟨y154, hy154⟩ : ∃ y_ : List Int, y_ = (x149002_2.set (2 : Int).toNat 1) := ⟨_, rfl⟩
           replace H : ((some (([(⟨x139000_2, x139001_2, y153⟩ : S75), (⟨x149000_2, x149001_2, y154⟩ : S75)] : List (S75)) : List (S75))).bind fun y155 => (if x113002_1.length + y155.length < 1954687338268 then (some (11, 2, (x113002_1 ++ y155))) else (none))) = some (r1, r2, r3) := by first | (rw [hy154]; with_reducible exact H) | (have H2_ := (Option.bind_some _ _).symm.trans H; rw [hy154]; with_reducible exact H2_) | (have H2_ := (Option.bind_some _ _).symm.trans H; with_reducible exact H2_) | with_reducible exact H | (rw [hy154]; exact H) | exact H
           have Ny154 := Aside0.mk hy154
           clear hy154
           obtain ⟨y155, hy155⟩ : ∃ y_ : List (S75), y_ = (([(⟨x139000_2, x139001_2, y153⟩ : S75), (⟨x149000_2, x149001_2, y154⟩ : S75)] : List (S75))) := ⟨_, rfl⟩
           replace H : (if x113002_1.length + y155.length < 1954687338268 then (some (11, 2, (x113002_1 ++ y155))) else (none)) = some (r1, r2, r3) := by first | (rw [hy155]; with_reducible exact H) | (have H2_ := (Option.bind_some _ _).symm.trans H; rw [hy155]; with_reducible exact H2_) | (have H2_ := (Option.bind_some _ _).symm.trans H; with_reducible exact H2_) | with_reducible exact H | (rw [hy155]; exact H) | exact H
           have Ny155 := Aside0.mk hy155
           clear hy155
           by_cases c95 : x113002_1.length + y155.length < 1954687338268
           ·rw [if_pos c95] at H
            have LMc95 := Aside0.mk c95
            clear c95
            obtain ⟨y158, hy158⟩ : ∃ y_ : List (S75), y_ = (x113002_1 ++ y155) := ⟨_, rfl⟩
            replace H : (some (11, 2, y158)) = some (r1, r2, r3) := by first | (rw [hy158]; with_reducible exact H) | (have H2_ := (Option.bind_some _ _).symm.trans H; rw [hy158]; with_reducible exact H2_) | (have H2_ := (Option.bind_some _ _).symm.trans H; with_reducible exact H2_) | with_reducible exact H | (rw [hy158]; exact H) | exact H
            have Ny158 := Aside0.mk hy158
            clear hy158
            simp only [Option.some.injEq, Prod.mk.injEq] at H
            obtain ⟨rfl, rfl, rfl⟩ := H
            obtain ⟨hnb96, hnc96⟩ := nB NB138_111
            obtain ⟨hnb97, hnc97⟩ := nB NB138_112
            obtain ⟨hnb98, hnc98⟩ := nB NB138_148
            obtain ⟨hcz99_0, hcz99_1, hcz99_2, hfz99_0, hfz99_1, hfz99_2⟩ := bK3 (w := wr) BK138
            have p92 : 0 ≤ (1 : Int) := (by omega)
            have q92 : (1 : Int) < ((x139002_2.length : Int) : Int) := of_decide_eq_true (by first | (with_reducible assumption) | assumption)
            have qi92 : (1 < x139002_2.length) = True := eq_true (by omega)
            obtain ⟨go92, co92, eo92, gb92, gl92, cl92, HG92⟩ := Kd.R_form HO_139002.out (by omega)
            (first | cases eo92 | (injection eo92 with ea_ en_ ec_; (first | subst ea_ | (injection ea_ with ea_; subst ea_)); subst ec_; clear en_))
            have GB92 := Aside0.mk gb92
            have GG92 := Aside0.mk HG92
            clear gb92 gl92 HG92
            obtain ⟨hx92_0, hf92_0⟩ := Kd.R_celln 0 HO_139002.out (1 : Int) p92 q92
            (try rw [show ((1 : Int)).toNat = 1 from rfl] at hx92_0)
            (try simp only [Nat.reduceMul, Nat.zero_mul, Nat.zero_add, Nat.reduceAdd] at hx92_0)
            (try rw [show ((1 : Int)).toNat = 1 from rfl] at hf92_0)
            (try simp only [Nat.reduceMul, Nat.zero_mul, Nat.zero_add, Nat.reduceAdd] at hf92_0)
            replace p92 := eq_true p92
            replace q92 := eq_true q92
            have HP100 := Kd.R_putg HO_139002.out (1 : Int) 1
            go_wp2_with (first | ((with_reducible refine gate_store (t := 3) (p := 66) rfl ?_); refine store_event (t := 3) (p := 66) (v := ?vo_w101) (w1 := (wr.setCell ⟨go92, (1 : Int).toNat, none⟩ (.int .i64 1))) ?hg ?ho ?hn ?hr ?_; (case ho => rfl); (case hg => rfl); (case hn => rfl); (case hr => first | (go_simp; done) | (go_simp; rfl)); intro w101 hw; have hg : wr.grownBy w101 (some go92) := (by rw [hw]; exact HP100.2); have hp_ : Kd.R (Kd.int .i64) 3 w101 w.heap.size (fun k_ => (w.heap.size ≤ k_) ∧ some k_ ≠ (u139000 : Value).ownBlock ∧ some k_ ≠ (u139001 : Value).ownBlock ∧ some k_ ≠ (u149000 : Value).ownBlock ∧ some k_ ≠ (u149001 : Value).ownBlock ∧ some k_ ≠ (u149002 : Value).ownBlock) (.slice (some ⟨go92, 0, none⟩) x139002_2.length co92) y153 := (by rw [hw, Ny153.out]; exact HP100.1); clear HP100; replace HO_113002 := Aside0.mk (Kd.N_afterv (v := (.slice (some ⟨go92, 0, none⟩) x139002_2.length co92)) (v1 := (.slice (some ⟨go92, 0, none⟩) x139002_2.length co92)) (ok := (fun k_ => (w.heap.size ≤ k_) ∧ some k_ ≠ (u139000 : Value).ownBlock ∧ some k_ ≠ (u139001 : Value).ownBlock ∧ some k_ ≠ (u149000 : Value).ownBlock ∧ some k_ ≠ (u149001 : Value).ownBlock ∧ some k_ ≠ (u149002 : Value).ownBlock ∧ k_ ≠ gb111 ∧ k_ ≠ gb112 ∧ k_ ≠ gb138 ∧ k_ ≠ gb148)) (by (with_reducible repeat (first | apply Kd.N_alloc | apply Kd.N_drewN | apply Kd.N_drew)); exact Kd.N_mono HO_113002.out (fun _ hk => ⟨⟨hk.1, ⟨hk.2.1, ⟨hk.2.2.1, ⟨hk.2.2.2.2.1, ⟨hk.2.2.2.2.2.1, ⟨hk.2.2.2.2.2.2.1, ⟨hk.2.2.2.2.2.2.2.1, ⟨hk.2.2.2.2.2.2.2.2.1, ⟨hk.2.2.2.2.2.2.2.2.2.1, hk.2.2.2.2.2.2.2.2.2.2⟩⟩⟩⟩⟩⟩⟩⟩⟩, hk.2.2.2.1⟩)) hg (.inl rfl)); replace HO_139000 := Aside0.mk (Kd.R_after (v := (.slice (some ⟨go92, 0, none⟩) x139002_2.length co92)) (v1 := (.slice (some ⟨go92, 0, none⟩) x139002_2.length co92)) (ok := (fun k_ => (w.heap.size ≤ k_) ∧ some k_ ≠ (u139001 : Value).ownBlock ∧ some k_ ≠ (u149000 : Value).ownBlock ∧ some k_ ≠ (u149001 : Value).ownBlock ∧ some k_ ≠ (u149002 : Value).ownBlock)) (by (with_reducible repeat (first | apply Kd.R_alloc | apply Kd.R_drewN | apply Kd.R_drew)); exact Kd.R_mono HO_139000.out (fun _ hk => ⟨⟨hk.1, ⟨hk.2.1, ⟨hk.2.2.2.1, ⟨hk.2.2.2.2.1, hk.2.2.2.2.2⟩⟩⟩⟩, hk.2.2.1⟩)) hg (.inl rfl)); replace HO_139001 := Aside0.mk (Kd.R_after (v := (.slice (some ⟨go92, 0, none⟩) x139002_2.length co92)) (v1 := (.slice (some ⟨go92, 0, none⟩) x139002_2.length co92)) (ok := (fun k_ => (w.heap.size ≤ k_) ∧ some k_ ≠ (u139000 : Value).ownBlock ∧ some k_ ≠ (u149000 : Value).ownBlock ∧ some k_ ≠ (u149001 : Value).ownBlock ∧ some k_ ≠ (u149002 : Value).ownBlock)) (by (with_reducible repeat (first | apply Kd.R_alloc | apply Kd.R_drewN | apply Kd.R_drew)); exact Kd.R_mono HO_139001.out (fun _ hk => ⟨⟨hk.1, ⟨hk.2.1, ⟨hk.2.2.2.1, ⟨hk.2.2.2.2.1, hk.2.2.2.2.2⟩⟩⟩⟩, hk.2.2.1⟩)) hg (.inl rfl)); replace HO_149000 := Aside0.mk (Kd.R_after (v := (.slice (some ⟨go92, 0, none⟩) x139002_2.length co92)) (v1 := (.slice (some ⟨go92, 0, none⟩) x139002_2.length co92)) (ok := (fun k_ => (w.heap.size ≤ k_) ∧ some k_ ≠ (u139000 : Value).ownBlock ∧ some k_ ≠ (u139001 : Value).ownBlock ∧ some k_ ≠ (u149001 : Value).ownBlock ∧ some k_ ≠ (u149002 : Value).ownBlock)) (by (with_reducible repeat (first | apply Kd.R_alloc | apply Kd.R_drewN | apply Kd.R_drew)); exact Kd.R_mono HO_149000.out (fun _ hk => ⟨⟨hk.1, ⟨hk.2.1, ⟨hk.2.2.1, ⟨hk.2.2.2.2.1, hk.2.2.2.2.2⟩⟩⟩⟩, hk.2.2.2.1⟩)) hg (.inl rfl)); replace HO_149001 := Aside0.mk (Kd.R_after (v := (.slice (some ⟨go92, 0, none⟩) x139002_2.length co92)) (v1 := (.slice (some ⟨go92, 0, none⟩) x139002_2.length co92)) (ok := (fun k_ => (w.heap.size ≤ k_) ∧ some k_ ≠ (u139000 : Value).ownBlock ∧ some k_ ≠ (u139001 : Value).ownBlock ∧ some k_ ≠ (u149000 : Value).ownBlock ∧ some k_ ≠ (u149002 : Value).ownBlock)) (by (with_reducible repeat (first | apply Kd.R_alloc | apply Kd.R_drewN | apply Kd.R_drew)); exact Kd.R_mono HO_149001.out (fun _ hk => ⟨⟨hk.1, ⟨hk.2.1, ⟨hk.2.2.1, ⟨hk.2.2.2.2.1, hk.2.2.2.2.2⟩⟩⟩⟩, hk.2.2.2.1⟩)) hg (.inl rfl)); replace HO_149002 := Aside0.mk (Kd.R_after (v := (.slice (some ⟨go92, 0, none⟩) x139002_2.length co92)) (v1 := (.slice (some ⟨go92, 0, none⟩) x139002_2.length co92)) (ok := (fun k_ => (w.heap.size ≤ k_) ∧ some k_ ≠ (u139000 : Value).ownBlock ∧ some k_ ≠ (u139001 : Value).ownBlock ∧ some k_ ≠ (u149000 : Value).ownBlock ∧ some k_ ≠ (u149001 : Value).ownBlock)) (by (with_reducible repeat (first | apply Kd.R_alloc | apply Kd.R_drewN | apply Kd.R_drew)); exact Kd.R_mono HO_149002.out (fun _ hk => ⟨⟨hk.1, ⟨hk.2.1, ⟨hk.2.2.1, ⟨hk.2.2.2.2.1, hk.2.2.2.2.2⟩⟩⟩⟩, hk.2.2.2.1⟩)) hg (.inl rfl)); replace BK111 := Aside0.mk (blk_grown (bP BK111) hg (Kd.R_ne HO_139002.out BK111.out (by decide))); replace BK112 := Aside0.mk (blk_grown (bP BK112) hg (Kd.R_ne HO_139002.out BK112.out (by decide))); replace BK138 := Aside0.mk (blk_grown (bP BK138) hg (Kd.R_ne HO_139002.out BK138.out (by decide))); replace BK148 := Aside0.mk (blk_grown (bP BK148) hg (Kd.R_ne HO_139002.out BK148.out (by decide))); replace HO_139002 := Aside0.mk (hp_); replace HB := Aside0.mk ((by rw [hw]; exact below_set (HB.out) GB92.out : Below w.heap.size w w101)); clear hg hw hp_; obtain ⟨hnb102, hnc102⟩ := nB NB148_111; obtain ⟨hnb103, hnc103⟩ := nB NB148_112; obtain ⟨hcz104_0, hcz104_1, hcz104_2, hfz104_0, hfz104_1, hfz104_2⟩ := bK3 (w := w101) BK148; have p94 : 0 ≤ (2 : Int) := (by omega); have q94 : (2 : Int) < ((x149002_2.length : Int) : Int) := of_decide_eq_true (by first | (with_reducible assumption) | assumption); have qi94 : (2 < x149002_2.length) = True := eq_true (by omega); obtain ⟨go94, co94, eo94, gb94, gl94, cl94, HG94⟩ := Kd.R_form HO_149002.out (by omega); (first | cases eo94 | (injection eo94 with ea_ en_ ec_; (first | subst ea_ | (injection ea_ with ea_; subst ea_)); subst ec_; clear en_)); have GB94 := Aside0.mk gb94; have GG94 := Aside0.mk HG94; clear gb94 gl94 HG94; obtain ⟨hx94_0, hf94_0⟩ := Kd.R_celln 0 HO_149002.out (2 : Int) p94 q94; (try rw [show ((2 : Int)).toNat = 2 from rfl] at hx94_0); (try simp only [Nat.reduceMul, Nat.zero_mul, Nat.zero_add, Nat.reduceAdd] at hx94_0); (try rw [show ((2 : Int)).toNat = 2 from rfl] at hf94_0); (try simp only [Nat.reduceMul, Nat.zero_mul, Nat.zero_add, Nat.reduceAdd] at hf94_0); replace p94 := eq_true p94; replace q94 := eq_true q94; have n_ := Aside0.mk (Kd.R_mono (ok' := (fun k_ => (w.heap.size ≤ k_) ∧ some k_ ≠ (u139000 : Value).ownBlock ∧ some k_ ≠ (u139001 : Value).ownBlock ∧ some k_ ≠ (.slice (some ⟨go92, 0, none⟩) x139002_2.length co92 : Value).ownBlock ∧ some k_ ≠ (u149000 : Value).ownBlock ∧ some k_ ≠ (u149001 : Value).ownBlock)) HO_149002.out (fun k_ hk => ⟨hk.1.1, ⟨hk.1.2.1, ⟨hk.1.2.2.1, ⟨hk.2, ⟨hk.1.2.2.2.1, hk.1.2.2.2.2⟩⟩⟩⟩⟩)); clear HO_149002; have HO_149002 := n_; clear n_; obtain ⟨hy105_, hz105_⟩ := Kd.R_celln 0 HO_149002.out (2 : Int) (by omega) (of_decide_eq_true (by first | (with_reducible assumption) | assumption)); (try simp only [Int.reduceToNat, Int.toNat_zero, Int.toNat_ofNat, Nat.reduceMul, Nat.zero_mul, Nat.zero_add] at hy105_ hz105_); (try rw [show ((2 : Int)).toNat = 2 from rfl] at hy105_); (try rw [show ((2 : Int)).toNat = 2 from rfl] at hz105_); have HP105 := Kd.R_putg HO_149002.out (2 : Int) 1) | ((with_reducible refine gate_store (t := 3) (p := 69) rfl ?_); refine store_event (t := 3) (p := 69) (v := ?vo_w106) (w1 := (w101.setCell ⟨go94, (2 : Int).toNat, none⟩ (.int .i64 1))) ?hg ?ho ?hn ?hr ?_; (case ho => rfl); (case hg => rfl); (case hn => rfl); (case hr => first | (go_simp; done) | (go_simp; rfl)); intro w106 hw; have hg : w101.grownBy w106 (some go94) := (by rw [hw]; exact HP105.2); have hp_ : Kd.R (Kd.int .i64) 3 w106 w.heap.size (fun k_ => (w.heap.size ≤ k_) ∧ some k_ ≠ (u139000 : Value).ownBlock ∧ some k_ ≠ (u139001 : Value).ownBlock ∧ some k_ ≠ (.slice (some ⟨go92, 0, none⟩) x139002_2.length co92 : Value).ownBlock ∧ some k_ ≠ (u149000 : Value).ownBlock ∧ some k_ ≠ (u149001 : Value).ownBlock) (.slice (some ⟨go94, 0, none⟩) x149002_2.length co94) y154 := (by rw [hw, Ny154.out]; exact HP105.1); clear HP105; replace HO_113002 := Aside0.mk (Kd.N_afterv (v := (.slice (some ⟨go94, 0, none⟩) x149002_2.length co94)) (v1 := (.slice (some ⟨go94, 0, none⟩) x149002_2.length co94)) (ok := (fun k_ => (w.heap.size ≤ k_) ∧ some k_ ≠ (u139000 : Value).ownBlock ∧ some k_ ≠ (u139001 : Value).ownBlock ∧ some k_ ≠ (.slice (some ⟨go92, 0, none⟩) x139002_2.length co92 : Value).ownBlock ∧ some k_ ≠ (u149000 : Value).ownBlock ∧ some k_ ≠ (u149001 : Value).ownBlock ∧ k_ ≠ gb111 ∧ k_ ≠ gb112 ∧ k_ ≠ gb138 ∧ k_ ≠ gb148)) (by (with_reducible repeat (first | apply Kd.N_alloc | apply Kd.N_drewN | apply Kd.N_drew)); exact Kd.N_mono HO_113002.out (fun _ hk => ⟨⟨hk.1.1, ⟨hk.1.2.1, ⟨hk.1.2.2.1, ⟨hk.2, ⟨hk.1.2.2.2.1, ⟨hk.1.2.2.2.2.1, ⟨hk.1.2.2.2.2.2.2.1, ⟨hk.1.2.2.2.2.2.2.2.1, ⟨hk.1.2.2.2.2.2.2.2.2.1, hk.1.2.2.2.2.2.2.2.2.2⟩⟩⟩⟩⟩⟩⟩⟩⟩, hk.1.2.2.2.2.2.1⟩)) hg (.inl rfl)); replace HO_139000 := Aside0.mk (Kd.R_after (v := (.slice (some ⟨go94, 0, none⟩) x149002_2.length co94)) (v1 := (.slice (some ⟨go94, 0, none⟩) x149002_2.length co94)) (ok := (fun k_ => (w.heap.size ≤ k_) ∧ some k_ ≠ (u139001 : Value).ownBlock ∧ some k_ ≠ (.slice (some ⟨go92, 0, none⟩) x139002_2.length co92 : Value).ownBlock ∧ some k_ ≠ (u149000 : Value).ownBlock ∧ some k_ ≠ (u149001 : Value).ownBlock)) (by (with_reducible repeat (first | apply Kd.R_alloc | apply Kd.R_drewN | apply Kd.R_drew)); exact Kd.R_mono HO_139000.out (fun _ hk => ⟨⟨hk.1.1, ⟨hk.1.2.1, ⟨hk.2, ⟨hk.1.2.2.1, hk.1.2.2.2.1⟩⟩⟩⟩, hk.1.2.2.2.2⟩)) hg (.inl rfl)); replace HO_139001 := Aside0.mk (Kd.R_after (v := (.slice (some ⟨go94, 0, none⟩) x149002_2.length co94)) (v1 := (.slice (some ⟨go94, 0, none⟩) x149002_2.length co94)) (ok := (fun k_ => (w.heap.size ≤ k_) ∧ some k_ ≠ (u139000 : Value).ownBlock ∧ some k_ ≠ (.slice (some ⟨go92, 0, none⟩) x139002_2.length co92 : Value).ownBlock ∧ some k_ ≠ (u149000 : Value).ownBlock ∧ some k_ ≠ (u149001 : Value).ownBlock)) (by (with_reducible repeat (first | apply Kd.R_alloc | apply Kd.R_drewN | apply Kd.R_drew)); exact Kd.R_mono HO_139001.out (fun _ hk => ⟨⟨hk.1.1, ⟨hk.1.2.1, ⟨hk.2, ⟨hk.1.2.2.1, hk.1.2.2.2.1⟩⟩⟩⟩, hk.1.2.2.2.2⟩)) hg (.inl rfl)); replace HO_139002 := Aside0.mk (Kd.R_after (v := (.slice (some ⟨go94, 0, none⟩) x149002_2.length co94)) (v1 := (.slice (some ⟨go94, 0, none⟩) x149002_2.length co94)) (ok := (fun k_ => (w.heap.size ≤ k_) ∧ some k_ ≠ (u139000 : Value).ownBlock ∧ some k_ ≠ (u139001 : Value).ownBlock ∧ some k_ ≠ (u149000 : Value).ownBlock ∧ some k_ ≠ (u149001 : Value).ownBlock)) (by (with_reducible repeat (first | apply Kd.R_alloc | apply Kd.R_drewN | apply Kd.R_drew)); exact Kd.R_mono HO_139002.out (fun _ hk => ⟨⟨hk.1, ⟨hk.2.1, ⟨hk.2.2.1, ⟨hk.2.2.2.1, hk.2.2.2.2.1⟩⟩⟩⟩, hk.2.2.2.2.2⟩)) hg (.inl rfl)); replace HO_149000 := Aside0.mk (Kd.R_after (v := (.slice (some ⟨go94, 0, none⟩) x149002_2.length co94)) (v1 := (.slice (some ⟨go94, 0, none⟩) x149002_2.length co94)) (ok := (fun k_ => (w.heap.size ≤ k_) ∧ some k_ ≠ (u139000 : Value).ownBlock ∧ some k_ ≠ (u139001 : Value).ownBlock ∧ some k_ ≠ (.slice (some ⟨go92, 0, none⟩) x139002_2.length co92 : Value).ownBlock ∧ some k_ ≠ (u149001 : Value).ownBlock)) (by (with_reducible repeat (first | apply Kd.R_alloc | apply Kd.R_drewN | apply Kd.R_drew)); exact Kd.R_mono HO_149000.out (fun _ hk => ⟨⟨hk.1.1, ⟨hk.1.2.1, ⟨hk.1.2.2.1, ⟨hk.2, hk.1.2.2.2.1⟩⟩⟩⟩, hk.1.2.2.2.2⟩)) hg (.inl rfl)); replace HO_149001 := Aside0.mk (Kd.R_after (v := (.slice (some ⟨go94, 0, none⟩) x149002_2.length co94)) (v1 := (.slice (some ⟨go94, 0, none⟩) x149002_2.length co94)) (ok := (fun k_ => (w.heap.size ≤ k_) ∧ some k_ ≠ (u139000 : Value).ownBlock ∧ some k_ ≠ (u139001 : Value).ownBlock ∧ some k_ ≠ (.slice (some ⟨go92, 0, none⟩) x139002_2.length co92 : Value).ownBlock ∧ some k_ ≠ (u149000 : Value).ownBlock)) (by (with_reducible repeat (first | apply Kd.R_alloc | apply Kd.R_drewN | apply Kd.R_drew)); exact Kd.R_mono HO_149001.out (fun _ hk => ⟨⟨hk.1.1, ⟨hk.1.2.1, ⟨hk.1.2.2.1, ⟨hk.2, hk.1.2.2.2.1⟩⟩⟩⟩, hk.1.2.2.2.2⟩)) hg (.inl rfl)); replace BK111 := Aside0.mk (blk_grown (bP BK111) hg (Kd.R_ne HO_149002.out BK111.out (by decide))); replace BK112 := Aside0.mk (blk_grown (bP BK112) hg (Kd.R_ne HO_149002.out BK112.out (by decide))); replace BK138 := Aside0.mk (blk_grown (bP BK138) hg (Kd.R_ne HO_149002.out BK138.out (by decide))); replace BK148 := Aside0.mk (blk_grown (bP BK148) hg (Kd.R_ne HO_149002.out BK148.out (by decide))); replace HO_149002 := Aside0.mk (hp_); replace HB := Aside0.mk ((by rw [hw]; exact below_set (HB.out) GB94.out : Below w.heap.size w w106)); clear hg hw hp_; obtain ⟨hnb107, hnc107⟩ := nB NB112_111; obtain ⟨hcz108_0, hcz108_1, hcz108_2, hfz108_0, hfz108_1, hfz108_2⟩ := bK3 (w := w106) BK112; obtain ⟨hcz109_0, hcz109_1, hcz109_2, hfz109_0, hfz109_1, hfz109_2⟩ := bK3 (w := w106) BK138; obtain ⟨hcz110_0, hcz110_1, hcz110_2, hfz110_0, hfz110_1, hfz110_2⟩ := bK3 (w := w106) BK148; obtain ⟨Ao111, co111, eo111⟩ := Kd.R_slice HO_139000.out; subst eo111; obtain ⟨Ao112, co112, eo112⟩ := Kd.R_slice HO_139001.out; subst eo112; obtain ⟨Ao113, co113, eo113⟩ := Kd.R_slice HO_149000.out; subst eo113; obtain ⟨Ao114, co114, eo114⟩ := Kd.R_slice HO_149001.out; subst eo114) | ((with_reducible refine gate_dst (N := 74) rfl ?_); refine Kd.N_lit k75 _ 75 ?hg (N' := 74) ?hd (xs := ([(⟨x139000_2, x139001_2, y153⟩ : S75), (⟨x149000_2, x149001_2, y154⟩ : S75)] : List (S75))) (inner := [.slice Ao111 x139000_2.length co111, .slice Ao112 x139001_2.length co112, .slice (some ⟨go92, 0, none⟩) x139002_2.length co92, .slice Ao113 x149000_2.length co113, .slice Ao114 x149001_2.length co114, .slice (some ⟨go94, 0, none⟩) x149002_2.length co94]) (ok := (fun k_ => (w.heap.size ≤ k_) ∧ some k_ ≠ (u113002 : Value).ownBlock ∧ k_ ≠ gb111 ∧ k_ ≠ gb112 ∧ k_ ≠ gb138 ∧ k_ ≠ gb148)) (okp := (fun k_ => (w.heap.size ≤ k_) ∧ some k_ ≠ (u113002 : Value).ownBlock ∧ k_ ≠ gb111 ∧ k_ ≠ gb112 ∧ k_ ≠ gb138 ∧ k_ ≠ gb148)) ?hr ?hp (fun _ hk => hk) ((show ∀ k_, w106.heap.size ≤ k_ → (fun k_ => (w.heap.size ≤ k_) ∧ some k_ ≠ (u113002 : Value).ownBlock ∧ k_ ≠ gb111 ∧ k_ ≠ gb112 ∧ k_ ≠ gb138 ∧ k_ ≠ gb148) k_ from fun k_ hk => ⟨(Nat.le_trans (below_size (bZ HB)) hk), Kd.fresh' (Kd.N_lt (by (with_reducible repeat (first | apply Kd.N_alloc | apply Kd.N_drewN | apply Kd.N_drew)); exact HO_113002.out)) k_ hk, Kd.freshB (bP BK111) k_ hk, Kd.freshB (bP BK112) k_ hk, Kd.freshB (bP BK138) k_ hk, Kd.freshB (bP BK148) k_ hk⟩) _ (Nat.le_refl _)) (Below.refl _ _) (Nat.le_refl _) (by simp) ?_; (case hd => rfl); (case hg => rfl); (case hr => first | (go_simp; done) | (go_simp; rfl)); (case hp => exact (Reps.c3 (show Kd.FK k75 _ _ (⟨x139000_2, x139001_2, y153⟩ : S75) [.slice Ao111 x139000_2.length co111, .slice Ao112 x139001_2.length co112, .slice (some ⟨go92, 0, none⟩) x139002_2.length co92] from (k75_mkFV _ _ _ (⟨x139000_2, x139001_2, y153⟩ : S75) (Kd.R_mono (ok' := (fun k_ => (w.heap.size ≤ k_) ∧ some k_ ≠ (u113002 : Value).ownBlock ∧ k_ ≠ gb111 ∧ k_ ≠ gb112 ∧ k_ ≠ gb138 ∧ k_ ≠ gb148)) (Kd.R_types (Kd.R_types (Kd.R_types (Kd.R_types (Kd.R_apart' (HO_139000.out) (Kd.N_typed HO_113002.out) (by decide)) BK111.out (by decide)) BK112.out (by decide)) BK138.out (by decide)) BK148.out (by decide)) (fun k_ hk => ⟨hk.1.1.1.1.1.1.1, ⟨hk.1.1.1.1.2, ⟨hk.1.1.1.2, ⟨hk.1.1.2, ⟨hk.1.2, hk.2⟩⟩⟩⟩⟩)) (Kd.R_mono (ok' := (fun k_ => (w.heap.size ≤ k_) ∧ some k_ ≠ (u113002 : Value).ownBlock ∧ k_ ≠ gb111 ∧ k_ ≠ gb112 ∧ k_ ≠ gb138 ∧ k_ ≠ gb148)) (Kd.R_types (Kd.R_types (Kd.R_types (Kd.R_types (Kd.R_apart' (HO_139001.out) (Kd.N_typed HO_113002.out) (by decide)) BK111.out (by decide)) BK112.out (by decide)) BK138.out (by decide)) BK148.out (by decide)) (fun k_ hk => ⟨hk.1.1.1.1.1.1.1, ⟨hk.1.1.1.1.2, ⟨hk.1.1.1.2, ⟨hk.1.1.2, ⟨hk.1.2, hk.2⟩⟩⟩⟩⟩)) (Kd.R_mono (ok' := (fun k_ => (w.heap.size ≤ k_) ∧ some k_ ≠ (u113002 : Value).ownBlock ∧ k_ ≠ gb111 ∧ k_ ≠ gb112 ∧ k_ ≠ gb138 ∧ k_ ≠ gb148)) (Kd.R_types (Kd.R_types (Kd.R_types (Kd.R_types (Kd.R_apart' (HO_139002.out) (Kd.N_typed HO_113002.out) (by decide)) BK111.out (by decide)) BK112.out (by decide)) BK138.out (by decide)) BK148.out (by decide)) (fun k_ hk => ⟨hk.1.1.1.1.1.1.1, ⟨hk.1.1.1.1.2, ⟨hk.1.1.1.2, ⟨hk.1.1.2, ⟨hk.1.2, hk.2⟩⟩⟩⟩⟩)))) (Reps.c3 (show Kd.FK k75 _ _ (⟨x149000_2, x149001_2, y154⟩ : S75) [.slice Ao113 x149000_2.length co113, .slice Ao114 x149001_2.length co114, .slice (some ⟨go94, 0, none⟩) x149002_2.length co94] from (k75_mkFV _ _ _ (⟨x149000_2, x149001_2, y154⟩ : S75) (Kd.R_mono (ok' := (fun k_ => (w.heap.size ≤ k_) ∧ some k_ ≠ (u113002 : Value).ownBlock ∧ k_ ≠ gb111 ∧ k_ ≠ gb112 ∧ k_ ≠ gb138 ∧ k_ ≠ gb148)) (Kd.R_types (Kd.R_types (Kd.R_types (Kd.R_types (Kd.R_apart' (HO_149000.out) (Kd.N_typed HO_113002.out) (by decide)) BK111.out (by decide)) BK112.out (by decide)) BK138.out (by decide)) BK148.out (by decide)) (fun k_ hk => ⟨hk.1.1.1.1.1.1.1, ⟨hk.1.1.1.1.2, ⟨hk.1.1.1.2, ⟨hk.1.1.2, ⟨hk.1.2, hk.2⟩⟩⟩⟩⟩)) (Kd.R_mono (ok' := (fun k_ => (w.heap.size ≤ k_) ∧ some k_ ≠ (u113002 : Value).ownBlock ∧ k_ ≠ gb111 ∧ k_ ≠ gb112 ∧ k_ ≠ gb138 ∧ k_ ≠ gb148)) (Kd.R_types (Kd.R_types (Kd.R_types (Kd.R_types (Kd.R_apart' (HO_149001.out) (Kd.N_typed HO_113002.out) (by decide)) BK111.out (by decide)) BK112.out (by decide)) BK138.out (by decide)) BK148.out (by decide)) (fun k_ hk => ⟨hk.1.1.1.1.1.1.1, ⟨hk.1.1.1.1.2, ⟨hk.1.1.1.2, ⟨hk.1.1.2, ⟨hk.1.2, hk.2⟩⟩⟩⟩⟩)) (Kd.R_mono (ok' := (fun k_ => (w.heap.size ≤ k_) ∧ some k_ ≠ (u113002 : Value).ownBlock ∧ k_ ≠ gb111 ∧ k_ ≠ gb112 ∧ k_ ≠ gb138 ∧ k_ ≠ gb148)) (Kd.R_types (Kd.R_types (Kd.R_types (Kd.R_types (Kd.R_apart' (HO_149002.out) (Kd.N_typed HO_113002.out) (by decide)) BK111.out (by decide)) BK112.out (by decide)) BK138.out (by decide)) BK148.out (by decide)) (fun k_ hk => ⟨hk.1.1.1.1.1.1, ⟨hk.1.1.1.1.2, ⟨hk.1.1.1.2, ⟨hk.1.1.2, ⟨hk.1.2, hk.2⟩⟩⟩⟩⟩)))) (Reps.none _ _)))); intro v156 w115 ho116 hb hg_ hnew_; clear hg_ hnew_; (first | rw [← Ny155.out] at ho116 | (simp only [Int.reduceToNat] at ho116; rw [← Ny155.out] at ho116)); replace HO_113002 := Aside0.mk (Kd.N_elder' (by (with_reducible repeat (first | apply Kd.N_alloc | apply Kd.N_drewN | apply Kd.N_drew)); exact HO_113002.out) (Kd.N_base ho116) hb); have HO157 := Aside0.mk (Kd.N_lower ho116 (below_size (bZ HB))); replace BK111 := bB BK111 hb; replace BK112 := bB BK112 hb; replace BK138 := bB BK138 hb; replace BK148 := bB BK148 hb; replace HB := bS HB hb; clear HO_139000 HO_139001 HO_139002 HO_149000 HO_149001 HO_149002; clear hb ho116; obtain ⟨Ao118, co118, eo118⟩ := Kd.N_slice HO157.out; subst eo118) | ((with_reducible refine gate_builtin (b := .append) (xs := #[.tmp 71, .tmp 74]) rfl ?_); at_builtin; refine Kd.N_append_rows k75 (w0 := w) w.heap.size rfl (.tmp 71) (.tmp 74) 41 75 (.agg #[(.slice none 0 0), (.slice none 0 0), (.slice none 0 0)]) 72 rfl Try.underlying41 info75 rfl (by decide) (by omega) u113002 x113002_1 y155 _ _ _ (fun k_ => (w.heap.size ≤ k_) ∧ k_ ≠ gb111 ∧ k_ ≠ gb112 ∧ k_ ≠ gb138 ∧ k_ ≠ gb148) (fun k_ => ((fun k_ => (w.heap.size ≤ k_) ∧ k_ ≠ gb111 ∧ k_ ≠ gb112 ∧ k_ ≠ gb138 ∧ k_ ≠ gb148)) k_ ∧ some k_ ≠ (u113002 : Value).ownBlock) rfl rfl ?aO ?aR (fun _ hk => hk) ?aF ?aB ?aS ?aL ?_; (case aR => exact (by skip; exact Kd.N_F (Kd.N_mono (ok' := (fun k_ => ((fun k_ => (w.heap.size ≤ k_) ∧ k_ ≠ gb111 ∧ k_ ≠ gb112 ∧ k_ ≠ gb138 ∧ k_ ≠ gb148)) k_ ∧ some k_ ≠ (u113002 : Value).ownBlock)) (HO157.out) (fun k_ hk => ⟨⟨hk.1, ⟨hk.2.2.1, ⟨hk.2.2.2.1, ⟨hk.2.2.2.2.1, hk.2.2.2.2.2⟩⟩⟩⟩, hk.2.1⟩)))); (case aB => exact (bZ HB)); (case aF => exact (fun k_ hk => ⟨(Nat.le_trans (below_size (bZ HB)) hk), Kd.freshB (bP BK111) k_ hk, Kd.freshB (bP BK112) k_ hk, Kd.freshB (bP BK138) k_ hk, Kd.freshB (bP BK148) k_ hk⟩)); (case aO => exact (by (with_reducible repeat (first | apply Kd.N_alloc | apply Kd.N_drewN | apply Kd.N_drew)); exact Kd.N_mono HO_113002.out (fun _ hk => ⟨hk.1.1.1, ⟨hk.1.1.2.2.2.2.2.2.1, ⟨hk.1.1.2.2.2.2.2.2.2.1, ⟨hk.1.1.2.2.2.2.2.2.2.2.1, hk.1.1.2.2.2.2.2.2.2.2.2⟩⟩⟩⟩))); (case aS => exact (below_size (bZ HB))); (case aL => have := LMc95.out; omega); intro v159 w117 ho hb hg hat; rw [← Ny158.out] at ho; replace BK111 := Aside0.mk (blk_grown (bP BK111) hg (Kd.N_ne HO_113002.out BK111.out (by decide))); replace BK112 := Aside0.mk (blk_grown (bP BK112) hg (Kd.N_ne HO_113002.out BK112.out (by decide))); replace BK138 := Aside0.mk (blk_grown (bP BK138) hg (Kd.N_away HO_113002.out (fun _ hk => hk.1.1.2.2.2.2.2.2.2.2.1))); replace BK148 := Aside0.mk (blk_grown (bP BK148) hg (Kd.N_away HO_113002.out (fun _ hk => hk.1.1.2.2.2.2.2.2.2.2.2))); replace HO157 := Aside0.mk (Kd.N_afterv (ok := (fun k_ => (w.heap.size ≤ k_) ∧ k_ ≠ gb111 ∧ k_ ≠ gb112 ∧ k_ ≠ gb138 ∧ k_ ≠ gb148)) (by (with_reducible repeat (first | apply Kd.N_alloc | apply Kd.N_drewN | apply Kd.N_drew)); exact Kd.N_mono HO157.out (fun _ hk => ⟨⟨hk.1, ⟨hk.2.2.1, ⟨hk.2.2.2.1, ⟨hk.2.2.2.2.1, hk.2.2.2.2.2⟩⟩⟩⟩, hk.2.1⟩)) hg hat); replace HB := Aside0.mk (hb); have HO160 := Aside0.mk (ho); clear HO_113002; clear ho hb hg hat; obtain ⟨Ao119, co119, eo119⟩ := Kd.N_slice HO160.out; subst eo119; obtain ⟨hcz120_0, hcz120_1, hcz120_2, hfz120_0, hfz120_1, hfz120_2⟩ := bK3 (w := w117) BK112; obtain ⟨hcz121_0, hcz121_1, hcz121_2, hfz121_0, hfz121_1, hfz121_2⟩ := bK3 (w := w117) BK111))
            refine rC gb111 43 #[.int .i64 11, .int .i64 2, .slice Ao119 y158.length co119] (bU BK111) Try.underlying43 ?_
            exact ⟨_, by first | rfl | (simp [errW_none, errW_some] <;> rfl) | (simp [*, errW_none, errW_some] <;> rfl), by (with_reducible repeat (first | apply Kd.N_alloc | apply Kd.N_drewN | apply Kd.N_drew)); exact Kd.N_mono (Kd.N_far (p := ⟨gb111, 2, none⟩) (Kd.N_far (p := ⟨gb111, 1, none⟩) (Kd.N_far (p := ⟨gb111, 0, none⟩) (Kd.N_far (p := ⟨gb112, 2, none⟩) (Kd.N_mono (Kd.N_mono HO160.out (fun k_ hk => (⟨hk, hk.2.2.1⟩ : _ ∧ k_ ≠ gb112))) (fun k_ hk => (⟨hk, hk.1.2.1⟩ : _ ∧ k_ ≠ gb111))) (fun _ hk => hk.1.2) (.slice Ao119 y158.length co119)) (fun _ hk => hk.2) (.int .i64 11)) (fun _ hk => hk.2) (.int .i64 2)) (fun _ hk => hk.2) (.slice Ao119 y158.length co119)) (fun _ hk => hk.1.1.1), bZ HB⟩
           ·rw [if_neg c95] at H
            exact absurd H (by simp)
          ·rw [if_neg c93] at H
           exact absurd H (by simp)
         ·rw [if_neg c91] at H
          exact absurd H (by simp)
     ·rw [if_neg c44] at H
      exact absurd H (by simp)
    ·rw [if_neg c42] at H
     exact absurd H (by simp)
end Go.Proofs.Ythdpfjkdpeamnaa.Pf
end
section
namespace Go.Proofs.Ythdpfjkdpeamnaa.Pf
open Go.RowKit Go.Proofs.YthdpfjkdpeamnaaW.PrintWords Go.Proofs.YthdpfjkdpeamnaaW.PrintLast Go.Proofs.YthdpfjkdpeamnaaW.PrintMore
attribute [local go_sem] max2_int min2_int max_two min_two max_three min_three max_four min_four   -- for this text's walks alone
set_option linter.unusedVariables false
set_option linter.unusedSimpArgs false
def impl_unit.f (a0 : Int) (a1 : Int) : Option (List Int) := if 0 ≤ a0 then (if (a0 : Int).toNat ≤ 35184372088832 then ((some (List.replicate (a0 : Int).toNat 0 : List Int)).bind fun y161 => (if 0 ≤ a1 then (if a1 < (y161.length : Int) then (some (y161.set (a1 : Int).toNat 1)) else (none)) else (none))) else (none)) else (none)
set_option maxHeartbeats 8000000 in
set_option maxRecDepth 100000 in
theorem impl_unit.calls (a0 : Int) (a1 : Int) (r : List Int) (w : World) (h : impl_unit.f a0 a1 = some r) :
  Calls Try.prog 67 #[.int .i64 a0, .int .i64 a1] w fun e w' => ∃ v0_ : Value, e = .returned (v0_) ∧ Kd.R (Kd.int .i64) 3 w' w.heap.size (fun _ => True) v0_ r ∧ Below w.heap.size w w' := by
 have HB := Aside0.mk (Below.refl w.heap.size w)
 have H : (if 0 ≤ a0 then (if (a0 : Int).toNat ≤ 35184372088832 then ((some (List.replicate (a0 : Int).toNat 0 : List Int)).bind fun y161 => (if 0 ≤ a1 then (if a1 < (y161.length : Int) then (some (y161.set (a1 : Int).toNat 1)) else (none)) else (none))) else (none)) else (none)) = some r := h
 clear h
 by_cases c3 : 0 ≤ a0
 ·rw [if_pos c3] at H
  have c3b0 := eq_true c3
  have c3b1 : decide (0 ≤ a0) = true := decide_eq_true c3
  clear c3
  by_cases c4 : (a0 : Int).toNat ≤ 35184372088832
  ·rw [if_pos c4] at H
   have c4b0 := eq_true c4
   have c4b1 : decide ((a0 : Int).toNat ≤ 35184372088832) = true := decide_eq_true c4
   clear c4
   obtain ⟨y161, hy161⟩ : ∃ y_ : List Int, y_ = (List.replicate (a0 : Int).toNat 0) := ⟨_, rfl⟩
   replace H : (if 0 ≤ a1 then (if a1 < (y161.length : Int) then (some (y161.set (a1 : Int).toNat 1)) else (none)) else (none)) = some r := by first | (rw [hy161]; with_reducible exact H) | (have H2_ := (Option.bind_some _ _).symm.trans H; rw [hy161]; with_reducible exact H2_) | (have H2_ := (Option.bind_some _ _).symm.trans H; with_reducible exact H2_) | with_reducible exact H | (rw [hy161]; exact H) | exact H
   have Ny161 := Aside0.mk hy161
   clear hy161
   by_cases c5 : 0 ≤ a1
   ·rw [if_pos c5] at H
    have c5b0 : decide (0 ≤ a1) = true := decide_eq_true c5
    clear c5
    by_cases c6 : a1 < (y161.length : Int)
    ·rw [if_pos c6] at H
     have c6b0 : decide (a1 < (y161.length : Int)) = true := decide_eq_true c6
     clear c6
     obtain ⟨y164, hy164⟩ : ∃ y_ : List Int, y_ = (y161.set (a1 : Int).toNat 1) := ⟨_, rfl⟩
     replace H : (some y164) = some r := by first | (rw [hy164]; with_reducible exact H) | (have H2_ := (Option.bind_some _ _).symm.trans H; rw [hy164]; with_reducible exact H2_) | (have H2_ := (Option.bind_some _ _).symm.trans H; with_reducible exact H2_) | with_reducible exact H | (rw [hy164]; exact H) | exact H
     have Ny164 := Aside0.mk hy164
     clear hy164
     obtain rfl := Option.some.inj H
     go_enter Try.func67, Try.ntmps67
     go_wp2_with (first | ((with_reducible refine gate_dst (N := 7) rfl ?_); refine Kd.R_make (Kd.int .i64) _ 3 rfl (N := 7) rfl 31 _ _ rfl a0 rfl rfl Try.underlying31 (.int .i64 0) 8 info3 rfl (by decide) (by omega) 0 (ok := fun _ => True) (okp := fun _ => True) rfl (fun _ hk => hk) trivial (of_decide_eq_true (by first | (with_reducible assumption) | assumption)) (Nat.le_trans (Nat.mul_le_mul_right _ (of_decide_eq_true (by first | (with_reducible assumption) | assumption) : a0.toNat ≤ 35184372088832)) (by omega)) (Below.refl _ _) (Nat.le_refl _) ?_; intro v162 w8 ho9 hb hg_ hnew_; clear hg_ hnew_; (first | rw [← Ny161.out] at ho9 | (simp only [Int.reduceToNat] at ho9; rw [← Ny161.out] at ho9)); have HO163 := Aside0.mk (Kd.R_lower ho9 (below_size (bZ HB))); replace HB := bS HB hb; clear hb ho9; have p7 : 0 ≤ (a1 : Int) := of_decide_eq_true (by first | (with_reducible assumption) | assumption); have q7 : (a1 : Int) < ((y161.length : Int) : Int) := of_decide_eq_true (by first | (with_reducible assumption) | assumption); obtain ⟨go7, co7, eo7, gb7, gl7, cl7, HG7⟩ := Kd.R_form HO163.out (by omega); (first | cases eo7 | (injection eo7 with ea_ en_ ec_; (first | subst ea_ | (injection ea_ with ea_; subst ea_)); subst ec_; clear en_)); have GB7 := Aside0.mk gb7; have GG7 := Aside0.mk HG7; clear gb7 gl7 HG7; obtain ⟨hx7_0, hf7_0⟩ := Kd.R_celln 0 HO163.out (a1 : Int) p7 q7; replace p7 := eq_true p7; replace q7 := eq_true q7; obtain ⟨hy10_, hz10_⟩ := Kd.R_celln 0 HO163.out (a1 : Int) (of_decide_eq_true (by first | (with_reducible assumption) | assumption)) (of_decide_eq_true (by first | (with_reducible assumption) | assumption)); have HP10 := Kd.R_putg HO163.out (a1 : Int) 1) | ((with_reducible refine gate_store (t := 3) (p := 10) rfl ?_); refine store_event (t := 3) (p := 10) (v := ?vo_w11) (w1 := (w8.setCell ⟨go7, (a1 : Int).toNat, none⟩ (.int .i64 1))) ?hg ?ho ?hn ?hr ?_; (case ho => rfl); (case hg => rfl); (case hn => rfl); (case hr => first | (go_simp; done) | (go_simp; rfl)); intro w11 hw; have hg : w8.grownBy w11 (some go7) := (by rw [hw]; exact HP10.2); have hp_ : Kd.R (Kd.int .i64) 3 w11 w.heap.size (fun _ => True) (.slice (some ⟨go7, 0, none⟩) y161.length co7) y164 := (by rw [hw, Ny164.out]; exact HP10.1); clear HP10; replace HO163 := Aside0.mk (hp_); replace HB := Aside0.mk ((by rw [hw]; exact below_set (HB.out) GB7.out : Below w.heap.size w w11)); clear hg hw hp_))
     go_ret
     exact ⟨_, by first | rfl | (simp [errW_none, errW_some] <;> rfl) | (simp [*, errW_none, errW_some] <;> rfl), by (with_reducible repeat (first | apply Kd.R_alloc | apply Kd.R_drewN | apply Kd.R_drew)); exact HO163.out, bZ HB⟩
    ·rw [if_neg c6] at H
     exact absurd H (by simp)
   ·rw [if_neg c5] at H
    exact absurd H (by simp)
  ·rw [if_neg c4] at H
   exact absurd H (by simp)
 ·rw [if_neg c3] at H
  exact absurd H (by simp)
end Go.Proofs.Ythdpfjkdpeamnaa.Pf
end
