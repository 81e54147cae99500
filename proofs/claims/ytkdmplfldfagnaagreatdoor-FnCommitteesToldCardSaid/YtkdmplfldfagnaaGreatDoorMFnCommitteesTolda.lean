/- What is proved here: part 1 of 5 of the proof of the given statement FnCommitteesTold: the contracts of the Go functions that it reaches, the plain facts on lists and numbers, and (in the last part) the statement itself. No conditions beyond the given ones. -/
import Derived.Test.YtkdmplfldfagnaaGreatDoorProg
import Derived.Below
import Derived.Deep.Draws
import Derived.Deep.AppendLies
import Derived.Maps.AppendAt
import Derived.OwnWalk
import Derived.Laws.BytesArg
import Derived.Laws.MakeOwn
import Derived.Laws.OwnMore
import Derived.Deep.OwnRows
import Derived.Tactics
import Derived.Lib.ConvBytes
import Derived.Laws.Slices
import Derived.WalkKit
import Derived.KernelRfl
import Derived.RowKit3
import Derived.Deep.LoopGhost
import Derived.Deep.QuietTactic
import Derived.BigQuiet
import Derived.WideLaws
import Derived.Deep.DeepCutAuto
import Derived.Deep.CutBlock
import Derived.Deep.RegionHeld3
import Derived.Laws.Rows
import Derived.Lib.AppendStr
import Derived.ArgAppend
import Derived.Laws.IdiomCopy
import Derived.OrdersHeld
import Derived.Laws.BitsLemmas
import Derived.RowKit
import Derived.Test.YtkdmplfldfagnaaGreatDoorMFnCommitteesToldwWords
import Derived.Test.YtkdmplfldfagnaaGreatDoorMFnCommitteesToldwLast
import Derived.Test.YtkdmplfldfagnaaGreatDoorMFnCommitteesToldwTab
import Derived.Test.YtkdmplfldfagnaaGreatDoorMFnCommitteesToldwFour
import Derived.Test.YtkdmplfldfagnaaGreatDoorMFnCommitteesToldwQPut
import Derived.Test.YtkdmplfldfagnaaGreatDoorMFnCommitteesToldwApart
import Derived.Test.YtkdmplfldfagnaaGreatDoorMFnCommitteesToldwArr
import Derived.Test.YtkdmplfldfagnaaGreatDoorMFnCommitteesToldwZeros
import Derived.Test.YtkdmplfldfagnaaGreatDoorMFnCommitteesToldwFoot
import Derived.Test.YtkdmplfldfagnaaGreatDoorMFnCommitteesToldwKept
import Derived.Test.YtkdmplfldfagnaaGreatDoorMFnCommitteesToldwShare
import Derived.Test.YtkdmplfldfagnaaGreatDoorMFnCommitteesToldwN
import Derived.Test.YtkdmplfldfagnaaGreatDoorMFnCommitteesToldwFootNe
import Derived.Test.YtkdmplfldfagnaaGreatDoorMFnCommitteesToldwAt
import Derived.Test.YtkdmplfldfagnaaGreatDoorMFnCommitteesToldwEqStruct
import Derived.Test.YtkdmplfldfagnaaGreatDoorMFnCommitteesToldwRepsOne
import Derived.Test.YtkdmplfldfagnaaGreatDoorMFnCommitteesToldwInv
import Derived.Test.YtkdmplfldfagnaaGreatDoorMFnCommitteesToldwInvWords
import Derived.Test.YtkdmplfldfagnaaGreatDoorMFnCommitteesToldwGuard
import Derived.Test.YtkdmplfldfagnaaGreatDoorMFnCommitteesToldwNEv
import Derived.Test.YtkdmplfldfagnaaGreatDoorMFnCommitteesToldwMore
import Derived.Test.YtkdmplfldfagnaaGreatDoorMFnCommitteesToldwSlim

section
namespace Go.Proofs.YtkdmplfldfagnaaGreatDoor.Pf
open Go.RowKit Go.Proofs.YtkdmplfldfagnaaGreatDoorW.PrintWords Go.Proofs.YtkdmplfldfagnaaGreatDoorW.PrintLast Go.Proofs.YtkdmplfldfagnaaGreatDoorW.PrintMore
attribute [local go_sem] max2_int min2_int max_two min_two max_three min_three max_four min_four   -- for this text's walks alone
set_option linter.unusedVariables false
set_option linter.unusedSimpArgs false
def errW : Option Int → Value
  | none => .nilIface
  | some c => .iface 0 (.int .i64 c)
theorem errW_none : errW none = .nilIface := rfl
theorem errW_some (c : Int) : errW (some c) = .iface 0 (.int .i64 c) := rfl
theorem info3 : (Tryz.prog.info? 3).map (fun i => (i.zero, i.size, i.bytes)) = some (some (.int .i64 0), 1, 8) := by kernel_rfl
theorem info5 : (Tryz.prog.info? 5).map (fun i => (i.zero, i.size, i.bytes)) = some (some (.int .u8 0), 1, 1) := by kernel_rfl
theorem info9 : (Tryz.prog.info? 9).map (fun i => (i.zero, i.size, i.bytes)) = some (some (.string ⟨#[]⟩), 1, 16) := by kernel_rfl
theorem info28 : (Tryz.prog.info? 28).map (fun i => (i.zero, i.size, i.bytes)) = some (some (.agg #[(.int .i64 0), (.int .i64 0), (.bool false)]), 3, 24) := by kernel_rfl
theorem info78 : (Tryz.prog.info? 78).map (fun i => (i.zero, i.size, i.bytes)) = some (some (.slice none 0 0), 1, 24) := by kernel_rfl
structure S28 where
  f0 : Int
  f1 : Int
  f2 : Bool
def z28 : S28 := ⟨(0 : Int), (0 : Int), false⟩
def k28 : Kd S28 := Kd.iso (Kd.pair (Kd.int .i64) (Kd.pair (Kd.int .i64) Kd.bool)) (fun x : S28 => (x.f0, x.f1, x.f2))
theorem k28_open {w : World} {x : S28} {cs : List Value} (h : k28.K w x cs) : cs = [.int .i64 x.f0, .int .i64 x.f1, .bool x.f2] := by
  obtain ⟨_, _, rfl, rfl, ⟨_, _, rfl, rfl, rfl⟩⟩ := h
  exact rfl
theorem k28_openM {w : World} {base : Nat} {ok : Nat → Prop} {x : S28} {cs : List Value} (h : k28.M w base ok x cs) : cs = [.int .i64 x.f0, .int .i64 x.f1, .bool x.f2] := by
  obtain ⟨_, _, rfl, rfl, ⟨_, _, rfl, rfl, rfl⟩⟩ := h
  exact rfl
theorem k28_mkM (w : World) (base : Nat) (ok : Nat → Prop) (x : S28)  : k28.M w base ok x [.int .i64 x.f0, .int .i64 x.f1, .bool x.f2] := ⟨[.int .i64 x.f0], [.int .i64 x.f1, .bool x.f2], rfl, rfl, ⟨[.int .i64 x.f1], [.bool x.f2], rfl, rfl, rfl⟩⟩
def rd_T28 (xs : List S28) (i : Int) : S28 := xs.getD i.toNat z28
theorem at_T28 {w : World} {A : Option Addr} {n : Nat} {xs : List S28} (h : Kd.C k28 w A n xs) (i : Int) (h0 : 0 ≤ i) (h1 : i < n) : ∃ ad , A = some ad ∧ w.cell? (ad.add (i.toNat * 3)) = some (.int .i64 (rd_T28 xs i).f0) ∧ w.cell? ⟨(ad.add (i.toNat * 3)).block, (ad.add (i.toNat * 3)).off + 1, none⟩ = some (.int .i64 (rd_T28 xs i).f1) ∧ w.cell? ⟨(ad.add (i.toNat * 3)).block, (ad.add (i.toNat * 3)).off + 2, none⟩ = some (.bool (rd_T28 xs i).f2) := by
  obtain ⟨ad, c, e, _, hK, hc0⟩ := Kd.C_get h z28 i h0 h1
  have hc : ∀ j u, c[j]? = some u → w.cell? (ad.add (i.toNat * 3 + j)) = some u := hc0
  obtain rfl := k28_open hK
  exact ⟨ad, e, hc 0 _ rfl, by rw [← add_field _ _ 1 (by omega)]; exact hc 1 _ rfl, by rw [← add_field _ _ 2 (by omega)]; exact hc 2 _ rfl⟩
def rd_L6 (xs : List (List ByteArray)) (i : Int) : (List ByteArray) := xs.getD i.toNat ([] : List ByteArray)
theorem at_L6 {w : World} {A : Option Addr} {n : Nat} {xs : List (List ByteArray)} (h : Kd.C (Kd.slice 9 Kd.string) w A n xs) (i : Int) (h0 : 0 ≤ i) (h1 : i < n) : ∃ ad A0 c0, A = some ad ∧ w.cell? (ad.add i.toNat) = some (.slice A0 (rd_L6 xs i).length c0) ∧ (rd_L6 xs i).length ≤ c0 ∧ Kd.string.C w A0 (rd_L6 xs i).length (rd_L6 xs i) := by
  obtain ⟨ad, c, e, _, hK, hc0⟩ := Kd.C_get h ([] : List ByteArray) i h0 h1
  have hc : ∀ j u, c[j]? = some u → w.cell? (ad.add (i.toNat * 1 + j)) = some u := hc0
  obtain ⟨A0, c0, rfl, l0, g0⟩ := hK
  exact ⟨ad, A0, c0, e, by have hq := hc 0 _ rfl; rwa [Nat.mul_one, Nat.add_zero] at hq, l0, g0⟩
theorem eqA28 (d : Nat) (w : World) (x0 y0 : Int) (x1 y1 : Int) (x2 y2 : Bool) :
    (Op.equalIn (d + 2) 28 (.agg #[.int .i64 x0, .int .i64 x1, .bool x2]) (.agg #[.int .i64 y0, .int .i64 y1, .bool y2])).run Tryz.prog w = .ok (x0 == y0 && (x1 == y1 && (x2 == y2))) w := by
  refine eqA_of Tryz.underlying28 (by kernel_rfl) ?_
  refine eqf_cons (by rfl) (by go_simp; rfl) (by go_simp; rfl) (by go_simp) ?_
  refine eqf_cons (by rfl) (by go_simp; rfl) (by go_simp; rfl) (by go_simp) ?_
  exact eqf_last (by rfl) (by go_simp; rfl) (by go_simp; rfl) (by go_simp)
end Go.Proofs.YtkdmplfldfagnaaGreatDoor.Pf
end
section
namespace Go.Proofs.YtkdmplfldfagnaaGreatDoor.Pf
open Go.RowKit Go.Proofs.YtkdmplfldfagnaaGreatDoorW.PrintWords Go.Proofs.YtkdmplfldfagnaaGreatDoorW.PrintLast Go.Proofs.YtkdmplfldfagnaaGreatDoorW.PrintMore
attribute [local go_sem] max2_int min2_int max_two min_two max_three min_three max_four min_four   -- for this text's walks alone
set_option linter.unusedVariables false
set_option linter.unusedSimpArgs false
set_option maxHeartbeats 8000000
set_option maxRecDepth 100000
def laws_big.f (l0 : List Int) : Option (Bool) := some (decide ((l0.length : Int) > 1048576))
theorem laws_big.calls (A0 : Option Addr) (c0 : Nat) (l0 : List Int) (r : Bool) (w : World) (hr0 : Kd.C (Kd.int .u8) w A0 l0.length l0) (hc0 : l0.length ≤ c0) (h : laws_big.f l0 = some r) :
  Calls Tryz.prog 6 #[.slice A0 l0.length c0] w fun e w' => e = .returned (.bool r) ∧ Drawn0 w w' := by
 have HR0 := Aside0.mk hr0
 have HC0 := Aside0.mk hc0
 clear hr0 hc0
 have H : (some (decide ((l0.length : Int) > 1048576))) = some r := h
 clear h
 obtain rfl := Option.some.inj H
 go_enter Tryz.func6, Tryz.ntmps6
 go_wp2
 go_ret
 exact ⟨rS, rD⟩
def IsS90 (w0 W : World) (g : Nat) (f0 : List Int) (f1 : Int) (f2 : Int) : Prop := ∃ A0 c0, W.heap[g]? = some (.cells #[.slice A0 f0.length c0, .int .i64 f1, .int .i64 f2] 90 (0, 0)) ∧ w0.heap.size ≤ g ∧ Kd.C (Kd.int .u8) w0 A0 f0.length f0
theorem IsS90.grown {w0 W : World} {g : Nat} {f0 : List Int} {f1 : Int} {f2 : Int} {W1 : World} {row : Option Nat} (h : IsS90 w0 W g f0 f1 f2) (hw : W.grownBy W1 row) (hne : some g ≠ row) : IsS90 w0 W1 g f0 f1 f2 := by
 obtain ⟨A0, c0, hb, hg, hr0⟩ := h
 exact ⟨A0, c0, blk_grown hb hw hne, hg, hr0⟩
theorem IsS90.kept {w0 W : World} {g : Nat} {f0 : List Int} {f1 : Int} {f2 : Int} {W1 : World} {S : Nat → Prop} (h : IsS90 w0 W g f0 f1 f2) (hk : Kept W W1 S) (hne : ¬ S g) : IsS90 w0 W1 g f0 f1 f2 := by
 obtain ⟨A0, c0, hb, hg, hr0⟩ := h
 exact ⟨A0, c0, blk_kept hb hk hne, hg, hr0⟩
theorem IsS90.below {w0 W : World} {g : Nat} {f0 : List Int} {f1 : Int} {f2 : Int} {W1 : World} (h : IsS90 w0 W g f0 f1 f2) (hw : Below W.heap.size W W1) : IsS90 w0 W1 g f0 f1 f2 := h.grown (grown_of_below hw none) (by simp)
theorem IsS90.alloc {w0 W : World} {g : Nat} {f0 : List Int} {f1 : Int} {f2 : Int} (h : IsS90 w0 W g f0 f1 f2) (o : Obj) : IsS90 w0 (W.alloc o) g f0 f1 f2 := h.below (below_alloc (Below.refl _ _) o)
theorem IsS90.drewN {w0 W : World} {g : Nat} {f0 : List Int} {f1 : Int} {f2 : Int} (h : IsS90 w0 W g f0 f1 f2) (m : Nat) : IsS90 w0 (W.drewN m) g f0 f1 f2 := h
theorem IsS90.drew {w0 W : World} {g : Nat} {f0 : List Int} {f1 : Int} {f2 : Int} (h : IsS90 w0 W g f0 f1 f2) : IsS90 w0 W.drew g f0 f1 f2 := h
theorem IsS90.at_ {w0 W : World} {g : Nat} {f0 : List Int} {f1 : Int} {f2 : Int} {w' : World} {m : Nat} (hq : W.drewN m = w') (h : IsS90 w0 W g f0 f1 f2) : IsS90 w0 w' g f0 f1 f2 := by subst hq; exact IsS90.drewN h m
theorem IsS90.apart {w0 W : World} {g : Nat} {f0 : List Int} {f1 : Int} {f2 : Int} {α : Type} {d : Kd α} {e : Nat} {base : Nat} {ok : Nat → Prop} {v : Value} {xs : List α} (h : IsS90 w0 W g f0 f1 f2) (ho : d.R e W base ok v xs) (ht : ∀ q, q ∈ e :: d.E → q ≠ 90) : d.R e W base (fun k => ok k ∧ k ≠ g) v xs := by
 obtain ⟨A0, c0, hb, hg, hr0⟩ := h
 exact Kd.R_types ho hb ht
theorem IsS90.own_ne {w0 W : World} {g : Nat} {f0 : List Int} {f1 : Int} {f2 : Int} {α : Type} {d : Kd α} {e : Nat} {base : Nat} {ok : Nat → Prop} {v : Value} {xs : List α} (h : IsS90 w0 W g f0 f1 f2) (ho : d.R e W base ok v xs) (ht : e ≠ 90) : some g ≠ v.ownBlock := by
 obtain ⟨A0, c0, hb, hg, hr0⟩ := h
 exact Kd.R_ne ho hb ht
theorem IsS90.apartQ {w0 W : World} {g : Nat} {f0 : List Int} {f1 : Int} {f2 : Int} {α : Type} {d : Kd α} {e : Nat} {base : Nat} {ok : Nat → Prop} {v : Value} {xs : List α} (h : IsS90 w0 W g f0 f1 f2) (ho : d.Q e W base ok v xs) (ht : ∀ q, q ∈ e :: d.E → q ≠ 90) : d.Q e W base (fun k => ok k ∧ k ≠ g) v xs := by
 obtain ⟨A0, c0, hb, hg, hr0⟩ := h
 exact Kd.Q_types ho hb ht
theorem IsS90.lt {w0 W : World} {g : Nat} {f0 : List Int} {f1 : Int} {f2 : Int} (h : IsS90 w0 W g f0 f1 f2) : g < W.heap.size := by
 obtain ⟨A0, c0, hb, hg, hr0⟩ := h
 exact blk_lt hb
theorem IsS90.ge {w0 W : World} {g : Nat} {f0 : List Int} {f1 : Int} {f2 : Int} (h : IsS90 w0 W g f0 f1 f2) : w0.heap.size ≤ g := by
 obtain ⟨A0, c0, hb, hg, hr0⟩ := h
 exact hg
theorem IsS90.ne_blk {w0 W : World} {g : Nat} {f0 : List Int} {f1 : Int} {f2 : Int} {a : Nat} {cs : Array Value} {t : TypeId} {fr : Nat × Nat} (h : IsS90 w0 W g f0 f1 f2) (hb2 : W.heap[a]? = some (.cells cs t fr)) (ht : t ≠ 90) : g ≠ a := by
 obtain ⟨A0, c0, hb, hg, hr0⟩ := h
 rintro rfl
 rw [hb] at hb2
 injection hb2 with hb2
 injection hb2 with _ ht2
 exact ht ht2.symm
theorem IsS90.far {w0 W : World} {g : Nat} {f0 : List Int} {f1 : Int} {f2 : Int} {p : Addr} (h : IsS90 w0 W g f0 f1 f2) (hne : g ≠ p.block) (u : Value) : IsS90 w0 (W.setCell p u) g f0 f1 f2 := by
 obtain ⟨A0, c0, hb, hg, hr0⟩ := h
 exact ⟨A0, c0, blk_far hb hne u, hg, hr0⟩
theorem cellS90_0 {W : World} {g : Nat} {A0 : Option Addr} {c0 : Nat} {f0 : List Int} {f1 : Int} {f2 : Int} (h : W.heap[g]? = some (.cells #[.slice A0 f0.length c0, .int .i64 f1, .int .i64 f2] 90 (0, 0))) : W.cell? ⟨g, 0, none⟩ = some (.slice A0 f0.length c0) := (blk_cell h 0).trans rfl
theorem cellS90_1 {W : World} {g : Nat} {A0 : Option Addr} {c0 : Nat} {f0 : List Int} {f1 : Int} {f2 : Int} (h : W.heap[g]? = some (.cells #[.slice A0 f0.length c0, .int .i64 f1, .int .i64 f2] 90 (0, 0))) : W.cell? ⟨g, 1, none⟩ = some (.int .i64 f1) := (blk_cell h 1).trans rfl
theorem IsS90.set_1 {w0 W : World} {g : Nat} {f0 : List Int} {f1 : Int} {f2 : Int} (h : IsS90 w0 W g f0 f1 f2) (x : Int) : IsS90 w0 (W.setCell ⟨g, 1, none⟩ (.int .i64 x)) g f0 x f2 := by
 obtain ⟨A0, c0, hb, hg, hr0⟩ := h
 exact ⟨A0, c0, by simpa using blk_set hb 1 (.int .i64 x), hg, hr0⟩
theorem cellS90_2 {W : World} {g : Nat} {A0 : Option Addr} {c0 : Nat} {f0 : List Int} {f1 : Int} {f2 : Int} (h : W.heap[g]? = some (.cells #[.slice A0 f0.length c0, .int .i64 f1, .int .i64 f2] 90 (0, 0))) : W.cell? ⟨g, 2, none⟩ = some (.int .i64 f2) := (blk_cell h 2).trans rfl
theorem IsS90.set_2 {w0 W : World} {g : Nat} {f0 : List Int} {f1 : Int} {f2 : Int} (h : IsS90 w0 W g f0 f1 f2) (x : Int) : IsS90 w0 (W.setCell ⟨g, 2, none⟩ (.int .i64 x)) g f0 f1 x := by
 obtain ⟨A0, c0, hb, hg, hr0⟩ := h
 exact ⟨A0, c0, by simpa using blk_set hb 2 (.int .i64 x), hg, hr0⟩
theorem iZ90 {p q : Prop} (B : Aside0 p) (h : Aside0 p → q := by intro hh_; repeat (first | (with_reducible first | exact hh_.out | apply IsS90.alloc | apply IsS90.drewN | apply IsS90.drew | apply IsS90.set_1 | apply IsS90.set_2 | refine IsS90.far ?_ (by refine Aside0.out ?_; assumption) _) | exact hh_.out)) : q := h B
theorem jZ90 {p q r : Prop} (B : Aside0 p) (I_ : Aside0 r) (h : Aside0 p → Aside0 r → q := by intro hh_ hi_; repeat (first | (with_reducible first | exact hh_.out | apply below_alloc | apply pw_below_drewN | apply below_drew1 | refine below_set ?_ (IsS90.ge hi_.out) | refine below_set ?_ (by refine Aside0.out ?_; assumption)) | exact hh_.out)) : q := h B I_
def spec_l01New.l0 : Nat → List Int → Int → Int → Option (List Int × Int × Int)
 | 0, _, _, _ => none
 | k + 1, x0, x3, x4 => if x4 < (x0.length : Int) then (if x4 < 4000 then (if 0 ≤ x4 then (spec_l01New.l0 k x0 (Go.bits .and .i64 (wrap64 ((wrap64 ((wrap64 (x3 * 131)) + (wrap64 (rd x0 x4)))) + 7)) 1073741823) (wrap64 (x4 + 1))) else (none)) else (some (x0, 0, x3))) else (some (x0, 0, x3))
def spec_l01New.f (k : Nat) (l0 : List Int) : Option (List Int × Int × Int) := spec_l01New.l0 k l0 (wrap64 (76801 + (l0.length : Int))) 0
theorem spec_l01New.calls (k : Nat) (A0 : Option Addr) (c0 : Nat) (l0 : List Int) (r1 : List Int) (r2 : Int) (r3 : Int) (w0 w : World) (hB : Below w0.heap.size w0 w) (hr0 : Kd.C (Kd.int .u8) w0 A0 l0.length l0) (hc0 : l0.length ≤ c0) (h : spec_l01New.f k l0 = some (r1, r2, r3)) :
  Calls Tryz.prog 42 #[.slice A0 l0.length c0] w fun e w' => ∃ g_ : Nat, e = .returned (.pointer (some ⟨g_, 0, none⟩)) ∧ IsS90 w0 w' g_ r1 r2 r3 ∧ Below w0.heap.size w0 w' ∧ Below w.heap.size w w' := by
 have hu90 := Tryz.underlying90
 have HR0 := Aside0.mk hr0
 have HC0 := Aside0.mk hc0
 clear hr0 hc0
 have HBW := Aside0.mk (Below.refl w.heap.size w)
 have HW0 := Aside0.mk hB.size
 have HB := Aside0.mk hB
 clear hB
 have H : (spec_l01New.l0 k l0 (wrap64 (76801 + (l0.length : Int))) 0) = some (r1, r2, r3) := h
 clear h
 have H' := Aside0.mk H
 clear H
 go_enter Tryz.func42, Tryz.ntmps42
 go_wp2
 go_loopg [3, 4] k (fun kq v3 v4 w' => ∃ (x3_1 : Int) (x4_1 : Int), v3 = .int .i64 x3_1 ∧ v4 = .int .i64 x4_1 ∧ Aside0 (spec_l01New.l0 kq l0 x3_1 x4_1 = some (r1, r2, r3)) ∧ Aside0 (kq ≤ k) ∧ Aside0 (Below w0.heap.size w0 w') ∧ Aside0 (Below w.heap.size w w'))
 case atStart => exact ⟨(wrap64 (76801 + (l0.length : Int))), (0), rS, rS, H', ⟨Nat.le_refl _⟩, ⟨bZ HB⟩, ⟨by repeat (first | (with_reducible first | exact HBW.out | apply below_alloc | apply pw_below_drewN | apply below_drew1) | exact HBW.out)⟩⟩
 case round =>
  clear H' HBW
  obtain ⟨x3_1, x4_1, rfl, rfl, HA, HK1, HB, HBW⟩ := hrel
  cases gk with
  | zero => exact absurd HA.out (by simp [spec_l01New.l0])
  | succ k1 =>
   have H := HA.out
   clear HA
   simp only [spec_l01New.l0] at H
   by_cases c2 : x4_1 < (l0.length : Int)
   ·rw [if_pos c2] at H
    have c2b0 := decide_eq_true c2
    clear c2
    by_cases c3 : x4_1 < 4000
    ·rw [if_pos c3] at H
     have c3b0 := decide_eq_true c3
     clear c3
     by_cases c4 : 0 ≤ x4_1
     ·rw [if_pos c4] at H
      have c4b0 := decide_eq_true c4
      clear c4
      have H' := Aside0.mk H
      clear H
      have p204 : 0 ≤ (x4_1 : Int) := aQ
      have q204 : x4_1 < (l0.length : Int) := aQ
      obtain ⟨ad204, e204, hx204_0⟩ := Kd.at_int HR0.out x4_1 p204 q204
      cases e204
      replace hx204_0 := pw_cell_below HB.out hx204_0
      replace p204 := eq_true p204
      replace q204 := eq_true q204
      go_wp2
      go_roundg k1
      case measure => have := HK1.out; omega
      case rel => exact ⟨(Go.bits .and .i64 (wrap64 ((wrap64 ((wrap64 (x3_1 * 131)) + (wrap64 (rd l0 x4_1)))) + 7)) 1073741823), (wrap64 (x4_1 + 1)), rS, rS, H', ⟨by have := HK1.out; omega⟩, ⟨bZ HB⟩, ⟨by repeat (first | (with_reducible first | exact HBW.out | apply below_alloc | apply pw_below_drewN | apply below_drew1) | exact HBW.out)⟩⟩
     ·rw [if_neg c4] at H
      exact absurd H (by simp)
    ·rw [if_neg c3] at H
     have c3b0 := decide_eq_false c3
     clear c3
     simp only [Option.some.injEq, Prod.mk.injEq] at H
     obtain ⟨rfl, rfl, rfl⟩ := H
     go_wp2_with (first | ((with_reducible refine gate_dst (N := 31) rfl ?_); refine bE 31 #[.slice A0 l0.length c0, .int .i64 0, .int .i64 x3_1] 90 ?_; intro gb205 hg w5 hbox hb; replace HB := bS HB hb; have BK205 := Aside0.mk (hbox); have GW205 := Aside0.mk ((by rw [hg]; exact (below_size (by repeat (first | (with_reducible first | exact HBW.out | apply below_alloc | apply pw_below_drewN | apply below_drew1) | exact HBW.out))) : w.heap.size ≤ gb205)); have GE205 := Aside0.mk ((Nat.le_trans HW0.out (by rw [hg]; exact (below_size (by repeat (first | (with_reducible first | exact HBW.out | apply below_alloc | apply pw_below_drewN | apply below_drew1) | exact HBW.out))) : w.heap.size ≤ gb205) : w0.heap.size ≤ gb205)); replace HBW := Aside0.mk (below_step HBW.out hb); clear hb hbox hg))
     go_ret
     exact ⟨_, rfl, (show IsS90 w0 _ gb205 l0 0 x3_1 from ⟨_, _, by (with_reducible repeat (first | refine blk_drewN ?_ _ | refine blk_drew ?_ | refine blk_alloc ?_ _)); exact BK205.out, GE205.out, HR0.out⟩), bZ HB, by repeat (first | (with_reducible first | exact HBW.out | apply below_alloc | apply pw_below_drewN | apply below_drew1 | refine below_set ?_ GW205.out) | exact HBW.out)⟩
   ·rw [if_neg c2] at H
    have c2b0 := decide_eq_false c2
    clear c2
    simp only [Option.some.injEq, Prod.mk.injEq] at H
    obtain ⟨rfl, rfl, rfl⟩ := H
    go_wp2_with (first | ((with_reducible refine gate_dst (N := 31) rfl ?_); refine bE 31 #[.slice A0 l0.length c0, .int .i64 0, .int .i64 x3_1] 90 ?_; intro gb206 hg w6 hbox hb; replace HB := bS HB hb; have BK206 := Aside0.mk (hbox); have GW206 := Aside0.mk ((by rw [hg]; exact (below_size (by repeat (first | (with_reducible first | exact HBW.out | apply below_alloc | apply pw_below_drewN | apply below_drew1) | exact HBW.out))) : w.heap.size ≤ gb206)); have GE206 := Aside0.mk ((Nat.le_trans HW0.out (by rw [hg]; exact (below_size (by repeat (first | (with_reducible first | exact HBW.out | apply below_alloc | apply pw_below_drewN | apply below_drew1) | exact HBW.out))) : w.heap.size ≤ gb206) : w0.heap.size ≤ gb206)); replace HBW := Aside0.mk (below_step HBW.out hb); clear hb hbox hg))
    go_ret
    exact ⟨_, rfl, (show IsS90 w0 _ gb206 l0 0 x3_1 from ⟨_, _, by (with_reducible repeat (first | refine blk_drewN ?_ _ | refine blk_drew ?_ | refine blk_alloc ?_ _)); exact BK206.out, GE206.out, HR0.out⟩), bZ HB, by repeat (first | (with_reducible first | exact HBW.out | apply below_alloc | apply pw_below_drewN | apply below_drew1 | refine below_set ?_ GW206.out) | exact HBW.out)⟩
def spec_l01Byte.f (s0_0 : List Int) (s0_1 : Int) (s0_2 : Int) : Option (Int × Int × Int) := if s0_1 < (s0_0.length : Int) then (if 0 ≤ s0_1 then (some (Go.bits .and .i64 (wrap64 ((Go.bits .and .i64 (Go.bits .xor .i64 ((wrap64 ((wrap64 (s0_2 * 6364136223846793005)) + 1442695040888963407)) / 8589934592) ((wrap64 ((wrap64 (s0_2 * 6364136223846793005)) + 1442695040888963407)) / 35184372088832)) 255) + (wrap64 (rd s0_0 s0_1)))) 255, wrap64 (s0_1 + 1), wrap64 ((wrap64 (s0_2 * 6364136223846793005)) + 1442695040888963407))) else (none)) else (some (Go.bits .and .i64 (Go.bits .xor .i64 ((wrap64 ((wrap64 (s0_2 * 6364136223846793005)) + 1442695040888963407)) / 8589934592) ((wrap64 ((wrap64 (s0_2 * 6364136223846793005)) + 1442695040888963407)) / 35184372088832)) 255, s0_1, wrap64 ((wrap64 (s0_2 * 6364136223846793005)) + 1442695040888963407)))
theorem spec_l01Byte.calls (g : Nat) (s0_0 : List Int) (s0_1 : Int) (s0_2 : Int) (r1 : Int) (r2 : Int) (r3 : Int) (w0 w : World) (hI : IsS90 w0 w g s0_0 s0_1 s0_2) (hB : Below w0.heap.size w0 w) (h : spec_l01Byte.f s0_0 s0_1 s0_2 = some (r1, r2, r3)) :
  Calls Tryz.prog 43 #[.pointer (some ⟨g, 0, none⟩)] w fun e w' => e = .returned (.int .i64 r1) ∧ IsS90 w0 w' g s0_0 r2 r3 ∧ Below w0.heap.size w0 w' ∧ KeepBut w w' g none := by
 have HI0 := Aside0.mk hI
 have HK := Aside0.mk (KeepBut.refl w g none)
 have HL := Aside0.mk hB.size
 clear hI
 have HW0 := Aside0.mk hB.size
 have HB := Aside0.mk hB
 clear hB
 unfold spec_l01Byte.f at h
 have H := h
 clear h
 by_cases c2 : s0_1 < (s0_0.length : Int)
 ·rw [if_pos c2] at H
  have c2b0 := decide_eq_true c2
  clear c2
  by_cases c3 : 0 ≤ s0_1
  ·rw [if_pos c3] at H
   have c3b0 := decide_eq_true c3
   clear c3
   simp only [Option.some.injEq, Prod.mk.injEq] at H
   obtain ⟨rfl, rfl, rfl⟩ := H
   obtain ⟨ASz4_0, cSz4_0, HGz4, hgz4, HSz4_0⟩ := HI0.out
   have hcz4_0 := cellS90_0 HGz4
   have hcz4_1 := cellS90_1 HGz4
   have hcz4_2 := cellS90_2 HGz4
   have hfz4_1 := blk_frozen HGz4 1
   have hfz4_2 := blk_frozen HGz4 2
   clear HGz4 hgz4
   have p207 : 0 ≤ (s0_1 : Int) := aQ
   have q207 : s0_1 < (s0_0.length : Int) := aQ
   obtain ⟨ad207, e207, hx207_0⟩ := Kd.at_int HSz4_0 s0_1 p207 q207
   cases e207
   have hn207_0 : ad207.block ≠ g := Nat.ne_of_lt (Nat.lt_of_lt_of_le (by have := World.block_lt_of_cell? _ _ hx207_0; first | rwa [add_block] at this | exact this) (IsS90.ge HI0.out))
   replace hx207_0 := pw_cell_below HB.out hx207_0
   replace hx207_0 := (cell_far (p := ⟨g, 2, none⟩) (by first | (rw [add_block]; exact hn207_0) | (show (Addr.add _ _).block ≠ _; rw [add_block]; exact hn207_0) | exact hn207_0) (.int .i64 (wrap64 ((wrap64 (s0_2 * 6364136223846793005)) + 1442695040888963407)))).trans hx207_0
   (try have hy207_0 := fun (n_ : Nat) => (show (((w.drewN n_).setCell ⟨g, 2, none⟩ (.int .i64 (wrap64 ((wrap64 (s0_2 * 6364136223846793005)) + 1442695040888963407))))).cell? _ = some _ from hx207_0))
   clear hn207_0
   replace p207 := eq_true p207
   replace q207 := eq_true q207
   go_enter Tryz.func43, Tryz.ntmps43
   go_wp2
   repeat (go_quiet (fail); try go_wp2)
   go_ret
   exact ⟨by first | rfl | (simp [errW_none, errW_some] <;> rfl) | (simp [*, errW_none, errW_some] <;> rfl), iZ90 HI0, jZ90 HB HI0, kZ HK⟩
  ·rw [if_neg c3] at H
   exact absurd H (by simp)
 ·rw [if_neg c2] at H
  have c2b0 := decide_eq_false c2
  clear c2
  simp only [Option.some.injEq, Prod.mk.injEq] at H
  obtain ⟨rfl, rfl, rfl⟩ := H
  obtain ⟨ASz5_0, cSz5_0, HGz5, hgz5, HSz5_0⟩ := HI0.out
  have hcz5_0 := cellS90_0 HGz5
  have hcz5_1 := cellS90_1 HGz5
  have hcz5_2 := cellS90_2 HGz5
  have hfz5_1 := blk_frozen HGz5 1
  have hfz5_2 := blk_frozen HGz5 2
  clear HGz5 hgz5
  go_enter Tryz.func43, Tryz.ntmps43
  go_wp2
  repeat (go_quiet (fail); try go_wp2)
  go_ret
  exact ⟨by first | rfl | (simp [errW_none, errW_some] <;> rfl) | (simp [*, errW_none, errW_some] <;> rfl), iZ90 HI0, jZ90 HB HI0, kZ HK⟩
def spec_l01Below.f (s0_0 : List Int) (s0_1 : Int) (s0_2 : Int) (a1 : Int) : Option (Int × Int × Int) := if a1 ≤ 0 then (some (0, s0_1, s0_2)) else (if a1 ≤ 256 then ((spec_l01Byte.f s0_0 s0_1 s0_2).bind fun bt208 => (if a1 = 0 then (none) else (some (Int.tmod bt208.1 a1, bt208.2.1, bt208.2.2)))) else ((spec_l01Byte.f s0_0 s0_1 s0_2).bind fun bt211 => ((spec_l01Byte.f s0_0 bt211.2.1 bt211.2.2).bind fun bt214 => ((spec_l01Byte.f s0_0 bt214.2.1 bt214.2.2).bind fun bt217 => ((spec_l01Byte.f s0_0 bt217.2.1 bt217.2.2).bind fun bt220 => (if a1 = 0 then (none) else (some (Int.tmod (wrap64 ((wrap64 ((wrap64 ((wrap64 (bt211.1 * 16777216)) + (wrap64 (bt214.1 * 65536)))) + (wrap64 (bt217.1 * 256)))) + bt220.1)) a1, bt220.2.1, bt220.2.2))))))))
theorem spec_l01Below.calls (g : Nat) (s0_0 : List Int) (s0_1 : Int) (s0_2 : Int) (a1 : Int) (r1 : Int) (r2 : Int) (r3 : Int) (w0 w : World) (hI : IsS90 w0 w g s0_0 s0_1 s0_2) (hB : Below w0.heap.size w0 w) (h : spec_l01Below.f s0_0 s0_1 s0_2 a1 = some (r1, r2, r3)) :
  Calls Tryz.prog 44 #[.pointer (some ⟨g, 0, none⟩), .int .i64 a1] w fun e w' => e = .returned (.int .i64 r1) ∧ IsS90 w0 w' g s0_0 r2 r3 ∧ Below w0.heap.size w0 w' ∧ KeepBut w w' g none := by
 have HI0 := Aside0.mk hI
 have HK := Aside0.mk (KeepBut.refl w g none)
 have HL := Aside0.mk hB.size
 clear hI
 have HW0 := Aside0.mk hB.size
 have HB := Aside0.mk hB
 clear hB
 unfold spec_l01Below.f at h
 have H := h
 clear h
 by_cases c3 : a1 ≤ 0
 ·rw [if_pos c3] at H
  have c3b0 := decide_eq_true c3
  clear c3
  simp only [Option.some.injEq, Prod.mk.injEq] at H
  obtain ⟨rfl, rfl, rfl⟩ := H
  go_enter Tryz.func44, Tryz.ntmps44
  go_wp2
  go_ret
  exact ⟨by first | rfl | (simp [errW_none, errW_some] <;> rfl) | (simp [*, errW_none, errW_some] <;> rfl), iZ90 HI0, jZ90 HB HI0, kZ HK⟩
 ·rw [if_neg c3] at H
  have c3b0 := decide_eq_false c3
  clear c3
  by_cases c4 : a1 ≤ 256
  ·rw [if_pos c4] at H
   have c4b0 := decide_eq_true c4
   clear c4
   obtain ⟨⟨t208, t209, t210⟩, A5, H⟩ := oB H
   by_cases c6 : a1 = 0
   ·rw [if_pos c6] at H
    exact absurd H (by simp)
   ·rw [if_neg c6] at H
    have c6b0 : (a1 == 0) = false := beq_eq_false_iff_ne.mpr c6
    have c6b1 : (a1 != 0) = true := bne_iff_ne.mpr c6
    simp only [Option.some.injEq, Prod.mk.injEq] at H
    obtain ⟨rfl, rfl, rfl⟩ := H
    go_enter Tryz.func44, Tryz.ntmps44
    go_wp2_with (first | (refine gC (some 14) Tryz.func43 #[.pointer (some ⟨g, 0, none⟩)] ?_; (with_reducible refine (spec_l01Byte.calls g s0_0 s0_1 s0_2 t208 t209 t210 w0 _ ?side1 ?side2 A5.out).mono ?_); (case side1 => exact iZ90 HI0); (case side2 => exact jZ90 HB HI0); rintro e w7 ⟨rfl, hi, hb, hk⟩; refine ⟨_, rfl, ?_⟩; replace HK := Aside0.mk (KeepBut.trans (kZ HK) hk (.inl rfl)); replace HB := Aside0.mk (hb); replace HI0 := Aside0.mk (hi); (try clear hb)))
    go_ret
    exact ⟨by first | rfl | (simp [errW_none, errW_some] <;> rfl) | (simp [*, errW_none, errW_some] <;> rfl), iZ90 HI0, jZ90 HB HI0, kZ HK⟩
  ·rw [if_neg c4] at H
   have c4b0 := decide_eq_false c4
   clear c4
   obtain ⟨⟨t211, t212, t213⟩, A8, H⟩ := oB H
   obtain ⟨⟨t214, t215, t216⟩, A9, H⟩ := oB H
   obtain ⟨⟨t217, t218, t219⟩, A10, H⟩ := oB H
   obtain ⟨⟨t220, t221, t222⟩, A11, H⟩ := oB H
   by_cases c12 : a1 = 0
   ·rw [if_pos c12] at H
    exact absurd H (by simp)
   ·rw [if_neg c12] at H
    have c12b0 : (a1 == 0) = false := beq_eq_false_iff_ne.mpr c12
    have c12b1 : (a1 != 0) = true := bne_iff_ne.mpr c12
    simp only [Option.some.injEq, Prod.mk.injEq] at H
    obtain ⟨rfl, rfl, rfl⟩ := H
    go_enter Tryz.func44, Tryz.ntmps44
    go_wp2_with (first | (refine gC (some 18) Tryz.func43 #[.pointer (some ⟨g, 0, none⟩)] ?_; (with_reducible refine (spec_l01Byte.calls g s0_0 s0_1 s0_2 t211 t212 t213 w0 _ ?side1 ?side2 A8.out).mono ?_); (case side1 => exact iZ90 HI0); (case side2 => exact jZ90 HB HI0); rintro e w13 ⟨rfl, hi, hb, hk⟩; refine ⟨_, rfl, ?_⟩; replace HK := Aside0.mk (KeepBut.trans (kZ HK) hk (.inl rfl)); replace HB := Aside0.mk (hb); replace HI0 := Aside0.mk (hi); (try clear hb)) | (refine gC (some 20) Tryz.func43 #[.pointer (some ⟨g, 0, none⟩)] ?_; (with_reducible refine (spec_l01Byte.calls g s0_0 t212 t213 t214 t215 t216 w0 _ ?side1 ?side2 A9.out).mono ?_); (case side1 => exact iZ90 HI0); (case side2 => exact jZ90 HB HI0); rintro e w14 ⟨rfl, hi, hb, hk⟩; refine ⟨_, rfl, ?_⟩; replace HK := Aside0.mk (KeepBut.trans (kZ HK) hk (.inl rfl)); replace HB := Aside0.mk (hb); replace HI0 := Aside0.mk (hi); (try clear hb)) | (refine gC (some 22) Tryz.func43 #[.pointer (some ⟨g, 0, none⟩)] ?_; (with_reducible refine (spec_l01Byte.calls g s0_0 t215 t216 t217 t218 t219 w0 _ ?side1 ?side2 A10.out).mono ?_); (case side1 => exact iZ90 HI0); (case side2 => exact jZ90 HB HI0); rintro e w15 ⟨rfl, hi, hb, hk⟩; refine ⟨_, rfl, ?_⟩; replace HK := Aside0.mk (KeepBut.trans (kZ HK) hk (.inl rfl)); replace HB := Aside0.mk (hb); replace HI0 := Aside0.mk (hi); (try clear hb)) | (refine gC (some 24) Tryz.func43 #[.pointer (some ⟨g, 0, none⟩)] ?_; (with_reducible refine (spec_l01Byte.calls g s0_0 t218 t219 t220 t221 t222 w0 _ ?side1 ?side2 A11.out).mono ?_); (case side1 => exact iZ90 HI0); (case side2 => exact jZ90 HB HI0); rintro e w16 ⟨rfl, hi, hb, hk⟩; refine ⟨_, rfl, ?_⟩; replace HK := Aside0.mk (KeepBut.trans (kZ HK) hk (.inl rfl)); replace HB := Aside0.mk (hb); replace HI0 := Aside0.mk (hi); (try clear hb)))
    go_ret
    exact ⟨by first | rfl | (simp [errW_none, errW_some] <;> rfl) | (simp [*, errW_none, errW_some] <;> rfl), iZ90 HI0, jZ90 HB HI0, kZ HK⟩
def spec_FpOf.f (a0 : Int) : Option (Int) := if (Int.tmod a0 12107) < 0 then (some (wrap64 ((Int.tmod a0 12107) + 12107))) else (some (Int.tmod a0 12107))
theorem spec_FpOf.calls (a0 : Int) (r : Int) (w : World) (h : spec_FpOf.f a0 = some r) :
  Calls Tryz.prog 62 #[.int .i64 a0] w fun e w' => e = .returned (.int .i64 r) ∧ Drawn0 w w' := by
 unfold spec_FpOf.f at h
 have H := h
 clear h
 by_cases c2 : (Int.tmod a0 12107) < 0
 ·rw [if_pos c2] at H
  have c2b0 := decide_eq_true c2
  clear c2
  obtain rfl := Option.some.inj H
  go_enter Tryz.func62, Tryz.ntmps62
  go_wp2
  go_ret
  exact ⟨rS, rD⟩
 ·rw [if_neg c2] at H
  have c2b0 := decide_eq_false c2
  clear c2
  obtain rfl := Option.some.inj H
  go_enter Tryz.func62, Tryz.ntmps62
  go_wp2
  go_ret
  exact ⟨rS, rD⟩
def spec_FpMul.f (a0 : Int) (a1 : Int) : Option (Int) := (spec_FpOf.f a0).bind fun t256 => ((spec_FpOf.f a1).bind fun t257 => ((spec_FpOf.f (wrap64 (t256 * t257))).bind fun t258 => (some t258)))
theorem spec_FpMul.calls (a0 : Int) (a1 : Int) (r : Int) (w : World) (h : spec_FpMul.f a0 a1 = some r) :
  Calls Tryz.prog 112 #[.int .i64 a0, .int .i64 a1] w fun e w' => e = .returned (.int .i64 r) ∧ Drawn0 w w' := by
 unfold spec_FpMul.f at h
 have H := h
 clear h
 obtain ⟨t256, A3, H⟩ := oB H
 obtain ⟨t257, A4, H⟩ := oB H
 obtain ⟨t258, A5, H⟩ := oB H
 obtain rfl := Option.some.inj H
 go_enter Tryz.func112, Tryz.ntmps112
 go_wp2_with (first | (refine gC (some 6) Tryz.func62 #[.int .i64 a0] ?_; (with_reducible refine (spec_FpOf.calls a0 t256 _ A3.out).mono ?_); rintro e w' ⟨rfl, ⟨nd, rfl⟩⟩; refine ⟨_, rfl, ?_⟩) | (refine gC (some 8) Tryz.func62 #[.int .i64 a1] ?_; (with_reducible refine (spec_FpOf.calls a1 t257 _ A4.out).mono ?_); rintro e w' ⟨rfl, ⟨nd, rfl⟩⟩; refine ⟨_, rfl, ?_⟩) | (refine gC (some 10) Tryz.func62 #[.int .i64 (wrap64 (t256 * t257))] ?_; (with_reducible refine (spec_FpOf.calls (wrap64 (t256 * t257)) t258 _ A5.out).mono ?_); rintro e w' ⟨rfl, ⟨nd, rfl⟩⟩; refine ⟨_, rfl, ?_⟩))
 go_ret
 exact ⟨rS, rD⟩
def spec_FpAdd.f (a0 : Int) (a1 : Int) : Option (Int) := (spec_FpOf.f a0).bind fun t259 => ((spec_FpOf.f a1).bind fun t260 => ((spec_FpOf.f (wrap64 (t259 + t260))).bind fun t261 => (some t261)))
theorem spec_FpAdd.calls (a0 : Int) (a1 : Int) (r : Int) (w : World) (h : spec_FpAdd.f a0 a1 = some r) :
  Calls Tryz.prog 114 #[.int .i64 a0, .int .i64 a1] w fun e w' => e = .returned (.int .i64 r) ∧ Drawn0 w w' := by
 unfold spec_FpAdd.f at h
 have H := h
 clear h
 obtain ⟨t259, A3, H⟩ := oB H
 obtain ⟨t260, A4, H⟩ := oB H
 obtain ⟨t261, A5, H⟩ := oB H
 obtain rfl := Option.some.inj H
 go_enter Tryz.func114, Tryz.ntmps114
 go_wp2_with (first | (refine gC (some 6) Tryz.func62 #[.int .i64 a0] ?_; (with_reducible refine (spec_FpOf.calls a0 t259 _ A3.out).mono ?_); rintro e w' ⟨rfl, ⟨nd, rfl⟩⟩; refine ⟨_, rfl, ?_⟩) | (refine gC (some 8) Tryz.func62 #[.int .i64 a1] ?_; (with_reducible refine (spec_FpOf.calls a1 t260 _ A4.out).mono ?_); rintro e w' ⟨rfl, ⟨nd, rfl⟩⟩; refine ⟨_, rfl, ?_⟩) | (refine gC (some 10) Tryz.func62 #[.int .i64 (wrap64 (t259 + t260))] ?_; (with_reducible refine (spec_FpOf.calls (wrap64 (t259 + t260)) t261 _ A5.out).mono ?_); rintro e w' ⟨rfl, ⟨nd, rfl⟩⟩; refine ⟨_, rfl, ?_⟩))
 go_ret
 exact ⟨rS, rD⟩
def spec_l07Right.f (a0 : Int) : Option (Int) := (spec_FpMul.f a0 a0).bind fun t262 => ((spec_FpMul.f t262 a0).bind fun t263 => ((spec_FpAdd.f t263 a0).bind fun t264 => (some t264)))
theorem spec_l07Right.calls (a0 : Int) (r : Int) (w : World) (h : spec_l07Right.f a0 = some r) :
  Calls Tryz.prog 64 #[.int .i64 a0] w fun e w' => e = .returned (.int .i64 r) ∧ Drawn0 w w' := by
 unfold spec_l07Right.f at h
 have H := h
 clear h
 obtain ⟨t262, A2, H⟩ := oB H
 obtain ⟨t263, A3, H⟩ := oB H
 obtain ⟨t264, A4, H⟩ := oB H
 obtain rfl := Option.some.inj H
 go_enter Tryz.func64, Tryz.ntmps64
 go_wp2_with (first | (refine gC (some 5) Tryz.func112 #[.int .i64 a0, .int .i64 a0] ?_; (with_reducible refine (spec_FpMul.calls a0 a0 t262 _ A2.out).mono ?_); rintro e w' ⟨rfl, ⟨nd, rfl⟩⟩; refine ⟨_, rfl, ?_⟩) | (refine gC (some 7) Tryz.func112 #[.int .i64 t262, .int .i64 a0] ?_; (with_reducible refine (spec_FpMul.calls t262 a0 t263 _ A3.out).mono ?_); rintro e w' ⟨rfl, ⟨nd, rfl⟩⟩; refine ⟨_, rfl, ?_⟩) | (refine gC (some 9) Tryz.func114 #[.int .i64 t263, .int .i64 a0] ?_; (with_reducible refine (spec_FpAdd.calls t263 a0 t264 _ A4.out).mono ?_); rintro e w' ⟨rfl, ⟨nd, rfl⟩⟩; refine ⟨_, rfl, ?_⟩))
 go_ret
 exact ⟨rS, rD⟩
def spec_Base.f  : Option (Int × Int × Bool) := some (8445, 859, false)
theorem spec_Base.calls  (r1 : Int) (r2 : Int) (r3 : Bool) (w : World) (h : spec_Base.f  = some (r1, r2, r3)) :
  Calls Tryz.prog 66 #[] w fun e w' => e = .returned (.agg #[.int .i64 r1, .int .i64 r2, .bool r3]) ∧ Below w.heap.size w w' := by
 have hu28 := Tryz.underlying28
 have HB := Aside0.mk (Below.refl w.heap.size w)
 have H : (some (8445, 859, false)) = some (r1, r2, r3) := h
 clear h
 simp only [Option.some.injEq, Prod.mk.injEq] at H
 obtain ⟨rfl, rfl, rfl⟩ := H
 go_enter Tryz.func66, Tryz.ntmps66
 go_wp2_with (first | (refine gB 0 #[.int .i64 0, .int .i64 0, .bool false] 28 ?_; intro gb335 hg w1 BK335 hb; have GW335 := bG HB hg; replace HB := bS HB hb; clear hb hg; obtain ⟨hcz2_0, hcz2_1, hcz2_2, hfz2_0, hfz2_1, hfz2_2⟩ := bK3 (w := w1) BK335))
 refine rC gb335 28 #[.int .i64 8445, .int .i64 859, .bool false] (bU BK335) Tryz.underlying28 ?_
 exact ⟨rR, bZ HB⟩
def spec_FpSub.f (a0 : Int) (a1 : Int) : Option (Int) := (spec_FpOf.f a0).bind fun t271 => ((spec_FpOf.f a1).bind fun t272 => ((spec_FpOf.f (wrap64 (t271 - t272))).bind fun t273 => (some t273)))
theorem spec_FpSub.calls (a0 : Int) (a1 : Int) (r : Int) (w : World) (h : spec_FpSub.f a0 a1 = some r) :
  Calls Tryz.prog 113 #[.int .i64 a0, .int .i64 a1] w fun e w' => e = .returned (.int .i64 r) ∧ Drawn0 w w' := by
 unfold spec_FpSub.f at h
 have H := h
 clear h
 obtain ⟨t271, A3, H⟩ := oB H
 obtain ⟨t272, A4, H⟩ := oB H
 obtain ⟨t273, A5, H⟩ := oB H
 obtain rfl := Option.some.inj H
 go_enter Tryz.func113, Tryz.ntmps113
 go_wp2_with (first | (refine gC (some 6) Tryz.func62 #[.int .i64 a0] ?_; (with_reducible refine (spec_FpOf.calls a0 t271 _ A3.out).mono ?_); rintro e w' ⟨rfl, ⟨nd, rfl⟩⟩; refine ⟨_, rfl, ?_⟩) | (refine gC (some 8) Tryz.func62 #[.int .i64 a1] ?_; (with_reducible refine (spec_FpOf.calls a1 t272 _ A4.out).mono ?_); rintro e w' ⟨rfl, ⟨nd, rfl⟩⟩; refine ⟨_, rfl, ?_⟩) | (refine gC (some 10) Tryz.func62 #[.int .i64 (wrap64 (t271 - t272))] ?_; (with_reducible refine (spec_FpOf.calls (wrap64 (t271 - t272)) t273 _ A5.out).mono ?_); rintro e w' ⟨rfl, ⟨nd, rfl⟩⟩; refine ⟨_, rfl, ?_⟩))
 go_ret
 exact ⟨rS, rD⟩
def spec_FpPow.l0 : Nat → Int → Int → Int → Option (Int)
 | 0, _, _, _ => none
 | k + 1, x1, x5, x6 => if x1 > 0 then (if (Int.tmod x1 2) = 1 then ((spec_FpMul.f x5 x6).bind fun t281 => ((spec_FpMul.f x6 x6).bind fun t282 => (spec_FpPow.l0 k (wrap64 (Int.tdiv x1 2)) t281 t282))) else ((spec_FpMul.f x6 x6).bind fun t283 => (spec_FpPow.l0 k (wrap64 (Int.tdiv x1 2)) x5 t283))) else (some x5)
def spec_FpPow.f (k : Nat) (a0 : Int) (a1 : Int) : Option (Int) := if a1 < 0 then (some 0) else ((spec_FpOf.f a0).bind fun t280 => (spec_FpPow.l0 k a1 1 t280))
theorem spec_FpPow.calls (k : Nat) (a0 : Int) (a1 : Int) (r : Int) (w : World) (h : spec_FpPow.f k a0 a1 = some r) :
  Calls Tryz.prog 111 #[.int .i64 a0, .int .i64 a1] w fun e w' => e = .returned (.int .i64 r) ∧ Drawn0 w w' := by
 unfold spec_FpPow.f at h
 have H := h
 clear h
 by_cases c3 : a1 < 0
 ·rw [if_pos c3] at H
  have c3b0 := decide_eq_true c3
  clear c3
  obtain rfl := Option.some.inj H
  go_enter Tryz.func111, Tryz.ntmps111
  go_wp2
  go_ret
  exact ⟨rS, rD⟩
 ·rw [if_neg c3] at H
  have c3b0 := decide_eq_false c3
  clear c3
  obtain ⟨t280, A4, H⟩ := oB H
  have H' := Aside0.mk H
  clear H
  go_enter Tryz.func111, Tryz.ntmps111
  go_wp2_with (first | (refine gC (some 10) Tryz.func62 #[.int .i64 a0] ?_; (with_reducible refine (spec_FpOf.calls a0 t280 _ A4.out).mono ?_); rintro e w' ⟨rfl, ⟨nd, rfl⟩⟩; refine ⟨_, rfl, ?_⟩))
  go_loopg [1, 5, 6] k (fun kq v1 v5 v6 w' => ∃ (x1_1 : Int) (x5_1 : Int) (x6_1 : Int), v1 = .int .i64 x1_1 ∧ v5 = .int .i64 x5_1 ∧ v6 = .int .i64 x6_1 ∧ Aside0 (spec_FpPow.l0 kq x1_1 x5_1 x6_1 = some r) ∧ Aside0 (kq ≤ k) ∧ Drawn0 w w')
  case atStart => exact ⟨(a1), (1), (t280), rS, rS, rS, H', ⟨Nat.le_refl _⟩, by repeat (first | exact Drawn0.refl _ | apply Drawn0.step)⟩
  case round =>
   clear H'
   try clear c1
   try clear p2
   try clear c3
   try clear c3b0
   obtain ⟨x1_1, x5_1, x6_1, rfl, rfl, rfl, HA, HK1, ⟨m1, rfl⟩⟩ := hrel
   cases gk with
   | zero => exact absurd HA.out (by simp [spec_FpPow.l0])
   | succ k1 =>
    have H := HA.out
    clear HA
    simp only [spec_FpPow.l0] at H
    by_cases c5 : x1_1 > 0
    ·rw [if_pos c5] at H
     have c5b0 := decide_eq_true c5
     clear c5
     by_cases c6 : (Int.tmod x1_1 2) = 1
     ·rw [if_pos c6] at H
      have c6b0 : ((Int.tmod x1_1 2) == 1) = true := beq_iff_eq.mpr c6
      have c6b1 : ((Int.tmod x1_1 2) != 1) = false := bne_eq_false_iff_eq.mpr c6
      clear c6
      obtain ⟨t281, A7, H⟩ := oB H
      obtain ⟨t282, A8, H⟩ := oB H
      have H' := Aside0.mk H
      clear H
      go_wp2_with (first | (refine gC (some 18) Tryz.func112 #[.int .i64 x5_1, .int .i64 x6_1] ?_; (with_reducible refine (spec_FpMul.calls x5_1 x6_1 t281 _ A7.out).mono ?_); rintro e w' ⟨rfl, ⟨nd, rfl⟩⟩; refine ⟨_, rfl, ?_⟩) | (refine gC (some 21) Tryz.func112 #[.int .i64 x6_1, .int .i64 x6_1] ?_; (with_reducible refine (spec_FpMul.calls x6_1 x6_1 t282 _ A8.out).mono ?_); rintro e w' ⟨rfl, ⟨nd, rfl⟩⟩; refine ⟨_, rfl, ?_⟩))
      go_roundg k1
      case measure => have := HK1.out; omega
      case rel => exact ⟨(wrap64 (Int.tdiv x1_1 2)), (t281), (t282), rS, rS, rS, H', ⟨by have := HK1.out; omega⟩, by repeat (first | exact Drawn0.refl _ | apply Drawn0.step)⟩
     ·rw [if_neg c6] at H
      have c6b0 : ((Int.tmod x1_1 2) == 1) = false := beq_eq_false_iff_ne.mpr c6
      have c6b1 : ((Int.tmod x1_1 2) != 1) = true := bne_iff_ne.mpr c6
      obtain ⟨t283, A9, H⟩ := oB H
      have H' := Aside0.mk H
      clear H
      go_wp2_with (first | (refine gC (some 21) Tryz.func112 #[.int .i64 x6_1, .int .i64 x6_1] ?_; (with_reducible refine (spec_FpMul.calls x6_1 x6_1 t283 _ A9.out).mono ?_); rintro e w' ⟨rfl, ⟨nd, rfl⟩⟩; refine ⟨_, rfl, ?_⟩))
      go_roundg k1
      case measure => have := HK1.out; omega
      case rel => exact ⟨(wrap64 (Int.tdiv x1_1 2)), (x5_1), (t283), rS, rS, rS, H', ⟨by have := HK1.out; omega⟩, by repeat (first | exact Drawn0.refl _ | apply Drawn0.step)⟩
    ·rw [if_neg c5] at H
     have c5b0 := decide_eq_false c5
     clear c5
     obtain rfl := Option.some.inj H
     go_wp2
     go_ret
     exact ⟨rS, rD⟩
def spec_FpRoot.f (k : Nat) (a0 : Int) : Option (Int × Bool) := (spec_FpPow.f k a0 3027).bind fun t344 => ((spec_FpMul.f t344 t344).bind fun t345 => ((spec_FpOf.f a0).bind fun t346 => (if t345 = t346 then ((spec_FpSub.f 0 t344).bind fun t347 => (if t347 < t344 then ((spec_FpSub.f 0 t344).bind fun t348 => (some (t348, true))) else (some (t344, true)))) else (some (0, false)))))
theorem spec_FpRoot.calls (k : Nat) (a0 : Int) (r1 : Int) (r2 : Bool) (w : World) (h : spec_FpRoot.f k a0 = some (r1, r2)) :
  Calls Tryz.prog 63 #[.int .i64 a0] w fun e w' => e = .returned (.tuple #[.int .i64 r1, .bool r2]) ∧ Drawn0 w w' := by
 unfold spec_FpRoot.f at h
 have H := h
 clear h
 obtain ⟨t344, A2, H⟩ := oB H
 obtain ⟨t345, A3, H⟩ := oB H
 obtain ⟨t346, A4, H⟩ := oB H
 by_cases c5 : t345 = t346
 ·rw [if_pos c5] at H
  have c5b0 : (t345 == t346) = true := beq_iff_eq.mpr c5
  have c5b1 : (t345 != t346) = false := bne_eq_false_iff_eq.mpr c5
  clear c5
  obtain ⟨t347, A6, H⟩ := oB H
  by_cases c7 : t347 < t344
  ·rw [if_pos c7] at H
   have c7b0 := decide_eq_true c7
   clear c7
   obtain ⟨t348, A8, H⟩ := oB H
   have et348_ : t347 = t348 := Option.some.inj (A6.out.symm.trans A8.out)
   subst et348_
   simp only [Option.some.injEq, Prod.mk.injEq] at H
   obtain ⟨rfl, rfl⟩ := H
   go_enter Tryz.func63, Tryz.ntmps63
   go_wp2_with (first | (refine gC (some 6) Tryz.func111 #[.int .i64 a0, .int .i64 3027] ?_; (with_reducible refine (spec_FpPow.calls k a0 3027 t344 _ A2.out).mono ?_); rintro e w' ⟨rfl, ⟨nd, rfl⟩⟩; refine ⟨_, rfl, ?_⟩) | (refine gC (some 9) Tryz.func112 #[.int .i64 t344, .int .i64 t344] ?_; (with_reducible refine (spec_FpMul.calls t344 t344 t345 _ A3.out).mono ?_); rintro e w' ⟨rfl, ⟨nd, rfl⟩⟩; refine ⟨_, rfl, ?_⟩) | (refine gC (some 11) Tryz.func62 #[.int .i64 a0] ?_; (with_reducible refine (spec_FpOf.calls a0 t346 _ A4.out).mono ?_); rintro e w' ⟨rfl, ⟨nd, rfl⟩⟩; refine ⟨_, rfl, ?_⟩) | (refine gC (some 14) Tryz.func113 #[.int .i64 0, .int .i64 t344] ?_; (with_reducible refine (spec_FpSub.calls 0 t344 t347 _ A6.out).mono ?_); rintro e w' ⟨rfl, ⟨nd, rfl⟩⟩; refine ⟨_, rfl, ?_⟩) | (refine gC (some 18) Tryz.func113 #[.int .i64 0, .int .i64 t344] ?_; (with_reducible refine (spec_FpSub.calls 0 t344 t347 _ A8.out).mono ?_); rintro e w' ⟨rfl, ⟨nd, rfl⟩⟩; refine ⟨_, rfl, ?_⟩))
   go_ret2
   exact ⟨rS, rD⟩
  ·rw [if_neg c7] at H
   have c7b0 := decide_eq_false c7
   clear c7
   simp only [Option.some.injEq, Prod.mk.injEq] at H
   obtain ⟨rfl, rfl⟩ := H
   go_enter Tryz.func63, Tryz.ntmps63
   go_wp2_with (first | (refine gC (some 6) Tryz.func111 #[.int .i64 a0, .int .i64 3027] ?_; (with_reducible refine (spec_FpPow.calls k a0 3027 t344 _ A2.out).mono ?_); rintro e w' ⟨rfl, ⟨nd, rfl⟩⟩; refine ⟨_, rfl, ?_⟩) | (refine gC (some 9) Tryz.func112 #[.int .i64 t344, .int .i64 t344] ?_; (with_reducible refine (spec_FpMul.calls t344 t344 t345 _ A3.out).mono ?_); rintro e w' ⟨rfl, ⟨nd, rfl⟩⟩; refine ⟨_, rfl, ?_⟩) | (refine gC (some 11) Tryz.func62 #[.int .i64 a0] ?_; (with_reducible refine (spec_FpOf.calls a0 t346 _ A4.out).mono ?_); rintro e w' ⟨rfl, ⟨nd, rfl⟩⟩; refine ⟨_, rfl, ?_⟩) | (refine gC (some 14) Tryz.func113 #[.int .i64 0, .int .i64 t344] ?_; (with_reducible refine (spec_FpSub.calls 0 t344 t347 _ A6.out).mono ?_); rintro e w' ⟨rfl, ⟨nd, rfl⟩⟩; refine ⟨_, rfl, ?_⟩))
   go_ret2
   exact ⟨rS, rD⟩
 ·rw [if_neg c5] at H
  have c5b0 : (t345 == t346) = false := beq_eq_false_iff_ne.mpr c5
  have c5b1 : (t345 != t346) = true := bne_iff_ne.mpr c5
  simp only [Option.some.injEq, Prod.mk.injEq] at H
  obtain ⟨rfl, rfl⟩ := H
  go_enter Tryz.func63, Tryz.ntmps63
  go_wp2_with (first | (refine gC (some 6) Tryz.func111 #[.int .i64 a0, .int .i64 3027] ?_; (with_reducible refine (spec_FpPow.calls k a0 3027 t344 _ A2.out).mono ?_); rintro e w' ⟨rfl, ⟨nd, rfl⟩⟩; refine ⟨_, rfl, ?_⟩) | (refine gC (some 9) Tryz.func112 #[.int .i64 t344, .int .i64 t344] ?_; (with_reducible refine (spec_FpMul.calls t344 t344 t345 _ A3.out).mono ?_); rintro e w' ⟨rfl, ⟨nd, rfl⟩⟩; refine ⟨_, rfl, ?_⟩) | (refine gC (some 11) Tryz.func62 #[.int .i64 a0] ?_; (with_reducible refine (spec_FpOf.calls a0 t346 _ A4.out).mono ?_); rintro e w' ⟨rfl, ⟨nd, rfl⟩⟩; refine ⟨_, rfl, ?_⟩))
  go_ret2
  exact ⟨rS, rD⟩
def spec_l07Curve.l0 : Nat → Int → Int → List Int → Int → Int → Option (Int × Int × Bool × Int × Int)
 | 0, _, _, _, _, _ => none
 | k + 1, x3, x4, x1000, x1001, x1002 => if x4 < 60 then ((spec_l07Right.f (wrap64 (x3 + x4))).bind fun t380 => ((spec_FpRoot.f k t380).bind fun bt381 => (if bt381.2 = true then (some (wrap64 (x3 + x4), bt381.1, false, x1001, x1002)) else (spec_l07Curve.l0 k x3 (wrap64 (x4 + 1)) x1000 x1001 x1002)))) else ((spec_Base.f).bind fun bt377 => (some (bt377.1, bt377.2.1, bt377.2.2, x1001, x1002)))
def spec_l07Curve.f (k : Nat) (s0_0 : List Int) (s0_1 : Int) (s0_2 : Int) : Option (Int × Int × Bool × Int × Int) := (spec_l01Below.f s0_0 s0_1 s0_2 250).bind fun bt374 => (spec_l07Curve.l0 k bt374.1 0 s0_0 bt374.2.1 bt374.2.2)
theorem spec_l07Curve.calls (k : Nat) (g : Nat) (s0_0 : List Int) (s0_1 : Int) (s0_2 : Int) (r1 : Int) (r2 : Int) (r3 : Bool) (r4 : Int) (r5 : Int) (w0 w : World) (hI : IsS90 w0 w g s0_0 s0_1 s0_2) (hB : Below w0.heap.size w0 w) (h : spec_l07Curve.f k s0_0 s0_1 s0_2 = some (r1, r2, r3, r4, r5)) :
  Calls Tryz.prog 99 #[.pointer (some ⟨g, 0, none⟩)] w fun e w' => e = .returned (.agg #[.int .i64 r1, .int .i64 r2, .bool r3]) ∧ IsS90 w0 w' g s0_0 r4 r5 ∧ Below w0.heap.size w0 w' ∧ KeepBut w w' g none := by
 have hu28 := Tryz.underlying28
 have HI0 := Aside0.mk hI
 have HK := Aside0.mk (KeepBut.refl w g none)
 have HL := Aside0.mk hB.size
 clear hI
 have HW0 := Aside0.mk hB.size
 have HB := Aside0.mk hB
 clear hB
 unfold spec_l07Curve.f at h
 have H := h
 clear h
 obtain ⟨⟨t374, t375, t376⟩, A2, H⟩ := oB H
 have H' := Aside0.mk H
 clear H
 go_enter Tryz.func99, Tryz.ntmps99
 go_wp2_with (first | ((with_reducible refine gate_dst (N := 2) rfl ?_); refine bE 2 #[.int .i64 0, .int .i64 0, .bool false] 28 ?_; intro gb373 hg w3 hbox hb; replace HB := Aside0.mk (below_step (jZ90 HB HI0) hb); have BK373 := Aside0.mk (hbox); have GW373 := Aside0.mk ((by rw [hg]; exact (keep_size (w := w) (g := g) (row := none) (kZ HK)) : w.heap.size ≤ gb373)); have GE373 := Aside0.mk ((Nat.le_trans HW0.out (by rw [hg]; exact (keep_size (w := w) (g := g) (row := none) (kZ HK)) : w.heap.size ≤ gb373) : w0.heap.size ≤ gb373)); replace HK := Aside0.mk (KeepBut.trans (kZ HK) (KeepBut.of_below hb g none) (.inl rfl)); have NB0_373 := Aside0.mk ((by rw [hg]; exact Nat.ne_of_lt (IsS90.lt (show IsS90 w0 _ g s0_0 s0_1 s0_2 from iZ90 HI0)) : g ≠ gb373)); have NB373_0 := Aside0.mk ((by rw [hg]; exact Nat.ne_of_gt (IsS90.lt (show IsS90 w0 _ g s0_0 s0_1 s0_2 from iZ90 HI0)) : gb373 ≠ g)); replace HI0 := Aside0.mk (IsS90.below (iZ90 HI0) hb); clear hb hbox hg) | (refine gC (some 8) Tryz.func44 #[.pointer (some ⟨g, 0, none⟩), .int .i64 250] ?_; (with_reducible refine (spec_l01Below.calls g s0_0 s0_1 s0_2 250 t374 t375 t376 w0 _ ?side1 ?side2 A2.out).mono ?_); (case side1 => exact iZ90 HI0); (case side2 => exact jZ90 HB HI0); rintro e w4 ⟨rfl, hi, hb, hk⟩; refine ⟨_, rfl, ?_⟩; replace BK373 := Aside0.mk (KeepBut.blk hk (g' := gb373) (o := .cells #[.int .i64 0, .int .i64 0, .bool false] 28 (0, 0)) (bP BK373) NB373_0.out (by simp)); replace HK := Aside0.mk (KeepBut.trans (kZ HK) hk (.inl rfl)); replace HB := Aside0.mk (hb); replace HI0 := Aside0.mk (hi); (try clear hb)))
 go_loopg [4] k (fun kq v4 w' => ∃ (x4_1 : Int) (x374000_1 : Int) (x374001_1 : Int) (x374002_1 : Bool), v4 = .int .i64 x4_1 ∧ Aside0 (spec_l07Curve.l0 kq t374 x4_1 s0_0 t375 t376 = some (r1, r2, r3, r4, r5)) ∧ Aside0 (kq ≤ k) ∧ Aside0 (w'.heap[gb373]? = some (.cells #[.int .i64 x374000_1, .int .i64 x374001_1, .bool x374002_1] 28 (0, 0))) ∧ Aside0 (IsS90 w0 w' g s0_0 t375 t376) ∧ Aside0 (KeepBut w w' g none) ∧ Aside0 (Below w0.heap.size w0 w'))
 case atStart => exact ⟨(0), (0), (0), (false), rS, H', ⟨Nat.le_refl _⟩, ⟨bP BK373⟩, ⟨iZ90 HI0⟩, ⟨kZ HK⟩, ⟨jZ90 HB HI0⟩⟩
 case round =>
  clear H'
  try clear p2
  try clear c4
  obtain ⟨x4_1, x374000_1, x374001_1, x374002_1, rfl, HA, HK1, BK373, HI0, HK, HB⟩ := hrel
  cases gk with
  | zero => exact absurd HA.out (by simp [spec_l07Curve.l0])
  | succ k1 =>
   have H := HA.out
   clear HA
   simp only [spec_l07Curve.l0] at H
   by_cases c5 : x4_1 < 60
   ·rw [if_pos c5] at H
    have c5b0 := decide_eq_true c5
    clear c5
    obtain ⟨t380, A6, H⟩ := oB H
    obtain ⟨⟨t381, t382⟩, A7, H⟩ := oB H
    by_cases c8 : t382 = true
    ·subst c8
     rw [if_pos rfl] at H
     simp only [Option.some.injEq, Prod.mk.injEq] at H
     obtain ⟨rfl, rfl, rfl, rfl, rfl⟩ := H
     go_wp2_with (first | (refine gC (some 17) Tryz.func64 #[.int .i64 (wrap64 (t374 + x4_1))] ?_; (with_reducible refine (spec_l07Right.calls (wrap64 (t374 + x4_1)) t380 _ A6.out).mono ?_); rintro e w' ⟨rfl, ⟨nd, rfl⟩⟩; refine ⟨_, rfl, ?_⟩; (try simp only [World.drewN_drewN]); (try (rw [drewN_self wr]; generalize hq_ : World.drewN wr _ = wr; replace BK373 : Aside0 (wr.heap[gb373]? = some (.cells #[.int .i64 x374000_1, .int .i64 x374001_1, .bool x374002_1] 28 (0, 0))) := ⟨by rw [← hq_]; exact (bP BK373)⟩; replace HK : Aside0 (KeepBut w wr g none) := ⟨by rw [← hq_]; exact (kZ HK)⟩; replace HB : Aside0 (Below w0.heap.size w0 wr) := ⟨by rw [← hq_]; exact (jZ90 HB HI0)⟩; replace HI0 : Aside0 (IsS90 w0 wr g s0_0 t375 t376) := ⟨by rw [← hq_]; exact (iZ90 HI0)⟩; clear hq_))) | (refine gC (some 18) Tryz.func63 #[.int .i64 t380] ?_; (with_reducible refine (spec_FpRoot.calls k1 t380 t381 true _ A7.out).mono ?_); rintro e w' ⟨rfl, ⟨nd, rfl⟩⟩; refine ⟨_, rfl, ?_⟩; (try simp only [World.drewN_drewN]); (try (rw [drewN_self wr]; generalize hq_ : World.drewN wr _ = wr; replace BK373 : Aside0 (wr.heap[gb373]? = some (.cells #[.int .i64 x374000_1, .int .i64 x374001_1, .bool x374002_1] 28 (0, 0))) := ⟨by rw [← hq_]; exact (bP BK373)⟩; replace HK : Aside0 (KeepBut w wr g none) := ⟨by rw [← hq_]; exact (kZ HK)⟩; replace HB : Aside0 (Below w0.heap.size w0 wr) := ⟨by rw [← hq_]; exact (jZ90 HB HI0)⟩; replace HI0 : Aside0 (IsS90 w0 wr g s0_0 t375 t376) := ⟨by rw [← hq_]; exact (iZ90 HI0)⟩; clear hq_)); obtain ⟨hnb9, hnc9⟩ := nB NB373_0; obtain ⟨hcz10_0, hcz10_1, hcz10_2, hfz10_0, hfz10_1, hfz10_2⟩ := bK3 (w := wr) BK373))
     refine rC gb373 28 #[.int .i64 (wrap64 (t374 + x4_1)), .int .i64 t381, .bool false] (bU BK373) Tryz.underlying28 ?_
     exact ⟨by first | rfl | (simp [errW_none, errW_some] <;> rfl) | (simp [*, errW_none, errW_some] <;> rfl), iZ90 HI0, jZ90 HB HI0, kZ HK⟩
    ·replace c8 := Bool.eq_false_iff.mpr c8
     subst c8
     rw [if_neg (show ¬ (false = true) by decide)] at H
     have H' := Aside0.mk H
     clear H
     go_wp2_with (first | (refine gC (some 17) Tryz.func64 #[.int .i64 (wrap64 (t374 + x4_1))] ?_; (with_reducible refine (spec_l07Right.calls (wrap64 (t374 + x4_1)) t380 _ A6.out).mono ?_); rintro e w' ⟨rfl, ⟨nd, rfl⟩⟩; refine ⟨_, rfl, ?_⟩) | (refine gC (some 18) Tryz.func63 #[.int .i64 t380] ?_; (with_reducible refine (spec_FpRoot.calls k1 t380 t381 false _ A7.out).mono ?_); rintro e w' ⟨rfl, ⟨nd, rfl⟩⟩; refine ⟨_, rfl, ?_⟩))
     go_roundg k1
     case measure => have := HK1.out; omega
     case rel => exact ⟨(wrap64 (x4_1 + 1)), (x374000_1), (x374001_1), (x374002_1), rS, H', ⟨by have := HK1.out; omega⟩, ⟨bP BK373⟩, ⟨iZ90 HI0⟩, ⟨kZ HK⟩, ⟨jZ90 HB HI0⟩⟩
   ·rw [if_neg c5] at H
    have c5b0 := decide_eq_false c5
    clear c5
    obtain ⟨⟨t377, t378, t379⟩, A11, H⟩ := oB H
    simp only [Option.some.injEq, Prod.mk.injEq] at H
    obtain ⟨rfl, rfl, rfl, rfl, rfl⟩ := H
    go_wp2_with (first | (refine gC (some 27) Tryz.func66 #[] ?_; (with_reducible refine (spec_Base.calls  t377 t378 t379 _ A11.out).mono ?_); rintro e w12 ⟨rfl, hb⟩; refine ⟨_, rfl, ?_⟩; replace BK373 := bB BK373 hb; replace HK := Aside0.mk (KeepBut.trans (kZ HK) (KeepBut.of_below hb g none) (.inl rfl)); replace HB := Aside0.mk (below_step (jZ90 HB HI0) hb); replace HI0 := Aside0.mk (IsS90.below (iZ90 HI0) hb); (try clear hb); obtain ⟨hnb13, hnc13⟩ := nB NB373_0; obtain ⟨hcz14_0, hcz14_1, hcz14_2, hfz14_0, hfz14_1, hfz14_2⟩ := bK3 (w := w12) BK373))
    refine rC gb373 28 #[.int .i64 t377, .int .i64 t378, .bool t379] (bU BK373) Tryz.underlying28 ?_
    exact ⟨by first | rfl | (simp [errW_none, errW_some] <;> rfl) | (simp [*, errW_none, errW_some] <;> rfl), iZ90 HI0, jZ90 HB HI0, kZ HK⟩
def spec_l01PickInt.f (s0_0 : List Int) (s0_1 : Int) (s0_2 : Int) (l1 : List Int) : Option (Int × Int × Int) := (spec_l01Below.f s0_0 s0_1 s0_2 (l1.length : Int)).bind fun bt232 => (if 0 ≤ bt232.1 then (if bt232.1 < (l1.length : Int) then (some (rd l1 bt232.1, bt232.2.1, bt232.2.2)) else (none)) else (none))
theorem spec_l01PickInt.calls (g : Nat) (s0_0 : List Int) (s0_1 : Int) (s0_2 : Int) (A1 : Option Addr) (c1 : Nat) (l1 : List Int) (r1 : Int) (r2 : Int) (r3 : Int) (w0 w : World) (hI : IsS90 w0 w g s0_0 s0_1 s0_2) (hB : Below w0.heap.size w0 w) (hr1 : Kd.C (Kd.int .i64) w A1 l1.length l1) (hc1 : l1.length ≤ c1) (hf1 : ∀ ad, A1 = some ad → 0 < l1.length → ad.block ≠ g) (h : spec_l01PickInt.f s0_0 s0_1 s0_2 l1 = some (r1, r2, r3)) :
  Calls Tryz.prog 91 #[.pointer (some ⟨g, 0, none⟩), .slice A1 l1.length c1] w fun e w' => e = .returned (.int .i64 r1) ∧ IsS90 w0 w' g s0_0 r2 r3 ∧ Below w0.heap.size w0 w' ∧ KeepBut w w' g none := by
 have HR1 := Aside0.mk hr1
 have HC1 := Aside0.mk hc1
 clear hr1 hc1
 have HI0 := Aside0.mk hI
 have HK := Aside0.mk (KeepBut.refl w g none)
 have HL := Aside0.mk hB.size
 clear hI
 have HW0 := Aside0.mk hB.size
 have HB := Aside0.mk hB
 clear hB
 unfold spec_l01PickInt.f at h
 have H := h
 clear h
 obtain ⟨⟨t232, t233, t234⟩, A3, H⟩ := oB H
 by_cases c4 : 0 ≤ t232
 ·rw [if_pos c4] at H
  have c4b0 := decide_eq_true c4
  clear c4
  by_cases c5 : t232 < (l1.length : Int)
  ·rw [if_pos c5] at H
   have c5b0 := decide_eq_true c5
   clear c5
   simp only [Option.some.injEq, Prod.mk.injEq] at H
   obtain ⟨rfl, rfl, rfl⟩ := H
   go_enter Tryz.func91, Tryz.ntmps91
   go_wp2_with (first | (refine gC (some 9) Tryz.func44 #[.pointer (some ⟨g, 0, none⟩), .int .i64 (l1.length : Int)] ?_; (with_reducible refine (spec_l01Below.calls g s0_0 s0_1 s0_2 (l1.length : Int) t232 t233 t234 w0 _ ?side1 ?side2 A3.out).mono ?_); (case side1 => exact iZ90 HI0); (case side2 => exact jZ90 HB HI0); rintro e w6 ⟨rfl, hi, hb, hk⟩; refine ⟨_, rfl, ?_⟩; replace HK := Aside0.mk (KeepBut.trans (kZ HK) hk (.inl rfl)); replace HB := Aside0.mk (hb); replace HI0 := Aside0.mk (hi); (try clear hb); have p235 : 0 ≤ (t232 : Int) := aQ; have q235 : t232 < (l1.length : Int) := aQ; obtain ⟨ad235, e235, hx235_0⟩ := Kd.at_int HR1.out t232 p235 q235; cases e235; replace hx235_0 := keep_cell HK.out hx235_0 (by first | (rw [add_block]; exact hf1 _ rfl (by omega)) | exact hf1 _ rfl (by omega) | exact hf1 ad235 rfl (by omega)); replace p235 := eq_true p235; replace q235 := eq_true q235))
   go_ret
   exact ⟨by first | rfl | (simp [errW_none, errW_some] <;> rfl) | (simp [*, errW_none, errW_some] <;> rfl), iZ90 HI0, jZ90 HB HI0, kZ HK⟩
  ·rw [if_neg c5] at H
   exact absurd H (by simp)
 ·rw [if_neg c4] at H
  exact absurd H (by simp)
def spec_l04Num.f (s0_0 : List Int) (s0_1 : Int) (s0_2 : Int) : Option (Int × Int × Int) := (spec_l01Below.f s0_0 s0_1 s0_2 256).bind fun bt383 => ((spec_l01Below.f s0_0 bt383.2.1 bt383.2.2 256).bind fun bt386 => ((spec_l01PickInt.f s0_0 bt386.2.1 bt386.2.2 (([0, 1, 2, 3, 12106, 12107, 12108, (-1), wrap64 (5000 + bt383.1), wrap64 (bt386.1 * 47), (-9223372036854775808), 9223372036854775807] : List Int))).bind fun bt392 => (some (bt392.1, bt392.2.1, bt392.2.2))))
theorem spec_l04Num.calls (g : Nat) (s0_0 : List Int) (s0_1 : Int) (s0_2 : Int) (r1 : Int) (r2 : Int) (r3 : Int) (w0 w : World) (hI : IsS90 w0 w g s0_0 s0_1 s0_2) (hB : Below w0.heap.size w0 w) (h : spec_l04Num.f s0_0 s0_1 s0_2 = some (r1, r2, r3)) :
  Calls Tryz.prog 100 #[.pointer (some ⟨g, 0, none⟩)] w fun e w' => e = .returned (.int .i64 r1) ∧ IsS90 w0 w' g s0_0 r2 r3 ∧ Below w0.heap.size w0 w' ∧ KeepBut w w' g none := by
 have HI0 := Aside0.mk hI
 have HK := Aside0.mk (KeepBut.refl w g none)
 have HL := Aside0.mk hB.size
 clear hI
 have HW0 := Aside0.mk hB.size
 have HB := Aside0.mk hB
 clear hB
 unfold spec_l04Num.f at h
 have H := h
 clear h
 obtain ⟨⟨t383, t384, t385⟩, A2, H⟩ := oB H
 obtain ⟨⟨t386, t387, t388⟩, A3, H⟩ := oB H
 obtain ⟨y389, hy389⟩ : ∃ y_ : List Int, y_ = (([0, 1, 2, 3, 12106, 12107, 12108, (-1), wrap64 (5000 + t383), wrap64 (t386 * 47), (-9223372036854775808), 9223372036854775807] : List Int)) := ⟨_, rfl⟩
 replace H : ((spec_l01PickInt.f s0_0 t387 t388 y389).bind fun bt392 => (some (bt392.1, bt392.2.1, bt392.2.2))) = some (r1, r2, r3) := yR hy389 H
 have Ny389 := Aside0.mk hy389
 clear hy389
 obtain ⟨⟨t392, t393, t394⟩, A4, H⟩ := oB H
 simp only [Option.some.injEq, Prod.mk.injEq] at H
 obtain ⟨rfl, rfl, rfl⟩ := H
 go_enter Tryz.func100, Tryz.ntmps100
 go_wp2_with (first | (refine gC (some 5) Tryz.func44 #[.pointer (some ⟨g, 0, none⟩), .int .i64 256] ?_; (with_reducible refine (spec_l01Below.calls g s0_0 s0_1 s0_2 256 t383 t384 t385 w0 _ ?side1 ?side2 A2.out).mono ?_); (case side1 => exact iZ90 HI0); (case side2 => exact jZ90 HB HI0); rintro e w5 ⟨rfl, hi, hb, hk⟩; refine ⟨_, rfl, ?_⟩; replace HK := Aside0.mk (KeepBut.trans (kZ HK) hk (.inl rfl)); replace HB := Aside0.mk (hb); replace HI0 := Aside0.mk (hi); (try clear hb)) | (refine gC (some 8) Tryz.func44 #[.pointer (some ⟨g, 0, none⟩), .int .i64 256] ?_; (with_reducible refine (spec_l01Below.calls g s0_0 t384 t385 256 t386 t387 t388 w0 _ ?side1 ?side2 A3.out).mono ?_); (case side1 => exact iZ90 HI0); (case side2 => exact jZ90 HB HI0); rintro e w6 ⟨rfl, hi, hb, hk⟩; refine ⟨_, rfl, ?_⟩; replace HK := Aside0.mk (KeepBut.trans (kZ HK) hk (.inl rfl)); replace HB := Aside0.mk (hb); replace HI0 := Aside0.mk (hi); (try clear hb)) | ((with_reducible refine gate_dst (N := 10) rfl ?_); refine Kd.R_lit (Kd.int .i64) _ 3 ?hg (N := 10) ?hd (xs := ([0, 1, 2, 3, 12106, 12107, 12108, (-1), wrap64 (5000 + t383), wrap64 (t386 * 47), (-9223372036854775808), 9223372036854775807] : List Int)) (inner := [.int .i64 0, .int .i64 1, .int .i64 2, .int .i64 3, .int .i64 12106, .int .i64 12107, .int .i64 12108, .int .i64 (-1), .int .i64 (wrap64 (5000 + t383)), .int .i64 (wrap64 (t386 * 47)), .int .i64 (-9223372036854775808), .int .i64 9223372036854775807]) (ok := fun _ => True) (okp := fun _ => True) ?hr ?hp (fun _ hk => hk) trivial (Below.refl _ _) (Nat.le_refl _) (by simp) ?_; (case hd => rfl); (case hg => rfl); (case hr => first | (go_simp; done) | (go_simp; rfl)); (case hp => exact (Reps.one (show Kd.M (Kd.int .i64) _ _ _ 0 [.int .i64 0] from rfl) (Reps.one (show Kd.M (Kd.int .i64) _ _ _ 1 [.int .i64 1] from rfl) (Reps.one (show Kd.M (Kd.int .i64) _ _ _ 2 [.int .i64 2] from rfl) (Reps.one (show Kd.M (Kd.int .i64) _ _ _ 3 [.int .i64 3] from rfl) (Reps.one (show Kd.M (Kd.int .i64) _ _ _ 12106 [.int .i64 12106] from rfl) (Reps.one (show Kd.M (Kd.int .i64) _ _ _ 12107 [.int .i64 12107] from rfl) (Reps.one (show Kd.M (Kd.int .i64) _ _ _ 12108 [.int .i64 12108] from rfl) (Reps.one (show Kd.M (Kd.int .i64) _ _ _ (-1) [.int .i64 (-1)] from rfl) (Reps.one (show Kd.M (Kd.int .i64) _ _ _ (wrap64 (5000 + t383)) [.int .i64 (wrap64 (5000 + t383))] from rfl) (Reps.one (show Kd.M (Kd.int .i64) _ _ _ (wrap64 (t386 * 47)) [.int .i64 (wrap64 (t386 * 47))] from rfl) (Reps.one (show Kd.M (Kd.int .i64) _ _ _ (-9223372036854775808) [.int .i64 (-9223372036854775808)] from rfl) (Reps.one (show Kd.M (Kd.int .i64) _ _ _ 9223372036854775807 [.int .i64 9223372036854775807] from rfl) (Reps.none _ _)))))))))))))); intro v390 w7 ho8 hb hg_ hnew_; clear hg_ hnew_; (first | rw [← Ny389.out] at ho8 | (simp only [Int.reduceToNat] at ho8; rw [← Ny389.out] at ho8)); have HO391 := Aside0.mk (Kd.R_lower ho8 (keep_size (w := w) (g := g) (row := none) (kZ HK))); replace HK := Aside0.mk (KeepBut.trans (kZ HK) (KeepBut.of_below hb g none) (.inl rfl)); replace HB := Aside0.mk (below_step (jZ90 HB HI0) hb); replace HI0 := Aside0.mk (IsS90.below (iZ90 HI0) hb); clear hb ho8; obtain ⟨Ao9, co9, eo9⟩ := Kd.R_slice HO391.out; subst eo9) | (refine gC (some 11) Tryz.func91 #[.pointer (some ⟨g, 0, none⟩), .slice Ao9 y389.length co9] ?_; (with_reducible refine (spec_l01PickInt.calls g s0_0 t387 t388 _ _ y389 t392 t393 t394 w0 _ ?side1 ?side2 ?side3 ?side4 ?side5 A4.out).mono ?_); (case side1 => exact iZ90 HI0); (case side2 => exact jZ90 HB HI0); (case side3 => exact cP ((Kd.R_reads' HO391.out).2.2)); (case side4 => exact (Kd.R_reads' HO391.out).2.1); (case side5 => exact far_slice (IsS90.own_ne HI0.out HO391.out (by decide))); rintro e w10 ⟨rfl, hi, hb, hk⟩; refine ⟨_, rfl, ?_⟩; replace HO391 := Aside0.mk (Kd.R_mono (Kd.R_keep (IsS90.apart (show IsS90 w0 _ g s0_0 t387 t388 from iZ90 HI0) (rP HO391) (by decide)) hk (fun _ h => h.2)) (fun _ h => h.1)); replace HK := Aside0.mk (KeepBut.trans (kZ HK) hk (.inl rfl)); replace HB := Aside0.mk (hb); replace HI0 := Aside0.mk (hi); (try clear hb)))
 go_ret
 exact ⟨by first | rfl | (simp [errW_none, errW_some] <;> rfl) | (simp [*, errW_none, errW_some] <;> rfl), iZ90 HI0, jZ90 HB HI0, kZ HK⟩
def spec_l07Zero.f  : Option (Int × Int × Bool) := some (0, 0, true)
theorem spec_l07Zero.calls  (r1 : Int) (r2 : Int) (r3 : Bool) (w : World) (h : spec_l07Zero.f  = some (r1, r2, r3)) :
  Calls Tryz.prog 81 #[] w fun e w' => e = .returned (.agg #[.int .i64 r1, .int .i64 r2, .bool r3]) ∧ Below w.heap.size w w' := by
 have hu28 := Tryz.underlying28
 have HB := Aside0.mk (Below.refl w.heap.size w)
 have H : (some (0, 0, true)) = some (r1, r2, r3) := h
 clear h
 simp only [Option.some.injEq, Prod.mk.injEq] at H
 obtain ⟨rfl, rfl, rfl⟩ := H
 go_enter Tryz.func81, Tryz.ntmps81
 go_wp2_with (first | (refine gB 0 #[.int .i64 0, .int .i64 0, .bool false] 28 ?_; intro gb255 hg w1 BK255 hb; have GW255 := bG HB hg; replace HB := bS HB hb; clear hb hg; obtain ⟨hcz2_0, hcz2_1, hcz2_2, hfz2_0, hfz2_1, hfz2_2⟩ := bK3 (w := w1) BK255))
 refine rC gb255 28 #[.int .i64 0, .int .i64 0, .bool true] (bU BK255) Tryz.underlying28 ?_
 exact ⟨rR, bZ HB⟩
def spec_l01In.f (a0 : Int) (a1 : Int) (a2 : Int) : Option (Bool) := if a0 ≥ a1 then (some (decide (a0 ≤ a2))) else (some false)
theorem spec_l01In.calls (a0 : Int) (a1 : Int) (a2 : Int) (r : Bool) (w : World) (h : spec_l01In.f a0 a1 a2 = some r) :
  Calls Tryz.prog 79 #[.int .i64 a0, .int .i64 a1, .int .i64 a2] w fun e w' => e = .returned (.bool r) ∧ Drawn0 w w' := by
 unfold spec_l01In.f at h
 have H := h
 clear h
 by_cases c4 : a0 ≥ a1
 ·rw [if_pos c4] at H
  have c4b0 := decide_eq_true c4
  clear c4
  obtain rfl := Option.some.inj H
  go_enter Tryz.func79, Tryz.ntmps79
  go_wp2
  go_ret
  exact ⟨rS, rD⟩
 ·rw [if_neg c4] at H
  have c4b0 := decide_eq_false c4
  clear c4
  obtain rfl := Option.some.inj H
  go_enter Tryz.func79, Tryz.ntmps79
  go_wp2
  go_ret
  exact ⟨rS, rD⟩
def spec_FpOk.f (a0 : Int) : Option (Bool) := (spec_l01In.f a0 0 12106).bind fun t265 => (some t265)
theorem spec_FpOk.calls (a0 : Int) (r : Bool) (w : World) (h : spec_FpOk.f a0 = some r) :
  Calls Tryz.prog 125 #[.int .i64 a0] w fun e w' => e = .returned (.bool r) ∧ Drawn0 w w' := by
 have H : ((spec_l01In.f a0 0 12106).bind fun t265 => (some t265)) = some r := h
 clear h
 obtain ⟨t265, A2, H⟩ := oB H
 obtain rfl := Option.some.inj H
 go_enter Tryz.func125, Tryz.ntmps125
 go_wp2_with (first | (refine gC (some 4) Tryz.func79 #[.int .i64 a0, .int .i64 0, .int .i64 12106] ?_; (with_reducible refine (spec_l01In.calls a0 0 12106 t265 _ A2.out).mono ?_); rintro e w' ⟨rfl, ⟨nd, rfl⟩⟩; refine ⟨_, rfl, ?_⟩))
 go_ret
 exact ⟨rS, rD⟩
def spec_PointOk.f (a0_0 : Int) (a0_1 : Int) (a0_2 : Bool) : Option (Bool) := if a0_2 = true then (if a0_0 = 0 then (some (a0_1 == 0)) else (some false)) else ((spec_FpOk.f a0_0).bind fun t267 => (if t267 = true then ((spec_FpOk.f a0_1).bind fun t268 => (if t268 = true then ((spec_FpMul.f a0_1 a0_1).bind fun t269 => ((spec_l07Right.f a0_0).bind fun t270 => (some (t269 == t270)))) else (some false))) else (some false)))
theorem spec_PointOk.calls (a0_0 : Int) (a0_1 : Int) (a0_2 : Bool) (r : Bool) (w : World) (h : spec_PointOk.f a0_0 a0_1 a0_2 = some r) :
  Calls Tryz.prog 115 #[.agg #[.int .i64 a0_0, .int .i64 a0_1, .bool a0_2]] w fun e w' => e = .returned (.bool r) ∧ Below w.heap.size w w' := by
 have hu28 := Tryz.underlying28
 have HB := Aside0.mk (Below.refl w.heap.size w)
 unfold spec_PointOk.f at h
 have H := h
 clear h
 by_cases c2 : a0_2 = true
 ·subst c2
  rw [if_pos rfl] at H
  by_cases c3 : a0_0 = 0
  ·rw [if_pos c3] at H
   have c3b0 : (a0_0 == 0) = true := beq_iff_eq.mpr c3
   have c3b1 : (a0_0 != 0) = false := bne_eq_false_iff_eq.mpr c3
   clear c3
   obtain rfl := Option.some.inj H
   go_enter Tryz.func115, Tryz.ntmps115
   go_wp2_with (first | (refine gB 1 #[.int .i64 a0_0, .int .i64 a0_1, .bool true] 28 ?_; intro gb266 hg w4 BK266 hb; have GW266 := bG HB hg; replace HB := bS HB hb; clear hb hg; obtain ⟨hcz5_0, hcz5_1, hcz5_2, hfz5_0, hfz5_1, hfz5_2⟩ := bK3 (w := w4) BK266))
   repeat (go_quiet (first | (refine gB 1 #[.int .i64 a0_0, .int .i64 a0_1, .bool true] 28 ?_; intro gb266 hg w4 BK266 hb; have GW266 := bG HB hg; replace HB := bS HB hb; clear hb hg; obtain ⟨hcz5_0, hcz5_1, hcz5_2, hfz5_0, hfz5_1, hfz5_2⟩ := bK3 (w := w4) BK266)); try go_wp2)
   go_ret
   exact ⟨rR, bZ HB⟩
  ·rw [if_neg c3] at H
   have c3b0 : (a0_0 == 0) = false := beq_eq_false_iff_ne.mpr c3
   have c3b1 : (a0_0 != 0) = true := bne_iff_ne.mpr c3
   obtain rfl := Option.some.inj H
   go_enter Tryz.func115, Tryz.ntmps115
   go_wp2_with (first | (refine gB 1 #[.int .i64 a0_0, .int .i64 a0_1, .bool true] 28 ?_; intro gb266 hg w6 BK266 hb; have GW266 := bG HB hg; replace HB := bS HB hb; clear hb hg; obtain ⟨hcz7_0, hcz7_1, hcz7_2, hfz7_0, hfz7_1, hfz7_2⟩ := bK3 (w := w6) BK266))
   repeat (go_quiet (first | (refine gB 1 #[.int .i64 a0_0, .int .i64 a0_1, .bool true] 28 ?_; intro gb266 hg w6 BK266 hb; have GW266 := bG HB hg; replace HB := bS HB hb; clear hb hg; obtain ⟨hcz7_0, hcz7_1, hcz7_2, hfz7_0, hfz7_1, hfz7_2⟩ := bK3 (w := w6) BK266)); try go_wp2)
   go_ret
   exact ⟨rR, bZ HB⟩
 ·replace c2 := Bool.eq_false_iff.mpr c2
  subst c2
  rw [if_neg (show ¬ (false = true) by decide)] at H
  obtain ⟨t267, A8, H⟩ := oB H
  by_cases c9 : t267 = true
  ·subst c9
   rw [if_pos rfl] at H
   obtain ⟨t268, A10, H⟩ := oB H
   by_cases c11 : t268 = true
   ·subst c11
    rw [if_pos rfl] at H
    obtain ⟨t269, A12, H⟩ := oB H
    obtain ⟨t270, A13, H⟩ := oB H
    obtain rfl := Option.some.inj H
    go_enter Tryz.func115, Tryz.ntmps115
    go_wp2_with (first | (refine gB 1 #[.int .i64 a0_0, .int .i64 a0_1, .bool false] 28 ?_; intro gb266 hg w14 BK266 hb; have GW266 := bG HB hg; replace HB := bS HB hb; clear hb hg; obtain ⟨hcz15_0, hcz15_1, hcz15_2, hfz15_0, hfz15_1, hfz15_2⟩ := bK3 (w := w14) BK266) | (go_at_call 125; (with_reducible refine (spec_FpOk.calls a0_0 true _ A8.out).mono ?_); rintro e w' ⟨rfl, ⟨nd, rfl⟩⟩; (try exact tD)) | (go_at_call 125; (with_reducible refine (spec_FpOk.calls a0_1 true _ A10.out).mono ?_); rintro e w' ⟨rfl, ⟨nd, rfl⟩⟩; (try exact tD)) | (go_at_call 112; (with_reducible refine (spec_FpMul.calls a0_1 a0_1 t269 _ A12.out).mono ?_); rintro e w' ⟨rfl, ⟨nd, rfl⟩⟩; (try exact tD)) | (go_at_call 64; (with_reducible refine (spec_l07Right.calls a0_0 t270 _ A13.out).mono ?_); rintro e w' ⟨rfl, ⟨nd, rfl⟩⟩; (try exact tD)))
    repeat (go_quiet (first | (refine gB 1 #[.int .i64 a0_0, .int .i64 a0_1, .bool false] 28 ?_; intro gb266 hg w14 BK266 hb; have GW266 := bG HB hg; replace HB := bS HB hb; clear hb hg; obtain ⟨hcz15_0, hcz15_1, hcz15_2, hfz15_0, hfz15_1, hfz15_2⟩ := bK3 (w := w14) BK266) | (go_at_call 125; (with_reducible refine (spec_FpOk.calls a0_0 true _ A8.out).mono ?_); rintro e w' ⟨rfl, ⟨nd, rfl⟩⟩; (try exact tD)) | (go_at_call 125; (with_reducible refine (spec_FpOk.calls a0_1 true _ A10.out).mono ?_); rintro e w' ⟨rfl, ⟨nd, rfl⟩⟩; (try exact tD)) | (go_at_call 112; (with_reducible refine (spec_FpMul.calls a0_1 a0_1 t269 _ A12.out).mono ?_); rintro e w' ⟨rfl, ⟨nd, rfl⟩⟩; (try exact tD)) | (go_at_call 64; (with_reducible refine (spec_l07Right.calls a0_0 t270 _ A13.out).mono ?_); rintro e w' ⟨rfl, ⟨nd, rfl⟩⟩; (try exact tD))); try go_wp2)
    go_ret
    exact ⟨rR, bZ HB⟩
   ·replace c11 := Bool.eq_false_iff.mpr c11
    subst c11
    rw [if_neg (show ¬ (false = true) by decide)] at H
    obtain rfl := Option.some.inj H
    go_enter Tryz.func115, Tryz.ntmps115
    go_wp2_with (first | (refine gB 1 #[.int .i64 a0_0, .int .i64 a0_1, .bool false] 28 ?_; intro gb266 hg w16 BK266 hb; have GW266 := bG HB hg; replace HB := bS HB hb; clear hb hg; obtain ⟨hcz17_0, hcz17_1, hcz17_2, hfz17_0, hfz17_1, hfz17_2⟩ := bK3 (w := w16) BK266) | (go_at_call 125; (with_reducible refine (spec_FpOk.calls a0_0 true _ A8.out).mono ?_); rintro e w' ⟨rfl, ⟨nd, rfl⟩⟩; (try exact tD)) | (go_at_call 125; (with_reducible refine (spec_FpOk.calls a0_1 false _ A10.out).mono ?_); rintro e w' ⟨rfl, ⟨nd, rfl⟩⟩; (try exact tD)))
    repeat (go_quiet (first | (refine gB 1 #[.int .i64 a0_0, .int .i64 a0_1, .bool false] 28 ?_; intro gb266 hg w16 BK266 hb; have GW266 := bG HB hg; replace HB := bS HB hb; clear hb hg; obtain ⟨hcz17_0, hcz17_1, hcz17_2, hfz17_0, hfz17_1, hfz17_2⟩ := bK3 (w := w16) BK266) | (go_at_call 125; (with_reducible refine (spec_FpOk.calls a0_0 true _ A8.out).mono ?_); rintro e w' ⟨rfl, ⟨nd, rfl⟩⟩; (try exact tD)) | (go_at_call 125; (with_reducible refine (spec_FpOk.calls a0_1 false _ A10.out).mono ?_); rintro e w' ⟨rfl, ⟨nd, rfl⟩⟩; (try exact tD))); try go_wp2)
    go_ret
    exact ⟨rR, bZ HB⟩
  ·replace c9 := Bool.eq_false_iff.mpr c9
   subst c9
   rw [if_neg (show ¬ (false = true) by decide)] at H
   obtain rfl := Option.some.inj H
   go_enter Tryz.func115, Tryz.ntmps115
   go_wp2_with (first | (refine gB 1 #[.int .i64 a0_0, .int .i64 a0_1, .bool false] 28 ?_; intro gb266 hg w18 BK266 hb; have GW266 := bG HB hg; replace HB := bS HB hb; clear hb hg; obtain ⟨hcz19_0, hcz19_1, hcz19_2, hfz19_0, hfz19_1, hfz19_2⟩ := bK3 (w := w18) BK266) | (go_at_call 125; (with_reducible refine (spec_FpOk.calls a0_0 false _ A8.out).mono ?_); rintro e w' ⟨rfl, ⟨nd, rfl⟩⟩; (try exact tD)))
   repeat (go_quiet (first | (refine gB 1 #[.int .i64 a0_0, .int .i64 a0_1, .bool false] 28 ?_; intro gb266 hg w18 BK266 hb; have GW266 := bG HB hg; replace HB := bS HB hb; clear hb hg; obtain ⟨hcz19_0, hcz19_1, hcz19_2, hfz19_0, hfz19_1, hfz19_2⟩ := bK3 (w := w18) BK266) | (go_at_call 125; (with_reducible refine (spec_FpOk.calls a0_0 false _ A8.out).mono ?_); rintro e w' ⟨rfl, ⟨nd, rfl⟩⟩; (try exact tD))); try go_wp2)
   go_ret
   exact ⟨rR, bZ HB⟩
def spec_PointNeg.f (a0_0 : Int) (a0_1 : Int) (a0_2 : Bool) : Option (Int × Int × Bool) := if a0_2 = true then ((spec_l07Zero.f).bind fun bt276 => (some (bt276.1, bt276.2.1, bt276.2.2))) else ((spec_FpSub.f 0 a0_1).bind fun t279 => (some (a0_0, t279, false)))
theorem spec_PointNeg.calls (a0_0 : Int) (a0_1 : Int) (a0_2 : Bool) (r1 : Int) (r2 : Int) (r3 : Bool) (w : World) (h : spec_PointNeg.f a0_0 a0_1 a0_2 = some (r1, r2, r3)) :
  Calls Tryz.prog 116 #[.agg #[.int .i64 a0_0, .int .i64 a0_1, .bool a0_2]] w fun e w' => e = .returned (.agg #[.int .i64 r1, .int .i64 r2, .bool r3]) ∧ Below w.heap.size w w' := by
 have hu28 := Tryz.underlying28
 have HB := Aside0.mk (Below.refl w.heap.size w)
 unfold spec_PointNeg.f at h
 have H := h
 clear h
 by_cases c2 : a0_2 = true
 ·subst c2
  rw [if_pos rfl] at H
  obtain ⟨⟨t276, t277, t278⟩, A3, H⟩ := oB H
  simp only [Option.some.injEq, Prod.mk.injEq] at H
  obtain ⟨rfl, rfl, rfl⟩ := H
  go_enter Tryz.func116, Tryz.ntmps116
  go_wp2_with (first | (refine gB 1 #[.int .i64 a0_0, .int .i64 a0_1, .bool true] 28 ?_; intro gb274 hg w4 BK274 hb; have GW274 := bG HB hg; replace HB := bS HB hb; clear hb hg) | (refine gB 2 #[.int .i64 0, .int .i64 0, .bool false] 28 ?_; intro gb275 hg w5 BK275 hb; have GW275 := bG HB hg; replace HB := bS HB hb; obtain ⟨NB274_275, NB275_274⟩ := bN BK274 hg; replace BK274 := bB BK274 hb; clear hb hg; obtain ⟨hnb6, hnc6⟩ := nB NB274_275; obtain ⟨hcz7_0, hcz7_1, hcz7_2, hfz7_0, hfz7_1, hfz7_2⟩ := bK3 (w := w5) BK274) | (refine gC (some 5) Tryz.func81 #[] ?_; (with_reducible refine (spec_l07Zero.calls  t276 t277 t278 _ A3.out).mono ?_); rintro e w8 ⟨rfl, hb⟩; refine ⟨_, rfl, ?_⟩; replace BK274 := bB BK274 hb; replace BK275 := bB BK275 hb; replace HB := bS HB hb; (try clear hb); obtain ⟨hcz9_0, hcz9_1, hcz9_2, hfz9_0, hfz9_1, hfz9_2⟩ := bK3 (w := w8) BK275))
  refine rC gb275 28 #[.int .i64 t276, .int .i64 t277, .bool t278] (bU BK275) Tryz.underlying28 ?_
  exact ⟨rR, bZ HB⟩
 ·replace c2 := Bool.eq_false_iff.mpr c2
  subst c2
  rw [if_neg (show ¬ (false = true) by decide)] at H
  obtain ⟨t279, A10, H⟩ := oB H
  simp only [Option.some.injEq, Prod.mk.injEq] at H
  obtain ⟨rfl, rfl, rfl⟩ := H
  go_enter Tryz.func116, Tryz.ntmps116
  try go_wp2_with (first | (refine gB 1 #[.int .i64 a0_0, .int .i64 a0_1, .bool false] 28 ?_; intro gb274 hg w11 BK274 hb; have GW274 := bG HB hg; replace HB := bS HB hb; clear hb hg) | (refine gB 2 #[.int .i64 0, .int .i64 0, .bool false] 28 ?_; intro gb275 hg w12 BK275 hb; have GW275 := bG HB hg; replace HB := bS HB hb; obtain ⟨NB274_275, NB275_274⟩ := bN BK274 hg; replace BK274 := bB BK274 hb; clear hb hg; obtain ⟨hnb13, hnc13⟩ := nB NB274_275; obtain ⟨hcz14_0, hcz14_1, hcz14_2, hfz14_0, hfz14_1, hfz14_2⟩ := bK3 (w := w12) BK274))
  replace BK274 := Aside0.mk (blk_drew BK274.out)
  replace BK275 := Aside0.mk (blk_drew BK275.out)
  replace HB := Aside0.mk (below_drew1 HB.out)
  refine start_ (n := 7) (S := fun w' => SQ3 w' gb274 (.int .i64 a0_0) (.int .i64 a0_1) (.bool false)) (ds := []) #[false, false, false, false, false, false, false] (by kernel_rfl) rfl rfl (bT3 BK274) (fun hHeld => ?_)
  generalize w12.drew = w15 at BK274 BK275 HB hHeld ⊢
  refine pJ 0 (some 6) ?_
  refine pJ 2 (some 8) ?_
  refine tJ 1 (some 7) hHeld ?_
  refine tJ 3 (some 9) hHeld ?_
  refine one_ (i := 4) (N := some 10) #[true, true, true, true, true, false, false] rfl rfl (by kernel_rfl) (by decide) (fun K hK => ?_)
  refine gO Tryz.func113 #[.int .i64 0, .int .i64 a0_1] ?_
  with_reducible refine (spec_FpSub.calls 0 a0_1 t279 _ A10.out).mono ?_
  rintro e w' ⟨rfl, ⟨nd, rfl⟩⟩
  refine ⟨_, rfl, ?_⟩
  refine hK.out _ _ (bT3 BK274) (fun hHeld => ?_)
  clear hK K
  refine nO (some 10) ?_
  refine pJ 5 (some 11) ?_
  refine one_ (i := 6) (N := none) #[true, true, true, true, true, true, true] rfl rfl (by kernel_rfl) (by decide) (fun K hK => ?_)
  have hs16 : w15.cell? ⟨gb275, 0, none⟩ = some (.int .i64 0) := bc BK275 0
  have hfs16 := blk_frozen BK275.out 0
  obtain ⟨hns16_0, hms16_0⟩ := nB NB274_275
  have hs17 : w15.cell? ⟨gb275, 1, none⟩ = some (.int .i64 0) := bc BK275 1
  have hfs17 := blk_frozen BK275.out 1
  obtain ⟨hns17_0, hms17_0⟩ := nB NB274_275
  have hs18 : w15.cell? ⟨gb275, 2, none⟩ = some (.bool false) := bc BK275 2
  have hfs18 := blk_frozen BK275.out 2
  obtain ⟨hns18_0, hms18_0⟩ := nB NB274_275
  refine skip_ (w1 := ?_) (by rfl) rfl ?_ ?_
  rotate_left
  ·go_simp
   rfl
  refine hK.out _ _ ⟨((cell_far (p := ⟨gb275, _, none⟩) NB274_275.out _).trans (((cell_far (p := ⟨gb275, _, none⟩) NB274_275.out _).trans (((cell_far (p := ⟨gb275, _, none⟩) NB274_275.out _).trans (hHeld.1)))))), ((cell_far (p := ⟨gb275, _, none⟩) NB274_275.out _).trans (((cell_far (p := ⟨gb275, _, none⟩) NB274_275.out _).trans (((cell_far (p := ⟨gb275, _, none⟩) NB274_275.out _).trans (hHeld.2.1)))))), ((cell_far (p := ⟨gb275, _, none⟩) NB274_275.out _).trans (((cell_far (p := ⟨gb275, _, none⟩) NB274_275.out _).trans (((cell_far (p := ⟨gb275, _, none⟩) NB274_275.out _).trans (hHeld.2.2))))))⟩ (fun hHeld => ?_)
  clear hK K
  refine done_ (by kernel_rfl) ?_
  try go_wp2
  refine rC gb275 28 #[.int .i64 a0_0, .int .i64 t279, .bool false] (bU BK275) Tryz.underlying28 ?_
  exact ⟨rR, bZ HB⟩
def spec_FpInv.f (k : Nat) (a0 : Int) : Option (Int) := (spec_FpPow.f k a0 12105).bind fun t284 => (some t284)
theorem spec_FpInv.calls (k : Nat) (a0 : Int) (r : Int) (w : World) (h : spec_FpInv.f k a0 = some r) :
  Calls Tryz.prog 142 #[.int .i64 a0] w fun e w' => e = .returned (.int .i64 r) ∧ Drawn0 w w' := by
 have H : ((spec_FpPow.f k a0 12105).bind fun t284 => (some t284)) = some r := h
 clear h
 obtain ⟨t284, A2, H⟩ := oB H
 obtain rfl := Option.some.inj H
 go_enter Tryz.func142, Tryz.ntmps142
 go_wp2_with (first | (refine gC (some 4) Tryz.func111 #[.int .i64 a0, .int .i64 12105] ?_; (with_reducible refine (spec_FpPow.calls k a0 12105 t284 _ A2.out).mono ?_); rintro e w' ⟨rfl, ⟨nd, rfl⟩⟩; refine ⟨_, rfl, ?_⟩))
 go_ret
 exact ⟨rS, rD⟩
def spec_l07Slope.f (k : Nat) (a0_0 : Int) (a0_1 : Int) (a0_2 : Bool) (a1_0 : Int) (a1_1 : Int) (a1_2 : Bool) : Option (Int × Bool) := if a0_0 = a1_0 then ((spec_FpAdd.f a0_1 a1_1).bind fun t291 => (if t291 = 0 then (some (0, false)) else ((spec_FpMul.f a0_0 a0_0).bind fun t292 => ((spec_FpMul.f 3 t292).bind fun t293 => ((spec_FpAdd.f t293 1).bind fun t294 => ((spec_FpMul.f 2 a0_1).bind fun t295 => ((spec_FpInv.f k t295).bind fun t296 => ((spec_FpMul.f t294 t296).bind fun t297 => (some (t297, true)))))))))) else ((spec_FpSub.f a1_1 a0_1).bind fun t287 => ((spec_FpSub.f a1_0 a0_0).bind fun t288 => ((spec_FpInv.f k t288).bind fun t289 => ((spec_FpMul.f t287 t289).bind fun t290 => (some (t290, true))))))
theorem spec_l07Slope.calls (k : Nat) (a0_0 : Int) (a0_1 : Int) (a0_2 : Bool) (a1_0 : Int) (a1_1 : Int) (a1_2 : Bool) (r1 : Int) (r2 : Bool) (w : World) (h : spec_l07Slope.f k a0_0 a0_1 a0_2 a1_0 a1_1 a1_2 = some (r1, r2)) :
  Calls Tryz.prog 140 #[.agg #[.int .i64 a0_0, .int .i64 a0_1, .bool a0_2], .agg #[.int .i64 a1_0, .int .i64 a1_1, .bool a1_2]] w fun e w' => e = .returned (.tuple #[.int .i64 r1, .bool r2]) ∧ Below w.heap.size w w' := by
 have hu28 := Tryz.underlying28
 have HB := Aside0.mk (Below.refl w.heap.size w)
 unfold spec_l07Slope.f at h
 have H := h
 clear h
 by_cases c3 : a0_0 = a1_0
 ·rw [if_pos c3] at H
  have c3b0 : (a0_0 == a1_0) = true := beq_iff_eq.mpr c3
  have c3b1 : (a0_0 != a1_0) = false := bne_eq_false_iff_eq.mpr c3
  clear c3
  obtain ⟨t291, A4, H⟩ := oB H
  by_cases c5 : t291 = 0
  ·rw [if_pos c5] at H
   have c5b0 : (t291 == 0) = true := beq_iff_eq.mpr c5
   have c5b1 : (t291 != 0) = false := bne_eq_false_iff_eq.mpr c5
   clear c5
   simp only [Option.some.injEq, Prod.mk.injEq] at H
   obtain ⟨rfl, rfl⟩ := H
   go_enter Tryz.func140, Tryz.ntmps140
   go_wp2_with (first | (refine gB 2 #[.int .i64 a0_0, .int .i64 a0_1, .bool a0_2] 28 ?_; intro gb285 hg w6 BK285 hb; have GW285 := bG HB hg; replace HB := bS HB hb; clear hb hg) | (refine gB 3 #[.int .i64 a1_0, .int .i64 a1_1, .bool a1_2] 28 ?_; intro gb286 hg w7 BK286 hb; have GW286 := bG HB hg; replace HB := bS HB hb; obtain ⟨NB285_286, NB286_285⟩ := bN BK285 hg; replace BK285 := bB BK285 hb; clear hb hg; obtain ⟨hnb8, hnc8⟩ := nB NB285_286; obtain ⟨hcz9_0, hcz9_1, hcz9_2, hfz9_0, hfz9_1, hfz9_2⟩ := bK3 (w := w7) BK285; obtain ⟨hcz10_0, hcz10_1, hcz10_2, hfz10_0, hfz10_1, hfz10_2⟩ := bK3 (w := w7) BK286) | (go_at_call 114; (with_reducible refine (spec_FpAdd.calls a0_1 a1_1 t291 _ A4.out).mono ?_); rintro e w' ⟨rfl, ⟨nd, rfl⟩⟩; (try exact tD)))
   repeat (go_quiet (first | (refine gB 2 #[.int .i64 a0_0, .int .i64 a0_1, .bool a0_2] 28 ?_; intro gb285 hg w6 BK285 hb; have GW285 := bG HB hg; replace HB := bS HB hb; clear hb hg) | (refine gB 3 #[.int .i64 a1_0, .int .i64 a1_1, .bool a1_2] 28 ?_; intro gb286 hg w7 BK286 hb; have GW286 := bG HB hg; replace HB := bS HB hb; obtain ⟨NB285_286, NB286_285⟩ := bN BK285 hg; replace BK285 := bB BK285 hb; clear hb hg; obtain ⟨hnb8, hnc8⟩ := nB NB285_286; obtain ⟨hcz9_0, hcz9_1, hcz9_2, hfz9_0, hfz9_1, hfz9_2⟩ := bK3 (w := w7) BK285; obtain ⟨hcz10_0, hcz10_1, hcz10_2, hfz10_0, hfz10_1, hfz10_2⟩ := bK3 (w := w7) BK286) | (go_at_call 114; (with_reducible refine (spec_FpAdd.calls a0_1 a1_1 t291 _ A4.out).mono ?_); rintro e w' ⟨rfl, ⟨nd, rfl⟩⟩; (try exact tD))); try go_wp2)
   go_ret2
   exact ⟨rR, bZ HB⟩
  ·rw [if_neg c5] at H
   have c5b0 : (t291 == 0) = false := beq_eq_false_iff_ne.mpr c5
   have c5b1 : (t291 != 0) = true := bne_iff_ne.mpr c5
   obtain ⟨t292, A11, H⟩ := oB H
   obtain ⟨t293, A12, H⟩ := oB H
   obtain ⟨t294, A13, H⟩ := oB H
   obtain ⟨t295, A14, H⟩ := oB H
   obtain ⟨t296, A15, H⟩ := oB H
   obtain ⟨t297, A16, H⟩ := oB H
   simp only [Option.some.injEq, Prod.mk.injEq] at H
   obtain ⟨rfl, rfl⟩ := H
   go_enter Tryz.func140, Tryz.ntmps140
   go_wp2_with (first | (refine gB 2 #[.int .i64 a0_0, .int .i64 a0_1, .bool a0_2] 28 ?_; intro gb285 hg w17 BK285 hb; have GW285 := bG HB hg; replace HB := bS HB hb; clear hb hg) | (refine gB 3 #[.int .i64 a1_0, .int .i64 a1_1, .bool a1_2] 28 ?_; intro gb286 hg w18 BK286 hb; have GW286 := bG HB hg; replace HB := bS HB hb; obtain ⟨NB285_286, NB286_285⟩ := bN BK285 hg; replace BK285 := bB BK285 hb; clear hb hg; obtain ⟨hnb19, hnc19⟩ := nB NB285_286; obtain ⟨hcz20_0, hcz20_1, hcz20_2, hfz20_0, hfz20_1, hfz20_2⟩ := bK3 (w := w18) BK285; obtain ⟨hcz21_0, hcz21_1, hcz21_2, hfz21_0, hfz21_1, hfz21_2⟩ := bK3 (w := w18) BK286) | (go_at_call 114; (with_reducible refine (spec_FpAdd.calls a0_1 a1_1 t291 _ A4.out).mono ?_); rintro e w' ⟨rfl, ⟨nd, rfl⟩⟩; (try exact tD)) | (go_at_call 112; (with_reducible refine (spec_FpMul.calls a0_0 a0_0 t292 _ A11.out).mono ?_); rintro e w' ⟨rfl, ⟨nd, rfl⟩⟩; (try exact tD)) | (go_at_call 112; (with_reducible refine (spec_FpMul.calls 3 t292 t293 _ A12.out).mono ?_); rintro e w' ⟨rfl, ⟨nd, rfl⟩⟩; (try exact tD)) | (go_at_call 114; (with_reducible refine (spec_FpAdd.calls t293 1 t294 _ A13.out).mono ?_); rintro e w' ⟨rfl, ⟨nd, rfl⟩⟩; (try exact tD)) | (go_at_call 112; (with_reducible refine (spec_FpMul.calls 2 a0_1 t295 _ A14.out).mono ?_); rintro e w' ⟨rfl, ⟨nd, rfl⟩⟩; (try exact tD)) | (go_at_call 142; (with_reducible refine (spec_FpInv.calls k t295 t296 _ A15.out).mono ?_); rintro e w' ⟨rfl, ⟨nd, rfl⟩⟩; (try exact tD)) | (go_at_call 112; (with_reducible refine (spec_FpMul.calls t294 t296 t297 _ A16.out).mono ?_); rintro e w' ⟨rfl, ⟨nd, rfl⟩⟩; (try exact tD)))
   repeat (go_quiet (first | (refine gB 2 #[.int .i64 a0_0, .int .i64 a0_1, .bool a0_2] 28 ?_; intro gb285 hg w17 BK285 hb; have GW285 := bG HB hg; replace HB := bS HB hb; clear hb hg) | (refine gB 3 #[.int .i64 a1_0, .int .i64 a1_1, .bool a1_2] 28 ?_; intro gb286 hg w18 BK286 hb; have GW286 := bG HB hg; replace HB := bS HB hb; obtain ⟨NB285_286, NB286_285⟩ := bN BK285 hg; replace BK285 := bB BK285 hb; clear hb hg; obtain ⟨hnb19, hnc19⟩ := nB NB285_286; obtain ⟨hcz20_0, hcz20_1, hcz20_2, hfz20_0, hfz20_1, hfz20_2⟩ := bK3 (w := w18) BK285; obtain ⟨hcz21_0, hcz21_1, hcz21_2, hfz21_0, hfz21_1, hfz21_2⟩ := bK3 (w := w18) BK286) | (go_at_call 114; (with_reducible refine (spec_FpAdd.calls a0_1 a1_1 t291 _ A4.out).mono ?_); rintro e w' ⟨rfl, ⟨nd, rfl⟩⟩; (try exact tD)) | (go_at_call 112; (with_reducible refine (spec_FpMul.calls a0_0 a0_0 t292 _ A11.out).mono ?_); rintro e w' ⟨rfl, ⟨nd, rfl⟩⟩; (try exact tD)) | (go_at_call 112; (with_reducible refine (spec_FpMul.calls 3 t292 t293 _ A12.out).mono ?_); rintro e w' ⟨rfl, ⟨nd, rfl⟩⟩; (try exact tD)) | (go_at_call 114; (with_reducible refine (spec_FpAdd.calls t293 1 t294 _ A13.out).mono ?_); rintro e w' ⟨rfl, ⟨nd, rfl⟩⟩; (try exact tD)) | (go_at_call 112; (with_reducible refine (spec_FpMul.calls 2 a0_1 t295 _ A14.out).mono ?_); rintro e w' ⟨rfl, ⟨nd, rfl⟩⟩; (try exact tD)) | (go_at_call 142; (with_reducible refine (spec_FpInv.calls k t295 t296 _ A15.out).mono ?_); rintro e w' ⟨rfl, ⟨nd, rfl⟩⟩; (try exact tD)) | (go_at_call 112; (with_reducible refine (spec_FpMul.calls t294 t296 t297 _ A16.out).mono ?_); rintro e w' ⟨rfl, ⟨nd, rfl⟩⟩; (try exact tD))); try go_wp2)
   go_ret2
   exact ⟨rR, bZ HB⟩
 ·rw [if_neg c3] at H
  have c3b0 : (a0_0 == a1_0) = false := beq_eq_false_iff_ne.mpr c3
  have c3b1 : (a0_0 != a1_0) = true := bne_iff_ne.mpr c3
  obtain ⟨t287, A22, H⟩ := oB H
  obtain ⟨t288, A23, H⟩ := oB H
  obtain ⟨t289, A24, H⟩ := oB H
  obtain ⟨t290, A25, H⟩ := oB H
  simp only [Option.some.injEq, Prod.mk.injEq] at H
  obtain ⟨rfl, rfl⟩ := H
  go_enter Tryz.func140, Tryz.ntmps140
  go_wp2_with (first | (refine gB 2 #[.int .i64 a0_0, .int .i64 a0_1, .bool a0_2] 28 ?_; intro gb285 hg w26 BK285 hb; have GW285 := bG HB hg; replace HB := bS HB hb; clear hb hg) | (refine gB 3 #[.int .i64 a1_0, .int .i64 a1_1, .bool a1_2] 28 ?_; intro gb286 hg w27 BK286 hb; have GW286 := bG HB hg; replace HB := bS HB hb; obtain ⟨NB285_286, NB286_285⟩ := bN BK285 hg; replace BK285 := bB BK285 hb; clear hb hg; obtain ⟨hnb28, hnc28⟩ := nB NB285_286; obtain ⟨hcz29_0, hcz29_1, hcz29_2, hfz29_0, hfz29_1, hfz29_2⟩ := bK3 (w := w27) BK285; obtain ⟨hcz30_0, hcz30_1, hcz30_2, hfz30_0, hfz30_1, hfz30_2⟩ := bK3 (w := w27) BK286) | (go_at_call 113; (with_reducible refine (spec_FpSub.calls a1_1 a0_1 t287 _ A22.out).mono ?_); rintro e w' ⟨rfl, ⟨nd, rfl⟩⟩; (try exact tD)) | (go_at_call 113; (with_reducible refine (spec_FpSub.calls a1_0 a0_0 t288 _ A23.out).mono ?_); rintro e w' ⟨rfl, ⟨nd, rfl⟩⟩; (try exact tD)) | (go_at_call 142; (with_reducible refine (spec_FpInv.calls k t288 t289 _ A24.out).mono ?_); rintro e w' ⟨rfl, ⟨nd, rfl⟩⟩; (try exact tD)) | (go_at_call 112; (with_reducible refine (spec_FpMul.calls t287 t289 t290 _ A25.out).mono ?_); rintro e w' ⟨rfl, ⟨nd, rfl⟩⟩; (try exact tD)))
  repeat (go_quiet (first | (refine gB 2 #[.int .i64 a0_0, .int .i64 a0_1, .bool a0_2] 28 ?_; intro gb285 hg w26 BK285 hb; have GW285 := bG HB hg; replace HB := bS HB hb; clear hb hg) | (refine gB 3 #[.int .i64 a1_0, .int .i64 a1_1, .bool a1_2] 28 ?_; intro gb286 hg w27 BK286 hb; have GW286 := bG HB hg; replace HB := bS HB hb; obtain ⟨NB285_286, NB286_285⟩ := bN BK285 hg; replace BK285 := bB BK285 hb; clear hb hg; obtain ⟨hnb28, hnc28⟩ := nB NB285_286; obtain ⟨hcz29_0, hcz29_1, hcz29_2, hfz29_0, hfz29_1, hfz29_2⟩ := bK3 (w := w27) BK285; obtain ⟨hcz30_0, hcz30_1, hcz30_2, hfz30_0, hfz30_1, hfz30_2⟩ := bK3 (w := w27) BK286) | (go_at_call 113; (with_reducible refine (spec_FpSub.calls a1_1 a0_1 t287 _ A22.out).mono ?_); rintro e w' ⟨rfl, ⟨nd, rfl⟩⟩; (try exact tD)) | (go_at_call 113; (with_reducible refine (spec_FpSub.calls a1_0 a0_0 t288 _ A23.out).mono ?_); rintro e w' ⟨rfl, ⟨nd, rfl⟩⟩; (try exact tD)) | (go_at_call 142; (with_reducible refine (spec_FpInv.calls k t288 t289 _ A24.out).mono ?_); rintro e w' ⟨rfl, ⟨nd, rfl⟩⟩; (try exact tD)) | (go_at_call 112; (with_reducible refine (spec_FpMul.calls t287 t289 t290 _ A25.out).mono ?_); rintro e w' ⟨rfl, ⟨nd, rfl⟩⟩; (try exact tD))); try go_wp2)
  go_ret2
  exact ⟨rR, bZ HB⟩
def spec_l07Add.f (k : Nat) (a0_0 : Int) (a0_1 : Int) (a0_2 : Bool) (a1_0 : Int) (a1_1 : Int) (a1_2 : Bool) : Option (Int × Int × Bool) := if a0_2 = true then (some (a1_0, a1_1, a1_2)) else (if a1_2 = true then (some (a0_0, a0_1, a0_2)) else ((spec_l07Slope.f k a0_0 a0_1 a0_2 a1_0 a1_1 a1_2).bind fun bt301 => (if bt301.2 = true then ((spec_FpMul.f bt301.1 bt301.1).bind fun t306 => ((spec_FpSub.f t306 a0_0).bind fun t307 => ((spec_FpSub.f t307 a1_0).bind fun t308 => ((spec_FpSub.f a0_0 t308).bind fun t309 => ((spec_FpMul.f bt301.1 t309).bind fun t310 => ((spec_FpSub.f t310 a0_1).bind fun t311 => (some (t308, t311, false)))))))) else ((spec_l07Zero.f).bind fun bt303 => (some (bt303.1, bt303.2.1, bt303.2.2))))))
def spec_l07Add.T8 : Bool × List (List Nat × List Nat) := (true, [([], []), ([], []), ([0, 1], [0, 1]), ([], []), ([3], [3]), ([2, 4, 2], [2, 4]), ([], []), ([6], [6]), ([5, 7, 5], [5, 7]), ([8, 8, 0, 1, 2, 3, 4, 5, 6, 7, 8], [8])])
def spec_l07Add.B8 : List Nat := [0, 0, 3, 0, 8, 31, 0, 64, 255, 511]
theorem spec_l07Add.tab8 : rtab .any (opsOf Tryz.f117 8) = spec_l07Add.T8 := by kernel_rfl
theorem spec_l07Add.bits8 : waitsOk spec_l07Add.T8.2 spec_l07Add.B8 = true := by kernel_rfl
def spec_l07Add.T9 : Bool × List (List Nat × List Nat) := (true, [([], []), ([], []), ([], []), ([2], [2]), ([], []), ([3, 4], [3, 4]), ([1, 5, 5], [1, 5]), ([], []), ([7], [7]), ([6, 8, 6], [6, 8]), ([0, 9], [0, 9]), ([10, 9, 0, 1, 2, 3, 4, 5, 6, 7, 8, 9, 10], [10])])
def spec_l07Add.B9 : List Nat := [0, 0, 0, 4, 0, 28, 62, 0, 128, 510, 1023, 2047]
theorem spec_l07Add.tab9 : rtab .any (opsOf Tryz.f117 9) = spec_l07Add.T9 := by kernel_rfl
theorem spec_l07Add.bits9 : waitsOk spec_l07Add.T9.2 spec_l07Add.B9 = true := by kernel_rfl
theorem spec_l07Add.calls (k : Nat) (a0_0 : Int) (a0_1 : Int) (a0_2 : Bool) (a1_0 : Int) (a1_1 : Int) (a1_2 : Bool) (r1 : Int) (r2 : Int) (r3 : Bool) (w : World) (h : spec_l07Add.f k a0_0 a0_1 a0_2 a1_0 a1_1 a1_2 = some (r1, r2, r3)) :
  Calls Tryz.prog 117 #[.agg #[.int .i64 a0_0, .int .i64 a0_1, .bool a0_2], .agg #[.int .i64 a1_0, .int .i64 a1_1, .bool a1_2]] w fun e w' => e = .returned (.agg #[.int .i64 r1, .int .i64 r2, .bool r3]) ∧ Below w.heap.size w w' := by
 have hu28 := Tryz.underlying28
 have HB := Aside0.mk (Below.refl w.heap.size w)
 unfold spec_l07Add.f at h
 have H := h
 clear h
 by_cases c3 : a0_2 = true
 ·subst c3
  rw [if_pos rfl] at H
  simp only [Option.some.injEq, Prod.mk.injEq] at H
  obtain ⟨rfl, rfl, rfl⟩ := H
  go_enter Tryz.func117, Tryz.ntmps117
  go_wp2_with (first | (refine gB 2 #[.int .i64 a0_0, .int .i64 a0_1, .bool true] 28 ?_; intro gb298 hg w4 BK298 hb; have GW298 := bG HB hg; replace HB := bS HB hb; clear hb hg) | (refine gB 3 #[.int .i64 a1_0, .int .i64 a1_1, .bool a1_2] 28 ?_; intro gb299 hg w5 BK299 hb; have GW299 := bG HB hg; replace HB := bS HB hb; obtain ⟨NB298_299, NB299_298⟩ := bN BK298 hg; replace BK298 := bB BK298 hb; clear hb hg) | (refine gB 4 #[.int .i64 0, .int .i64 0, .bool false] 28 ?_; intro gb300 hg w6 BK300 hb; have GW300 := bG HB hg; replace HB := bS HB hb; obtain ⟨NB298_300, NB300_298⟩ := bN BK298 hg; replace BK298 := bB BK298 hb; obtain ⟨NB299_300, NB300_299⟩ := bN BK299 hg; replace BK299 := bB BK299 hb; clear hb hg; obtain ⟨hnb7, hnc7⟩ := nB NB298_299; obtain ⟨hnb8, hnc8⟩ := nB NB298_300; obtain ⟨hcz9_0, hcz9_1, hcz9_2, hfz9_0, hfz9_1, hfz9_2⟩ := bK3 (w := w6) BK298; obtain ⟨hnb10, hnc10⟩ := nB NB299_300; obtain ⟨hcz11_0, hcz11_1, hcz11_2, hfz11_0, hfz11_1, hfz11_2⟩ := bK3 (w := w6) BK299; obtain ⟨hcz12_0, hcz12_1, hcz12_2, hfz12_0, hfz12_1, hfz12_2⟩ := bK3 (w := w6) BK300))
  refine rC gb300 28 #[.int .i64 a1_0, .int .i64 a1_1, .bool a1_2] (bU BK300) Tryz.underlying28 ?_
  exact ⟨rR, bZ HB⟩
 ·replace c3 := Bool.eq_false_iff.mpr c3
  subst c3
  rw [if_neg (show ¬ (false = true) by decide)] at H
  by_cases c13 : a1_2 = true
  ·subst c13
   rw [if_pos rfl] at H
   simp only [Option.some.injEq, Prod.mk.injEq] at H
   obtain ⟨rfl, rfl, rfl⟩ := H
   go_enter Tryz.func117, Tryz.ntmps117
   go_wp2_with (first | (refine gB 2 #[.int .i64 a0_0, .int .i64 a0_1, .bool false] 28 ?_; intro gb298 hg w14 BK298 hb; have GW298 := bG HB hg; replace HB := bS HB hb; clear hb hg) | (refine gB 3 #[.int .i64 a1_0, .int .i64 a1_1, .bool true] 28 ?_; intro gb299 hg w15 BK299 hb; have GW299 := bG HB hg; replace HB := bS HB hb; obtain ⟨NB298_299, NB299_298⟩ := bN BK298 hg; replace BK298 := bB BK298 hb; clear hb hg) | (refine gB 4 #[.int .i64 0, .int .i64 0, .bool false] 28 ?_; intro gb300 hg w16 BK300 hb; have GW300 := bG HB hg; replace HB := bS HB hb; obtain ⟨NB298_300, NB300_298⟩ := bN BK298 hg; replace BK298 := bB BK298 hb; obtain ⟨NB299_300, NB300_299⟩ := bN BK299 hg; replace BK299 := bB BK299 hb; clear hb hg; obtain ⟨hnb17, hnc17⟩ := nB NB298_299; obtain ⟨hnb18, hnc18⟩ := nB NB298_300; obtain ⟨hcz19_0, hcz19_1, hcz19_2, hfz19_0, hfz19_1, hfz19_2⟩ := bK3 (w := w16) BK298; obtain ⟨hnb20, hnc20⟩ := nB NB299_300; obtain ⟨hcz21_0, hcz21_1, hcz21_2, hfz21_0, hfz21_1, hfz21_2⟩ := bK3 (w := w16) BK299; obtain ⟨hcz22_0, hcz22_1, hcz22_2, hfz22_0, hfz22_1, hfz22_2⟩ := bK3 (w := w16) BK300))
   refine rC gb300 28 #[.int .i64 a0_0, .int .i64 a0_1, .bool false] (bU BK300) Tryz.underlying28 ?_
   exact ⟨rR, bZ HB⟩
  ·replace c13 := Bool.eq_false_iff.mpr c13
   subst c13
   rw [if_neg (show ¬ (false = true) by decide)] at H
   obtain ⟨⟨t301, t302⟩, A23, H⟩ := oB H
   by_cases c24 : t302 = true
   ·subst c24
    rw [if_pos rfl] at H
    obtain ⟨t306, A25, H⟩ := oB H
    obtain ⟨t307, A26, H⟩ := oB H
    obtain ⟨t308, A27, H⟩ := oB H
    obtain ⟨t309, A28, H⟩ := oB H
    obtain ⟨t310, A29, H⟩ := oB H
    obtain ⟨t311, A30, H⟩ := oB H
    simp only [Option.some.injEq, Prod.mk.injEq] at H
    obtain ⟨rfl, rfl, rfl⟩ := H
    go_enter Tryz.func117, Tryz.ntmps117
    try go_wp2_with (first | (refine gB 2 #[.int .i64 a0_0, .int .i64 a0_1, .bool false] 28 ?_; intro gb298 hg w31 BK298 hb; have GW298 := bG HB hg; replace HB := bS HB hb; clear hb hg) | (refine gB 3 #[.int .i64 a1_0, .int .i64 a1_1, .bool false] 28 ?_; intro gb299 hg w32 BK299 hb; have GW299 := bG HB hg; replace HB := bS HB hb; obtain ⟨NB298_299, NB299_298⟩ := bN BK298 hg; replace BK298 := bB BK298 hb; clear hb hg) | (refine gB 4 #[.int .i64 0, .int .i64 0, .bool false] 28 ?_; intro gb300 hg w33 BK300 hb; have GW300 := bG HB hg; replace HB := bS HB hb; obtain ⟨NB298_300, NB300_298⟩ := bN BK298 hg; replace BK298 := bB BK298 hb; obtain ⟨NB299_300, NB300_299⟩ := bN BK299 hg; replace BK299 := bB BK299 hb; clear hb hg; obtain ⟨hnb34, hnc34⟩ := nB NB298_299; obtain ⟨hnb35, hnc35⟩ := nB NB298_300; obtain ⟨hcz36_0, hcz36_1, hcz36_2, hfz36_0, hfz36_1, hfz36_2⟩ := bK3 (w := w33) BK298; obtain ⟨hnb37, hnc37⟩ := nB NB299_300; obtain ⟨hcz38_0, hcz38_1, hcz38_2, hfz38_0, hfz38_1, hfz38_2⟩ := bK3 (w := w33) BK299) | (refine gC (some 17) Tryz.func140 #[.agg #[.int .i64 a0_0, .int .i64 a0_1, .bool false], .agg #[.int .i64 a1_0, .int .i64 a1_1, .bool false]] ?_; (with_reducible refine (spec_l07Slope.calls k a0_0 a0_1 false a1_0 a1_1 false t301 true _ A23.out).mono ?_); rintro e w39 ⟨rfl, hb⟩; refine ⟨_, rfl, ?_⟩; replace BK298 := bB BK298 hb; replace BK299 := bB BK299 hb; replace BK300 := bB BK300 hb; replace HB := bS HB hb; (try clear hb)))
    replace BK298 := Aside0.mk (blk_drew BK298.out)
    replace BK299 := Aside0.mk (blk_drew BK299.out)
    replace BK300 := Aside0.mk (blk_drew BK300.out)
    replace HB := Aside0.mk (below_drew1 HB.out)
    refine start_ (n := 10) (S := fun w' => SP3 w' gb298 (.int .i64 a0_0) (.int .i64 a0_1) (.bool false) (SQ3 w' gb299 (.int .i64 a1_0) (.int .i64 a1_1) (.bool false))) (ds := []) #[false, false, false, false, false, false, false, false, false, false] (by kernel_rfl) rfl rfl (bS3 BK298 (bT3 BK299)) (fun hHeld => ?_); refine with_tabW spec_l07Add.tab8 spec_l07Add.bits8 (fun HT_ HW_ => ?_)
    generalize w39.drew = w40 at BK298 BK299 BK300 HB hHeld ⊢
    refine pI 0 (some 23) HT_.out ?_
    refine pI 1 (some 24) HT_.out ?_
    refine pI 3 (some 26) HT_.out ?_
    refine pI 6 (some 29) HT_.out ?_
    refine tI6 4 (some 27) HT_.out HW_.out hHeld ?_
    refine tI6 7 (some 30) HT_.out HW_.out hHeld ?_
    refine oI 2 (some 25) HT_.out (fun K hK => ?_)
    refine gO Tryz.func112 #[.int .i64 t301, .int .i64 t301] ?_
    with_reducible refine (spec_FpMul.calls t301 t301 t306 _ A25.out).mono ?_
    rintro e w' ⟨rfl, ⟨nd, rfl⟩⟩
    refine ⟨_, rfl, ?_⟩
    refine hK.out _ _ (bS3 BK298 (bT3 BK299)) (fun hHeld => ?_)
    clear hK K
    refine nO (some 25) ?_
    refine oI 5 (some 28) HT_.out (fun K hK => ?_)
    refine gO Tryz.func113 #[.int .i64 t306, .int .i64 a0_0] ?_
    with_reducible refine (spec_FpSub.calls t306 a0_0 t307 _ A26.out).mono ?_
    rintro e w' ⟨rfl, ⟨nd, rfl⟩⟩
    refine ⟨_, rfl, ?_⟩
    refine hK.out _ _ (bS3 BK298 (bT3 BK299)) (fun hHeld => ?_)
    clear hK K
    refine nO (some 28) ?_
    refine oI 8 (some 31) HT_.out (fun K hK => ?_)
    refine gO Tryz.func113 #[.int .i64 t307, .int .i64 a1_0] ?_
    with_reducible refine (spec_FpSub.calls t307 a1_0 t308 _ A27.out).mono ?_
    rintro e w' ⟨rfl, ⟨nd, rfl⟩⟩
    refine ⟨_, rfl, ?_⟩
    refine hK.out _ _ (bS3 BK298 (bT3 BK299)) (fun hHeld => ?_)
    clear hK K
    refine nO (some 31) ?_
    refine pI 9 (some 7) HT_.out ?_
    refine done_ (done_of HT_.out (by kernel_rfl)) ?_
    try go_wp2
    (try simp only [World.drewN_drewN]); (try (rw [drewN_self w40]; generalize hq_ : World.drewN w40 _ = w40; replace BK298 : Aside0 (w40.heap[gb298]? = some (.cells #[.int .i64 a0_0, .int .i64 a0_1, .bool false] 28 (0, 0))) := ⟨by rw [← hq_]; exact (bP BK298)⟩; replace BK299 : Aside0 (w40.heap[gb299]? = some (.cells #[.int .i64 a1_0, .int .i64 a1_1, .bool false] 28 (0, 0))) := ⟨by rw [← hq_]; exact (bP BK299)⟩; replace BK300 : Aside0 (w40.heap[gb300]? = some (.cells #[.int .i64 0, .int .i64 0, .bool false] 28 (0, 0))) := ⟨by rw [← hq_]; exact (bP BK300)⟩; replace HB : Aside0 (Below w.heap.size w w40) := ⟨by rw [← hq_]; exact (bZ HB)⟩; clear hq_))
    replace BK298 := Aside0.mk (blk_drew BK298.out)
    replace BK299 := Aside0.mk (blk_drew BK299.out)
    replace BK300 := Aside0.mk (blk_drew BK300.out)
    replace HB := Aside0.mk (below_drew1 HB.out)
    refine start_ (n := 12) (S := fun w' => SQ3 w' gb298 (.int .i64 a0_0) (.int .i64 a0_1) (.bool false)) (ds := []) #[false, false, false, false, false, false, false, false, false, false, false, false] (by kernel_rfl) rfl rfl (bT3 BK298) (fun hHeld => ?_); refine with_tabW spec_l07Add.tab9 spec_l07Add.bits9 (fun HT_ HW_ => ?_)
    generalize w40.drew = w41 at BK298 BK299 BK300 HB hHeld ⊢
    refine pI 0 (some 32) HT_.out ?_
    refine pI 1 (some 33) HT_.out ?_
    refine pI 2 (some 34) HT_.out ?_
    refine pI 4 (some 36) HT_.out ?_
    refine pI 7 (some 39) HT_.out ?_
    refine tI3 3 (some 35) HT_.out HW_.out hHeld ?_
    refine tI3 8 (some 40) HT_.out HW_.out hHeld ?_
    refine oI 5 (some 37) HT_.out (fun K hK => ?_)
    refine gO Tryz.func113 #[.int .i64 a0_0, .int .i64 t308] ?_
    with_reducible refine (spec_FpSub.calls a0_0 t308 t309 _ A28.out).mono ?_
    rintro e w' ⟨rfl, ⟨nd, rfl⟩⟩
    refine ⟨_, rfl, ?_⟩
    refine hK.out _ _ (bT3 BK298) (fun hHeld => ?_)
    clear hK K
    refine nO (some 37) ?_
    refine oI 6 (some 38) HT_.out (fun K hK => ?_)
    refine gO Tryz.func112 #[.int .i64 t301, .int .i64 t309] ?_
    with_reducible refine (spec_FpMul.calls t301 t309 t310 _ A29.out).mono ?_
    rintro e w' ⟨rfl, ⟨nd, rfl⟩⟩
    refine ⟨_, rfl, ?_⟩
    refine hK.out _ _ (bT3 BK298) (fun hHeld => ?_)
    clear hK K
    refine nO (some 38) ?_
    refine oI 9 (some 41) HT_.out (fun K hK => ?_)
    refine gO Tryz.func113 #[.int .i64 t310, .int .i64 a0_1] ?_
    with_reducible refine (spec_FpSub.calls t310 a0_1 t311 _ A30.out).mono ?_
    rintro e w' ⟨rfl, ⟨nd, rfl⟩⟩
    refine ⟨_, rfl, ?_⟩
    refine hK.out _ _ (bT3 BK298) (fun hHeld => ?_)
    clear hK K
    refine nO (some 41) ?_
    refine pI 10 (some 42) HT_.out ?_
    refine oI 11 (none) HT_.out (fun K hK => ?_)
    have hs42 : w41.cell? ⟨gb300, 0, none⟩ = some (.int .i64 0) := bc BK300 0
    have hfs42 := blk_frozen BK300.out 0
    have hns42_0 := NB298_300.out
    have hns42_1 := NB299_300.out
    have hms42_0 := NB300_298.out
    have hms42_1 := NB300_299.out
    have hs43 : w41.cell? ⟨gb300, 1, none⟩ = some (.int .i64 0) := bc BK300 1
    have hfs43 := blk_frozen BK300.out 1
    have hns43_0 := NB298_300.out
    have hns43_1 := NB299_300.out
    have hms43_0 := NB300_298.out
    have hms43_1 := NB300_299.out
    have hs44 : w41.cell? ⟨gb300, 2, none⟩ = some (.bool false) := bc BK300 2
    have hfs44 := blk_frozen BK300.out 2
    have hns44_0 := NB298_300.out
    have hns44_1 := NB299_300.out
    have hms44_0 := NB300_298.out
    have hms44_1 := NB300_299.out
    refine skip_ (w1 := ?_) (by rfl) rfl ?_ ?_
    rotate_left
    ·go_simp
     rfl
    refine hK.out _ _ ⟨((cell_far (p := ⟨gb300, _, none⟩) NB298_300.out _).trans (((cell_far (p := ⟨gb300, _, none⟩) NB298_300.out _).trans (((cell_far (p := ⟨gb300, _, none⟩) NB298_300.out _).trans (hHeld.1)))))), ((cell_far (p := ⟨gb300, _, none⟩) NB298_300.out _).trans (((cell_far (p := ⟨gb300, _, none⟩) NB298_300.out _).trans (((cell_far (p := ⟨gb300, _, none⟩) NB298_300.out _).trans (hHeld.2.1)))))), ((cell_far (p := ⟨gb300, _, none⟩) NB298_300.out _).trans (((cell_far (p := ⟨gb300, _, none⟩) NB298_300.out _).trans (((cell_far (p := ⟨gb300, _, none⟩) NB298_300.out _).trans (hHeld.2.2))))))⟩ (fun hHeld => ?_)
    clear hK K
    refine done_ (done_of HT_.out (by kernel_rfl)) ?_
    try go_wp2
    refine rC gb300 28 #[.int .i64 t308, .int .i64 t311, .bool false] (bU BK300) Tryz.underlying28 ?_
    exact ⟨rR, bZ HB⟩
   ·replace c24 := Bool.eq_false_iff.mpr c24
    subst c24
    rw [if_neg (show ¬ (false = true) by decide)] at H
    obtain ⟨⟨t303, t304, t305⟩, A45, H⟩ := oB H
    simp only [Option.some.injEq, Prod.mk.injEq] at H
    obtain ⟨rfl, rfl, rfl⟩ := H
    go_enter Tryz.func117, Tryz.ntmps117
    go_wp2_with (first | (refine gB 2 #[.int .i64 a0_0, .int .i64 a0_1, .bool false] 28 ?_; intro gb298 hg w46 BK298 hb; have GW298 := bG HB hg; replace HB := bS HB hb; clear hb hg) | (refine gB 3 #[.int .i64 a1_0, .int .i64 a1_1, .bool false] 28 ?_; intro gb299 hg w47 BK299 hb; have GW299 := bG HB hg; replace HB := bS HB hb; obtain ⟨NB298_299, NB299_298⟩ := bN BK298 hg; replace BK298 := bB BK298 hb; clear hb hg) | (refine gB 4 #[.int .i64 0, .int .i64 0, .bool false] 28 ?_; intro gb300 hg w48 BK300 hb; have GW300 := bG HB hg; replace HB := bS HB hb; obtain ⟨NB298_300, NB300_298⟩ := bN BK298 hg; replace BK298 := bB BK298 hb; obtain ⟨NB299_300, NB300_299⟩ := bN BK299 hg; replace BK299 := bB BK299 hb; clear hb hg; obtain ⟨hnb49, hnc49⟩ := nB NB298_299; obtain ⟨hnb50, hnc50⟩ := nB NB298_300; obtain ⟨hcz51_0, hcz51_1, hcz51_2, hfz51_0, hfz51_1, hfz51_2⟩ := bK3 (w := w48) BK298; obtain ⟨hnb52, hnc52⟩ := nB NB299_300; obtain ⟨hcz53_0, hcz53_1, hcz53_2, hfz53_0, hfz53_1, hfz53_2⟩ := bK3 (w := w48) BK299) | (refine gC (some 17) Tryz.func140 #[.agg #[.int .i64 a0_0, .int .i64 a0_1, .bool false], .agg #[.int .i64 a1_0, .int .i64 a1_1, .bool false]] ?_; (with_reducible refine (spec_l07Slope.calls k a0_0 a0_1 false a1_0 a1_1 false t301 false _ A23.out).mono ?_); rintro e w54 ⟨rfl, hb⟩; refine ⟨_, rfl, ?_⟩; replace BK298 := bB BK298 hb; replace BK299 := bB BK299 hb; replace BK300 := bB BK300 hb; replace HB := bS HB hb; (try clear hb)) | (refine gC (some 22) Tryz.func81 #[] ?_; (with_reducible refine (spec_l07Zero.calls  t303 t304 t305 _ A45.out).mono ?_); rintro e w55 ⟨rfl, hb⟩; refine ⟨_, rfl, ?_⟩; replace BK298 := bB BK298 hb; replace BK299 := bB BK299 hb; replace BK300 := bB BK300 hb; replace HB := bS HB hb; (try clear hb); obtain ⟨hcz56_0, hcz56_1, hcz56_2, hfz56_0, hfz56_1, hfz56_2⟩ := bK3 (w := w55) BK300))
    refine rC gb300 28 #[.int .i64 t303, .int .i64 t304, .bool t305] (bU BK300) Tryz.underlying28 ?_
    exact ⟨rR, bZ HB⟩
end Go.Proofs.YtkdmplfldfagnaaGreatDoor.Pf
end
section
namespace Go.Proofs.YtkdmplfldfagnaaGreatDoor.Pf
open Go.RowKit Go.Proofs.YtkdmplfldfagnaaGreatDoorW.PrintWords Go.Proofs.YtkdmplfldfagnaaGreatDoorW.PrintLast Go.Proofs.YtkdmplfldfagnaaGreatDoorW.PrintMore
attribute [local go_sem] max2_int min2_int max_two min_two max_three min_three max_four min_four   -- for this text's walks alone
set_option linter.unusedVariables false
set_option linter.unusedSimpArgs false
set_option maxHeartbeats 8000000
set_option maxRecDepth 100000
mutual
def spec_PointTimes.j0 : Nat → Int → Int → Int → Bool → Option (Int × Int × Bool)
 | 0, _, _, _, _ => none
 | k + 1, x5, x319000, x319001, x319002 => (spec_l07Zero.f).bind fun bt322 => (spec_PointTimes.l0 k x5 x319000 x319001 x319002 bt322.1 bt322.2.1 bt322.2.2)
def spec_PointTimes.l0 : Nat → Int → Int → Int → Bool → Int → Int → Bool → Option (Int × Int × Bool)
 | 0, _, _, _, _, _, _, _ => none
 | k + 1, x5, x319000, x319001, x319002, x326000, x326001, x326002 => if x5 > 0 then (if (Int.tmod x5 2) = 1 then ((spec_l07Add.f k x326000 x326001 x326002 x319000 x319001 x319002).bind fun bt326 => ((spec_l07Add.f k x319000 x319001 x319002 x319000 x319001 x319002).bind fun bt329 => (spec_PointTimes.l0 k (wrap64 (Int.tdiv x5 2)) bt329.1 bt329.2.1 bt329.2.2 bt326.1 bt326.2.1 bt326.2.2))) else ((spec_l07Add.f k x319000 x319001 x319002 x319000 x319001 x319002).bind fun bt332 => (spec_PointTimes.l0 k (wrap64 (Int.tdiv x5 2)) bt332.1 bt332.2.1 bt332.2.2 x326000 x326001 x326002))) else (some (x326000, x326001, x326002))
end
def spec_PointTimes.f (k : Nat) (a0 : Int) (a1_0 : Int) (a1_1 : Int) (a1_2 : Bool) : Option (Int × Int × Bool) := (spec_PointOk.f a1_0 a1_1 a1_2).bind fun t314 => (if t314 = true then (if (Int.tmod a0 12108) < 0 then ((spec_PointNeg.f a1_0 a1_1 a1_2).bind fun bt319 => (spec_PointTimes.j0 k (wrap64 (-(Int.tmod a0 12108))) bt319.1 bt319.2.1 bt319.2.2)) else (spec_PointTimes.j0 k (Int.tmod a0 12108) a1_0 a1_1 a1_2)) else ((spec_l07Zero.f).bind fun bt315 => (some (bt315.1, bt315.2.1, bt315.2.2))))
theorem spec_PointTimes.calls (k : Nat) (a0 : Int) (a1_0 : Int) (a1_1 : Int) (a1_2 : Bool) (r1 : Int) (r2 : Int) (r3 : Bool) (w : World) (h : spec_PointTimes.f k a0 a1_0 a1_1 a1_2 = some (r1, r2, r3)) :
  Calls Tryz.prog 65 #[.int .i64 a0, .agg #[.int .i64 a1_0, .int .i64 a1_1, .bool a1_2]] w fun e w' => e = .returned (.agg #[.int .i64 r1, .int .i64 r2, .bool r3]) ∧ Below w.heap.size w w' := by
 have hu28 := Tryz.underlying28
 have HB := Aside0.mk (Below.refl w.heap.size w)
 unfold spec_PointTimes.f at h
 have H := h
 clear h
 obtain ⟨t314, A3, H⟩ := oB H
 by_cases c4 : t314 = true
 ·subst c4
  rw [if_pos rfl] at H
  have HC5 := Aside0.mk H
  clear H
  go_enter Tryz.func65, Tryz.ntmps65
  go_upto_if 16 with (first | (refine gB 3 #[.int .i64 a1_0, .int .i64 a1_1, .bool a1_2] 28 ?_; intro gb312 hg w6 BK312 hb; have GW312 := bG HB hg; replace HB := bS HB hb; clear hb hg) | (refine gB 4 #[.int .i64 0, .int .i64 0, .bool false] 28 ?_; intro gb313 hg w7 BK313 hb; have GW313 := bG HB hg; replace HB := bS HB hb; obtain ⟨NB312_313, NB313_312⟩ := bN BK312 hg; replace BK312 := bB BK312 hb; clear hb hg; obtain ⟨hnb8, hnc8⟩ := nB NB312_313; obtain ⟨hcz9_0, hcz9_1, hcz9_2, hfz9_0, hfz9_1, hfz9_2⟩ := bK3 (w := w7) BK312) | (refine gC (some 9) Tryz.func115 #[.agg #[.int .i64 a1_0, .int .i64 a1_1, .bool a1_2]] ?_; (with_reducible refine (spec_PointOk.calls a1_0 a1_1 a1_2 true _ A3.out).mono ?_); rintro e w10 ⟨rfl, hb⟩; refine ⟨_, rfl, ?_⟩; replace BK312 := bB BK312 hb; replace BK313 := bB BK313 hb; replace HB := bS HB hb; (try clear hb); obtain ⟨hcz11_0, hcz11_1, hcz11_2, hfz11_0, hfz11_1, hfz11_2⟩ := bK3 (w := w10) BK312) | (refine gB 6 #[.int .i64 0, .int .i64 0, .bool false] 28 ?_; intro gb318 hg w12 BK318 hb; have GW318 := bG HB hg; replace HB := bS HB hb; obtain ⟨NB312_318, NB318_312⟩ := bN BK312 hg; replace BK312 := bB BK312 hb; obtain ⟨NB313_318, NB318_313⟩ := bN BK313 hg; replace BK313 := bB BK313 hb; clear hb hg; obtain ⟨hnb13, hnc13⟩ := nB NB318_312; obtain ⟨hnb14, hnc14⟩ := nB NB318_313; obtain ⟨hcz15_0, hcz15_1, hcz15_2, hfz15_0, hfz15_1, hfz15_2⟩ := bK3 (w := w12) BK318))
  (try simp only [Act.put, List.setIfInBounds_toArray, List.set_cons_zero, List.set_cons_succ])
  go_cut [5] (fun v5 wc => ∃ (kq : Nat) (x5_4 : Int) (x319000_4 : Int) (x319001_4 : Int) (x319002_4 : Bool), v5 = .int .i64 x5_4 ∧ Aside0 (spec_PointTimes.j0 kq x5_4 x319000_4 x319001_4 x319002_4 = some (r1, r2, r3)) ∧ Aside0 (kq ≤ k) ∧ Aside0 (wc.heap[gb312]? = some (.cells #[.int .i64 a1_0, .int .i64 a1_1, .bool a1_2] 28 (0, 0))) ∧ Aside0 (wc.heap[gb313]? = some (.cells #[.int .i64 0, .int .i64 0, .bool false] 28 (0, 0))) ∧ Aside0 (wc.heap[gb318]? = some (.cells #[.int .i64 x319000_4, .int .i64 x319001_4, .bool x319002_4] 28 (0, 0))) ∧ Aside0 (Below w.heap.size w wc))
  case first =>
   have H := HC5.out
   clear HC5
   by_cases c16 : (Int.tmod a0 12108) < 0
   ·rw [if_pos c16] at H
    have c16b0 := decide_eq_true c16
    clear c16
    (first | rw [c16b0] | (simp only [i64_w, i32_w]; rw [c16b0]) | rw [c16b1] | skip)
    obtain ⟨⟨t319, t320, t321⟩, A17, H⟩ := oB H
    have H' := Aside0.mk H
    clear H
    obtain ⟨hnb18, hnc18⟩ := nB NB312_313
    obtain ⟨hnb19, hnc19⟩ := nB NB312_318
    obtain ⟨hcz20_0, hcz20_1, hcz20_2, hfz20_0, hfz20_1, hfz20_2⟩ := bK3 (w := w12) BK312
    go_wp2_with (first | (refine gC (some 20) Tryz.func116 #[.agg #[.int .i64 a1_0, .int .i64 a1_1, .bool a1_2]] ?_; (with_reducible refine (spec_PointNeg.calls a1_0 a1_1 a1_2 t319 t320 t321 _ A17.out).mono ?_); rintro e w21 ⟨rfl, hb⟩; refine ⟨_, rfl, ?_⟩; replace BK312 := bB BK312 hb; replace BK313 := bB BK313 hb; replace BK318 := bV 28 #[.int .i64 a1_0, .int .i64 a1_1, .bool a1_2] BK318 hb; replace HB := bS HB hb; (try clear hb); obtain ⟨hnb22, hnc22⟩ := nB NB318_313; obtain ⟨hcz23_0, hcz23_1, hcz23_2, hfz23_0, hfz23_1, hfz23_2⟩ := bK3 (w := w21) BK318))
    go_meet
    case rel => exact ⟨_, (wrap64 (-(Int.tmod a0 12108))), (t319), (t320), (t321), rS, H', ⟨by first | omega | exact Nat.le_refl _⟩, ⟨bP BK312⟩, ⟨bP BK313⟩, ⟨bU BK318⟩, ⟨bZ HB⟩⟩
   ·rw [if_neg c16] at H
    have c16b0 := decide_eq_false c16
    clear c16
    (first | rw [c16b0] | (simp only [i64_w, i32_w]; rw [c16b0]) | rw [c16b1] | skip)
    have H' := Aside0.mk H
    clear H
    go_wp2
    go_meet
    case rel => exact ⟨_, (Int.tmod a0 12108), (a1_0), (a1_1), (a1_2), rS, H', ⟨by first | omega | exact Nat.le_refl _⟩, ⟨bP BK312⟩, ⟨bP BK313⟩, ⟨bU BK318⟩, ⟨bZ HB⟩⟩
  case rest =>
   clear HC5
   try clear c1
   try clear c2
   try clear p2
   try clear c4
   try clear c6
   try clear p6
   try clear c8
   try clear c11
   try clear c13
   try clear c14
   try clear c16
   try clear c16b0
   try clear c18
   try clear c19
   try clear c22
   try clear hcz11_0
   try clear hcz11_1
   try clear hcz11_2
   try clear hcz15_0
   try clear hcz15_1
   try clear hcz15_2
   try clear hcz20_0
   try clear hcz20_1
   try clear hcz20_2
   try clear hcz23_0
   try clear hcz23_1
   try clear hcz23_2
   try clear hcz9_0
   try clear hcz9_1
   try clear hcz9_2
   try clear hfz11_0
   try clear hfz11_1
   try clear hfz11_2
   try clear hfz15_0
   try clear hfz15_1
   try clear hfz15_2
   try clear hfz20_0
   try clear hfz20_1
   try clear hfz20_2
   try clear hfz23_0
   try clear hfz23_1
   try clear hfz23_2
   try clear hfz9_0
   try clear hfz9_1
   try clear hfz9_2
   obtain ⟨kq, x5_4, x319000_4, x319001_4, x319002_4, rfl, HA, HJ4, BK312, BK313, BK318, HB⟩ := hcut
   cases kq with
   | zero => exact absurd HA.out (by simp [spec_PointTimes.j0])
   | succ kj4 =>
    have H := HA.out
    clear HA
    simp only [spec_PointTimes.j0] at H
    obtain ⟨⟨t322, t323, t324⟩, A24, H⟩ := oB H
    have H' := Aside0.mk H
    clear H
    go_wp2_with (first | (refine gC (some 21) Tryz.func81 #[] ?_; (with_reducible refine (spec_l07Zero.calls  t322 t323 t324 _ A24.out).mono ?_); rintro e w25 ⟨rfl, hb⟩; refine ⟨_, rfl, ?_⟩; replace BK312 := bB BK312 hb; replace BK313 := bB BK313 hb; replace BK318 := bB BK318 hb; replace HB := bS HB hb; (try clear hb)) | (refine gB 7 #[.int .i64 0, .int .i64 0, .bool false] 28 ?_; intro gb325 hg w26 BK325 hb; have GW325 := bG HB hg; replace HB := bS HB hb; obtain ⟨NB312_325, NB325_312⟩ := bN BK312 hg; replace BK312 := bB BK312 hb; obtain ⟨NB313_325, NB325_313⟩ := bN BK313 hg; replace BK313 := bB BK313 hb; obtain ⟨NB318_325, NB325_318⟩ := bN BK318 hg; replace BK318 := bB BK318 hb; clear hb hg; obtain ⟨hnb27, hnc27⟩ := nB NB325_312; obtain ⟨hnb28, hnc28⟩ := nB NB325_313; obtain ⟨hnb29, hnc29⟩ := nB NB325_318; obtain ⟨hcz30_0, hcz30_1, hcz30_2, hfz30_0, hfz30_1, hfz30_2⟩ := bK3 (w := w26) BK325))
    go_loopg [5] kj4 (fun kq v5 w' => ∃ (x5_2 : Int) (x319000_2 : Int) (x319001_2 : Int) (x319002_2 : Bool) (x326000_2 : Int) (x326001_2 : Int) (x326002_2 : Bool), v5 = .int .i64 x5_2 ∧ Aside0 (spec_PointTimes.l0 kq x5_2 x319000_2 x319001_2 x319002_2 x326000_2 x326001_2 x326002_2 = some (r1, r2, r3)) ∧ Aside0 (kq ≤ kj4) ∧ Aside0 (w'.heap[gb312]? = some (.cells #[.int .i64 a1_0, .int .i64 a1_1, .bool a1_2] 28 (0, 0))) ∧ Aside0 (w'.heap[gb313]? = some (.cells #[.int .i64 0, .int .i64 0, .bool false] 28 (0, 0))) ∧ Aside0 (w'.heap[gb318]? = some (.cells #[.int .i64 x319000_2, .int .i64 x319001_2, .bool x319002_2] 28 (0, 0))) ∧ Aside0 (w'.heap[gb325]? = some (.cells #[.int .i64 x326000_2, .int .i64 x326001_2, .bool x326002_2] 28 (0, 0))) ∧ Aside0 (Below w.heap.size w w'))
    case atStart => exact ⟨(x5_4), (x319000_4), (x319001_4), (x319002_4), (t322), (t323), (t324), rS, H', ⟨Nat.le_refl _⟩, ⟨bP BK312⟩, ⟨bP BK313⟩, ⟨bP BK318⟩, ⟨bU BK325⟩, ⟨bZ HB⟩⟩
    case round =>
     clear H'
     try clear c1
     try clear c2
     try clear p2
     try clear c4
     try clear c6
     try clear p6
     try clear c8
     try clear c11
     try clear c13
     try clear c14
     try clear c16
     try clear c16b0
     try clear c18
     try clear c19
     try clear c22
     try clear c27
     try clear c28
     try clear c29
     try clear hcz11_0
     try clear hcz11_1
     try clear hcz11_2
     try clear hcz15_0
     try clear hcz15_1
     try clear hcz15_2
     try clear hcz20_0
     try clear hcz20_1
     try clear hcz20_2
     try clear hcz23_0
     try clear hcz23_1
     try clear hcz23_2
     try clear hcz30_0
     try clear hcz30_1
     try clear hcz30_2
     try clear hcz9_0
     try clear hcz9_1
     try clear hcz9_2
     try clear hfz11_0
     try clear hfz11_1
     try clear hfz11_2
     try clear hfz15_0
     try clear hfz15_1
     try clear hfz15_2
     try clear hfz20_0
     try clear hfz20_1
     try clear hfz20_2
     try clear hfz23_0
     try clear hfz23_1
     try clear hfz23_2
     try clear hfz30_0
     try clear hfz30_1
     try clear hfz30_2
     try clear hfz9_0
     try clear hfz9_1
     try clear hfz9_2
     try clear p2
     try clear p6
     obtain ⟨x5_2, x319000_2, x319001_2, x319002_2, x326000_2, x326001_2, x326002_2, rfl, HA, HK2, BK312, BK313, BK318, BK325, HB⟩ := hrel
     cases gk with
     | zero => exact absurd HA.out (by simp [spec_PointTimes.l0])
     | succ k2 =>
      have H := HA.out
      clear HA
      simp only [spec_PointTimes.l0] at H
      by_cases c31 : x5_2 > 0
      ·rw [if_pos c31] at H
       have c31b0 := decide_eq_true c31
       clear c31
       by_cases c32 : (Int.tmod x5_2 2) = 1
       ·rw [if_pos c32] at H
        have c32b0 : ((Int.tmod x5_2 2) == 1) = true := beq_iff_eq.mpr c32
        have c32b1 : ((Int.tmod x5_2 2) != 1) = false := bne_eq_false_iff_eq.mpr c32
        clear c32
        obtain ⟨⟨t326, t327, t328⟩, A33, H⟩ := oB H
        obtain ⟨⟨t329, t330, t331⟩, A34, H⟩ := oB H
        have H' := Aside0.mk H
        clear H
        obtain ⟨hnb35, hnc35⟩ := nB NB325_312
        obtain ⟨hnb36, hnc36⟩ := nB NB325_313
        obtain ⟨hnb37, hnc37⟩ := nB NB325_318
        obtain ⟨hcz38_0, hcz38_1, hcz38_2, hfz38_0, hfz38_1, hfz38_2⟩ := bK3 (w := wr) BK325
        obtain ⟨hnb39, hnc39⟩ := nB NB318_312
        obtain ⟨hnb40, hnc40⟩ := nB NB318_313
        obtain ⟨hcz41_0, hcz41_1, hcz41_2, hfz41_0, hfz41_1, hfz41_2⟩ := bK3 (w := wr) BK318
        go_wp2_with (first | (refine gC (some 29) Tryz.func117 #[.agg #[.int .i64 x326000_2, .int .i64 x326001_2, .bool x326002_2], .agg #[.int .i64 x319000_2, .int .i64 x319001_2, .bool x319002_2]] ?_; (with_reducible refine (spec_l07Add.calls k2 x326000_2 x326001_2 x326002_2 x319000_2 x319001_2 x319002_2 t326 t327 t328 _ A33.out).mono ?_); rintro e w42 ⟨rfl, hb⟩; refine ⟨_, rfl, ?_⟩; replace BK312 := bB BK312 hb; replace BK313 := bB BK313 hb; replace BK318 := bB BK318 hb; replace BK325 := bB BK325 hb; replace HB := bS HB hb; (try clear hb); obtain ⟨hcz43_0, hcz43_1, hcz43_2, hfz43_0, hfz43_1, hfz43_2⟩ := bK3 (w := w42) BK325; obtain ⟨hcz44_0, hcz44_1, hcz44_2, hfz44_0, hfz44_1, hfz44_2⟩ := bK3 (w := w42) BK318) | (refine gC (some 32) Tryz.func117 #[.agg #[.int .i64 x319000_2, .int .i64 x319001_2, .bool x319002_2], .agg #[.int .i64 x319000_2, .int .i64 x319001_2, .bool x319002_2]] ?_; (with_reducible refine (spec_l07Add.calls k2 x319000_2 x319001_2 x319002_2 x319000_2 x319001_2 x319002_2 t329 t330 t331 _ A34.out).mono ?_); rintro e w45 ⟨rfl, hb⟩; refine ⟨_, rfl, ?_⟩; replace BK312 := bB BK312 hb; replace BK313 := bB BK313 hb; replace BK318 := bB BK318 hb; replace BK325 := bV 28 #[.int .i64 t326, .int .i64 t327, .bool t328] BK325 hb; replace HB := bS HB hb; (try clear hb); obtain ⟨hcz46_0, hcz46_1, hcz46_2, hfz46_0, hfz46_1, hfz46_2⟩ := bK3 (w := w45) BK318))
        go_roundg k2
        case measure => have := HJ4.out; have := HK2.out; omega
        case rel => exact ⟨(wrap64 (Int.tdiv x5_2 2)), (t329), (t330), (t331), (t326), (t327), (t328), rS, H', ⟨by have := HJ4.out; have := HK2.out; omega⟩, ⟨bP BK312⟩, ⟨bP BK313⟩, ⟨bU BK318⟩, ⟨bP BK325⟩, ⟨bZ HB⟩⟩
       ·rw [if_neg c32] at H
        have c32b0 : ((Int.tmod x5_2 2) == 1) = false := beq_eq_false_iff_ne.mpr c32
        have c32b1 : ((Int.tmod x5_2 2) != 1) = true := bne_iff_ne.mpr c32
        obtain ⟨⟨t332, t333, t334⟩, A47, H⟩ := oB H
        have H' := Aside0.mk H
        clear H
        obtain ⟨hnb48, hnc48⟩ := nB NB318_312
        obtain ⟨hnb49, hnc49⟩ := nB NB318_313
        obtain ⟨hnb50, hnc50⟩ := nB NB318_325
        obtain ⟨hcz51_0, hcz51_1, hcz51_2, hfz51_0, hfz51_1, hfz51_2⟩ := bK3 (w := wr) BK318
        go_wp2_with (first | (refine gC (some 32) Tryz.func117 #[.agg #[.int .i64 x319000_2, .int .i64 x319001_2, .bool x319002_2], .agg #[.int .i64 x319000_2, .int .i64 x319001_2, .bool x319002_2]] ?_; (with_reducible refine (spec_l07Add.calls k2 x319000_2 x319001_2 x319002_2 x319000_2 x319001_2 x319002_2 t332 t333 t334 _ A47.out).mono ?_); rintro e w52 ⟨rfl, hb⟩; refine ⟨_, rfl, ?_⟩; replace BK312 := bB BK312 hb; replace BK313 := bB BK313 hb; replace BK318 := bB BK318 hb; replace BK325 := bB BK325 hb; replace HB := bS HB hb; (try clear hb); obtain ⟨hcz53_0, hcz53_1, hcz53_2, hfz53_0, hfz53_1, hfz53_2⟩ := bK3 (w := w52) BK318))
        go_roundg k2
        case measure => have := HJ4.out; have := HK2.out; omega
        case rel => exact ⟨(wrap64 (Int.tdiv x5_2 2)), (t332), (t333), (t334), (x326000_2), (x326001_2), (x326002_2), rS, H', ⟨by have := HJ4.out; have := HK2.out; omega⟩, ⟨bP BK312⟩, ⟨bP BK313⟩, ⟨bU BK318⟩, ⟨bP BK325⟩, ⟨bZ HB⟩⟩
      ·rw [if_neg c31] at H
       have c31b0 := decide_eq_false c31
       clear c31
       simp only [Option.some.injEq, Prod.mk.injEq] at H
       obtain ⟨rfl, rfl, rfl⟩ := H
       obtain ⟨hnb54, hnc54⟩ := nB NB325_312
       obtain ⟨hnb55, hnc55⟩ := nB NB325_313
       obtain ⟨hnb56, hnc56⟩ := nB NB325_318
       obtain ⟨hcz57_0, hcz57_1, hcz57_2, hfz57_0, hfz57_1, hfz57_2⟩ := bK3 (w := wr) BK325
       obtain ⟨hnb58, hnc58⟩ := nB NB313_312
       obtain ⟨hnb59, hnc59⟩ := nB NB313_318
       obtain ⟨hcz60_0, hcz60_1, hcz60_2, hfz60_0, hfz60_1, hfz60_2⟩ := bK3 (w := wr) BK313
       go_wp2
       refine rC gb313 28 #[.int .i64 x326000_2, .int .i64 x326001_2, .bool x326002_2] (bU BK313) Tryz.underlying28 ?_
       exact ⟨rR, bZ HB⟩
 ·replace c4 := Bool.eq_false_iff.mpr c4
  subst c4
  rw [if_neg (show ¬ (false = true) by decide)] at H
  obtain ⟨⟨t315, t316, t317⟩, A61, H⟩ := oB H
  simp only [Option.some.injEq, Prod.mk.injEq] at H
  obtain ⟨rfl, rfl, rfl⟩ := H
  go_enter Tryz.func65, Tryz.ntmps65
  go_wp2_with (first | (refine gB 3 #[.int .i64 a1_0, .int .i64 a1_1, .bool a1_2] 28 ?_; intro gb312 hg w62 BK312 hb; have GW312 := bG HB hg; replace HB := bS HB hb; clear hb hg) | (refine gB 4 #[.int .i64 0, .int .i64 0, .bool false] 28 ?_; intro gb313 hg w63 BK313 hb; have GW313 := bG HB hg; replace HB := bS HB hb; obtain ⟨NB312_313, NB313_312⟩ := bN BK312 hg; replace BK312 := bB BK312 hb; clear hb hg; obtain ⟨hnb64, hnc64⟩ := nB NB312_313; obtain ⟨hcz65_0, hcz65_1, hcz65_2, hfz65_0, hfz65_1, hfz65_2⟩ := bK3 (w := w63) BK312) | (refine gC (some 9) Tryz.func115 #[.agg #[.int .i64 a1_0, .int .i64 a1_1, .bool a1_2]] ?_; (with_reducible refine (spec_PointOk.calls a1_0 a1_1 a1_2 false _ A3.out).mono ?_); rintro e w66 ⟨rfl, hb⟩; refine ⟨_, rfl, ?_⟩; replace BK312 := bB BK312 hb; replace BK313 := bB BK313 hb; replace HB := bS HB hb; (try clear hb)) | (refine gC (some 11) Tryz.func81 #[] ?_; (with_reducible refine (spec_l07Zero.calls  t315 t316 t317 _ A61.out).mono ?_); rintro e w67 ⟨rfl, hb⟩; refine ⟨_, rfl, ?_⟩; replace BK312 := bB BK312 hb; replace BK313 := bB BK313 hb; replace HB := bS HB hb; (try clear hb); obtain ⟨hcz68_0, hcz68_1, hcz68_2, hfz68_0, hfz68_1, hfz68_2⟩ := bK3 (w := w67) BK313))
  refine rC gb313 28 #[.int .i64 t315, .int .i64 t316, .bool t317] (bU BK313) Tryz.underlying28 ?_
  exact ⟨rR, bZ HB⟩
end Go.Proofs.YtkdmplfldfagnaaGreatDoor.Pf
end
section
namespace Go.Proofs.YtkdmplfldfagnaaGreatDoor.Pf
open Go.RowKit Go.Proofs.YtkdmplfldfagnaaGreatDoorW.PrintWords Go.Proofs.YtkdmplfldfagnaaGreatDoorW.PrintLast Go.Proofs.YtkdmplfldfagnaaGreatDoorW.PrintMore
attribute [local go_sem] max2_int min2_int max_two min_two max_three min_three max_four min_four   -- for this text's walks alone
set_option linter.unusedVariables false
set_option linter.unusedSimpArgs false
set_option maxHeartbeats 8000000
set_option maxRecDepth 100000
def spec_l07Group.f (k : Nat) (s0_0 : List Int) (s0_1 : Int) (s0_2 : Int) : Option (Int × Int × Bool × Int × Int) := (spec_l01Below.f s0_0 s0_1 s0_2 256).bind fun bt396 => ((spec_l01PickInt.f s0_0 bt396.2.1 bt396.2.2 (([1, 2, 3, 0, 500, 1008, bt396.1] : List Int))).bind fun bt402 => ((spec_Base.f).bind fun bt405 => ((spec_PointTimes.f k bt402.1 bt405.1 bt405.2.1 bt405.2.2).bind fun bt408 => (some (bt408.1, bt408.2.1, bt408.2.2, bt402.2.1, bt402.2.2)))))
theorem spec_l07Group.calls (k : Nat) (g : Nat) (s0_0 : List Int) (s0_1 : Int) (s0_2 : Int) (r1 : Int) (r2 : Int) (r3 : Bool) (r4 : Int) (r5 : Int) (w0 w : World) (hI : IsS90 w0 w g s0_0 s0_1 s0_2) (hB : Below w0.heap.size w0 w) (h : spec_l07Group.f k s0_0 s0_1 s0_2 = some (r1, r2, r3, r4, r5)) :
  Calls Tryz.prog 101 #[.pointer (some ⟨g, 0, none⟩)] w fun e w' => e = .returned (.agg #[.int .i64 r1, .int .i64 r2, .bool r3]) ∧ IsS90 w0 w' g s0_0 r4 r5 ∧ Below w0.heap.size w0 w' ∧ KeepBut w w' g none := by
 have hu28 := Tryz.underlying28
 have HI0 := Aside0.mk hI
 have HK := Aside0.mk (KeepBut.refl w g none)
 have HL := Aside0.mk hB.size
 clear hI
 have HW0 := Aside0.mk hB.size
 have HB := Aside0.mk hB
 clear hB
 unfold spec_l07Group.f at h
 have H := h
 clear h
 obtain ⟨⟨t396, t397, t398⟩, A2, H⟩ := oB H
 obtain ⟨y399, hy399⟩ : ∃ y_ : List Int, y_ = (([1, 2, 3, 0, 500, 1008, t396] : List Int)) := ⟨_, rfl⟩
 replace H : ((spec_l01PickInt.f s0_0 t397 t398 y399).bind fun bt402 => ((spec_Base.f).bind fun bt405 => ((spec_PointTimes.f k bt402.1 bt405.1 bt405.2.1 bt405.2.2).bind fun bt408 => (some (bt408.1, bt408.2.1, bt408.2.2, bt402.2.1, bt402.2.2))))) = some (r1, r2, r3, r4, r5) := yR hy399 H
 have Ny399 := Aside0.mk hy399
 clear hy399
 obtain ⟨⟨t402, t403, t404⟩, A3, H⟩ := oB H
 obtain ⟨⟨t405, t406, t407⟩, A4, H⟩ := oB H
 obtain ⟨⟨t408, t409, t410⟩, A5, H⟩ := oB H
 simp only [Option.some.injEq, Prod.mk.injEq] at H
 obtain ⟨rfl, rfl, rfl, rfl, rfl⟩ := H
 go_enter Tryz.func101, Tryz.ntmps101
 go_wp2_with (first | ((with_reducible refine gate_dst (N := 2) rfl ?_); refine bE 2 #[.int .i64 0, .int .i64 0, .bool false] 28 ?_; intro gb395 hg w6 hbox hb; replace HB := Aside0.mk (below_step (jZ90 HB HI0) hb); have BK395 := Aside0.mk (hbox); have GW395 := Aside0.mk ((by rw [hg]; exact (keep_size (w := w) (g := g) (row := none) (kZ HK)) : w.heap.size ≤ gb395)); have GE395 := Aside0.mk ((Nat.le_trans HW0.out (by rw [hg]; exact (keep_size (w := w) (g := g) (row := none) (kZ HK)) : w.heap.size ≤ gb395) : w0.heap.size ≤ gb395)); replace HK := Aside0.mk (KeepBut.trans (kZ HK) (KeepBut.of_below hb g none) (.inl rfl)); have NB0_395 := Aside0.mk ((by rw [hg]; exact Nat.ne_of_lt (IsS90.lt (show IsS90 w0 _ g s0_0 s0_1 s0_2 from iZ90 HI0)) : g ≠ gb395)); have NB395_0 := Aside0.mk ((by rw [hg]; exact Nat.ne_of_gt (IsS90.lt (show IsS90 w0 _ g s0_0 s0_1 s0_2 from iZ90 HI0)) : gb395 ≠ g)); replace HI0 := Aside0.mk (IsS90.below (iZ90 HI0) hb); clear hb hbox hg) | (refine gC (some 5) Tryz.func44 #[.pointer (some ⟨g, 0, none⟩), .int .i64 256] ?_; (with_reducible refine (spec_l01Below.calls g s0_0 s0_1 s0_2 256 t396 t397 t398 w0 _ ?side1 ?side2 A2.out).mono ?_); (case side1 => exact iZ90 HI0); (case side2 => exact jZ90 HB HI0); rintro e w7 ⟨rfl, hi, hb, hk⟩; refine ⟨_, rfl, ?_⟩; replace BK395 := Aside0.mk (KeepBut.blk hk (g' := gb395) (o := .cells #[.int .i64 0, .int .i64 0, .bool false] 28 (0, 0)) (bP BK395) NB395_0.out (by simp)); replace HK := Aside0.mk (KeepBut.trans (kZ HK) hk (.inl rfl)); replace HB := Aside0.mk (hb); replace HI0 := Aside0.mk (hi); (try clear hb)) | ((with_reducible refine gate_dst (N := 6) rfl ?_); refine Kd.R_lit (Kd.int .i64) _ 3 ?hg (N := 6) ?hd (xs := ([1, 2, 3, 0, 500, 1008, t396] : List Int)) (inner := [.int .i64 1, .int .i64 2, .int .i64 3, .int .i64 0, .int .i64 500, .int .i64 1008, .int .i64 t396]) (ok := fun _ => True) (okp := fun _ => True) ?hr ?hp (fun _ hk => hk) trivial (Below.refl _ _) (Nat.le_refl _) (by simp) ?_; (case hd => rfl); (case hg => rfl); (case hr => first | (go_simp; done) | (go_simp; rfl)); (case hp => exact (Reps.one (show Kd.M (Kd.int .i64) _ _ _ 1 [.int .i64 1] from rfl) (Reps.one (show Kd.M (Kd.int .i64) _ _ _ 2 [.int .i64 2] from rfl) (Reps.one (show Kd.M (Kd.int .i64) _ _ _ 3 [.int .i64 3] from rfl) (Reps.one (show Kd.M (Kd.int .i64) _ _ _ 0 [.int .i64 0] from rfl) (Reps.one (show Kd.M (Kd.int .i64) _ _ _ 500 [.int .i64 500] from rfl) (Reps.one (show Kd.M (Kd.int .i64) _ _ _ 1008 [.int .i64 1008] from rfl) (Reps.one (show Kd.M (Kd.int .i64) _ _ _ t396 [.int .i64 t396] from rfl) (Reps.none _ _))))))))); intro v400 w8 ho9 hb hg_ hnew_; clear hg_ hnew_; (first | rw [← Ny399.out] at ho9 | (simp only [Int.reduceToNat] at ho9; rw [← Ny399.out] at ho9)); have HO401 := Aside0.mk (Kd.R_lower ho9 (keep_size (w := w) (g := g) (row := none) (kZ HK))); replace BK395 := bB BK395 hb; replace HK := Aside0.mk (KeepBut.trans (kZ HK) (KeepBut.of_below hb g none) (.inl rfl)); replace HB := Aside0.mk (below_step (jZ90 HB HI0) hb); replace HI0 := Aside0.mk (IsS90.below (iZ90 HI0) hb); clear hb ho9; obtain ⟨Ao10, co10, eo10⟩ := Kd.R_slice HO401.out; subst eo10) | (refine gC (some 7) Tryz.func91 #[.pointer (some ⟨g, 0, none⟩), .slice Ao10 y399.length co10] ?_; (with_reducible refine (spec_l01PickInt.calls g s0_0 t397 t398 _ _ y399 t402 t403 t404 w0 _ ?side1 ?side2 ?side3 ?side4 ?side5 A3.out).mono ?_); (case side1 => exact iZ90 HI0); (case side2 => exact jZ90 HB HI0); (case side3 => exact cP ((Kd.R_reads' HO401.out).2.2)); (case side4 => exact (Kd.R_reads' HO401.out).2.1); (case side5 => exact far_slice (IsS90.own_ne HI0.out HO401.out (by decide))); rintro e w11 ⟨rfl, hi, hb, hk⟩; refine ⟨_, rfl, ?_⟩; replace BK395 := Aside0.mk (KeepBut.blk hk (g' := gb395) (o := .cells #[.int .i64 0, .int .i64 0, .bool false] 28 (0, 0)) (bP BK395) NB395_0.out (by simp)); replace HO401 := Aside0.mk (Kd.R_mono (Kd.R_keep (IsS90.apart (show IsS90 w0 _ g s0_0 t397 t398 from iZ90 HI0) (rP HO401) (by decide)) hk (fun _ h => h.2)) (fun _ h => h.1)); replace HK := Aside0.mk (KeepBut.trans (kZ HK) hk (.inl rfl)); replace HB := Aside0.mk (hb); replace HI0 := Aside0.mk (hi); (try clear hb)) | (refine gC (some 8) Tryz.func66 #[] ?_; (with_reducible refine (spec_Base.calls  t405 t406 t407 _ A4.out).mono ?_); rintro e w12 ⟨rfl, hb⟩; refine ⟨_, rfl, ?_⟩; replace HO401 := Aside0.mk (Kd.R_below (rP HO401) hb); replace BK395 := bB BK395 hb; replace HK := Aside0.mk (KeepBut.trans (kZ HK) (KeepBut.of_below hb g none) (.inl rfl)); replace HB := Aside0.mk (below_step (jZ90 HB HI0) hb); replace HI0 := Aside0.mk (IsS90.below (iZ90 HI0) hb); (try clear hb)) | (refine gC (some 9) Tryz.func65 #[.int .i64 t402, .agg #[.int .i64 t405, .int .i64 t406, .bool t407]] ?_; (with_reducible refine (spec_PointTimes.calls k t402 t405 t406 t407 t408 t409 t410 _ A5.out).mono ?_); rintro e w13 ⟨rfl, hb⟩; refine ⟨_, rfl, ?_⟩; replace HO401 := Aside0.mk (Kd.R_below (rP HO401) hb); replace BK395 := bB BK395 hb; replace HK := Aside0.mk (KeepBut.trans (kZ HK) (KeepBut.of_below hb g none) (.inl rfl)); replace HB := Aside0.mk (below_step (jZ90 HB HI0) hb); replace HI0 := Aside0.mk (IsS90.below (iZ90 HI0) hb); (try clear hb); obtain ⟨hnb14, hnc14⟩ := nB NB395_0; obtain ⟨hcz15_0, hcz15_1, hcz15_2, hfz15_0, hfz15_1, hfz15_2⟩ := bK3 (w := w13) BK395))
 refine rC gb395 28 #[.int .i64 t408, .int .i64 t409, .bool t410] (bU BK395) Tryz.underlying28 ?_
 exact ⟨by first | rfl | (simp [errW_none, errW_some] <;> rfl) | (simp [*, errW_none, errW_some] <;> rfl), iZ90 HI0, jZ90 HB HI0, kZ HK⟩
def spec_l07Any.j0 : Nat → Int → Bool → List Int → Int → Int → Option (Int × Int × Bool × Int × Int)
 | 0, _, _, _, _, _ => none
 | k + 1, x4, x5, x1000, x1001, x1002 => if x5 = true then ((spec_l07Curve.f k x1000 x1001 x1002).bind fun bt415 => (some (bt415.1, bt415.2.1, bt415.2.2.1, bt415.2.2.2.1, bt415.2.2.2.2))) else (if x4 = 3 then ((spec_l04Num.f x1000 x1001 x1002).bind fun bt420 => ((spec_l04Num.f x1000 bt420.2.1 bt420.2.2).bind fun bt423 => (some (bt420.1, bt423.1, false, bt423.2.1, bt423.2.2)))) else (if x4 = 4 then ((spec_l01Below.f x1000 x1001 x1002 3).bind fun bt426 => (some (bt426.1, 0, true, bt426.2.1, bt426.2.2))) else (if x4 = 5 then (some (0, 0, false, x1001, x1002)) else ((spec_l07Group.f k x1000 x1001 x1002).bind fun bt429 => (some (bt429.1, bt429.2.1, bt429.2.2.1, bt429.2.2.2.1, bt429.2.2.2.2))))))
def spec_l07Any.f (k : Nat) (s0_0 : List Int) (s0_1 : Int) (s0_2 : Int) : Option (Int × Int × Bool × Int × Int) := (spec_l01Below.f s0_0 s0_1 s0_2 10).bind fun bt412 => (if bt412.1 = 0 then (spec_l07Any.j0 k bt412.1 (bt412.1 == 0) s0_0 bt412.2.1 bt412.2.2) else (if bt412.1 = 1 then (spec_l07Any.j0 k bt412.1 (bt412.1 == 1) s0_0 bt412.2.1 bt412.2.2) else (spec_l07Any.j0 k bt412.1 (bt412.1 == 2) s0_0 bt412.2.1 bt412.2.2)))
theorem spec_l07Any.calls (k : Nat) (g : Nat) (s0_0 : List Int) (s0_1 : Int) (s0_2 : Int) (r1 : Int) (r2 : Int) (r3 : Bool) (r4 : Int) (r5 : Int) (w0 w : World) (hI : IsS90 w0 w g s0_0 s0_1 s0_2) (hB : Below w0.heap.size w0 w) (h : spec_l07Any.f k s0_0 s0_1 s0_2 = some (r1, r2, r3, r4, r5)) :
  Calls Tryz.prog 59 #[.pointer (some ⟨g, 0, none⟩)] w fun e w' => e = .returned (.agg #[.int .i64 r1, .int .i64 r2, .bool r3]) ∧ IsS90 w0 w' g s0_0 r4 r5 ∧ Below w0.heap.size w0 w' ∧ KeepBut w w' g none := by
 have hu28 := Tryz.underlying28
 have HI0 := Aside0.mk hI
 have HK := Aside0.mk (KeepBut.refl w g none)
 have HL := Aside0.mk hB.size
 clear hI
 have HW0 := Aside0.mk hB.size
 have HB := Aside0.mk hB
 clear hB
 unfold spec_l07Any.f at h
 have H := h
 clear h
 obtain ⟨⟨t412, t413, t414⟩, A2, H⟩ := oB H
 have HC3 := Aside0.mk H
 clear H
 go_enter Tryz.func59, Tryz.ntmps59
 go_upto_if 5 with (first | ((with_reducible refine gate_dst (N := 2) rfl ?_); refine bE 2 #[.int .i64 0, .int .i64 0, .bool false] 28 ?_; intro gb411 hg w4 hbox hb; replace HB := Aside0.mk (below_step (jZ90 HB HI0) hb); have BK411 := Aside0.mk (hbox); have GW411 := Aside0.mk ((by rw [hg]; exact (keep_size (w := w) (g := g) (row := none) (kZ HK)) : w.heap.size ≤ gb411)); have GE411 := Aside0.mk ((Nat.le_trans HW0.out (by rw [hg]; exact (keep_size (w := w) (g := g) (row := none) (kZ HK)) : w.heap.size ≤ gb411) : w0.heap.size ≤ gb411)); replace HK := Aside0.mk (KeepBut.trans (kZ HK) (KeepBut.of_below hb g none) (.inl rfl)); have NB0_411 := Aside0.mk ((by rw [hg]; exact Nat.ne_of_lt (IsS90.lt (show IsS90 w0 _ g s0_0 s0_1 s0_2 from iZ90 HI0)) : g ≠ gb411)); have NB411_0 := Aside0.mk ((by rw [hg]; exact Nat.ne_of_gt (IsS90.lt (show IsS90 w0 _ g s0_0 s0_1 s0_2 from iZ90 HI0)) : gb411 ≠ g)); replace HI0 := Aside0.mk (IsS90.below (iZ90 HI0) hb); clear hb hbox hg) | (refine gC (some 4) Tryz.func44 #[.pointer (some ⟨g, 0, none⟩), .int .i64 10] ?_; (with_reducible refine (spec_l01Below.calls g s0_0 s0_1 s0_2 10 t412 t413 t414 w0 _ ?side1 ?side2 A2.out).mono ?_); (case side1 => exact iZ90 HI0); (case side2 => exact jZ90 HB HI0); rintro e w5 ⟨rfl, hi, hb, hk⟩; refine ⟨_, rfl, ?_⟩; replace BK411 := Aside0.mk (KeepBut.blk hk (g' := gb411) (o := .cells #[.int .i64 0, .int .i64 0, .bool false] 28 (0, 0)) (bP BK411) NB411_0.out (by simp)); replace HK := Aside0.mk (KeepBut.trans (kZ HK) hk (.inl rfl)); replace HB := Aside0.mk (hb); replace HI0 := Aside0.mk (hi); (try clear hb)))
 (try simp only [Act.put, List.setIfInBounds_toArray, List.set_cons_zero, List.set_cons_succ])
 go_cut [5] (fun v5 wc => ∃ (kq : Nat) (x5_2 : Bool), v5 = .bool x5_2 ∧ Aside0 (spec_l07Any.j0 kq t412 x5_2 s0_0 t413 t414 = some (r1, r2, r3, r4, r5)) ∧ Aside0 (kq ≤ k) ∧ Aside0 (wc.heap[gb411]? = some (.cells #[.int .i64 0, .int .i64 0, .bool false] 28 (0, 0))) ∧ Aside0 (IsS90 w0 wc g s0_0 t413 t414) ∧ Aside0 (KeepBut w wc g none) ∧ Aside0 (Below w0.heap.size w0 wc))
 case first =>
  have H := HC3.out
  clear HC3
  by_cases c6 : t412 = 0
  ·rw [if_pos c6] at H
   have c6b0 : (t412 == 0) = true := beq_iff_eq.mpr c6
   have c6b1 : (t412 != 0) = false := bne_eq_false_iff_eq.mpr c6
   clear c6
   (first | rw [c6b0] | (simp only [i64_w, i32_w]; rw [c6b0]) | rw [c6b1] | skip)
   have H' := Aside0.mk H
   clear H
   go_wp2
   go_meet
   case rel => exact ⟨_, ((t412 == 0)), rS, H', ⟨by first | omega | exact Nat.le_refl _⟩, ⟨bP BK411⟩, ⟨iZ90 HI0⟩, ⟨kZ HK⟩, ⟨jZ90 HB HI0⟩⟩
  ·rw [if_neg c6] at H
   have c6b0 : (t412 == 0) = false := beq_eq_false_iff_ne.mpr c6
   have c6b1 : (t412 != 0) = true := bne_iff_ne.mpr c6
   (first | rw [c6b0] | (simp only [i64_w, i32_w]; rw [c6b0]) | rw [c6b1] | skip)
   by_cases c7 : t412 = 1
   ·rw [if_pos c7] at H
    have c7b0 : (t412 == 1) = true := beq_iff_eq.mpr c7
    have c7b1 : (t412 != 1) = false := bne_eq_false_iff_eq.mpr c7
    clear c7
    have H' := Aside0.mk H
    clear H
    go_wp2
    go_meet
    case rel => exact ⟨_, ((t412 == 1)), rS, H', ⟨by first | omega | exact Nat.le_refl _⟩, ⟨bP BK411⟩, ⟨iZ90 HI0⟩, ⟨kZ HK⟩, ⟨jZ90 HB HI0⟩⟩
   ·rw [if_neg c7] at H
    have c7b0 : (t412 == 1) = false := beq_eq_false_iff_ne.mpr c7
    have c7b1 : (t412 != 1) = true := bne_iff_ne.mpr c7
    have H' := Aside0.mk H
    clear H
    go_wp2
    go_meet
    case rel => exact ⟨_, ((t412 == 2)), rS, H', ⟨by first | omega | exact Nat.le_refl _⟩, ⟨bP BK411⟩, ⟨iZ90 HI0⟩, ⟨kZ HK⟩, ⟨jZ90 HB HI0⟩⟩
 case rest =>
  clear HC3
  try clear p2
  try clear c4
  try clear c5
  try clear c6
  try clear c6b0
  try clear c6b1
  try clear c7
  try clear c7b0
  try clear c7b1
  obtain ⟨kq, x5_2, rfl, HA, HJ2, BK411, HI0, HK, HB⟩ := hcut
  cases kq with
  | zero => exact absurd HA.out (by simp [spec_l07Any.j0])
  | succ kj2 =>
   have H := HA.out
   clear HA
   simp only [spec_l07Any.j0] at H
   by_cases c8 : x5_2 = true
   ·subst c8
    rw [if_pos rfl] at H
    obtain ⟨⟨t415, t416, t417, t418, t419⟩, A9, H⟩ := oB H
    simp only [Option.some.injEq, Prod.mk.injEq] at H
    obtain ⟨rfl, rfl, rfl, rfl, rfl⟩ := H
    go_wp2_with (first | (refine gC (some 10) Tryz.func99 #[.pointer (some ⟨g, 0, none⟩)] ?_; (with_reducible refine (spec_l07Curve.calls kj2 g s0_0 t413 t414 t415 t416 t417 t418 t419 w0 _ ?side1 ?side2 A9.out).mono ?_); (case side1 => exact iZ90 HI0); (case side2 => exact jZ90 HB HI0); rintro e w10 ⟨rfl, hi, hb, hk⟩; refine ⟨_, rfl, ?_⟩; replace BK411 := Aside0.mk (KeepBut.blk hk (g' := gb411) (o := .cells #[.int .i64 0, .int .i64 0, .bool false] 28 (0, 0)) (bP BK411) NB411_0.out (by simp)); replace HK := Aside0.mk (KeepBut.trans (kZ HK) hk (.inl rfl)); replace HB := Aside0.mk (hb); replace HI0 := Aside0.mk (hi); (try clear hb); obtain ⟨hnb11, hnc11⟩ := nB NB411_0; obtain ⟨hcz12_0, hcz12_1, hcz12_2, hfz12_0, hfz12_1, hfz12_2⟩ := bK3 (w := w10) BK411))
    refine rC gb411 28 #[.int .i64 t415, .int .i64 t416, .bool t417] (bU BK411) Tryz.underlying28 ?_
    exact ⟨by first | rfl | (simp [errW_none, errW_some] <;> rfl) | (simp [*, errW_none, errW_some] <;> rfl), iZ90 HI0, jZ90 HB HI0, kZ HK⟩
   ·replace c8 := Bool.eq_false_iff.mpr c8
    subst c8
    rw [if_neg (show ¬ (false = true) by decide)] at H
    by_cases c13 : t412 = 3
    ·rw [if_pos c13] at H
     have c13b0 : (t412 == 3) = true := beq_iff_eq.mpr c13
     have c13b1 : (t412 != 3) = false := bne_eq_false_iff_eq.mpr c13
     clear c13
     obtain ⟨⟨t420, t421, t422⟩, A14, H⟩ := oB H
     obtain ⟨⟨t423, t424, t425⟩, A15, H⟩ := oB H
     simp only [Option.some.injEq, Prod.mk.injEq] at H
     obtain ⟨rfl, rfl, rfl, rfl, rfl⟩ := H
     go_wp2_with (first | (refine gC (some 14) Tryz.func100 #[.pointer (some ⟨g, 0, none⟩)] ?_; (with_reducible refine (spec_l04Num.calls g s0_0 t413 t414 t420 t421 t422 w0 _ ?side1 ?side2 A14.out).mono ?_); (case side1 => exact iZ90 HI0); (case side2 => exact jZ90 HB HI0); rintro e w16 ⟨rfl, hi, hb, hk⟩; refine ⟨_, rfl, ?_⟩; replace BK411 := Aside0.mk (KeepBut.blk hk (g' := gb411) (o := .cells #[.int .i64 0, .int .i64 0, .bool false] 28 (0, 0)) (bP BK411) NB411_0.out (by simp)); replace HK := Aside0.mk (KeepBut.trans (kZ HK) hk (.inl rfl)); replace HB := Aside0.mk (hb); replace HI0 := Aside0.mk (hi); (try clear hb)) | (refine gC (some 16) Tryz.func100 #[.pointer (some ⟨g, 0, none⟩)] ?_; (with_reducible refine (spec_l04Num.calls g s0_0 t421 t422 t423 t424 t425 w0 _ ?side1 ?side2 A15.out).mono ?_); (case side1 => exact iZ90 HI0); (case side2 => exact jZ90 HB HI0); rintro e w17 ⟨rfl, hi, hb, hk⟩; refine ⟨_, rfl, ?_⟩; replace BK411 := Aside0.mk (KeepBut.blk hk (g' := gb411) (o := .cells #[.int .i64 0, .int .i64 0, .bool false] 28 (0, 0)) (bP BK411) NB411_0.out (by simp)); replace HK := Aside0.mk (KeepBut.trans (kZ HK) hk (.inl rfl)); replace HB := Aside0.mk (hb); replace HI0 := Aside0.mk (hi); (try clear hb); obtain ⟨hnb18, hnc18⟩ := nB NB411_0; obtain ⟨hcz19_0, hcz19_1, hcz19_2, hfz19_0, hfz19_1, hfz19_2⟩ := bK3 (w := w17) BK411))
     refine rC gb411 28 #[.int .i64 t420, .int .i64 t423, .bool false] (bU BK411) Tryz.underlying28 ?_
     exact ⟨by first | rfl | (simp [errW_none, errW_some] <;> rfl) | (simp [*, errW_none, errW_some] <;> rfl), iZ90 HI0, jZ90 HB HI0, kZ HK⟩
    ·rw [if_neg c13] at H
     have c13b0 : (t412 == 3) = false := beq_eq_false_iff_ne.mpr c13
     have c13b1 : (t412 != 3) = true := bne_iff_ne.mpr c13
     by_cases c20 : t412 = 4
     ·rw [if_pos c20] at H
      have c20b0 : (t412 == 4) = true := beq_iff_eq.mpr c20
      have c20b1 : (t412 != 4) = false := bne_eq_false_iff_eq.mpr c20
      clear c20
      obtain ⟨⟨t426, t427, t428⟩, A21, H⟩ := oB H
      simp only [Option.some.injEq, Prod.mk.injEq] at H
      obtain ⟨rfl, rfl, rfl, rfl, rfl⟩ := H
      go_wp2_with (first | (refine gC (some 21) Tryz.func44 #[.pointer (some ⟨g, 0, none⟩), .int .i64 3] ?_; (with_reducible refine (spec_l01Below.calls g s0_0 t413 t414 3 t426 t427 t428 w0 _ ?side1 ?side2 A21.out).mono ?_); (case side1 => exact iZ90 HI0); (case side2 => exact jZ90 HB HI0); rintro e w22 ⟨rfl, hi, hb, hk⟩; refine ⟨_, rfl, ?_⟩; replace BK411 := Aside0.mk (KeepBut.blk hk (g' := gb411) (o := .cells #[.int .i64 0, .int .i64 0, .bool false] 28 (0, 0)) (bP BK411) NB411_0.out (by simp)); replace HK := Aside0.mk (KeepBut.trans (kZ HK) hk (.inl rfl)); replace HB := Aside0.mk (hb); replace HI0 := Aside0.mk (hi); (try clear hb); obtain ⟨hnb23, hnc23⟩ := nB NB411_0; obtain ⟨hcz24_0, hcz24_1, hcz24_2, hfz24_0, hfz24_1, hfz24_2⟩ := bK3 (w := w22) BK411))
      refine rC gb411 28 #[.int .i64 t426, .int .i64 0, .bool true] (bU BK411) Tryz.underlying28 ?_
      exact ⟨by first | rfl | (simp [errW_none, errW_some] <;> rfl) | (simp [*, errW_none, errW_some] <;> rfl), iZ90 HI0, jZ90 HB HI0, kZ HK⟩
     ·rw [if_neg c20] at H
      have c20b0 : (t412 == 4) = false := beq_eq_false_iff_ne.mpr c20
      have c20b1 : (t412 != 4) = true := bne_iff_ne.mpr c20
      by_cases c25 : t412 = 5
      ·rw [if_pos c25] at H
       have c25b0 : (t412 == 5) = true := beq_iff_eq.mpr c25
       have c25b1 : (t412 != 5) = false := bne_eq_false_iff_eq.mpr c25
       clear c25
       simp only [Option.some.injEq, Prod.mk.injEq] at H
       obtain ⟨rfl, rfl, rfl, rfl, rfl⟩ := H
       obtain ⟨hnb26, hnc26⟩ := nB NB411_0
       obtain ⟨hcz27_0, hcz27_1, hcz27_2, hfz27_0, hfz27_1, hfz27_2⟩ := bK3 (w := wc) BK411
       go_wp2
       refine rC gb411 28 #[.int .i64 0, .int .i64 0, .bool false] (bU BK411) Tryz.underlying28 ?_
       exact ⟨by first | rfl | (simp [errW_none, errW_some] <;> rfl) | (simp [*, errW_none, errW_some] <;> rfl), iZ90 HI0, jZ90 HB HI0, kZ HK⟩
      ·rw [if_neg c25] at H
       have c25b0 : (t412 == 5) = false := beq_eq_false_iff_ne.mpr c25
       have c25b1 : (t412 != 5) = true := bne_iff_ne.mpr c25
       obtain ⟨⟨t429, t430, t431, t432, t433⟩, A28, H⟩ := oB H
       simp only [Option.some.injEq, Prod.mk.injEq] at H
       obtain ⟨rfl, rfl, rfl, rfl, rfl⟩ := H
       go_wp2_with (first | (refine gC (some 27) Tryz.func101 #[.pointer (some ⟨g, 0, none⟩)] ?_; (with_reducible refine (spec_l07Group.calls kj2 g s0_0 t413 t414 t429 t430 t431 t432 t433 w0 _ ?side1 ?side2 A28.out).mono ?_); (case side1 => exact iZ90 HI0); (case side2 => exact jZ90 HB HI0); rintro e w29 ⟨rfl, hi, hb, hk⟩; refine ⟨_, rfl, ?_⟩; replace BK411 := Aside0.mk (KeepBut.blk hk (g' := gb411) (o := .cells #[.int .i64 0, .int .i64 0, .bool false] 28 (0, 0)) (bP BK411) NB411_0.out (by simp)); replace HK := Aside0.mk (KeepBut.trans (kZ HK) hk (.inl rfl)); replace HB := Aside0.mk (hb); replace HI0 := Aside0.mk (hi); (try clear hb); obtain ⟨hnb30, hnc30⟩ := nB NB411_0; obtain ⟨hcz31_0, hcz31_1, hcz31_2, hfz31_0, hfz31_1, hfz31_2⟩ := bK3 (w := w29) BK411))
       refine rC gb411 28 #[.int .i64 t429, .int .i64 t430, .bool t431] (bU BK411) Tryz.underlying28 ?_
       exact ⟨by first | rfl | (simp [errW_none, errW_some] <;> rfl) | (simp [*, errW_none, errW_some] <;> rfl), iZ90 HI0, jZ90 HB HI0, kZ HK⟩
def spec_ScOf.f (a0 : Int) : Option (Int) := if (Int.tmod a0 1009) < 0 then (some (wrap64 ((Int.tmod a0 1009) + 1009))) else (some (Int.tmod a0 1009))
theorem spec_ScOf.calls (a0 : Int) (r : Int) (w : World) (h : spec_ScOf.f a0 = some r) :
  Calls Tryz.prog 16 #[.int .i64 a0] w fun e w' => e = .returned (.int .i64 r) ∧ Drawn0 w w' := by
 unfold spec_ScOf.f at h
 have H := h
 clear h
 by_cases c2 : (Int.tmod a0 1009) < 0
 ·rw [if_pos c2] at H
  have c2b0 := decide_eq_true c2
  clear c2
  obtain rfl := Option.some.inj H
  go_enter Tryz.func16, Tryz.ntmps16
  go_wp2
  go_ret
  exact ⟨rS, rD⟩
 ·rw [if_neg c2] at H
  have c2b0 := decide_eq_false c2
  clear c2
  obtain rfl := Option.some.inj H
  go_enter Tryz.func16, Tryz.ntmps16
  go_wp2
  go_ret
  exact ⟨rS, rD⟩
def spec_KeyOf.f (k : Nat) (a0 : Int) : Option (Int × Int × Bool) := (spec_ScOf.f a0).bind fun t337 => ((spec_Base.f).bind fun bt338 => ((spec_PointTimes.f k t337 bt338.1 bt338.2.1 bt338.2.2).bind fun bt341 => (some (bt341.1, bt341.2.1, bt341.2.2))))
theorem spec_KeyOf.calls (k : Nat) (a0 : Int) (r1 : Int) (r2 : Int) (r3 : Bool) (w : World) (h : spec_KeyOf.f k a0 = some (r1, r2, r3)) :
  Calls Tryz.prog 51 #[.int .i64 a0] w fun e w' => e = .returned (.agg #[.int .i64 r1, .int .i64 r2, .bool r3]) ∧ Below w.heap.size w w' := by
 have hu28 := Tryz.underlying28
 have HB := Aside0.mk (Below.refl w.heap.size w)
 unfold spec_KeyOf.f at h
 have H := h
 clear h
 obtain ⟨t337, A2, H⟩ := oB H
 obtain ⟨⟨t338, t339, t340⟩, A3, H⟩ := oB H
 obtain ⟨⟨t341, t342, t343⟩, A4, H⟩ := oB H
 simp only [Option.some.injEq, Prod.mk.injEq] at H
 obtain ⟨rfl, rfl, rfl⟩ := H
 go_enter Tryz.func51, Tryz.ntmps51
 go_wp2_with (first | (refine gB 2 #[.int .i64 0, .int .i64 0, .bool false] 28 ?_; intro gb336 hg w5 BK336 hb; have GW336 := bG HB hg; replace HB := bS HB hb; clear hb hg) | (refine gC (some 4) Tryz.func16 #[.int .i64 a0] ?_; (with_reducible refine (spec_ScOf.calls a0 t337 _ A2.out).mono ?_); rintro e w' ⟨rfl, ⟨nd, rfl⟩⟩; refine ⟨_, rfl, ?_⟩; (try simp only [World.drewN_drewN]); (try (rw [drewN_self w5]; generalize hq_ : World.drewN w5 _ = w5; replace BK336 : Aside0 (w5.heap[gb336]? = some (.cells #[.int .i64 0, .int .i64 0, .bool false] 28 (0, 0))) := ⟨by rw [← hq_]; exact (bP BK336)⟩; replace HB : Aside0 (Below w.heap.size w w5) := ⟨by rw [← hq_]; exact (bZ HB)⟩; clear hq_))) | (refine gC (some 5) Tryz.func66 #[] ?_; (with_reducible refine (spec_Base.calls  t338 t339 t340 _ A3.out).mono ?_); rintro e w6 ⟨rfl, hb⟩; refine ⟨_, rfl, ?_⟩; replace BK336 := bB BK336 hb; replace HB := bS HB hb; (try clear hb)) | (refine gC (some 6) Tryz.func65 #[.int .i64 t337, .agg #[.int .i64 t338, .int .i64 t339, .bool t340]] ?_; (with_reducible refine (spec_PointTimes.calls k t337 t338 t339 t340 t341 t342 t343 _ A4.out).mono ?_); rintro e w7 ⟨rfl, hb⟩; refine ⟨_, rfl, ?_⟩; replace BK336 := bB BK336 hb; replace HB := bS HB hb; (try clear hb); obtain ⟨hcz8_0, hcz8_1, hcz8_2, hfz8_0, hfz8_1, hfz8_2⟩ := bK3 (w := w7) BK336))
 refine rC gb336 28 #[.int .i64 t341, .int .i64 t342, .bool t343] (bU BK336) Tryz.underlying28 ?_
 exact ⟨rR, bZ HB⟩
end Go.Proofs.YtkdmplfldfagnaaGreatDoor.Pf
end
section
namespace Go.Proofs.YtkdmplfldfagnaaGreatDoor.Pf
open Go.RowKit Go.Proofs.YtkdmplfldfagnaaGreatDoorW.PrintWords Go.Proofs.YtkdmplfldfagnaaGreatDoorW.PrintLast Go.Proofs.YtkdmplfldfagnaaGreatDoorW.PrintMore
attribute [local go_sem] max2_int min2_int max_two min_two max_three min_three max_four min_four   -- for this text's walks alone
set_option linter.unusedVariables false
set_option linter.unusedSimpArgs false
set_option maxHeartbeats 8000000
set_option maxRecDepth 100000
mutual
def spec_SecretsOf.j0 : Nat → Int → Option (List Int)
 | 0, _ => none
 | k + 1, x3 => spec_SecretsOf.l0 k x3 (([] : List Int)) 0
def spec_SecretsOf.l0 : Nat → Int → List Int → Int → Option (List Int)
 | 0, _, _, _ => none
 | k + 1, x3, x4, x5 => if x5 < 8 then (if x4.length < 17592186044416 then (spec_SecretsOf.l0 k x3 (x4 ++ [wrap64 (1 + (Int.tmod (wrap64 ((wrap64 ((wrap64 (x3 * 31)) + (wrap64 (x5 * 57)))) + 7)) 1007))]) (wrap64 (x5 + 1))) else (none)) else (some x4)
end
def spec_SecretsOf.f (k : Nat) (a0 : Int) : Option (List Int) := if (Int.tmod a0 1000) < 0 then (spec_SecretsOf.j0 k (wrap64 ((Int.tmod a0 1000) + 1000))) else (spec_SecretsOf.j0 k (Int.tmod a0 1000))
theorem spec_SecretsOf.calls (k : Nat) (a0 : Int) (r : List Int) (w : World) (h : spec_SecretsOf.f k a0 = some r) :
  Calls Tryz.prog 82 #[.int .i64 a0] w fun e w' => ∃ v0_ : Value, e = .returned (v0_) ∧ Kd.R (Kd.int .i64) 3 w' w.heap.size (fun _ => True) v0_ r ∧ Below w.heap.size w w' := by
 have HB := Aside0.mk (Below.refl w.heap.size w)
 unfold spec_SecretsOf.f at h
 have H := h
 clear h
 have HC2 := Aside0.mk H
 clear H
 go_enter Tryz.func82, Tryz.ntmps82
 go_upto_if 9 with (fail)
 go_cut [3] (fun v3 wc => ∃ (kq : Nat) (x3_1 : Int), v3 = .int .i64 x3_1 ∧ Aside0 (spec_SecretsOf.j0 kq x3_1 = some r) ∧ Aside0 (kq ≤ k) ∧ Aside0 (Below w.heap.size w wc))
 case first =>
  have H := HC2.out
  clear HC2
  by_cases c3 : (Int.tmod a0 1000) < 0
  ·rw [if_pos c3] at H
   have c3b0 := decide_eq_true c3
   clear c3
   (first | rw [c3b0] | (simp only [i64_w, i32_w]; rw [c3b0]) | rw [c3b1] | skip)
   have H' := Aside0.mk H
   clear H
   go_wp2
   go_meet
   case rel => exact ⟨_, (wrap64 ((Int.tmod a0 1000) + 1000)), rS, H', ⟨by first | omega | exact Nat.le_refl _⟩, ⟨bZ HB⟩⟩
  ·rw [if_neg c3] at H
   have c3b0 := decide_eq_false c3
   clear c3
   (first | rw [c3b0] | (simp only [i64_w, i32_w]; rw [c3b0]) | rw [c3b1] | skip)
   have H' := Aside0.mk H
   clear H
   go_wp2
   go_meet
   case rel => exact ⟨_, (Int.tmod a0 1000), rS, H', ⟨by first | omega | exact Nat.le_refl _⟩, ⟨bZ HB⟩⟩
 case rest =>
  clear HC2
  try clear p2
  try clear c3
  try clear c3b0
  obtain ⟨kq, x3_1, rfl, HA, HJ1, HB⟩ := hcut
  cases kq with
  | zero => exact absurd HA.out (by simp [spec_SecretsOf.j0])
  | succ kj1 =>
   have H := HA.out
   clear HA
   simp only [spec_SecretsOf.j0] at H
   obtain ⟨y864, hy864⟩ : ∃ y_ : List Int, y_ = (([] : List Int)) := ⟨_, rfl⟩
   replace H : (spec_SecretsOf.l0 kj1 x3_1 y864 0) = some r := yR hy864 H
   have Ny864 := Aside0.mk hy864
   clear hy864
   have H' := Aside0.mk H
   clear H
   go_wp2_with (first | ((with_reducible refine gate_dst (N := 12) rfl ?_); refine Kd.R_lit (Kd.int .i64) _ 3 ?hg (N := 12) ?hd (xs := ([] : List Int)) (inner := []) (ok := fun _ => True) (okp := fun _ => True) ?hr ?hp (fun _ hk => hk) trivial (Below.refl _ _) (Nat.le_refl _) (by simp) ?_; (case hd => rfl); (case hg => rfl); (case hr => first | (go_simp; done) | (go_simp; rfl)); (case hp => exact (Reps.none _ _)); intro v865 w4 ho5 hb hg_ hnew_; clear hg_ hnew_; (first | rw [← Ny864.out] at ho5 | (simp only [Int.reduceToNat] at ho5; rw [← Ny864.out] at ho5)); have HO866 := Aside0.mk (Kd.R_lower ho5 (below_size (bZ HB))); replace HB := bS HB hb; clear hb ho5))
   go_loopg [4, 5] kj1 (fun kq v4 v5 w' => ∃ (x4_2 : List Int) (x5_2 : Int), v5 = .int .i64 x5_2 ∧ Aside0 (spec_SecretsOf.l0 kq x3_1 x4_2 x5_2 = some r) ∧ Aside0 (kq ≤ kj1) ∧ Aside0 (Kd.R (Kd.int .i64) 3 w' w.heap.size (fun _ => True) v4 x4_2) ∧ Aside0 (Below w.heap.size w w'))
   case atStart => exact ⟨(y864), (0), rS, H', ⟨Nat.le_refl _⟩, ⟨rP HO866⟩, ⟨bZ HB⟩⟩
   case round =>
    clear H'
    try clear p2
    try clear c3
    try clear c3b0
    try clear p2
    obtain ⟨x4_2, x5_2, rfl, HA, HK2, HO_4, HB⟩ := hrel
    cases gk with
    | zero => exact absurd HA.out (by simp [spec_SecretsOf.l0])
    | succ k2 =>
     have H := HA.out
     clear HA
     simp only [spec_SecretsOf.l0] at H
     by_cases c6 : x5_2 < 8
     ·rw [if_pos c6] at H
      have c6b0 := decide_eq_true c6
      clear c6
      by_cases c7 : x4_2.length < 17592186044416
      ·rw [if_pos c7] at H
       have LMc7 := Aside0.mk c7
       clear c7
       obtain ⟨y867, hy867⟩ : ∃ y_ : List Int, y_ = (x4_2 ++ [wrap64 (1 + (Int.tmod (wrap64 ((wrap64 ((wrap64 (x3_1 * 31)) + (wrap64 (x5_2 * 57)))) + 7)) 1007))]) := ⟨_, rfl⟩
       replace H : (spec_SecretsOf.l0 k2 x3_1 y867 (wrap64 (x5_2 + 1))) = some r := yR hy867 H
       have Ny867 := Aside0.mk hy867
       clear hy867
       have H' := Aside0.mk H
       clear H
       go_wp2_with (first | ((with_reducible refine gate_builtin (b := .append) (xs := #[.tmp 17, .tmp 26]) rfl ?_); at_builtin; refine Kd.R_append (Kd.int .i64) (w0 := w) w.heap.size rfl (.tmp 17) (.tmp 26) 24 3 (.int .i64 0) 8 rfl Tryz.underlying24 info3 rfl (by decide) (by omega) u4 x4_2 (wrap64 (1 + (Int.tmod (wrap64 ((wrap64 ((wrap64 (x3_1 * 31)) + (wrap64 (x5_2 * 57)))) + 7)) 1007))) [.int .i64 (wrap64 (1 + (Int.tmod (wrap64 ((wrap64 ((wrap64 (x3_1 * 31)) + (wrap64 (x5_2 * 57)))) + 7)) 1007)))] (fun _ => True) (fun _ => False) rfl rfl ?aP (fun _ hk => hk.elim) ?aF ?aO ?aB ?aS ?aL ?_; (case aP => exact rfl); (case aB => exact (bZ HB)); (case aF => exact (fun _ _ => trivial)); (case aO => exact (rP HO_4)); (case aS => exact (below_size (bZ HB))); (case aL => have := LMc7.out; omega); intro v868 w8 ho hb hg hat; rw [← Ny867.out] at ho; replace HB := Aside0.mk (hb); have HO869 := Aside0.mk (ho); clear HO_4; clear ho hb hg hat))
       go_roundg k2
       case measure => have := HJ1.out; have := HK2.out; omega
       case rel => exact ⟨(y867), (wrap64 (x5_2 + 1)), rS, H', ⟨by have := HJ1.out; have := HK2.out; omega⟩, ⟨rP HO869⟩, ⟨bZ HB⟩⟩
      ·rw [if_neg c7] at H
       exact absurd H (by simp)
     ·rw [if_neg c6] at H
      have c6b0 := decide_eq_false c6
      clear c6
      obtain rfl := Option.some.inj H
      go_wp2
      go_ret
      exact ⟨_, by first | rfl | (simp [errW_none, errW_some] <;> rfl) | (simp [*, errW_none, errW_some] <;> rfl), by (with_reducible repeat (first | apply Kd.R_alloc | apply Kd.R_drewN | apply Kd.R_drew)); exact HO_4.out, bZ HB⟩
end Go.Proofs.YtkdmplfldfagnaaGreatDoor.Pf
end
section
namespace Go.Proofs.YtkdmplfldfagnaaGreatDoor.Pf
open Go.RowKit Go.Proofs.YtkdmplfldfagnaaGreatDoorW.PrintWords Go.Proofs.YtkdmplfldfagnaaGreatDoorW.PrintLast Go.Proofs.YtkdmplfldfagnaaGreatDoorW.PrintMore
attribute [local go_sem] max2_int min2_int max_two min_two max_three min_three max_four min_four   -- for this text's walks alone
set_option linter.unusedVariables false
set_option linter.unusedSimpArgs false
set_option maxHeartbeats 8000000
set_option maxRecDepth 100000
def spec_CommitteeOf.l0 : Nat → List Int → Int → List (S28) → Option ((List (S28)))
 | 0, _, _, _ => none
 | k + 1, x3, x5, x875000 => if x5 < (x3.length : Int) then (if 0 ≤ x5 then ((spec_KeyOf.f k (rd x3 x5)).bind fun bt876 => (if x875000.length < 5864062014805 then (spec_CommitteeOf.l0 k x3 (wrap64 (x5 + 1)) (x875000 ++ [(⟨bt876.1, bt876.2.1, bt876.2.2⟩ : S28)])) else (none))) else (none)) else (some x875000)
def spec_CommitteeOf.f (k : Nat) (a0 : Int) : Option ((List (S28))) := (spec_SecretsOf.f k a0).bind fun t871 => (spec_CommitteeOf.l0 k t871 0 ([] : List (S28)))
def spec_CommitteeOf.T6 : Bool × List (List Nat × List Nat) := (true, [([], []), ([0], [0]), ([], []), ([], []), ([2, 3], [2, 3]), ([4], [4]), ([5], [5]), ([6], [6]), ([1, 7, 6], [1, 7]), ([0, 1, 2, 3, 4, 5, 6, 7, 8], []), ([9, 8, 8, 0, 1, 2, 3, 4, 5, 6, 7, 8], [8, 9])])
def spec_CommitteeOf.B6 : List Nat := [0, 1, 0, 0, 12, 28, 60, 124, 255, 511, 1023]
theorem spec_CommitteeOf.tab6 : rtab .any (opsOf Tryz.f123 6) = spec_CommitteeOf.T6 := by kernel_rfl
theorem spec_CommitteeOf.bits6 : waitsOk spec_CommitteeOf.T6.2 spec_CommitteeOf.B6 = true := by kernel_rfl
theorem spec_CommitteeOf.calls (k : Nat) (a0 : Int) (r : List (S28)) (w : World) (h : spec_CommitteeOf.f k a0 = some r) :
  Calls Tryz.prog 123 #[.int .i64 a0] w fun e w' => ∃ v0_ : Value, e = .returned (.agg #[v0_]) ∧ Kd.R k28 28 w' w.heap.size (fun _ => True) v0_ r ∧ Below w.heap.size w w' := by
 have hu46 := Tryz.underlying46
 have HB := Aside0.mk (Below.refl w.heap.size w)
 unfold spec_CommitteeOf.f at h
 have H := h
 clear h
 obtain ⟨t871, A2, H⟩ := oB H
 have H' := Aside0.mk H
 clear H
 go_enter Tryz.func123, Tryz.ntmps123
 go_wp2_with (first | (refine gB 2 #[.slice none 0 0] 46 ?_; intro gb870 hg w3 BK870 hb; have GW870 := bG HB hg; replace HB := bS HB hb; clear hb hg) | (refine gC (some 7) Tryz.func82 #[.int .i64 a0] ?_; (with_reducible refine (spec_SecretsOf.calls k a0 t871 _ A2.out).mono ?_); rintro e w4 ⟨v872, rfl, ho0, hb⟩; refine ⟨_, rfl, ?_⟩; have HO873 := Aside0.mk (Kd.R_lower ho0 (below_size (bZ HB))); replace BK870 := bB BK870 hb; replace HB := bS HB hb; (try clear hb); (try clear ho0)) | ((with_reducible refine gate_dst (N := 4) rfl ?_); refine bE 4 #[.slice none 0 0] 46 ?_; intro gb874 hg w5 hbox hb; replace HO873 := Aside0.mk (Kd.R_below (rP HO873) hb); have BK874 := Aside0.mk (hbox); have GW874 := bG HB hg; replace HB := bS HB hb; obtain ⟨NB870_874, NB874_870⟩ := bN BK870 hg; replace BK870 := bB BK870 hb; clear hb hbox hg; obtain ⟨hnb6, hnc6⟩ := nB NB874_870; obtain ⟨hcz7_0, hfz7_0⟩ := bK1 (w := w5) BK874))
 go_loopg [5] k (fun kq v5 w' => ∃ (x5_1 : Int) (x875000_1 : List (S28)) (u875000 : Value), v5 = .int .i64 x5_1 ∧ Aside0 (spec_CommitteeOf.l0 kq t871 x5_1 x875000_1 = some r) ∧ Aside0 (kq ≤ k) ∧ Aside0 (Kd.R (Kd.int .i64) 3 w' w.heap.size (fun _ => True) v872 t871) ∧ Aside0 (Kd.R k28 28 w' w.heap.size (fun _ => True) u875000 x875000_1) ∧ Aside0 (w'.heap[gb870]? = some (.cells #[(.slice none 0 0)] 46 (0, 0))) ∧ Aside0 (w'.heap[gb874]? = some (.cells #[u875000] 46 (0, 0))) ∧ Aside0 (Below w.heap.size w w'))
 case atStart => exact ⟨(0), (([] : List (S28))), (.slice none 0 0), rS, H', ⟨Nat.le_refl _⟩, ⟨by (with_reducible repeat (first | apply Kd.R_alloc | apply Kd.R_drewN | apply Kd.R_drew)); exact Kd.R_mono (Kd.R_far (p := ⟨gb874, 0, none⟩) (Kd.R_types HO873.out BK874.out (by decide)) (fun _ hk => hk.2) (.slice none 0 0)) (fun _ hk => trivial)⟩, ⟨by first | exact Kd.R_nil _ _ _ _ _ | exact Kd.N_nil _ _ _ _ _ | exact Kd.V_nil _ _ _ _ _ | exact Kd.Q_nil _ _ _ _ _ | exact Kd.S_nil _ _ _ _ _⟩, ⟨bP BK870⟩, ⟨bU BK874⟩, ⟨bZ HB⟩⟩
 case round =>
  clear H'
  try clear c1
  try clear p2
  try clear c6
  try clear hcz7_0
  try clear hfz7_0
  obtain ⟨x5_1, x875000_1, u875000, rfl, HA, HK1, HO_3, HO_875000, BK870, BK874, HB⟩ := hrel
  cases gk with
  | zero => exact absurd HA.out (by simp [spec_CommitteeOf.l0])
  | succ k1 =>
   have H := HA.out
   clear HA
   simp only [spec_CommitteeOf.l0] at H
   by_cases c8 : x5_1 < (t871.length : Int)
   ·rw [if_pos c8] at H
    have c8b0 := decide_eq_true c8
    clear c8
    by_cases c9 : 0 ≤ x5_1
    ·rw [if_pos c9] at H
     have c9b0 := decide_eq_true c9
     clear c9
     obtain ⟨⟨t876, t877, t878⟩, A10, H⟩ := oB H
     by_cases c11 : x875000_1.length < 5864062014805
     ·rw [if_pos c11] at H
      have LMc11 := Aside0.mk c11
      clear c11
      obtain ⟨y879, hy879⟩ : ∃ y_ : List (S28), y_ = (x875000_1 ++ [(⟨t876, t877, t878⟩ : S28)]) := ⟨_, rfl⟩
      replace H : (spec_CommitteeOf.l0 k1 t871 (wrap64 (x5_1 + 1)) y879) = some r := yR hy879 H
      have Ny879 := Aside0.mk hy879
      clear hy879
      have H' := Aside0.mk H
      clear H
      obtain ⟨Ao12, co12, eo12⟩ := Kd.R_slice HO_3.out
      subst eo12
      try go_wp2
      replace HO_3 := Aside0.mk (Kd.R_drew HO_3.out)
      replace HO_875000 := Aside0.mk (Kd.R_drew HO_875000.out)
      replace BK870 := Aside0.mk (blk_drew BK870.out)
      replace BK874 := Aside0.mk (blk_drew BK874.out)
      replace HB := Aside0.mk (below_drew1 HB.out)
      have p875 : 0 ≤ (x5_1 : Int) := aQ
      have q875 : x5_1 < (t871.length : Int) := aQ
      obtain ⟨ad875, e875, hx875_0⟩ := Kd.at_int (Kd.R_reads' HO_3.out).2.2 x5_1 p875 q875
      cases e875
      replace p875 := eq_true p875
      replace q875 := eq_true q875
      refine start_ (n := 11) (S := fun w' => w'.cell? ⟨gb874, 0, none⟩ = some (u875000) ∧ w'.cell? (ad875.add (x5_1).toNat) = some (.int .i64 (rd t871 x5_1))) (ds := [8, 10]) #[false, false, false, false, false, false, false, false, false, false, false] (by kernel_rfl) rfl rfl ⟨bc BK874 0, hx875_0⟩ (fun hHeld => ?_); refine with_tabW spec_CommitteeOf.tab6 spec_CommitteeOf.bits6 (fun HT_ HW_ => ?_)
      generalize wr.drew = w13 at HO_3 HO_875000 BK870 BK874 HB hx875_0 hHeld ⊢
      refine pI 0 (some 15) HT_.out ?_
      refine pI 2 (some 17) HT_.out ?_
      refine pI 3 (some 18) HT_.out ?_
      refine pI 4 (some 19) HT_.out ?_
      refine tI2 1 (some 16) HT_.out HW_.out hHeld ?_
      refine tI2 5 (some 20) HT_.out HW_.out hHeld ?_
      refine oI 6 (some 21) HT_.out (fun K hK => ?_)
      refine gO Tryz.func51 #[.int .i64 (rd t871 x5_1)] ?_
      with_reducible refine (spec_KeyOf.calls k1 (rd t871 x5_1) t876 t877 t878 _ A10.out).mono ?_
      rintro e w14 ⟨rfl, hb⟩
      have HS1_ := (hb.cell (World.block_lt_of_cell? _ _ (hHeld.2))).trans (hHeld.2)
      refine ⟨_, rfl, ?_⟩
      replace HO_3 := Aside0.mk (Kd.R_below (rP HO_3) hb)
      replace HO_875000 := Aside0.mk (Kd.R_below (rP HO_875000) hb)
      replace BK870 := bB BK870 hb
      replace BK874 := bB BK874 hb
      replace HB := bS HB hb
      (try clear hb)
      refine hK.out _ _ ⟨bc BK874 0, HS1_⟩ (fun hHeld => ?_)
      clear hK K
      refine nO (some 21) ?_
      refine oI 7 (some 22) HT_.out (fun K hK => ?_)
      refine value_ (w1 := ?_) (v := ?_) (by rfl) rfl ?_ ?_
      rotate_left 2
      ·go_simp
       constructor
       ·rfl
       ·rfl
      refine hK.out _ _ ⟨(blk_cell (blk_alloc BK874.out _) 0).trans rfl, (World.cell?_alloc_lt _ _ _ (World.block_lt_of_cell? _ _ (hHeld.2))).trans (hHeld.2)⟩ (fun hHeld => ?_)
      clear hK K
      refine nO (some 22) ?_
      refine last_ (i := 8) (N := some 23) #[true, true, true, true, true, true, true, true, true, false, false] rfl rfl (one_of HT_.out (by kernel_rfl)) (by decide) (fun K hK => ?_)
      refine Kd.R_append_step k28 (w0 := w) w.heap.size (by rfl) (.tmp 16) (.tmp 22) 26 28 (.agg #[(.int .i64 0), (.int .i64 0), (.bool false)]) 24 rfl Tryz.underlying26 info28 rfl (by decide) (by omega) u875000 x875000_1 (⟨t876, t877, t878⟩ : S28) [.int .i64 t876, .int .i64 t877, .bool t878] (fun _ => True) (fun _ => False) rfl rfl ?aP (fun _ hk => hk.elim) ?aF ?aO ?aB ?aS ?aL ?_
      (case aP => exact k28_mkM _ _ _ (⟨t876, t877, t878⟩ : S28))
      (case aB => exact (bZ HB))
      (case aF => exact (fun _ _ => trivial))
      (case aO => exact (rP HO_875000))
      (case aS => exact (below_size (bZ HB)))
      (case aL => have := LMc11.out; omega)
      intro v880 w15 ho hb hg hat
      rw [← Ny879.out] at ho
      replace HO_3 := Aside0.mk (Kd.R_over' (rP HO_3) (Kd.R_typed (rP HO_875000)) (by decide) hg)
      replace BK870 := Aside0.mk (blk_grown (bP BK870) hg (Kd.R_ne HO_875000.out BK870.out (by decide)))
      replace BK874 := Aside0.mk (blk_grown (bP BK874) hg (Kd.R_ne HO_875000.out BK874.out (by decide)))
      replace HB := Aside0.mk (hb)
      have HO881 := Aside0.mk (ho)
      clear HO_875000
      clear ho hb hg hat
      obtain ⟨Ao16, co16, eo16⟩ := Kd.R_slice HO881.out
      (first | subst eo16 | (injection eo16 with f1_ f2_ f3_; have f4_ := f1_.symm; have f5_ := f3_.symm; clear f1_ f2_ f3_; subst f4_; subst f5_))
      refine hK.out _ _ ?_
      clear hK K
      refine nO (some 23) ?_
      refine pI 9 (some 24) HT_.out ?_
      refine last_ (i := 10) (N := none) #[true, true, true, true, true, true, true, true, true, true, true] rfl rfl (one_of HT_.out (by kernel_rfl)) (by decide) (fun K hK => ?_)
      have hs17 : w15.cell? ⟨gb874, 0, none⟩ = some (u875000) := bc BK874 0
      have hfs17 := blk_frozen BK874.out 0
      obtain ⟨hns17_0, hms17_0⟩ := nB NB870_874
      refine skip_ (w1 := ?_) (by rfl) rfl ?_ ?_
      rotate_left
      ·go_simp
       rfl
      refine hK.out _ _ ?_
      clear hK K
      refine done_ (done_of HT_.out (by kernel_rfl)) ?_
      try go_wp2
      go_roundg k1
      case measure => have := HK1.out; omega
      case rel => exact ⟨(wrap64 (x5_1 + 1)), (y879), (.slice Ao16 y879.length co16), rS, H', ⟨by have := HK1.out; omega⟩, ⟨by (with_reducible repeat (first | apply Kd.R_alloc | apply Kd.R_drewN | apply Kd.R_drew)); exact Kd.R_mono (Kd.R_far (p := ⟨gb874, 0, none⟩) (Kd.R_types HO_3.out BK874.out (by decide)) (fun _ hk => hk.2) (.slice Ao16 y879.length co16)) (fun _ hk => trivial)⟩, ⟨by (with_reducible repeat (first | apply Kd.R_alloc | apply Kd.R_drewN | apply Kd.R_drew)); exact Kd.R_mono (Kd.R_far (p := ⟨gb874, 0, none⟩) (Kd.R_types HO881.out BK874.out (by decide)) (fun _ hk => hk.2) (.slice Ao16 y879.length co16)) (fun _ hk => trivial)⟩, ⟨bP BK870⟩, ⟨bU BK874⟩, ⟨bZ HB⟩⟩
     ·rw [if_neg c11] at H
      exact absurd H (by simp)
    ·rw [if_neg c9] at H
     exact absurd H (by simp)
   ·rw [if_neg c8] at H
    have c8b0 := decide_eq_false c8
    clear c8
    obtain rfl := Option.some.inj H
    obtain ⟨Ao18, co18, eo18⟩ := Kd.R_slice HO_3.out
    subst eo18
    obtain ⟨hnb19, hnc19⟩ := nB NB874_870
    obtain ⟨hcz20_0, hfz20_0⟩ := bK1 (w := wr) BK874
    obtain ⟨Ao21, co21, eo21⟩ := Kd.R_slice HO_875000.out
    subst eo21
    obtain ⟨hcz22_0, hfz22_0⟩ := bK1 (w := wr) BK870
    go_wp2
    refine rC gb870 46 #[.slice Ao21 x875000_1.length co21] (bU BK870) Tryz.underlying46 ?_
    exact ⟨_, by first | rfl | (simp [errW_none, errW_some] <;> rfl) | (simp [*, errW_none, errW_some] <;> rfl), by (with_reducible repeat (first | apply Kd.R_alloc | apply Kd.R_drewN | apply Kd.R_drew)); exact Kd.R_mono (Kd.R_far (p := ⟨gb870, 0, none⟩) (Kd.R_types HO_875000.out BK870.out (by decide)) (fun _ hk => hk.2) (.slice Ao21 x875000_1.length co21)) (fun _ hk => trivial), bZ HB⟩
theorem kY {w W W1 : World} {g : Nat} {row : Option Nat} (B : Aside0 (KeepBut w W g row)) (h : Aside0 (KeepBut w W g row) → KeepBut w W1 g row := by intro hh_; repeat (first | (with_reducible first | exact hh_.out | apply KeepBut.set_ | apply keep_drewN | apply keep_drew | apply keep_alloc | refine keep_far ?_ (by refine Aside0.out ?_; assumption) _) | exact hh_.out)) : KeepBut w W1 g row := h B
def spec_l12Any.f (k : Nat) (s0_0 : List Int) (s0_1 : Int) (s0_2 : Int) : Option ((List (S28)) × Int × Int) := (spec_l01Below.f s0_0 s0_1 s0_2 8).bind fun bt883 => ((spec_l01Below.f s0_0 bt883.2.1 bt883.2.2 50).bind fun bt886 => ((spec_CommitteeOf.f k bt886.1).bind fun t889 => ((some (([] : List (S28)) : List (S28))).bind fun y893 => (if y893.length + t889.length < 5864062014805 then ((some (y893 ++ t889 : List (S28))).bind fun y896 => (if bt883.1 = 0 then ((spec_l01Below.f s0_0 bt886.2.1 bt886.2.2 8).bind fun bt900 => ((spec_l07Any.f k s0_0 bt900.2.1 bt900.2.2).bind fun bt903 => (if 0 ≤ bt900.1 then (if bt900.1 < (y896.length : Int) then (some ((y896.set (bt900.1 : Int).toNat (⟨bt903.1, bt903.2.1, bt903.2.2.1⟩ : S28)), bt903.2.2.2.1, bt903.2.2.2.2)) else (none)) else (none)))) else (if bt883.1 = 1 then (if 1 ≤ (y896.length : Int) then (some ((y896.drop (1 : Int).toNat), bt886.2.1, bt886.2.2)) else (none)) else (some (y896, bt886.2.1, bt886.2.2))))) else (none)))))
def spec_l12Any.T6 : Bool × List (List Nat × List Nat) := (true, [([], []), ([0], [0]), ([], []), ([2], [2]), ([], []), ([4, 3], [4]), ([1, 3, 0, 1, 2, 3, 4, 5], [1, 3]), ([6, 5, 5, 0, 1, 2, 3, 4, 5], [5, 6])])
def spec_l12Any.B6 : List Nat := [0, 1, 0, 4, 0, 28, 63, 127]
theorem spec_l12Any.tab6 : rtab .any (opsOf Tryz.f69 6) = spec_l12Any.T6 := by kernel_rfl
theorem spec_l12Any.bits6 : waitsOk spec_l12Any.T6.2 spec_l12Any.B6 = true := by kernel_rfl
theorem spec_l12Any.calls (k : Nat) (g : Nat) (s0_0 : List Int) (s0_1 : Int) (s0_2 : Int) (r1 : List (S28)) (r2 : Int) (r3 : Int) (w0 w : World) (hI : IsS90 w0 w g s0_0 s0_1 s0_2) (hB : Below w0.heap.size w0 w) (h : spec_l12Any.f k s0_0 s0_1 s0_2 = some (r1, r2, r3)) :
  Calls Tryz.prog 69 #[.pointer (some ⟨g, 0, none⟩)] w fun e w' => ∃ v0_ : Value, e = .returned (.agg #[v0_]) ∧ Kd.Q k28 28 w' w.heap.size (fun _ => True) v0_ r1 ∧ IsS90 w0 w' g s0_0 r2 r3 ∧ Below w0.heap.size w0 w' ∧ KeepBut w w' g none := by
 have hu46 := Tryz.underlying46
 have hu28 := Tryz.underlying28
 have HI0 := Aside0.mk hI
 have HK := Aside0.mk (KeepBut.refl w g none)
 have HL := Aside0.mk hB.size
 clear hI
 have HW0 := Aside0.mk hB.size
 have HB := Aside0.mk hB
 clear hB
 unfold spec_l12Any.f at h
 have H := h
 clear h
 obtain ⟨⟨t883, t884, t885⟩, A2, H⟩ := oB H
 obtain ⟨⟨t886, t887, t888⟩, A3, H⟩ := oB H
 obtain ⟨t889, A4, H⟩ := oB H
 obtain ⟨y893, hy893⟩ : ∃ y_ : List (S28), y_ = (([] : List (S28))) := ⟨_, rfl⟩
 replace H : (if y893.length + t889.length < 5864062014805 then ((some (y893 ++ t889 : List (S28))).bind fun y896 => (if t883 = 0 then ((spec_l01Below.f s0_0 t887 t888 8).bind fun bt900 => ((spec_l07Any.f k s0_0 bt900.2.1 bt900.2.2).bind fun bt903 => (if 0 ≤ bt900.1 then (if bt900.1 < (y896.length : Int) then (some ((y896.set (bt900.1 : Int).toNat (⟨bt903.1, bt903.2.1, bt903.2.2.1⟩ : S28)), bt903.2.2.2.1, bt903.2.2.2.2)) else (none)) else (none)))) else (if t883 = 1 then (if 1 ≤ (y896.length : Int) then (some ((y896.drop (1 : Int).toNat), t887, t888)) else (none)) else (some (y896, t887, t888))))) else (none)) = some (r1, r2, r3) := yR hy893 H
 have Ny893 := Aside0.mk hy893
 clear hy893
 by_cases c5 : y893.length + t889.length < 5864062014805
 ·rw [if_pos c5] at H
  have LMc5 := Aside0.mk c5
  clear c5
  obtain ⟨y896, hy896⟩ : ∃ y_ : List (S28), y_ = (y893 ++ t889) := ⟨_, rfl⟩
  replace H : (if t883 = 0 then ((spec_l01Below.f s0_0 t887 t888 8).bind fun bt900 => ((spec_l07Any.f k s0_0 bt900.2.1 bt900.2.2).bind fun bt903 => (if 0 ≤ bt900.1 then (if bt900.1 < (y896.length : Int) then (some ((y896.set (bt900.1 : Int).toNat (⟨bt903.1, bt903.2.1, bt903.2.2.1⟩ : S28)), bt903.2.2.2.1, bt903.2.2.2.2)) else (none)) else (none)))) else (if t883 = 1 then (if 1 ≤ (y896.length : Int) then (some ((y896.drop (1 : Int).toNat), t887, t888)) else (none)) else (some (y896, t887, t888)))) = some (r1, r2, r3) := yR hy896 H
  have Ny896 := Aside0.mk hy896
  clear hy896
  by_cases c6 : t883 = 0
  ·rw [if_pos c6] at H
   have c6b0 : (t883 == 0) = true := beq_iff_eq.mpr c6
   have c6b1 : (t883 != 0) = false := bne_eq_false_iff_eq.mpr c6
   clear c6
   obtain ⟨⟨t900, t901, t902⟩, A7, H⟩ := oB H
   obtain ⟨⟨t903, t904, t905, t906, t907⟩, A8, H⟩ := oB H
   by_cases c9 : 0 ≤ t900
   ·rw [if_pos c9] at H
    have c9b0 := decide_eq_true c9
    clear c9
    by_cases c10 : t900 < (y896.length : Int)
    ·rw [if_pos c10] at H
     have c10b0 := decide_eq_true c10
     clear c10
     obtain ⟨y908, hy908⟩ : ∃ y_ : List (S28), y_ = (y896.set (t900 : Int).toNat (⟨t903, t904, t905⟩ : S28)) := ⟨_, rfl⟩
     replace H : (some (y908, t906, t907)) = some (r1, r2, r3) := yR hy908 H
     have Ny908 := Aside0.mk hy908
     clear hy908
     simp only [Option.some.injEq, Prod.mk.injEq] at H
     obtain ⟨rfl, rfl, rfl⟩ := H
     go_enter Tryz.func69, Tryz.ntmps69
     try go_wp2_with (first | ((with_reducible refine gate_dst (N := 2) rfl ?_); refine bE 2 #[.slice none 0 0] 46 ?_; intro gb882 hg w12 hbox hb; replace HB := Aside0.mk (below_step (jZ90 HB HI0) hb); have BK882 := Aside0.mk (hbox); have GW882 := Aside0.mk ((by rw [hg]; exact (keep_size (w := w) (g := g) (row := none) (kZ HK)) : w.heap.size ≤ gb882)); have GE882 := Aside0.mk ((Nat.le_trans HW0.out (by rw [hg]; exact (keep_size (w := w) (g := g) (row := none) (kZ HK)) : w.heap.size ≤ gb882) : w0.heap.size ≤ gb882)); replace HK := Aside0.mk (KeepBut.trans (kY HK) (KeepBut.of_below hb g none) (.inl rfl)); have NB0_882 := Aside0.mk ((by rw [hg]; exact Nat.ne_of_lt (IsS90.lt (show IsS90 w0 _ g s0_0 s0_1 s0_2 from iZ90 HI0)) : g ≠ gb882)); have NB882_0 := Aside0.mk ((by rw [hg]; exact Nat.ne_of_gt (IsS90.lt (show IsS90 w0 _ g s0_0 s0_1 s0_2 from iZ90 HI0)) : gb882 ≠ g)); replace HI0 := Aside0.mk (IsS90.below (iZ90 HI0) hb); clear hb hbox hg) | (refine gC (some 7) Tryz.func44 #[.pointer (some ⟨g, 0, none⟩), .int .i64 8] ?_; (with_reducible refine (spec_l01Below.calls g s0_0 s0_1 s0_2 8 t883 t884 t885 w0 _ ?side1 ?side2 A2.out).mono ?_); (case side1 => exact iZ90 HI0); (case side2 => exact jZ90 HB HI0); rintro e w13 ⟨rfl, hi, hb, hk⟩; refine ⟨_, rfl, ?_⟩; replace BK882 := Aside0.mk (KeepBut.blk hk (g' := gb882) (o := .cells #[.slice none 0 0] 46 (0, 0)) (bP BK882) NB882_0.out (by simp)); replace HK := Aside0.mk (KeepBut.trans (kY HK) hk (.inl rfl)); replace HB := Aside0.mk (hb); replace HI0 := Aside0.mk (hi); (try clear hb)) | (refine gC (some 9) Tryz.func44 #[.pointer (some ⟨g, 0, none⟩), .int .i64 50] ?_; (with_reducible refine (spec_l01Below.calls g s0_0 t884 t885 50 t886 t887 t888 w0 _ ?side1 ?side2 A3.out).mono ?_); (case side1 => exact iZ90 HI0); (case side2 => exact jZ90 HB HI0); rintro e w14 ⟨rfl, hi, hb, hk⟩; refine ⟨_, rfl, ?_⟩; replace BK882 := Aside0.mk (KeepBut.blk hk (g' := gb882) (o := .cells #[.slice none 0 0] 46 (0, 0)) (bP BK882) NB882_0.out (by simp)); replace HK := Aside0.mk (KeepBut.trans (kY HK) hk (.inl rfl)); replace HB := Aside0.mk (hb); replace HI0 := Aside0.mk (hi); (try clear hb)) | (refine gC (some 10) Tryz.func123 #[.int .i64 t886] ?_; (with_reducible refine (spec_CommitteeOf.calls k t886 t889 _ A4.out).mono ?_); rintro e w15 ⟨v890, rfl, ho0, hb⟩; refine ⟨_, rfl, ?_⟩; have HO891 := Aside0.mk (Kd.R_lower ho0 (keep_size (w := w) (g := g) (row := none) (kZ HK))); replace BK882 := bB BK882 hb; replace HK := Aside0.mk (KeepBut.trans (kY HK) (KeepBut.of_below hb g none) (.inl rfl)); replace HB := Aside0.mk (below_step (jZ90 HB HI0) hb); replace HI0 := Aside0.mk (IsS90.below (iZ90 HI0) hb); (try clear hb); (try clear ho0)) | ((with_reducible refine gate_dst (N := 4) rfl ?_); refine bE 4 #[.slice none 0 0] 46 ?_; intro gb892 hg w16 hbox hb; replace HO891 := Aside0.mk (Kd.R_below (rP HO891) hb); replace HB := Aside0.mk (below_step (jZ90 HB HI0) hb); have BK892 := Aside0.mk (hbox); have GW892 := Aside0.mk ((by rw [hg]; exact (keep_size (w := w) (g := g) (row := none) (kZ HK)) : w.heap.size ≤ gb892)); have GE892 := Aside0.mk ((Nat.le_trans HW0.out (by rw [hg]; exact (keep_size (w := w) (g := g) (row := none) (kZ HK)) : w.heap.size ≤ gb892) : w0.heap.size ≤ gb892)); replace HK := Aside0.mk (KeepBut.trans (kY HK) (KeepBut.of_below hb g none) (.inl rfl)); obtain ⟨NB882_892, NB892_882⟩ := bN BK882 hg; replace BK882 := bB BK882 hb; have NB0_892 := Aside0.mk ((by rw [hg]; exact Nat.ne_of_lt (IsS90.lt (show IsS90 w0 _ g s0_0 t887 t888 from iZ90 HI0)) : g ≠ gb892)); have NB892_0 := Aside0.mk ((by rw [hg]; exact Nat.ne_of_gt (IsS90.lt (show IsS90 w0 _ g s0_0 t887 t888 from iZ90 HI0)) : gb892 ≠ g)); replace HI0 := Aside0.mk (IsS90.below (iZ90 HI0) hb); clear hb hbox hg; obtain ⟨Ao17, co17, eo17⟩ := Kd.R_slice HO891.out; subst eo17; obtain ⟨hnb18, hnc18⟩ := nB NB892_882; obtain ⟨hnb19, hnc19⟩ := nB NB892_0; obtain ⟨hcz20_0, hfz20_0⟩ := bK1 (w := w16) BK892) | ((with_reducible refine gate_dst (N := 11) rfl ?_); refine Kd.R_lit k28 _ 28 ?hg (N := 11) ?hd (xs := ([] : List (S28))) (inner := []) (ok := fun _ => True) (okp := fun _ => True) ?hr ?hp (fun _ hk => hk) trivial (Below.refl _ _) (Nat.le_refl _) (by simp) ?_; (case hd => rfl); (case hg => rfl); (case hr => first | (go_simp; done) | (go_simp; rfl)); (case hp => exact (Reps.none _ _)); intro v894 w21 ho22 hb hg_ hnew_; clear hg_ hnew_; (first | rw [← Ny893.out] at ho22 | (simp only [Int.reduceToNat] at ho22; rw [← Ny893.out] at ho22)); have HO895 := Aside0.mk (Kd.R_lower (Kd.R_new' ho22 (Kd.R_lt (by (with_reducible repeat (first | apply Kd.R_alloc | apply Kd.R_drewN | apply Kd.R_drew)); exact (Kd.R_mono (Kd.R_far (p := ⟨gb892, 0, none⟩) (Kd.R_types HO891.out BK892.out (by decide)) (fun _ hk => hk.2) (.slice Ao17 t889.length co17)) (fun _ h_ => h_.1))))) (keep_size (w := w) (g := g) (row := none) (kZ HK))); replace HO891 := Aside0.mk (Kd.R_elder' (by (with_reducible repeat (first | apply Kd.R_alloc | apply Kd.R_drewN | apply Kd.R_drew)); exact (Kd.R_mono (Kd.R_far (p := ⟨gb892, 0, none⟩) (Kd.R_types HO891.out BK892.out (by decide)) (fun _ hk => hk.2) (.slice Ao17 t889.length co17)) (fun _ h_ => h_.1))) (Kd.R_base ho22) hb); replace BK882 := bB BK882 hb; replace BK892 := bV 46 #[.slice Ao17 t889.length co17] BK892 hb; replace HK := Aside0.mk (KeepBut.trans (kY HK) (KeepBut.of_below hb g none) (.inl rfl)); replace HB := Aside0.mk (below_step (jZ90 HB HI0) hb); replace HI0 := Aside0.mk (IsS90.below (show IsS90 w0 (w16.setCell ⟨gb892, 0, none⟩ (.slice Ao17 t889.length co17)) g s0_0 t887 t888 from iZ90 HI0) hb); clear hb ho22; obtain ⟨hcz23_0, hfz23_0⟩ := bK1 (w := w21) BK892) | ((with_reducible refine gate_builtin (b := .append) (xs := #[.tmp 11, .tmp 13]) rfl ?_); at_builtin; refine Kd.R_append_rows k28 w.heap.size rfl (.tmp 11) (.tmp 13) 26 28 (.agg #[(.int .i64 0), (.int .i64 0), (.bool false)]) 24 rfl Tryz.underlying26 info28 rfl (by decide) (by omega) v894 y893 t889 _ _ _ (fun k_ => some k_ ≠ (.slice Ao17 t889.length co17 : Value).ownBlock) (fun _ => False) rfl rfl ?aO ?aR (fun _ _ h => h) (fun _ h => h.elim) ?aF (Below.refl _ _) ?aS ?aL ?_; (case aR => exact cP ((Kd.R_reads' HO891.out).2.2)); (case aF => exact (fun k_ hk => Kd.fresh' (Kd.R_lt (rP HO891)) k_ hk)); (case aO => exact (by (with_reducible repeat (first | apply Kd.R_alloc | apply Kd.R_drewN | apply Kd.R_drew)); exact Kd.R_mono HO895.out (fun _ hk => hk.2))); (case aS => exact (keep_size (w := w) (g := g) (row := none) (kZ HK))); (case aL => have := LMc5.out; omega); intro v897 w24 ho hb hg hat; rw [← Ny896.out] at ho; replace BK882 := Aside0.mk (blk_grown (bP BK882) hg (Kd.R_ne HO895.out BK882.out (by decide))); replace HO891 := Aside0.mk (Kd.R_after (ok := (fun _ => True)) (rP HO891) hg hat); replace BK892 := Aside0.mk (blk_grown (bP BK892) hg (Kd.R_ne HO895.out BK892.out (by decide))); replace HB := Aside0.mk (below_weaken (jZ90 HB HI0) HL.out hb); replace HI0 := Aside0.mk (IsS90.grown (iZ90 HI0) hg (IsS90.own_ne HI0.out HO895.out (by decide))); replace HK := Aside0.mk (KeepBut.trans (kY HK) (KeepBut.of_grown hg g) (Kd.R_base2 HO895.out)); have HO898 := Aside0.mk (ho); clear HO895; clear ho hb hg hat; obtain ⟨Ao25, co25, eo25⟩ := Kd.R_slice HO898.out; subst eo25) | ((with_reducible refine gate_dst (N := 5) rfl ?_); refine bE 5 #[.slice none 0 0] 46 ?_; intro gb899 hg w26 hbox hb; replace HO891 := Aside0.mk (Kd.R_below (rP HO891) hb); replace HO898 := Aside0.mk (Kd.R_below (rP HO898) hb); replace HB := Aside0.mk (below_step (jZ90 HB HI0) hb); have BK899 := Aside0.mk (hbox); have GW899 := Aside0.mk ((by rw [hg]; exact (keep_size (w := w) (g := g) (row := none) (kZ HK)) : w.heap.size ≤ gb899)); have GE899 := Aside0.mk ((Nat.le_trans HW0.out (by rw [hg]; exact (keep_size (w := w) (g := g) (row := none) (kZ HK)) : w.heap.size ≤ gb899) : w0.heap.size ≤ gb899)); replace HK := Aside0.mk (KeepBut.trans (kY HK) (KeepBut.of_below hb g none) (.inl rfl)); obtain ⟨NB882_899, NB899_882⟩ := bN BK882 hg; replace BK882 := bB BK882 hb; obtain ⟨NB892_899, NB899_892⟩ := bN BK892 hg; replace BK892 := bB BK892 hb; have NB0_899 := Aside0.mk ((by rw [hg]; exact Nat.ne_of_lt (IsS90.lt (show IsS90 w0 _ g s0_0 t887 t888 from iZ90 HI0)) : g ≠ gb899)); have NB899_0 := Aside0.mk ((by rw [hg]; exact Nat.ne_of_gt (IsS90.lt (show IsS90 w0 _ g s0_0 t887 t888 from iZ90 HI0)) : gb899 ≠ g)); replace HI0 := Aside0.mk (IsS90.below (iZ90 HI0) hb); clear hb hbox hg; obtain ⟨hnb27, hnc27⟩ := nB NB899_882; obtain ⟨hnb28, hnc28⟩ := nB NB899_892; obtain ⟨hnb29, hnc29⟩ := nB NB899_0; obtain ⟨hcz30_0, hfz30_0⟩ := bK1 (w := w26) BK899))
     obtain ⟨w31, hW_⟩ : ∃ W_ : World, W_ = (w26.setCell ⟨gb899, 0, none⟩ (.slice Ao25 y896.length co25)) := ⟨_, rfl⟩
     have n0_ : Aside0 (Kd.R k28 28 (w26.setCell ⟨gb899, 0, none⟩ (.slice Ao25 y896.length co25)) w.heap.size (fun k_ => some k_ ≠ (.slice Ao25 y896.length co25 : Value).ownBlock) (.slice Ao17 t889.length co17) t889) := ⟨by (with_reducible repeat (first | apply Kd.R_alloc | apply Kd.R_drewN | apply Kd.R_drew)); exact Kd.R_mono (Kd.R_far (p := ⟨gb899, 0, none⟩) (Kd.R_types HO891.out BK899.out (by decide)) (fun _ hk => hk.2) (.slice Ao25 y896.length co25)) (fun _ hk => hk.1.2)⟩
     rw [← hW_] at n0_
     have n1_ : Aside0 (Kd.R k28 28 (w26.setCell ⟨gb899, 0, none⟩ (.slice Ao25 y896.length co25)) w.heap.size (fun k_ => some k_ ≠ (.slice Ao17 t889.length co17 : Value).ownBlock) (.slice Ao25 y896.length co25) y896) := ⟨by (with_reducible repeat (first | apply Kd.R_alloc | apply Kd.R_drewN | apply Kd.R_drew)); exact Kd.R_mono (Kd.R_far (p := ⟨gb899, 0, none⟩) (Kd.R_types HO898.out BK899.out (by decide)) (fun _ hk => hk.2) (.slice Ao25 y896.length co25)) (fun _ hk => hk.1)⟩
     rw [← hW_] at n1_
     replace BK882 := bW hW_ BK882
     replace BK892 := bW hW_ BK892
     replace BK899 := bX hW_ 46 #[.slice Ao25 y896.length co25] BK899
     have n5_ : Aside0 (IsS90 w0 (w26.setCell ⟨gb899, 0, none⟩ (.slice Ao25 y896.length co25)) g s0_0 t887 t888) := ⟨iZ90 HI0⟩
     rw [← hW_] at n5_
     have n6_ : Aside0 (KeepBut w (w26.setCell ⟨gb899, 0, none⟩ (.slice Ao25 y896.length co25)) g none) := ⟨kZ HK⟩
     rw [← hW_] at n6_
     have n7_ : Aside0 (Below w0.heap.size w0 (w26.setCell ⟨gb899, 0, none⟩ (.slice Ao25 y896.length co25))) := ⟨jZ90 HB HI0⟩
     rw [← hW_] at n7_
     (try clear HO891)
     (try clear HO898)
     (try clear HI0)
     (try clear HK)
     (try clear HB)
     have HO891 := n0_
     clear n0_
     have HO898 := n1_
     clear n1_
     have HI0 := n5_
     clear n5_
     have HK := n6_
     clear n6_
     have HB := n7_
     clear n7_
     rw [← hW_]
     clear hW_
     replace HO891 := Aside0.mk (Kd.R_drew HO891.out)
     replace HO898 := Aside0.mk (Kd.R_drew HO898.out)
     replace BK882 := Aside0.mk (blk_drew BK882.out)
     replace BK892 := Aside0.mk (blk_drew BK892.out)
     replace BK899 := Aside0.mk (blk_drew BK899.out)
     replace HI0 := Aside0.mk (IsS90.drew HI0.out)
     replace HK := Aside0.mk (keep_drew HK.out)
     replace HB := Aside0.mk (below_drew1 HB.out)
     refine start_ (n := 8) (S := fun w' => SQ1 w' gb899 (.slice Ao25 y896.length co25)) (ds := [7]) #[false, false, false, false, false, false, false, false] (by kernel_rfl) rfl rfl (bc BK899 0) (fun hHeld => ?_); refine with_tabW spec_l12Any.tab6 spec_l12Any.bits6 (fun HT_ HW_ => ?_)
     generalize w31.drew = w32 at HO891 HO898 BK882 BK892 BK899 HI0 HK HB hHeld ⊢
     refine pI 0 (some 19) HT_.out ?_
     refine pI 2 (some 21) HT_.out ?_
     refine pI 4 (some 23) HT_.out ?_
     refine tI1 1 (some 20) HT_.out HW_.out hHeld ?_
     refine oI 3 (some 22) HT_.out (fun K hK => ?_)
     refine gO Tryz.func44 #[.pointer (some ⟨g, 0, none⟩), .int .i64 8] ?_
     with_reducible refine (spec_l01Below.calls g s0_0 t887 t888 8 t900 t901 t902 w0 _ ?side1 ?side2 A7.out).mono ?_
     (case side1 => exact iZ90 HI0)
     (case side2 => exact jZ90 HB HI0)
     rintro e w33 ⟨rfl, hi, hb, hk⟩
     refine ⟨_, rfl, ?_⟩
     replace BK882 := Aside0.mk (KeepBut.blk hk (g' := gb882) (o := .cells #[.slice none 0 0] 46 (0, 0)) (bP BK882) NB882_0.out (by simp))
     replace HO891 := Aside0.mk (Kd.R_mono (Kd.R_keep (IsS90.apart (show IsS90 w0 _ g s0_0 t887 t888 from iZ90 HI0) (rP HO891) (by decide)) hk (fun _ h => h.2)) (fun _ h => h.1))
     replace BK892 := Aside0.mk (KeepBut.blk hk (g' := gb892) (o := .cells #[.slice Ao17 t889.length co17] 46 (0, 0)) (bP BK892) NB892_0.out (by simp))
     replace HO898 := Aside0.mk (Kd.R_mono (Kd.R_keep (IsS90.apart (show IsS90 w0 _ g s0_0 t887 t888 from iZ90 HI0) (rP HO898) (by decide)) hk (fun _ h => h.2)) (fun _ h => h.1))
     replace BK899 := Aside0.mk (KeepBut.blk hk (g' := gb899) (o := .cells #[.slice Ao25 y896.length co25] 46 (0, 0)) (bP BK899) NB899_0.out (by simp))
     replace HK := Aside0.mk (KeepBut.trans (kY HK) hk (.inl rfl))
     replace HB := Aside0.mk (hb)
     replace HI0 := Aside0.mk (hi)
     (try clear hb)
     refine hK.out _ _ (bc BK899 0) (fun hHeld => ?_)
     clear hK K
     refine nO (some 22) ?_
     refine oI 5 (some 24) HT_.out (fun K hK => ?_)
     refine gO Tryz.func59 #[.pointer (some ⟨g, 0, none⟩)] ?_
     with_reducible refine (spec_l07Any.calls k g s0_0 t901 t902 t903 t904 t905 t906 t907 w0 _ ?side1 ?side2 A8.out).mono ?_
     (case side1 => exact iZ90 HI0)
     (case side2 => exact jZ90 HB HI0)
     rintro e w34 ⟨rfl, hi, hb, hk⟩
     refine ⟨_, rfl, ?_⟩
     replace BK882 := Aside0.mk (KeepBut.blk hk (g' := gb882) (o := .cells #[.slice none 0 0] 46 (0, 0)) (bP BK882) NB882_0.out (by simp))
     replace HO891 := Aside0.mk (Kd.R_mono (Kd.R_keep (IsS90.apart (show IsS90 w0 _ g s0_0 t901 t902 from iZ90 HI0) (rP HO891) (by decide)) hk (fun _ h => h.2)) (fun _ h => h.1))
     replace BK892 := Aside0.mk (KeepBut.blk hk (g' := gb892) (o := .cells #[.slice Ao17 t889.length co17] 46 (0, 0)) (bP BK892) NB892_0.out (by simp))
     replace HO898 := Aside0.mk (Kd.R_mono (Kd.R_keep (IsS90.apart (show IsS90 w0 _ g s0_0 t901 t902 from iZ90 HI0) (rP HO898) (by decide)) hk (fun _ h => h.2)) (fun _ h => h.1))
     replace BK899 := Aside0.mk (KeepBut.blk hk (g' := gb899) (o := .cells #[.slice Ao25 y896.length co25] 46 (0, 0)) (bP BK899) NB899_0.out (by simp))
     replace HK := Aside0.mk (KeepBut.trans (kY HK) hk (.inl rfl))
     replace HB := Aside0.mk (hb)
     replace HI0 := Aside0.mk (hi)
     (try clear hb)
     have p11 : 0 ≤ (t900 : Int) := aQ
     have q11 : (t900 : Int) < ((y896.length : Int) : Int) := aQ
     obtain ⟨go11, co11, eo11, gb11, gl11, cl11, HG11⟩ := Kd.R_form HO898.out (by omega)
     (first | cases eo11 | (injection eo11 with ea_ en_ ec_; (first | subst ea_ | (injection ea_ with ea_; subst ea_)); subst ec_; clear en_))
     have GB11 := Aside0.mk gb11
     have GG11 := Aside0.mk HG11
     clear gb11 gl11 HG11
     obtain ⟨ce11, hcl11, hM11, hcc11, hfr11⟩ := Kd.R_elem HO898.out z28 (t900 : Int) p11 q11
     obtain rfl := k28_openM hM11
     have hx11_0 : World.cell? _ ⟨go11, (t900 : Int).toNat * 3, none⟩ = some (.int .i64 ((rd_T28 y896 t900).f0)) := hcc11 0 _ rfl
     have hx11_1 : World.cell? _ ⟨go11, (t900 : Int).toNat * 3 + 1, none⟩ = some (.int .i64 ((rd_T28 y896 t900).f1)) := hcc11 1 _ rfl
     have hx11_2 : World.cell? _ ⟨go11, (t900 : Int).toNat * 3 + 2, none⟩ = some (.bool ((rd_T28 y896 t900).f2)) := hcc11 2 _ rfl
     have hf11_0 : World.frozen? _ ⟨go11, (t900 : Int).toNat * 3, none⟩ = false := hfr11 0
     have hf11_1 : World.frozen? _ ⟨go11, (t900 : Int).toNat * 3 + 1, none⟩ = false := hfr11 1
     have hf11_2 : World.frozen? _ ⟨go11, (t900 : Int).toNat * 3 + 2, none⟩ = false := hfr11 2
     clear hcl11 hcc11 hfr11; (try clear hM11)
     replace p11 := eq_true p11
     replace q11 := eq_true q11
     have HN0_go11 := Aside0.mk (show g ≠ go11 from by have h_ := IsS90.own_ne HI0.out HO898.out (by decide); intro e_; exact h_ (by rw [e_]; rfl))
     obtain ⟨ce35, hcl35, hM35, hcc35, hfr35⟩ := Kd.R_elem HO898.out z28 (t900 : Int) aQ (by have h_ : (t900 : Int) < ((y896.length : Int) : Int) := aQ; first | exact h_ | (have e_ := (Kd.R_reads' HO898.out).1; omega) | simpa using h_)
     obtain rfl := k28_openM hM35
     have HP35 := (Kd.R_seg HO898.out (t900 : Int) aQ (by have h_ : (t900 : Int) < ((y896.length : Int) : Int) := aQ; first | exact h_ | (have e_ := (Kd.R_reads' HO898.out).1; omega) | simpa using h_) (seg := [.int .i64 t903, .int .i64 t904, .bool t905]) (j := 0) hcl35 hcc35 (show 3 ≤ 3 from by decide) (x' := (⟨t903, t904, t905⟩ : S28)) (k28_mkM _ _ _ (⟨t903, t904, t905⟩ : S28) ) (fun _ hk => hk)).1
     rw [← Ny908.out] at HP35
     have HQ35 := Aside0.mk HP35
     clear hcl35 hcc35 hfr35 hM35 HP35
     refine hK.out _ _ (bc BK899 0) (fun hHeld => ?_)
     clear hK K
     refine nO (some 24) ?_
     refine pI 6 (some 25) HT_.out ?_
     refine last_ (i := 7) (N := none) #[true, true, true, true, true, true, true, true] rfl rfl (one_of HT_.out (by kernel_rfl)) (by decide) (fun K hK => ?_)
     refine skip_ (w1 := ?_) (by rfl) rfl ?_ ?_
     rotate_left
     ·go_simp
      rfl
     refine hK.out _ _ ?_
     clear hK K
     refine done_ (done_of HT_.out (by kernel_rfl)) ?_
     obtain ⟨w36, hW_⟩ : ∃ W_ : World, W_ = (((w34.setCell ⟨go11, (t900 : Int).toNat * 3, none⟩ (.int .i64 t903)).setCell ⟨go11, (t900 : Int).toNat * 3 + 1, none⟩ (.int .i64 t904)).setCell ⟨go11, (t900 : Int).toNat * 3 + 2, none⟩ (.bool t905)) := ⟨_, rfl⟩
     have n0_ : Aside0 (Kd.R k28 28 (((w34.setCell ⟨go11, (t900 : Int).toNat * 3, none⟩ (.int .i64 t903)).setCell ⟨go11, (t900 : Int).toNat * 3 + 1, none⟩ (.int .i64 t904)).setCell ⟨go11, (t900 : Int).toNat * 3 + 2, none⟩ (.bool t905)) w.heap.size (fun k_ => some k_ ≠ (.slice (some ⟨go11, 0, none⟩) y896.length co25 : Value).ownBlock) (.slice Ao17 t889.length co17) t889) := ⟨by (with_reducible repeat (first | apply Kd.R_alloc | apply Kd.R_drewN | apply Kd.R_drew)); exact Kd.R_mono (Kd.R_far (p := ⟨go11, (t900 : Int).toNat * 3 + 2, none⟩) (Kd.R_far (p := ⟨go11, (t900 : Int).toNat * 3 + 1, none⟩) (Kd.R_far (p := ⟨go11, (t900 : Int).toNat * 3, none⟩) (Kd.R_mono HO891.out (fun k_ hk => (⟨hk, fun e_ => hk (by rw [e_]; rfl)⟩ : _ ∧ k_ ≠ go11))) (fun _ hk => hk.2) (.int .i64 t903)) (fun _ hk => hk.2) (.int .i64 t904)) (fun _ hk => hk.2) (.bool t905)) (fun _ hk => hk.1)⟩
     rw [← hW_] at n0_
     have n1_ : Aside0 (Kd.R k28 28 (((w34.setCell ⟨go11, (t900 : Int).toNat * 3, none⟩ (.int .i64 t903)).setCell ⟨go11, (t900 : Int).toNat * 3 + 1, none⟩ (.int .i64 t904)).setCell ⟨go11, (t900 : Int).toNat * 3 + 2, none⟩ (.bool t905)) w.heap.size (fun k_ => some k_ ≠ (.slice Ao17 t889.length co17 : Value).ownBlock) (.slice (some ⟨go11, 0, none⟩) y896.length co25) y908) := ⟨rP HQ35⟩
     rw [← hW_] at n1_
     have n2_ : Aside0 ((((w34.setCell ⟨go11, (t900 : Int).toNat * 3, none⟩ (.int .i64 t903)).setCell ⟨go11, (t900 : Int).toNat * 3 + 1, none⟩ (.int .i64 t904)).setCell ⟨go11, (t900 : Int).toNat * 3 + 2, none⟩ (.bool t905)).heap[gb882]? = some (.cells #[.slice none 0 0] 46 (0, 0))) := ⟨by (with_reducible repeat (first | refine blk_drewN ?_ _ | refine blk_drew ?_ | refine blk_alloc ?_ _)); refine blk_far ?_ (by have h_ := Kd.R_ne HO898.out BK882.out (by decide); intro e_; exact h_ (by rw [e_]; rfl)) _; (with_reducible repeat (first | refine blk_drewN ?_ _ | refine blk_drew ?_ | refine blk_alloc ?_ _)); refine blk_far ?_ (by have h_ := Kd.R_ne HO898.out BK882.out (by decide); intro e_; exact h_ (by rw [e_]; rfl)) _; (with_reducible repeat (first | refine blk_drewN ?_ _ | refine blk_drew ?_ | refine blk_alloc ?_ _)); refine blk_far ?_ (by have h_ := Kd.R_ne HO898.out BK882.out (by decide); intro e_; exact h_ (by rw [e_]; rfl)) _; (with_reducible repeat (first | refine blk_drewN ?_ _ | refine blk_drew ?_ | refine blk_alloc ?_ _)); exact BK882.out⟩
     rw [← hW_] at n2_
     have n3_ : Aside0 ((((w34.setCell ⟨go11, (t900 : Int).toNat * 3, none⟩ (.int .i64 t903)).setCell ⟨go11, (t900 : Int).toNat * 3 + 1, none⟩ (.int .i64 t904)).setCell ⟨go11, (t900 : Int).toNat * 3 + 2, none⟩ (.bool t905)).heap[gb892]? = some (.cells #[.slice Ao17 t889.length co17] 46 (0, 0))) := ⟨by (with_reducible repeat (first | refine blk_drewN ?_ _ | refine blk_drew ?_ | refine blk_alloc ?_ _)); refine blk_far ?_ (by have h_ := Kd.R_ne HO898.out BK892.out (by decide); intro e_; exact h_ (by rw [e_]; rfl)) _; (with_reducible repeat (first | refine blk_drewN ?_ _ | refine blk_drew ?_ | refine blk_alloc ?_ _)); refine blk_far ?_ (by have h_ := Kd.R_ne HO898.out BK892.out (by decide); intro e_; exact h_ (by rw [e_]; rfl)) _; (with_reducible repeat (first | refine blk_drewN ?_ _ | refine blk_drew ?_ | refine blk_alloc ?_ _)); refine blk_far ?_ (by have h_ := Kd.R_ne HO898.out BK892.out (by decide); intro e_; exact h_ (by rw [e_]; rfl)) _; (with_reducible repeat (first | refine blk_drewN ?_ _ | refine blk_drew ?_ | refine blk_alloc ?_ _)); exact BK892.out⟩
     rw [← hW_] at n3_
     have n4_ : Aside0 ((((w34.setCell ⟨go11, (t900 : Int).toNat * 3, none⟩ (.int .i64 t903)).setCell ⟨go11, (t900 : Int).toNat * 3 + 1, none⟩ (.int .i64 t904)).setCell ⟨go11, (t900 : Int).toNat * 3 + 2, none⟩ (.bool t905)).heap[gb899]? = some (.cells #[.slice (some ⟨go11, 0, none⟩) y896.length co25] 46 (0, 0))) := ⟨by (with_reducible repeat (first | refine blk_drewN ?_ _ | refine blk_drew ?_ | refine blk_alloc ?_ _)); refine blk_far ?_ (by have h_ := Kd.R_ne HO898.out BK899.out (by decide); intro e_; exact h_ (by rw [e_]; rfl)) _; (with_reducible repeat (first | refine blk_drewN ?_ _ | refine blk_drew ?_ | refine blk_alloc ?_ _)); refine blk_far ?_ (by have h_ := Kd.R_ne HO898.out BK899.out (by decide); intro e_; exact h_ (by rw [e_]; rfl)) _; (with_reducible repeat (first | refine blk_drewN ?_ _ | refine blk_drew ?_ | refine blk_alloc ?_ _)); refine blk_far ?_ (by have h_ := Kd.R_ne HO898.out BK899.out (by decide); intro e_; exact h_ (by rw [e_]; rfl)) _; (with_reducible repeat (first | refine blk_drewN ?_ _ | refine blk_drew ?_ | refine blk_alloc ?_ _)); exact BK899.out⟩
     rw [← hW_] at n4_
     have n5_ : Aside0 (IsS90 w0 (((w34.setCell ⟨go11, (t900 : Int).toNat * 3, none⟩ (.int .i64 t903)).setCell ⟨go11, (t900 : Int).toNat * 3 + 1, none⟩ (.int .i64 t904)).setCell ⟨go11, (t900 : Int).toNat * 3 + 2, none⟩ (.bool t905)) g s0_0 t906 t907) := ⟨by repeat (first | (with_reducible first | exact HI0.out | apply IsS90.alloc | apply IsS90.drewN | apply IsS90.drew | apply IsS90.set_1 | apply IsS90.set_2 | refine IsS90.far ?_ HN0_go11.out _ | refine IsS90.far ?_ HN0_go11.out _ | refine IsS90.far ?_ HN0_go11.out _ | refine IsS90.far ?_ NB0_882.out _ | refine IsS90.far ?_ NB0_892.out _ | refine IsS90.far ?_ NB0_899.out _) | exact HI0.out)⟩
     rw [← hW_] at n5_
     have n6_ : Aside0 (KeepBut w (((w34.setCell ⟨go11, (t900 : Int).toNat * 3, none⟩ (.int .i64 t903)).setCell ⟨go11, (t900 : Int).toNat * 3 + 1, none⟩ (.int .i64 t904)).setCell ⟨go11, (t900 : Int).toNat * 3 + 2, none⟩ (.bool t905)) g none) := ⟨by repeat (first | (with_reducible first | exact HK.out | apply KeepBut.set_ | apply keep_drewN | apply keep_drew | apply keep_alloc | refine keep_far ?_ GB11.out _ | refine keep_far ?_ GB11.out _ | refine keep_far ?_ GB11.out _ | refine keep_far ?_ GW882.out _ | refine keep_far ?_ GW892.out _ | refine keep_far ?_ GW899.out _) | exact HK.out)⟩
     rw [← hW_] at n6_
     have n7_ : Aside0 (Below w0.heap.size w0 (((w34.setCell ⟨go11, (t900 : Int).toNat * 3, none⟩ (.int .i64 t903)).setCell ⟨go11, (t900 : Int).toNat * 3 + 1, none⟩ (.int .i64 t904)).setCell ⟨go11, (t900 : Int).toNat * 3 + 2, none⟩ (.bool t905))) := ⟨by repeat (first | (with_reducible first | exact HB.out | apply below_alloc | apply pw_below_drewN | apply below_drew1 | refine below_set ?_ (Nat.le_trans HL.out GB11.out) | refine below_set ?_ (Nat.le_trans HL.out GB11.out) | refine below_set ?_ (Nat.le_trans HL.out GB11.out) | refine below_set ?_ (IsS90.ge HI0.out) | refine below_set ?_ GE882.out | refine below_set ?_ GE892.out | refine below_set ?_ GE899.out) | exact HB.out)⟩
     rw [← hW_] at n7_
     (try clear HO891)
     (try clear HO898)
     (try clear BK882)
     (try clear BK892)
     (try clear BK899)
     (try clear HI0)
     (try clear HK)
     (try clear HB)
     have HO891 := n0_
     clear n0_
     have HO898 := n1_
     clear n1_
     have BK882 := n2_
     clear n2_
     have BK892 := n3_
     clear n3_
     have BK899 := n4_
     clear n4_
     have HI0 := n5_
     clear n5_
     have HK := n6_
     clear n6_
     have HB := n7_
     clear n7_
     rw [← hW_]
     clear hW_
     obtain ⟨hcz37_0, hfz37_0⟩ := bK1 (w := w36) BK899
     obtain ⟨hnb38, hnc38⟩ := nB NB882_0
     obtain ⟨hcz39_0, hfz39_0⟩ := bK1 (w := w36) BK882
     try go_wp2
     refine rC gb882 46 #[.slice (some ⟨go11, 0, none⟩) y896.length co25] (bU BK882) Tryz.underlying46 ?_
     exact ⟨_, by first | rfl | (simp [errW_none, errW_some] <;> rfl) | (simp [*, errW_none, errW_some] <;> rfl), Kd.Q_of_R (by (with_reducible repeat (first | apply Kd.R_alloc | apply Kd.R_drewN | apply Kd.R_drew)); exact Kd.R_mono (Kd.R_far (p := ⟨gb882, 0, none⟩) (Kd.R_types HO898.out BK882.out (by decide)) (fun _ hk => hk.2) (.slice (some ⟨go11, 0, none⟩) y896.length co25)) (fun _ hk => trivial)), iZ90 HI0, jZ90 HB HI0, kZ HK⟩
    ·rw [if_neg c10] at H
     exact absurd H (by simp)
   ·rw [if_neg c9] at H
    exact absurd H (by simp)
  ·rw [if_neg c6] at H
   have c6b0 : (t883 == 0) = false := beq_eq_false_iff_ne.mpr c6
   have c6b1 : (t883 != 0) = true := bne_iff_ne.mpr c6
   by_cases c40 : t883 = 1
   ·rw [if_pos c40] at H
    have c40b0 : (t883 == 1) = true := beq_iff_eq.mpr c40
    have c40b1 : (t883 != 1) = false := bne_eq_false_iff_eq.mpr c40
    clear c40
    by_cases c41 : 1 ≤ (y896.length : Int)
    ·rw [if_pos c41] at H
     have c41b0 := eq_true c41
     have c41b1 := decide_eq_true c41
     clear c41
     obtain ⟨y909, hy909⟩ : ∃ y_ : List (S28), y_ = (y896.drop (1 : Int).toNat) := ⟨_, rfl⟩
     replace H : (some (y909, t887, t888)) = some (r1, r2, r3) := yR hy909 H
     have Ny909 := Aside0.mk hy909
     clear hy909
     simp only [Option.some.injEq, Prod.mk.injEq] at H
     obtain ⟨rfl, rfl, rfl⟩ := H
     go_enter Tryz.func69, Tryz.ntmps69
     go_wp2_with (first | ((with_reducible refine gate_dst (N := 2) rfl ?_); refine bE 2 #[.slice none 0 0] 46 ?_; intro gb882 hg w42 hbox hb; replace HB := Aside0.mk (below_step (jZ90 HB HI0) hb); have BK882 := Aside0.mk (hbox); have GW882 := Aside0.mk ((by rw [hg]; exact (keep_size (w := w) (g := g) (row := none) (kZ HK)) : w.heap.size ≤ gb882)); have GE882 := Aside0.mk ((Nat.le_trans HW0.out (by rw [hg]; exact (keep_size (w := w) (g := g) (row := none) (kZ HK)) : w.heap.size ≤ gb882) : w0.heap.size ≤ gb882)); replace HK := Aside0.mk (KeepBut.trans (kY HK) (KeepBut.of_below hb g none) (.inl rfl)); have NB0_882 := Aside0.mk ((by rw [hg]; exact Nat.ne_of_lt (IsS90.lt (show IsS90 w0 _ g s0_0 s0_1 s0_2 from iZ90 HI0)) : g ≠ gb882)); have NB882_0 := Aside0.mk ((by rw [hg]; exact Nat.ne_of_gt (IsS90.lt (show IsS90 w0 _ g s0_0 s0_1 s0_2 from iZ90 HI0)) : gb882 ≠ g)); replace HI0 := Aside0.mk (IsS90.below (iZ90 HI0) hb); clear hb hbox hg) | (refine gC (some 7) Tryz.func44 #[.pointer (some ⟨g, 0, none⟩), .int .i64 8] ?_; (with_reducible refine (spec_l01Below.calls g s0_0 s0_1 s0_2 8 t883 t884 t885 w0 _ ?side1 ?side2 A2.out).mono ?_); (case side1 => exact iZ90 HI0); (case side2 => exact jZ90 HB HI0); rintro e w43 ⟨rfl, hi, hb, hk⟩; refine ⟨_, rfl, ?_⟩; replace BK882 := Aside0.mk (KeepBut.blk hk (g' := gb882) (o := .cells #[.slice none 0 0] 46 (0, 0)) (bP BK882) NB882_0.out (by simp)); replace HK := Aside0.mk (KeepBut.trans (kY HK) hk (.inl rfl)); replace HB := Aside0.mk (hb); replace HI0 := Aside0.mk (hi); (try clear hb)) | (refine gC (some 9) Tryz.func44 #[.pointer (some ⟨g, 0, none⟩), .int .i64 50] ?_; (with_reducible refine (spec_l01Below.calls g s0_0 t884 t885 50 t886 t887 t888 w0 _ ?side1 ?side2 A3.out).mono ?_); (case side1 => exact iZ90 HI0); (case side2 => exact jZ90 HB HI0); rintro e w44 ⟨rfl, hi, hb, hk⟩; refine ⟨_, rfl, ?_⟩; replace BK882 := Aside0.mk (KeepBut.blk hk (g' := gb882) (o := .cells #[.slice none 0 0] 46 (0, 0)) (bP BK882) NB882_0.out (by simp)); replace HK := Aside0.mk (KeepBut.trans (kY HK) hk (.inl rfl)); replace HB := Aside0.mk (hb); replace HI0 := Aside0.mk (hi); (try clear hb)) | (refine gC (some 10) Tryz.func123 #[.int .i64 t886] ?_; (with_reducible refine (spec_CommitteeOf.calls k t886 t889 _ A4.out).mono ?_); rintro e w45 ⟨v890, rfl, ho0, hb⟩; refine ⟨_, rfl, ?_⟩; have HO891 := Aside0.mk (Kd.R_lower ho0 (keep_size (w := w) (g := g) (row := none) (kZ HK))); replace BK882 := bB BK882 hb; replace HK := Aside0.mk (KeepBut.trans (kY HK) (KeepBut.of_below hb g none) (.inl rfl)); replace HB := Aside0.mk (below_step (jZ90 HB HI0) hb); replace HI0 := Aside0.mk (IsS90.below (iZ90 HI0) hb); (try clear hb); (try clear ho0)) | ((with_reducible refine gate_dst (N := 4) rfl ?_); refine bE 4 #[.slice none 0 0] 46 ?_; intro gb892 hg w46 hbox hb; replace HO891 := Aside0.mk (Kd.R_below (rP HO891) hb); replace HB := Aside0.mk (below_step (jZ90 HB HI0) hb); have BK892 := Aside0.mk (hbox); have GW892 := Aside0.mk ((by rw [hg]; exact (keep_size (w := w) (g := g) (row := none) (kZ HK)) : w.heap.size ≤ gb892)); have GE892 := Aside0.mk ((Nat.le_trans HW0.out (by rw [hg]; exact (keep_size (w := w) (g := g) (row := none) (kZ HK)) : w.heap.size ≤ gb892) : w0.heap.size ≤ gb892)); replace HK := Aside0.mk (KeepBut.trans (kY HK) (KeepBut.of_below hb g none) (.inl rfl)); obtain ⟨NB882_892, NB892_882⟩ := bN BK882 hg; replace BK882 := bB BK882 hb; have NB0_892 := Aside0.mk ((by rw [hg]; exact Nat.ne_of_lt (IsS90.lt (show IsS90 w0 _ g s0_0 t887 t888 from iZ90 HI0)) : g ≠ gb892)); have NB892_0 := Aside0.mk ((by rw [hg]; exact Nat.ne_of_gt (IsS90.lt (show IsS90 w0 _ g s0_0 t887 t888 from iZ90 HI0)) : gb892 ≠ g)); replace HI0 := Aside0.mk (IsS90.below (iZ90 HI0) hb); clear hb hbox hg; obtain ⟨Ao47, co47, eo47⟩ := Kd.R_slice HO891.out; subst eo47; obtain ⟨hnb48, hnc48⟩ := nB NB892_882; obtain ⟨hnb49, hnc49⟩ := nB NB892_0; obtain ⟨hcz50_0, hfz50_0⟩ := bK1 (w := w46) BK892) | ((with_reducible refine gate_dst (N := 11) rfl ?_); refine Kd.R_lit k28 _ 28 ?hg (N := 11) ?hd (xs := ([] : List (S28))) (inner := []) (ok := fun _ => True) (okp := fun _ => True) ?hr ?hp (fun _ hk => hk) trivial (Below.refl _ _) (Nat.le_refl _) (by simp) ?_; (case hd => rfl); (case hg => rfl); (case hr => first | (go_simp; done) | (go_simp; rfl)); (case hp => exact (Reps.none _ _)); intro v894 w51 ho52 hb hg_ hnew_; clear hg_ hnew_; (first | rw [← Ny893.out] at ho52 | (simp only [Int.reduceToNat] at ho52; rw [← Ny893.out] at ho52)); have HO895 := Aside0.mk (Kd.R_lower (Kd.R_new' ho52 (Kd.R_lt (by (with_reducible repeat (first | apply Kd.R_alloc | apply Kd.R_drewN | apply Kd.R_drew)); exact (Kd.R_mono (Kd.R_far (p := ⟨gb892, 0, none⟩) (Kd.R_types HO891.out BK892.out (by decide)) (fun _ hk => hk.2) (.slice Ao47 t889.length co47)) (fun _ h_ => h_.1))))) (keep_size (w := w) (g := g) (row := none) (kZ HK))); replace HO891 := Aside0.mk (Kd.R_elder' (by (with_reducible repeat (first | apply Kd.R_alloc | apply Kd.R_drewN | apply Kd.R_drew)); exact (Kd.R_mono (Kd.R_far (p := ⟨gb892, 0, none⟩) (Kd.R_types HO891.out BK892.out (by decide)) (fun _ hk => hk.2) (.slice Ao47 t889.length co47)) (fun _ h_ => h_.1))) (Kd.R_base ho52) hb); replace BK882 := bB BK882 hb; replace BK892 := bV 46 #[.slice Ao47 t889.length co47] BK892 hb; replace HK := Aside0.mk (KeepBut.trans (kY HK) (KeepBut.of_below hb g none) (.inl rfl)); replace HB := Aside0.mk (below_step (jZ90 HB HI0) hb); replace HI0 := Aside0.mk (IsS90.below (show IsS90 w0 (w46.setCell ⟨gb892, 0, none⟩ (.slice Ao47 t889.length co47)) g s0_0 t887 t888 from iZ90 HI0) hb); clear hb ho52; obtain ⟨hcz53_0, hfz53_0⟩ := bK1 (w := w51) BK892) | ((with_reducible refine gate_builtin (b := .append) (xs := #[.tmp 11, .tmp 13]) rfl ?_); at_builtin; refine Kd.R_append_rows k28 w.heap.size rfl (.tmp 11) (.tmp 13) 26 28 (.agg #[(.int .i64 0), (.int .i64 0), (.bool false)]) 24 rfl Tryz.underlying26 info28 rfl (by decide) (by omega) v894 y893 t889 _ _ _ (fun k_ => some k_ ≠ (.slice Ao47 t889.length co47 : Value).ownBlock) (fun _ => False) rfl rfl ?aO ?aR (fun _ _ h => h) (fun _ h => h.elim) ?aF (Below.refl _ _) ?aS ?aL ?_; (case aR => exact cP ((Kd.R_reads' HO891.out).2.2)); (case aF => exact (fun k_ hk => Kd.fresh' (Kd.R_lt (rP HO891)) k_ hk)); (case aO => exact (by (with_reducible repeat (first | apply Kd.R_alloc | apply Kd.R_drewN | apply Kd.R_drew)); exact Kd.R_mono HO895.out (fun _ hk => hk.2))); (case aS => exact (keep_size (w := w) (g := g) (row := none) (kZ HK))); (case aL => have := LMc5.out; omega); intro v897 w54 ho hb hg hat; rw [← Ny896.out] at ho; replace BK882 := Aside0.mk (blk_grown (bP BK882) hg (Kd.R_ne HO895.out BK882.out (by decide))); replace HO891 := Aside0.mk (Kd.R_after (ok := (fun _ => True)) (rP HO891) hg hat); replace BK892 := Aside0.mk (blk_grown (bP BK892) hg (Kd.R_ne HO895.out BK892.out (by decide))); replace HB := Aside0.mk (below_weaken (jZ90 HB HI0) HL.out hb); replace HI0 := Aside0.mk (IsS90.grown (iZ90 HI0) hg (IsS90.own_ne HI0.out HO895.out (by decide))); replace HK := Aside0.mk (KeepBut.trans (kY HK) (KeepBut.of_grown hg g) (Kd.R_base2 HO895.out)); have HO898 := Aside0.mk (ho); clear HO895; clear ho hb hg hat; obtain ⟨Ao55, co55, eo55⟩ := Kd.R_slice HO898.out; subst eo55) | ((with_reducible refine gate_dst (N := 5) rfl ?_); refine bE 5 #[.slice none 0 0] 46 ?_; intro gb899 hg w56 hbox hb; replace HO891 := Aside0.mk (Kd.R_below (rP HO891) hb); replace HO898 := Aside0.mk (Kd.R_below (rP HO898) hb); replace HB := Aside0.mk (below_step (jZ90 HB HI0) hb); have BK899 := Aside0.mk (hbox); have GW899 := Aside0.mk ((by rw [hg]; exact (keep_size (w := w) (g := g) (row := none) (kZ HK)) : w.heap.size ≤ gb899)); have GE899 := Aside0.mk ((Nat.le_trans HW0.out (by rw [hg]; exact (keep_size (w := w) (g := g) (row := none) (kZ HK)) : w.heap.size ≤ gb899) : w0.heap.size ≤ gb899)); replace HK := Aside0.mk (KeepBut.trans (kY HK) (KeepBut.of_below hb g none) (.inl rfl)); obtain ⟨NB882_899, NB899_882⟩ := bN BK882 hg; replace BK882 := bB BK882 hb; obtain ⟨NB892_899, NB899_892⟩ := bN BK892 hg; replace BK892 := bB BK892 hb; have NB0_899 := Aside0.mk ((by rw [hg]; exact Nat.ne_of_lt (IsS90.lt (show IsS90 w0 _ g s0_0 t887 t888 from iZ90 HI0)) : g ≠ gb899)); have NB899_0 := Aside0.mk ((by rw [hg]; exact Nat.ne_of_gt (IsS90.lt (show IsS90 w0 _ g s0_0 t887 t888 from iZ90 HI0)) : gb899 ≠ g)); replace HI0 := Aside0.mk (IsS90.below (iZ90 HI0) hb); clear hb hbox hg; obtain ⟨hnb57, hnc57⟩ := nB NB899_882; obtain ⟨hnb58, hnc58⟩ := nB NB899_892; obtain ⟨hnb59, hnc59⟩ := nB NB899_0; obtain ⟨hcz60_0, hfz60_0⟩ := bK1 (w := w56) BK899) | ((with_reducible refine gate_store (t := 46) (p := 5) rfl ?_); refine store_event (t := 46) (p := 5) (v := ?vo_w61) (w1 := (w56.setCell ⟨gb899, 0, none⟩ (.slice Ao55 y896.length co55))) ?hg ?ho ?hn ?hr ?_; (case ho => rfl); (case hg => rfl); (case hn => rfl); (case hr => first | (go_simp; done) | (go_simp; rfl)); intro w61 hw; replace HO891 : Aside0 (Kd.R k28 28 w61 w.heap.size (fun k_ => some k_ ≠ (.slice Ao55 y896.length co55 : Value).ownBlock) (.slice Ao47 t889.length co47) t889) := ⟨(by rw [hw]; exact (by (with_reducible repeat (first | apply Kd.R_alloc | apply Kd.R_drewN | apply Kd.R_drew)); exact Kd.R_mono (Kd.R_far (p := ⟨gb899, 0, none⟩) (Kd.R_types HO891.out BK899.out (by decide)) (fun _ hk => hk.2) (.slice Ao55 y896.length co55)) (fun _ hk => hk.1.2)))⟩; replace HO898 : Aside0 (Kd.R k28 28 w61 w.heap.size (fun k_ => some k_ ≠ (.slice Ao47 t889.length co47 : Value).ownBlock) (.slice Ao55 y896.length co55) y896) := ⟨(by rw [hw]; exact (by (with_reducible repeat (first | apply Kd.R_alloc | apply Kd.R_drewN | apply Kd.R_drew)); exact Kd.R_mono (Kd.R_far (p := ⟨gb899, 0, none⟩) (Kd.R_types HO898.out BK899.out (by decide)) (fun _ hk => hk.2) (.slice Ao55 y896.length co55)) (fun _ hk => hk.1)))⟩; replace BK882 : Aside0 (w61.heap[gb882]? = some (.cells #[.slice none 0 0] 46 (0, 0))) := ⟨(by rw [hw]; exact (bP BK882))⟩; replace BK892 : Aside0 (w61.heap[gb892]? = some (.cells #[.slice Ao47 t889.length co47] 46 (0, 0))) := ⟨(by rw [hw]; exact (bP BK892))⟩; replace BK899 : Aside0 (w61.heap[gb899]? = some (.cells #[.slice Ao55 y896.length co55] 46 (0, 0))) := ⟨(by rw [hw]; exact (bU BK899))⟩; replace HK : Aside0 (KeepBut w w61 g none) := ⟨(by rw [hw]; exact (kZ HK))⟩; replace HB : Aside0 (Below w0.heap.size w0 w61) := ⟨(by rw [hw]; exact (jZ90 HB HI0))⟩; replace HI0 : Aside0 (IsS90 w0 w61 g s0_0 t887 t888) := ⟨(by rw [hw]; exact (iZ90 HI0))⟩; clear hw; obtain ⟨hcz62_0, hfz62_0⟩ := bK1 (w := w61) BK899; have q63 : (1 : Int) ≤ ((y896.length : Int) : Int) := aQ; obtain ⟨i063, hi063, _, hsz63, _⟩ := info_parts info28; have hcut63 := cut_from (P := Tryz.prog) 26 28 .i64 Tryz.underlying26 hi063 3 hsz63 Ao55 y896.length co55 1 (by omega) q63; have hr63 := Kd.Q_drop (k := (1 : Int).toNat) (Kd.Q_of_R HO898.out) (by omega); obtain ⟨A63, hA63⟩ : ∃ A1, A1 = (if co55 = (1 : Int).toNat then Ao55 else (Ao55 : Option Addr).map (·.add ((1 : Int).toNat * 3))) := ⟨_, rfl⟩; obtain ⟨c63, hc63⟩ : ∃ c1, c1 = co55 - (1 : Int).toNat := ⟨_, rfl⟩; have hy63 : y909.length = y896.length - (1 : Int).toNat := (by rw [Ny909.out, List.length_drop]); rw [← Ny909.out] at hr63; rw [← hy63, ← hA63, ← hc63] at hcut63; replace hr63 : Kd.Q k28 28 w61 w.heap.size (fun k_ => some k_ ≠ (.slice Ao47 t889.length co47 : Value).ownBlock) (.slice A63 y909.length c63) y909 := (by rw [hA63, hc63, hy63]; exact hr63); have HE63 : Aside0 ((Value.slice A63 y909.length c63).ownBlock = (.slice Ao55 y896.length co55 : Value).ownBlock) := ⟨by rw [hA63]; split <;> (cases (Ao55 : Option Addr) <;> rfl)⟩; clear hy63 hi063 hsz63 HO898 hA63 hc63; have HO911 := Aside0.mk hr63; clear hr63; replace q63 := eq_true q63; have n_ := Aside0.mk (Kd.R_mono (ok' := fun k_ => some k_ ≠ (.slice A63 y909.length c63 : Value).ownBlock) HO891.out (fun k_ hk => (by rw [HE63.out]; exact hk))); clear HO891; have HO891 := n_; clear n_; obtain ⟨hnb64, hnc64⟩ := nB NB882_0; obtain ⟨hcz65_0, hfz65_0⟩ := bK1 (w := w61) BK882))
     refine rC gb882 46 #[.slice A63 y909.length c63] (bU BK882) Tryz.underlying46 ?_
     exact ⟨_, by first | rfl | (simp [errW_none, errW_some] <;> rfl) | (simp [*, errW_none, errW_some] <;> rfl), by (with_reducible repeat (first | apply Kd.Q_alloc | apply Kd.Q_drewN | apply Kd.Q_drew)); exact Kd.Q_mono (Kd.Q_far (p := ⟨gb882, 0, none⟩) (Kd.Q_far (p := ⟨gb899, 0, none⟩) (Kd.Q_types (Kd.Q_types HO911.out BK899.out (by decide)) BK882.out (by decide)) (fun _ hk => hk.1.2) (.slice A63 y909.length c63)) (fun _ hk => hk.2) (.slice A63 y909.length c63)) (fun _ hk => trivial), iZ90 HI0, jZ90 HB HI0, kZ HK⟩
    ·rw [if_neg c41] at H
     exact absurd H (by simp)
   ·rw [if_neg c40] at H
    have c40b0 : (t883 == 1) = false := beq_eq_false_iff_ne.mpr c40
    have c40b1 : (t883 != 1) = true := bne_iff_ne.mpr c40
    simp only [Option.some.injEq, Prod.mk.injEq] at H
    obtain ⟨rfl, rfl, rfl⟩ := H
    go_enter Tryz.func69, Tryz.ntmps69
    go_wp2_with (first | ((with_reducible refine gate_dst (N := 2) rfl ?_); refine bE 2 #[.slice none 0 0] 46 ?_; intro gb882 hg w66 hbox hb; replace HB := Aside0.mk (below_step (jZ90 HB HI0) hb); have BK882 := Aside0.mk (hbox); have GW882 := Aside0.mk ((by rw [hg]; exact (keep_size (w := w) (g := g) (row := none) (kZ HK)) : w.heap.size ≤ gb882)); have GE882 := Aside0.mk ((Nat.le_trans HW0.out (by rw [hg]; exact (keep_size (w := w) (g := g) (row := none) (kZ HK)) : w.heap.size ≤ gb882) : w0.heap.size ≤ gb882)); replace HK := Aside0.mk (KeepBut.trans (kY HK) (KeepBut.of_below hb g none) (.inl rfl)); have NB0_882 := Aside0.mk ((by rw [hg]; exact Nat.ne_of_lt (IsS90.lt (show IsS90 w0 _ g s0_0 s0_1 s0_2 from iZ90 HI0)) : g ≠ gb882)); have NB882_0 := Aside0.mk ((by rw [hg]; exact Nat.ne_of_gt (IsS90.lt (show IsS90 w0 _ g s0_0 s0_1 s0_2 from iZ90 HI0)) : gb882 ≠ g)); replace HI0 := Aside0.mk (IsS90.below (iZ90 HI0) hb); clear hb hbox hg) | (refine gC (some 7) Tryz.func44 #[.pointer (some ⟨g, 0, none⟩), .int .i64 8] ?_; (with_reducible refine (spec_l01Below.calls g s0_0 s0_1 s0_2 8 t883 t884 t885 w0 _ ?side1 ?side2 A2.out).mono ?_); (case side1 => exact iZ90 HI0); (case side2 => exact jZ90 HB HI0); rintro e w67 ⟨rfl, hi, hb, hk⟩; refine ⟨_, rfl, ?_⟩; replace BK882 := Aside0.mk (KeepBut.blk hk (g' := gb882) (o := .cells #[.slice none 0 0] 46 (0, 0)) (bP BK882) NB882_0.out (by simp)); replace HK := Aside0.mk (KeepBut.trans (kY HK) hk (.inl rfl)); replace HB := Aside0.mk (hb); replace HI0 := Aside0.mk (hi); (try clear hb)) | (refine gC (some 9) Tryz.func44 #[.pointer (some ⟨g, 0, none⟩), .int .i64 50] ?_; (with_reducible refine (spec_l01Below.calls g s0_0 t884 t885 50 t886 t887 t888 w0 _ ?side1 ?side2 A3.out).mono ?_); (case side1 => exact iZ90 HI0); (case side2 => exact jZ90 HB HI0); rintro e w68 ⟨rfl, hi, hb, hk⟩; refine ⟨_, rfl, ?_⟩; replace BK882 := Aside0.mk (KeepBut.blk hk (g' := gb882) (o := .cells #[.slice none 0 0] 46 (0, 0)) (bP BK882) NB882_0.out (by simp)); replace HK := Aside0.mk (KeepBut.trans (kY HK) hk (.inl rfl)); replace HB := Aside0.mk (hb); replace HI0 := Aside0.mk (hi); (try clear hb)) | (refine gC (some 10) Tryz.func123 #[.int .i64 t886] ?_; (with_reducible refine (spec_CommitteeOf.calls k t886 t889 _ A4.out).mono ?_); rintro e w69 ⟨v890, rfl, ho0, hb⟩; refine ⟨_, rfl, ?_⟩; have HO891 := Aside0.mk (Kd.R_lower ho0 (keep_size (w := w) (g := g) (row := none) (kZ HK))); replace BK882 := bB BK882 hb; replace HK := Aside0.mk (KeepBut.trans (kY HK) (KeepBut.of_below hb g none) (.inl rfl)); replace HB := Aside0.mk (below_step (jZ90 HB HI0) hb); replace HI0 := Aside0.mk (IsS90.below (iZ90 HI0) hb); (try clear hb); (try clear ho0)) | ((with_reducible refine gate_dst (N := 4) rfl ?_); refine bE 4 #[.slice none 0 0] 46 ?_; intro gb892 hg w70 hbox hb; replace HO891 := Aside0.mk (Kd.R_below (rP HO891) hb); replace HB := Aside0.mk (below_step (jZ90 HB HI0) hb); have BK892 := Aside0.mk (hbox); have GW892 := Aside0.mk ((by rw [hg]; exact (keep_size (w := w) (g := g) (row := none) (kZ HK)) : w.heap.size ≤ gb892)); have GE892 := Aside0.mk ((Nat.le_trans HW0.out (by rw [hg]; exact (keep_size (w := w) (g := g) (row := none) (kZ HK)) : w.heap.size ≤ gb892) : w0.heap.size ≤ gb892)); replace HK := Aside0.mk (KeepBut.trans (kY HK) (KeepBut.of_below hb g none) (.inl rfl)); obtain ⟨NB882_892, NB892_882⟩ := bN BK882 hg; replace BK882 := bB BK882 hb; have NB0_892 := Aside0.mk ((by rw [hg]; exact Nat.ne_of_lt (IsS90.lt (show IsS90 w0 _ g s0_0 t887 t888 from iZ90 HI0)) : g ≠ gb892)); have NB892_0 := Aside0.mk ((by rw [hg]; exact Nat.ne_of_gt (IsS90.lt (show IsS90 w0 _ g s0_0 t887 t888 from iZ90 HI0)) : gb892 ≠ g)); replace HI0 := Aside0.mk (IsS90.below (iZ90 HI0) hb); clear hb hbox hg; obtain ⟨Ao71, co71, eo71⟩ := Kd.R_slice HO891.out; subst eo71; obtain ⟨hnb72, hnc72⟩ := nB NB892_882; obtain ⟨hnb73, hnc73⟩ := nB NB892_0; obtain ⟨hcz74_0, hfz74_0⟩ := bK1 (w := w70) BK892) | ((with_reducible refine gate_dst (N := 11) rfl ?_); refine Kd.R_lit k28 _ 28 ?hg (N := 11) ?hd (xs := ([] : List (S28))) (inner := []) (ok := fun _ => True) (okp := fun _ => True) ?hr ?hp (fun _ hk => hk) trivial (Below.refl _ _) (Nat.le_refl _) (by simp) ?_; (case hd => rfl); (case hg => rfl); (case hr => first | (go_simp; done) | (go_simp; rfl)); (case hp => exact (Reps.none _ _)); intro v894 w75 ho76 hb hg_ hnew_; clear hg_ hnew_; (first | rw [← Ny893.out] at ho76 | (simp only [Int.reduceToNat] at ho76; rw [← Ny893.out] at ho76)); have HO895 := Aside0.mk (Kd.R_lower (Kd.R_new' ho76 (Kd.R_lt (by (with_reducible repeat (first | apply Kd.R_alloc | apply Kd.R_drewN | apply Kd.R_drew)); exact (Kd.R_mono (Kd.R_far (p := ⟨gb892, 0, none⟩) (Kd.R_types HO891.out BK892.out (by decide)) (fun _ hk => hk.2) (.slice Ao71 t889.length co71)) (fun _ h_ => h_.1))))) (keep_size (w := w) (g := g) (row := none) (kZ HK))); replace HO891 := Aside0.mk (Kd.R_elder' (by (with_reducible repeat (first | apply Kd.R_alloc | apply Kd.R_drewN | apply Kd.R_drew)); exact (Kd.R_mono (Kd.R_far (p := ⟨gb892, 0, none⟩) (Kd.R_types HO891.out BK892.out (by decide)) (fun _ hk => hk.2) (.slice Ao71 t889.length co71)) (fun _ h_ => h_.1))) (Kd.R_base ho76) hb); replace BK882 := bB BK882 hb; replace BK892 := bV 46 #[.slice Ao71 t889.length co71] BK892 hb; replace HK := Aside0.mk (KeepBut.trans (kY HK) (KeepBut.of_below hb g none) (.inl rfl)); replace HB := Aside0.mk (below_step (jZ90 HB HI0) hb); replace HI0 := Aside0.mk (IsS90.below (show IsS90 w0 (w70.setCell ⟨gb892, 0, none⟩ (.slice Ao71 t889.length co71)) g s0_0 t887 t888 from iZ90 HI0) hb); clear hb ho76; obtain ⟨hcz77_0, hfz77_0⟩ := bK1 (w := w75) BK892) | ((with_reducible refine gate_builtin (b := .append) (xs := #[.tmp 11, .tmp 13]) rfl ?_); at_builtin; refine Kd.R_append_rows k28 w.heap.size rfl (.tmp 11) (.tmp 13) 26 28 (.agg #[(.int .i64 0), (.int .i64 0), (.bool false)]) 24 rfl Tryz.underlying26 info28 rfl (by decide) (by omega) v894 y893 t889 _ _ _ (fun k_ => some k_ ≠ (.slice Ao71 t889.length co71 : Value).ownBlock) (fun _ => False) rfl rfl ?aO ?aR (fun _ _ h => h) (fun _ h => h.elim) ?aF (Below.refl _ _) ?aS ?aL ?_; (case aR => exact cP ((Kd.R_reads' HO891.out).2.2)); (case aF => exact (fun k_ hk => Kd.fresh' (Kd.R_lt (rP HO891)) k_ hk)); (case aO => exact (by (with_reducible repeat (first | apply Kd.R_alloc | apply Kd.R_drewN | apply Kd.R_drew)); exact Kd.R_mono HO895.out (fun _ hk => hk.2))); (case aS => exact (keep_size (w := w) (g := g) (row := none) (kZ HK))); (case aL => have := LMc5.out; omega); intro v897 w78 ho hb hg hat; rw [← Ny896.out] at ho; replace BK882 := Aside0.mk (blk_grown (bP BK882) hg (Kd.R_ne HO895.out BK882.out (by decide))); replace HO891 := Aside0.mk (Kd.R_after (ok := (fun _ => True)) (rP HO891) hg hat); replace BK892 := Aside0.mk (blk_grown (bP BK892) hg (Kd.R_ne HO895.out BK892.out (by decide))); replace HB := Aside0.mk (below_weaken (jZ90 HB HI0) HL.out hb); replace HI0 := Aside0.mk (IsS90.grown (iZ90 HI0) hg (IsS90.own_ne HI0.out HO895.out (by decide))); replace HK := Aside0.mk (KeepBut.trans (kY HK) (KeepBut.of_grown hg g) (Kd.R_base2 HO895.out)); have HO898 := Aside0.mk (ho); clear HO895; clear ho hb hg hat; obtain ⟨Ao79, co79, eo79⟩ := Kd.R_slice HO898.out; subst eo79) | ((with_reducible refine gate_dst (N := 5) rfl ?_); refine bE 5 #[.slice none 0 0] 46 ?_; intro gb899 hg w80 hbox hb; replace HO891 := Aside0.mk (Kd.R_below (rP HO891) hb); replace HO898 := Aside0.mk (Kd.R_below (rP HO898) hb); replace HB := Aside0.mk (below_step (jZ90 HB HI0) hb); have BK899 := Aside0.mk (hbox); have GW899 := Aside0.mk ((by rw [hg]; exact (keep_size (w := w) (g := g) (row := none) (kZ HK)) : w.heap.size ≤ gb899)); have GE899 := Aside0.mk ((Nat.le_trans HW0.out (by rw [hg]; exact (keep_size (w := w) (g := g) (row := none) (kZ HK)) : w.heap.size ≤ gb899) : w0.heap.size ≤ gb899)); replace HK := Aside0.mk (KeepBut.trans (kY HK) (KeepBut.of_below hb g none) (.inl rfl)); obtain ⟨NB882_899, NB899_882⟩ := bN BK882 hg; replace BK882 := bB BK882 hb; obtain ⟨NB892_899, NB899_892⟩ := bN BK892 hg; replace BK892 := bB BK892 hb; have NB0_899 := Aside0.mk ((by rw [hg]; exact Nat.ne_of_lt (IsS90.lt (show IsS90 w0 _ g s0_0 t887 t888 from iZ90 HI0)) : g ≠ gb899)); have NB899_0 := Aside0.mk ((by rw [hg]; exact Nat.ne_of_gt (IsS90.lt (show IsS90 w0 _ g s0_0 t887 t888 from iZ90 HI0)) : gb899 ≠ g)); replace HI0 := Aside0.mk (IsS90.below (iZ90 HI0) hb); clear hb hbox hg; obtain ⟨hnb81, hnc81⟩ := nB NB899_882; obtain ⟨hnb82, hnc82⟩ := nB NB899_892; obtain ⟨hnb83, hnc83⟩ := nB NB899_0; obtain ⟨hcz84_0, hfz84_0⟩ := bK1 (w := w80) BK899; obtain ⟨hnb85, hnc85⟩ := nB NB882_0; obtain ⟨hcz86_0, hfz86_0⟩ := bK1 (w := w80) BK882))
    refine rC gb882 46 #[.slice Ao79 y896.length co79] (bU BK882) Tryz.underlying46 ?_
    exact ⟨_, by first | rfl | (simp [errW_none, errW_some] <;> rfl) | (simp [*, errW_none, errW_some] <;> rfl), Kd.Q_of_R (by (with_reducible repeat (first | apply Kd.R_alloc | apply Kd.R_drewN | apply Kd.R_drew)); exact Kd.R_mono (Kd.R_far (p := ⟨gb882, 0, none⟩) (Kd.R_far (p := ⟨gb899, 0, none⟩) (Kd.R_types (Kd.R_types HO898.out BK899.out (by decide)) BK882.out (by decide)) (fun _ hk => hk.1.2) (.slice Ao79 y896.length co79)) (fun _ hk => hk.2) (.slice Ao79 y896.length co79)) (fun _ hk => trivial)), iZ90 HI0, jZ90 HB HI0, kZ HK⟩
 ·rw [if_neg c5] at H
  exact absurd H (by simp)
def spec_DrawCommitteeText.f (k : Nat) (l0 : List Int) : Option ((List (S28))) := (spec_l01New.f k l0).bind fun bt913 => ((spec_l12Any.f k bt913.1 bt913.2.1 bt913.2.2).bind fun bt917 => (some bt917.1))
theorem spec_DrawCommitteeText.calls (k : Nat) (A0 : Option Addr) (c0 : Nat) (l0 : List Int) (r : List (S28)) (w : World) (hr0 : Kd.C (Kd.int .u8) w A0 l0.length l0) (hc0 : l0.length ≤ c0) (h : spec_DrawCommitteeText.f k l0 = some r) :
  Calls Tryz.prog 24 #[.slice A0 l0.length c0] w fun e w' => ∃ v0_ : Value, e = .returned (.agg #[v0_]) ∧ Kd.Q k28 28 w' w.heap.size (fun _ => True) v0_ r ∧ Below w.heap.size w w' := by
 have hu46 := Tryz.underlying46
 have HR0 := Aside0.mk hr0
 have HC0 := Aside0.mk hc0
 clear hr0 hc0
 have HB := Aside0.mk (Below.refl w.heap.size w)
 unfold spec_DrawCommitteeText.f at h
 have H := h
 clear h
 obtain ⟨⟨t913, t914, t915⟩, A2, H⟩ := oB H
 obtain ⟨⟨t917, t920, t921⟩, A3, H⟩ := oB H
 obtain rfl := Option.some.inj H
 go_enter Tryz.func24, Tryz.ntmps24
 go_wp2_with (first | (refine gB 2 #[.slice none 0 0] 46 ?_; intro gb912 hg w4 BK912 hb; have GW912 := bG HB hg; have GE912 := bG HB hg; replace HB := bS HB hb; clear hb hg) | (refine gC (some 4) Tryz.func42 #[.slice A0 l0.length c0] ?_; (with_reducible refine (spec_l01New.calls k _ _ l0 t913 t914 t915 w _ ?side1 ?side2 ?side3 A2.out).mono ?_); (case side1 => repeat (first | (with_reducible first | exact HB.out | apply below_alloc | apply pw_below_drewN | apply below_drew1 | refine below_set ?_ GE912.out) | exact HB.out)); (case side2 => exact HR0.out); (case side3 => exact HC0.out); rintro e w5 ⟨g916, rfl, hi, hb, hb2⟩; refine ⟨_, rfl, ?_⟩; replace HB := Aside0.mk (hb); have HI916 := Aside0.mk (hi); have NB916_912 := Aside0.mk (IsS90.ne_blk hi (blk_below (bP BK912) hb2) (by decide)); have NB912_916 := Aside0.mk (Ne.symm (IsS90.ne_blk hi (blk_below (bP BK912) hb2) (by decide))); replace BK912 := Aside0.mk (blk_below (bP BK912) hb2); (try clear hb)) | (refine gC (some 5) Tryz.func69 #[.pointer (some ⟨g916, 0, none⟩)] ?_; (with_reducible refine (spec_l12Any.calls k g916 t913 t914 t915 t917 t920 t921 w _ ?side1 ?side2 A3.out).mono ?_); (case side1 => exact iZ90 HI916); (case side2 => exact jZ90 HB HI916); rintro e w6 ⟨v918, rfl, ho0, hi, hb, hk⟩; refine ⟨_, rfl, ?_⟩; replace BK912 := Aside0.mk (KeepBut.blk hk (g' := gb912) (o := .cells #[.slice none 0 0] 46 (0, 0)) (bP BK912) NB912_916.out (by simp)); have HO919 := Aside0.mk (Kd.Q_lower ho0 (below_size (jZ90 HB HI916))); replace HB := Aside0.mk (hb); replace HI916 := Aside0.mk (hi); (try clear hb); (try clear ho0); obtain ⟨Ao7, co7, eo7, _⟩ := Kd.Q_slice HO919.out; subst eo7; obtain ⟨hnb8, hnc8⟩ := nB NB912_916; obtain ⟨hcz9_0, hfz9_0⟩ := bK1 (w := w6) BK912))
 refine rC gb912 46 #[.slice Ao7 t917.length co7] (bU BK912) Tryz.underlying46 ?_
 exact ⟨_, by first | rfl | (simp [errW_none, errW_some] <;> rfl) | (simp [*, errW_none, errW_some] <;> rfl), by (with_reducible repeat (first | apply Kd.Q_alloc | apply Kd.Q_drewN | apply Kd.Q_drew)); exact Kd.Q_mono (Kd.Q_far (p := ⟨gb912, 0, none⟩) (Kd.Q_types HO919.out BK912.out (by decide)) (fun _ hk => hk.2) (.slice Ao7 t917.length co7)) (fun _ hk => trivial), jZ90 HB HI916⟩
def impl_remainder.f (a0 : Int) (a1 : Int) : Option (Int) := if a1 = 0 then (none) else (if (Int.tmod a0 a1) < 0 then (some (wrap64 ((Int.tmod a0 a1) + a1))) else (some (Int.tmod a0 a1)))
theorem impl_remainder.calls (a0 : Int) (a1 : Int) (r : Int) (w : World) (h : impl_remainder.f a0 a1 = some r) :
  Calls Tryz.prog 86 #[.int .i64 a0, .int .i64 a1] w fun e w' => e = .returned (.int .i64 r) ∧ Drawn0 w w' := by
 unfold impl_remainder.f at h
 have H := h
 clear h
 by_cases c3 : a1 = 0
 ·rw [if_pos c3] at H
  exact absurd H (by simp)
 ·rw [if_neg c3] at H
  have c3b0 : (a1 == 0) = false := beq_eq_false_iff_ne.mpr c3
  have c3b1 : (a1 != 0) = true := bne_iff_ne.mpr c3
  by_cases c4 : (Int.tmod a0 a1) < 0
  ·rw [if_pos c4] at H
   have c4b0 := decide_eq_true c4
   clear c4
   obtain rfl := Option.some.inj H
   go_enter Tryz.func86, Tryz.ntmps86
   go_wp2
   go_ret
   exact ⟨rS, rD⟩
  ·rw [if_neg c4] at H
   have c4b0 := decide_eq_false c4
   clear c4
   obtain rfl := Option.some.inj H
   go_enter Tryz.func86, Tryz.ntmps86
   go_wp2
   go_ret
   exact ⟨rS, rD⟩
def impl_FpOf.f (a0 : Int) : Option (Int) := (impl_remainder.f a0 12107).bind fun t102 => (some t102)
theorem impl_FpOf.calls (a0 : Int) (r : Int) (w : World) (h : impl_FpOf.f a0 = some r) :
  Calls Tryz.prog 56 #[.int .i64 a0] w fun e w' => e = .returned (.int .i64 r) ∧ Drawn0 w w' := by
 have H : ((impl_remainder.f a0 12107).bind fun t102 => (some t102)) = some r := h
 clear h
 obtain ⟨t102, A2, H⟩ := oB H
 obtain rfl := Option.some.inj H
 go_enter Tryz.func56, Tryz.ntmps56
 go_wp2_with (first | (refine gC (some 4) Tryz.func86 #[.int .i64 a0, .int .i64 12107] ?_; (with_reducible refine (impl_remainder.calls a0 12107 t102 _ A2.out).mono ?_); rintro e w' ⟨rfl, ⟨nd, rfl⟩⟩; refine ⟨_, rfl, ?_⟩))
 go_ret
 exact ⟨rS, rD⟩
def impl_FpMul.f (a0 : Int) (a1 : Int) : Option (Int) := (impl_FpOf.f a0).bind fun t103 => ((impl_FpOf.f a1).bind fun t104 => ((impl_FpOf.f (wrap64 (t103 * t104))).bind fun t105 => (some t105)))
theorem impl_FpMul.calls (a0 : Int) (a1 : Int) (r : Int) (w : World) (h : impl_FpMul.f a0 a1 = some r) :
  Calls Tryz.prog 88 #[.int .i64 a0, .int .i64 a1] w fun e w' => e = .returned (.int .i64 r) ∧ Drawn0 w w' := by
 unfold impl_FpMul.f at h
 have H := h
 clear h
 obtain ⟨t103, A3, H⟩ := oB H
 obtain ⟨t104, A4, H⟩ := oB H
 obtain ⟨t105, A5, H⟩ := oB H
 obtain rfl := Option.some.inj H
 go_enter Tryz.func88, Tryz.ntmps88
 go_wp2_with (first | (refine gC (some 6) Tryz.func56 #[.int .i64 a0] ?_; (with_reducible refine (impl_FpOf.calls a0 t103 _ A3.out).mono ?_); rintro e w' ⟨rfl, ⟨nd, rfl⟩⟩; refine ⟨_, rfl, ?_⟩) | (refine gC (some 8) Tryz.func56 #[.int .i64 a1] ?_; (with_reducible refine (impl_FpOf.calls a1 t104 _ A4.out).mono ?_); rintro e w' ⟨rfl, ⟨nd, rfl⟩⟩; refine ⟨_, rfl, ?_⟩) | (refine gC (some 10) Tryz.func56 #[.int .i64 (wrap64 (t103 * t104))] ?_; (with_reducible refine (impl_FpOf.calls (wrap64 (t103 * t104)) t105 _ A5.out).mono ?_); rintro e w' ⟨rfl, ⟨nd, rfl⟩⟩; refine ⟨_, rfl, ?_⟩))
 go_ret
 exact ⟨rS, rD⟩
def impl_FpAdd.f (a0 : Int) (a1 : Int) : Option (Int) := (impl_FpOf.f a0).bind fun t106 => ((impl_FpOf.f a1).bind fun t107 => ((impl_FpOf.f (wrap64 (t106 + t107))).bind fun t108 => (some t108)))
theorem impl_FpAdd.calls (a0 : Int) (a1 : Int) (r : Int) (w : World) (h : impl_FpAdd.f a0 a1 = some r) :
  Calls Tryz.prog 98 #[.int .i64 a0, .int .i64 a1] w fun e w' => e = .returned (.int .i64 r) ∧ Drawn0 w w' := by
 unfold impl_FpAdd.f at h
 have H := h
 clear h
 obtain ⟨t106, A3, H⟩ := oB H
 obtain ⟨t107, A4, H⟩ := oB H
 obtain ⟨t108, A5, H⟩ := oB H
 obtain rfl := Option.some.inj H
 go_enter Tryz.func98, Tryz.ntmps98
 go_wp2_with (first | (refine gC (some 6) Tryz.func56 #[.int .i64 a0] ?_; (with_reducible refine (impl_FpOf.calls a0 t106 _ A3.out).mono ?_); rintro e w' ⟨rfl, ⟨nd, rfl⟩⟩; refine ⟨_, rfl, ?_⟩) | (refine gC (some 8) Tryz.func56 #[.int .i64 a1] ?_; (with_reducible refine (impl_FpOf.calls a1 t107 _ A4.out).mono ?_); rintro e w' ⟨rfl, ⟨nd, rfl⟩⟩; refine ⟨_, rfl, ?_⟩) | (refine gC (some 10) Tryz.func56 #[.int .i64 (wrap64 (t106 + t107))] ?_; (with_reducible refine (impl_FpOf.calls (wrap64 (t106 + t107)) t108 _ A5.out).mono ?_); rintro e w' ⟨rfl, ⟨nd, rfl⟩⟩; refine ⟨_, rfl, ?_⟩))
 go_ret
 exact ⟨rS, rD⟩
def impl_curveAt.f (a0 : Int) : Option (Int) := (impl_FpMul.f a0 a0).bind fun t109 => ((impl_FpMul.f t109 a0).bind fun t110 => ((impl_FpAdd.f t110 a0).bind fun t111 => (some t111)))
theorem impl_curveAt.calls (a0 : Int) (r : Int) (w : World) (h : impl_curveAt.f a0 = some r) :
  Calls Tryz.prog 58 #[.int .i64 a0] w fun e w' => e = .returned (.int .i64 r) ∧ Drawn0 w w' := by
 unfold impl_curveAt.f at h
 have H := h
 clear h
 obtain ⟨t109, A2, H⟩ := oB H
 obtain ⟨t110, A3, H⟩ := oB H
 obtain ⟨t111, A4, H⟩ := oB H
 obtain rfl := Option.some.inj H
 go_enter Tryz.func58, Tryz.ntmps58
 go_wp2_with (first | (refine gC (some 5) Tryz.func88 #[.int .i64 a0, .int .i64 a0] ?_; (with_reducible refine (impl_FpMul.calls a0 a0 t109 _ A2.out).mono ?_); rintro e w' ⟨rfl, ⟨nd, rfl⟩⟩; refine ⟨_, rfl, ?_⟩) | (refine gC (some 7) Tryz.func88 #[.int .i64 t109, .int .i64 a0] ?_; (with_reducible refine (impl_FpMul.calls t109 a0 t110 _ A3.out).mono ?_); rintro e w' ⟨rfl, ⟨nd, rfl⟩⟩; refine ⟨_, rfl, ?_⟩) | (refine gC (some 9) Tryz.func98 #[.int .i64 t110, .int .i64 a0] ?_; (with_reducible refine (impl_FpAdd.calls t110 a0 t111 _ A4.out).mono ?_); rintro e w' ⟨rfl, ⟨nd, rfl⟩⟩; refine ⟨_, rfl, ?_⟩))
 go_ret
 exact ⟨rS, rD⟩
def impl_FpOk.f (a0 : Int) : Option (Bool) := if a0 ≥ 0 then (some (decide (a0 < 12107))) else (some false)
theorem impl_FpOk.calls (a0 : Int) (r : Bool) (w : World) (h : impl_FpOk.f a0 = some r) :
  Calls Tryz.prog 87 #[.int .i64 a0] w fun e w' => e = .returned (.bool r) ∧ Drawn0 w w' := by
 unfold impl_FpOk.f at h
 have H := h
 clear h
 by_cases c2 : a0 ≥ 0
 ·rw [if_pos c2] at H
  have c2b0 := decide_eq_true c2
  clear c2
  obtain rfl := Option.some.inj H
  go_enter Tryz.func87, Tryz.ntmps87
  go_wp2
  go_ret
  exact ⟨rS, rD⟩
 ·rw [if_neg c2] at H
  have c2b0 := decide_eq_false c2
  clear c2
  obtain rfl := Option.some.inj H
  go_enter Tryz.func87, Tryz.ntmps87
  go_wp2
  go_ret
  exact ⟨rS, rD⟩
def impl_PointOk.f (a0_0 : Int) (a0_1 : Int) (a0_2 : Bool) : Option (Bool) := if a0_2 = true then (if a0_0 = 0 then (some (a0_1 == 0)) else (some false)) else ((impl_FpOk.f a0_0).bind fun t113 => (if t113 = true then ((impl_FpOk.f a0_1).bind fun t114 => (if t114 = true then ((impl_FpMul.f a0_1 a0_1).bind fun t115 => ((impl_curveAt.f a0_0).bind fun t116 => (some (t115 == t116)))) else (some false))) else (some false)))
theorem impl_PointOk.calls (a0_0 : Int) (a0_1 : Int) (a0_2 : Bool) (r : Bool) (w : World) (h : impl_PointOk.f a0_0 a0_1 a0_2 = some r) :
  Calls Tryz.prog 47 #[.agg #[.int .i64 a0_0, .int .i64 a0_1, .bool a0_2]] w fun e w' => e = .returned (.bool r) ∧ Below w.heap.size w w' := by
 have hu28 := Tryz.underlying28
 have HB := Aside0.mk (Below.refl w.heap.size w)
 unfold impl_PointOk.f at h
 have H := h
 clear h
 by_cases c2 : a0_2 = true
 ·subst c2
  rw [if_pos rfl] at H
  by_cases c3 : a0_0 = 0
  ·rw [if_pos c3] at H
   have c3b0 : (a0_0 == 0) = true := beq_iff_eq.mpr c3
   have c3b1 : (a0_0 != 0) = false := bne_eq_false_iff_eq.mpr c3
   clear c3
   obtain rfl := Option.some.inj H
   go_enter Tryz.func47, Tryz.ntmps47
   go_wp2_with (first | (refine gB 1 #[.int .i64 a0_0, .int .i64 a0_1, .bool true] 28 ?_; intro gb112 hg w4 BK112 hb; have GW112 := bG HB hg; replace HB := bS HB hb; clear hb hg; obtain ⟨hcz5_0, hcz5_1, hcz5_2, hfz5_0, hfz5_1, hfz5_2⟩ := bK3 (w := w4) BK112))
   repeat (go_quiet (first | (refine gB 1 #[.int .i64 a0_0, .int .i64 a0_1, .bool true] 28 ?_; intro gb112 hg w4 BK112 hb; have GW112 := bG HB hg; replace HB := bS HB hb; clear hb hg; obtain ⟨hcz5_0, hcz5_1, hcz5_2, hfz5_0, hfz5_1, hfz5_2⟩ := bK3 (w := w4) BK112)); try go_wp2)
   go_ret
   exact ⟨rR, bZ HB⟩
  ·rw [if_neg c3] at H
   have c3b0 : (a0_0 == 0) = false := beq_eq_false_iff_ne.mpr c3
   have c3b1 : (a0_0 != 0) = true := bne_iff_ne.mpr c3
   obtain rfl := Option.some.inj H
   go_enter Tryz.func47, Tryz.ntmps47
   go_wp2_with (first | (refine gB 1 #[.int .i64 a0_0, .int .i64 a0_1, .bool true] 28 ?_; intro gb112 hg w6 BK112 hb; have GW112 := bG HB hg; replace HB := bS HB hb; clear hb hg; obtain ⟨hcz7_0, hcz7_1, hcz7_2, hfz7_0, hfz7_1, hfz7_2⟩ := bK3 (w := w6) BK112))
   repeat (go_quiet (first | (refine gB 1 #[.int .i64 a0_0, .int .i64 a0_1, .bool true] 28 ?_; intro gb112 hg w6 BK112 hb; have GW112 := bG HB hg; replace HB := bS HB hb; clear hb hg; obtain ⟨hcz7_0, hcz7_1, hcz7_2, hfz7_0, hfz7_1, hfz7_2⟩ := bK3 (w := w6) BK112)); try go_wp2)
   go_ret
   exact ⟨rR, bZ HB⟩
 ·replace c2 := Bool.eq_false_iff.mpr c2
  subst c2
  rw [if_neg (show ¬ (false = true) by decide)] at H
  obtain ⟨t113, A8, H⟩ := oB H
  by_cases c9 : t113 = true
  ·subst c9
   rw [if_pos rfl] at H
   obtain ⟨t114, A10, H⟩ := oB H
   by_cases c11 : t114 = true
   ·subst c11
    rw [if_pos rfl] at H
    obtain ⟨t115, A12, H⟩ := oB H
    obtain ⟨t116, A13, H⟩ := oB H
    obtain rfl := Option.some.inj H
    go_enter Tryz.func47, Tryz.ntmps47
    go_wp2_with (first | (refine gB 1 #[.int .i64 a0_0, .int .i64 a0_1, .bool false] 28 ?_; intro gb112 hg w14 BK112 hb; have GW112 := bG HB hg; replace HB := bS HB hb; clear hb hg; obtain ⟨hcz15_0, hcz15_1, hcz15_2, hfz15_0, hfz15_1, hfz15_2⟩ := bK3 (w := w14) BK112) | (go_at_call 87; (with_reducible refine (impl_FpOk.calls a0_0 true _ A8.out).mono ?_); rintro e w' ⟨rfl, ⟨nd, rfl⟩⟩; (try exact tD)) | (go_at_call 87; (with_reducible refine (impl_FpOk.calls a0_1 true _ A10.out).mono ?_); rintro e w' ⟨rfl, ⟨nd, rfl⟩⟩; (try exact tD)) | (go_at_call 88; (with_reducible refine (impl_FpMul.calls a0_1 a0_1 t115 _ A12.out).mono ?_); rintro e w' ⟨rfl, ⟨nd, rfl⟩⟩; (try exact tD)) | (go_at_call 58; (with_reducible refine (impl_curveAt.calls a0_0 t116 _ A13.out).mono ?_); rintro e w' ⟨rfl, ⟨nd, rfl⟩⟩; (try exact tD)))
    repeat (go_quiet (first | (refine gB 1 #[.int .i64 a0_0, .int .i64 a0_1, .bool false] 28 ?_; intro gb112 hg w14 BK112 hb; have GW112 := bG HB hg; replace HB := bS HB hb; clear hb hg; obtain ⟨hcz15_0, hcz15_1, hcz15_2, hfz15_0, hfz15_1, hfz15_2⟩ := bK3 (w := w14) BK112) | (go_at_call 87; (with_reducible refine (impl_FpOk.calls a0_0 true _ A8.out).mono ?_); rintro e w' ⟨rfl, ⟨nd, rfl⟩⟩; (try exact tD)) | (go_at_call 87; (with_reducible refine (impl_FpOk.calls a0_1 true _ A10.out).mono ?_); rintro e w' ⟨rfl, ⟨nd, rfl⟩⟩; (try exact tD)) | (go_at_call 88; (with_reducible refine (impl_FpMul.calls a0_1 a0_1 t115 _ A12.out).mono ?_); rintro e w' ⟨rfl, ⟨nd, rfl⟩⟩; (try exact tD)) | (go_at_call 58; (with_reducible refine (impl_curveAt.calls a0_0 t116 _ A13.out).mono ?_); rintro e w' ⟨rfl, ⟨nd, rfl⟩⟩; (try exact tD))); try go_wp2)
    go_ret
    exact ⟨rR, bZ HB⟩
   ·replace c11 := Bool.eq_false_iff.mpr c11
    subst c11
    rw [if_neg (show ¬ (false = true) by decide)] at H
    obtain rfl := Option.some.inj H
    go_enter Tryz.func47, Tryz.ntmps47
    go_wp2_with (first | (refine gB 1 #[.int .i64 a0_0, .int .i64 a0_1, .bool false] 28 ?_; intro gb112 hg w16 BK112 hb; have GW112 := bG HB hg; replace HB := bS HB hb; clear hb hg; obtain ⟨hcz17_0, hcz17_1, hcz17_2, hfz17_0, hfz17_1, hfz17_2⟩ := bK3 (w := w16) BK112) | (go_at_call 87; (with_reducible refine (impl_FpOk.calls a0_0 true _ A8.out).mono ?_); rintro e w' ⟨rfl, ⟨nd, rfl⟩⟩; (try exact tD)) | (go_at_call 87; (with_reducible refine (impl_FpOk.calls a0_1 false _ A10.out).mono ?_); rintro e w' ⟨rfl, ⟨nd, rfl⟩⟩; (try exact tD)))
    repeat (go_quiet (first | (refine gB 1 #[.int .i64 a0_0, .int .i64 a0_1, .bool false] 28 ?_; intro gb112 hg w16 BK112 hb; have GW112 := bG HB hg; replace HB := bS HB hb; clear hb hg; obtain ⟨hcz17_0, hcz17_1, hcz17_2, hfz17_0, hfz17_1, hfz17_2⟩ := bK3 (w := w16) BK112) | (go_at_call 87; (with_reducible refine (impl_FpOk.calls a0_0 true _ A8.out).mono ?_); rintro e w' ⟨rfl, ⟨nd, rfl⟩⟩; (try exact tD)) | (go_at_call 87; (with_reducible refine (impl_FpOk.calls a0_1 false _ A10.out).mono ?_); rintro e w' ⟨rfl, ⟨nd, rfl⟩⟩; (try exact tD))); try go_wp2)
    go_ret
    exact ⟨rR, bZ HB⟩
  ·replace c9 := Bool.eq_false_iff.mpr c9
   subst c9
   rw [if_neg (show ¬ (false = true) by decide)] at H
   obtain rfl := Option.some.inj H
   go_enter Tryz.func47, Tryz.ntmps47
   go_wp2_with (first | (refine gB 1 #[.int .i64 a0_0, .int .i64 a0_1, .bool false] 28 ?_; intro gb112 hg w18 BK112 hb; have GW112 := bG HB hg; replace HB := bS HB hb; clear hb hg; obtain ⟨hcz19_0, hcz19_1, hcz19_2, hfz19_0, hfz19_1, hfz19_2⟩ := bK3 (w := w18) BK112) | (go_at_call 87; (with_reducible refine (impl_FpOk.calls a0_0 false _ A8.out).mono ?_); rintro e w' ⟨rfl, ⟨nd, rfl⟩⟩; (try exact tD)))
   repeat (go_quiet (first | (refine gB 1 #[.int .i64 a0_0, .int .i64 a0_1, .bool false] 28 ?_; intro gb112 hg w18 BK112 hb; have GW112 := bG HB hg; replace HB := bS HB hb; clear hb hg; obtain ⟨hcz19_0, hcz19_1, hcz19_2, hfz19_0, hfz19_1, hfz19_2⟩ := bK3 (w := w18) BK112) | (go_at_call 87; (with_reducible refine (impl_FpOk.calls a0_0 false _ A8.out).mono ?_); rintro e w' ⟨rfl, ⟨nd, rfl⟩⟩; (try exact tD))); try go_wp2)
   go_ret
   exact ⟨rR, bZ HB⟩
def impl_FpSub.f (a0 : Int) (a1 : Int) : Option (Int) := (impl_FpOf.f a0).bind fun t117 => ((impl_FpOf.f a1).bind fun t118 => ((impl_FpOf.f (wrap64 (t117 - t118))).bind fun t119 => (some t119)))
theorem impl_FpSub.calls (a0 : Int) (a1 : Int) (r : Int) (w : World) (h : impl_FpSub.f a0 a1 = some r) :
  Calls Tryz.prog 90 #[.int .i64 a0, .int .i64 a1] w fun e w' => e = .returned (.int .i64 r) ∧ Drawn0 w w' := by
 unfold impl_FpSub.f at h
 have H := h
 clear h
 obtain ⟨t117, A3, H⟩ := oB H
 obtain ⟨t118, A4, H⟩ := oB H
 obtain ⟨t119, A5, H⟩ := oB H
 obtain rfl := Option.some.inj H
 go_enter Tryz.func90, Tryz.ntmps90
 go_wp2_with (first | (refine gC (some 6) Tryz.func56 #[.int .i64 a0] ?_; (with_reducible refine (impl_FpOf.calls a0 t117 _ A3.out).mono ?_); rintro e w' ⟨rfl, ⟨nd, rfl⟩⟩; refine ⟨_, rfl, ?_⟩) | (refine gC (some 8) Tryz.func56 #[.int .i64 a1] ?_; (with_reducible refine (impl_FpOf.calls a1 t118 _ A4.out).mono ?_); rintro e w' ⟨rfl, ⟨nd, rfl⟩⟩; refine ⟨_, rfl, ?_⟩) | (refine gC (some 10) Tryz.func56 #[.int .i64 (wrap64 (t117 - t118))] ?_; (with_reducible refine (impl_FpOf.calls (wrap64 (t117 - t118)) t119 _ A5.out).mono ?_); rintro e w' ⟨rfl, ⟨nd, rfl⟩⟩; refine ⟨_, rfl, ?_⟩))
 go_ret
 exact ⟨rS, rD⟩
def impl_powerMod.l0 : Nat → Int → Int → Int → Int → Option (Int)
 | 0, _, _, _, _ => none
 | k + 1, x0, x1, x2, x7 => if x1 > 0 then (if (Int.tmod x1 2) = 1 then (if x2 = 0 then (none) else (impl_powerMod.l0 k (Int.tmod (wrap64 (x0 * x0)) x2) (wrap64 (Int.tdiv x1 2)) x2 (Int.tmod (wrap64 (x7 * x0)) x2))) else (if x2 = 0 then (none) else (impl_powerMod.l0 k (Int.tmod (wrap64 (x0 * x0)) x2) (wrap64 (Int.tdiv x1 2)) x2 x7))) else (some x7)
def impl_powerMod.f (k : Nat) (a0 : Int) (a1 : Int) (a2 : Int) : Option (Int) := (impl_remainder.f a0 a2).bind fun t120 => (impl_powerMod.l0 k t120 a1 a2 1)
theorem impl_powerMod.calls (k : Nat) (a0 : Int) (a1 : Int) (a2 : Int) (r : Int) (w : World) (h : impl_powerMod.f k a0 a1 a2 = some r) :
  Calls Tryz.prog 97 #[.int .i64 a0, .int .i64 a1, .int .i64 a2] w fun e w' => e = .returned (.int .i64 r) ∧ Drawn0 w w' := by
 unfold impl_powerMod.f at h
 have H := h
 clear h
 obtain ⟨t120, A4, H⟩ := oB H
 have H' := Aside0.mk H
 clear H
 go_enter Tryz.func97, Tryz.ntmps97
 go_wp2_with (first | (refine gC (some 10) Tryz.func86 #[.int .i64 a0, .int .i64 a2] ?_; (with_reducible refine (impl_remainder.calls a0 a2 t120 _ A4.out).mono ?_); rintro e w' ⟨rfl, ⟨nd, rfl⟩⟩; refine ⟨_, rfl, ?_⟩))
 go_loopg [0, 1, 7] k (fun kq v0 v1 v7 w' => ∃ (x0_1 : Int) (x1_1 : Int) (x7_1 : Int), v0 = .int .i64 x0_1 ∧ v1 = .int .i64 x1_1 ∧ v7 = .int .i64 x7_1 ∧ Aside0 (impl_powerMod.l0 kq x0_1 x1_1 a2 x7_1 = some r) ∧ Aside0 (kq ≤ k) ∧ Drawn0 w w')
 case atStart => exact ⟨(t120), (a1), (1), rS, rS, rS, H', ⟨Nat.le_refl _⟩, by repeat (first | exact Drawn0.refl _ | apply Drawn0.step)⟩
 case round =>
  clear H'
  try clear p2
  obtain ⟨x0_1, x1_1, x7_1, rfl, rfl, rfl, HA, HK1, ⟨m1, rfl⟩⟩ := hrel
  cases gk with
  | zero => exact absurd HA.out (by simp [impl_powerMod.l0])
  | succ k1 =>
   have H := HA.out
   clear HA
   simp only [impl_powerMod.l0] at H
   by_cases c5 : x1_1 > 0
   ·rw [if_pos c5] at H
    have c5b0 := decide_eq_true c5
    clear c5
    by_cases c6 : (Int.tmod x1_1 2) = 1
    ·rw [if_pos c6] at H
     have c6b0 : ((Int.tmod x1_1 2) == 1) = true := beq_iff_eq.mpr c6
     have c6b1 : ((Int.tmod x1_1 2) != 1) = false := bne_eq_false_iff_eq.mpr c6
     clear c6
     by_cases c7 : a2 = 0
     ·rw [if_pos c7] at H
      exact absurd H (by simp)
     ·rw [if_neg c7] at H
      have c7b0 : (a2 == 0) = false := beq_eq_false_iff_ne.mpr c7
      have c7b1 : (a2 != 0) = true := bne_iff_ne.mpr c7
      have H' := Aside0.mk H
      clear H
      go_wp2
      go_roundg k1
      case measure => have := HK1.out; omega
      case rel => exact ⟨(Int.tmod (wrap64 (x0_1 * x0_1)) a2), (wrap64 (Int.tdiv x1_1 2)), (Int.tmod (wrap64 (x7_1 * x0_1)) a2), rS, rS, rS, H', ⟨by have := HK1.out; omega⟩, by repeat (first | exact Drawn0.refl _ | apply Drawn0.step)⟩
    ·rw [if_neg c6] at H
     have c6b0 : ((Int.tmod x1_1 2) == 1) = false := beq_eq_false_iff_ne.mpr c6
     have c6b1 : ((Int.tmod x1_1 2) != 1) = true := bne_iff_ne.mpr c6
     by_cases c8 : a2 = 0
     ·rw [if_pos c8] at H
      exact absurd H (by simp)
     ·rw [if_neg c8] at H
      have c8b0 : (a2 == 0) = false := beq_eq_false_iff_ne.mpr c8
      have c8b1 : (a2 != 0) = true := bne_iff_ne.mpr c8
      have H' := Aside0.mk H
      clear H
      go_wp2
      go_roundg k1
      case measure => have := HK1.out; omega
      case rel => exact ⟨(Int.tmod (wrap64 (x0_1 * x0_1)) a2), (wrap64 (Int.tdiv x1_1 2)), (x7_1), rS, rS, rS, H', ⟨by have := HK1.out; omega⟩, by repeat (first | exact Drawn0.refl _ | apply Drawn0.step)⟩
   ·rw [if_neg c5] at H
    have c5b0 := decide_eq_false c5
    clear c5
    obtain rfl := Option.some.inj H
    go_wp2
    go_ret
    exact ⟨rS, rD⟩
def impl_FpInv.f (k : Nat) (a0 : Int) : Option (Int) := (impl_powerMod.f k a0 12105 12107).bind fun t121 => (some t121)
theorem impl_FpInv.calls (k : Nat) (a0 : Int) (r : Int) (w : World) (h : impl_FpInv.f k a0 = some r) :
  Calls Tryz.prog 131 #[.int .i64 a0] w fun e w' => e = .returned (.int .i64 r) ∧ Drawn0 w w' := by
 unfold impl_FpInv.f at h
 have H := h
 clear h
 obtain ⟨t121, A2, H⟩ := oB H
 obtain rfl := Option.some.inj H
 go_enter Tryz.func131, Tryz.ntmps131
 go_wp2_with (first | (refine gC (some 4) Tryz.func97 #[.int .i64 a0, .int .i64 12105, .int .i64 12107] ?_; (with_reducible refine (impl_powerMod.calls k a0 12105 12107 t121 _ A2.out).mono ?_); rintro e w' ⟨rfl, ⟨nd, rfl⟩⟩; refine ⟨_, rfl, ?_⟩))
 go_ret
 exact ⟨rS, rD⟩
def impl_slopeOf.j0 : Nat → Bool → Int → Int → Bool → Option (Int × Bool)
 | 0, _, _, _, _ => none
 | k + 1, x32, x123000, x123001, x123002 => if x32 = true then (some (0, false)) else ((impl_FpMul.f x123000 x123000).bind fun t128 => ((impl_FpMul.f 3 t128).bind fun t129 => ((impl_FpAdd.f t129 1).bind fun t130 => ((impl_FpMul.f 2 x123001).bind fun t131 => ((impl_FpInv.f k t131).bind fun t132 => ((impl_FpMul.f t130 t132).bind fun t133 => (some (t133, true))))))))
def impl_slopeOf.f (k : Nat) (a0_0 : Int) (a0_1 : Int) (a0_2 : Bool) (a1_0 : Int) (a1_1 : Int) (a1_2 : Bool) : Option (Int × Bool) := if a0_0 = a1_0 then (if a0_1 = a1_1 then (impl_slopeOf.j0 k (a0_1 == 0) a0_0 a0_1 a0_2) else (impl_slopeOf.j0 k true a0_0 a0_1 a0_2)) else ((impl_FpSub.f a1_1 a0_1).bind fun t124 => ((impl_FpSub.f a1_0 a0_0).bind fun t125 => ((impl_FpInv.f k t125).bind fun t126 => ((impl_FpMul.f t124 t126).bind fun t127 => (some (t127, true))))))
theorem impl_slopeOf.calls (k : Nat) (a0_0 : Int) (a0_1 : Int) (a0_2 : Bool) (a1_0 : Int) (a1_1 : Int) (a1_2 : Bool) (r1 : Int) (r2 : Bool) (w : World) (h : impl_slopeOf.f k a0_0 a0_1 a0_2 a1_0 a1_1 a1_2 = some (r1, r2)) :
  Calls Tryz.prog 89 #[.agg #[.int .i64 a0_0, .int .i64 a0_1, .bool a0_2], .agg #[.int .i64 a1_0, .int .i64 a1_1, .bool a1_2]] w fun e w' => e = .returned (.tuple #[.int .i64 r1, .bool r2]) ∧ Below w.heap.size w w' := by
 have hu28 := Tryz.underlying28
 have HB := Aside0.mk (Below.refl w.heap.size w)
 unfold impl_slopeOf.f at h
 have H := h
 clear h
 by_cases c3 : a0_0 = a1_0
 ·rw [if_pos c3] at H
  have c3b0 : (a0_0 == a1_0) = true := beq_iff_eq.mpr c3
  have c3b1 : (a0_0 != a1_0) = false := bne_eq_false_iff_eq.mpr c3
  clear c3
  have HC4 := Aside0.mk H
  clear H
  go_enter Tryz.func89, Tryz.ntmps89
  go_upto_region 3 with (first | (refine gB 2 #[.int .i64 a0_0, .int .i64 a0_1, .bool a0_2] 28 ?_; intro gb122 hg w5 BK122 hb; have GW122 := bG HB hg; replace HB := bS HB hb; clear hb hg) | (refine gB 3 #[.int .i64 a1_0, .int .i64 a1_1, .bool a1_2] 28 ?_; intro gb123 hg w6 BK123 hb; have GW123 := bG HB hg; replace HB := bS HB hb; obtain ⟨NB122_123, NB123_122⟩ := bN BK122 hg; replace BK122 := bB BK122 hb; clear hb hg; obtain ⟨hnb7, hnc7⟩ := nB NB122_123; obtain ⟨hcz8_0, hcz8_1, hcz8_2, hfz8_0, hfz8_1, hfz8_2⟩ := bK3 (w := w6) BK122; obtain ⟨hcz9_0, hcz9_1, hcz9_2, hfz9_0, hfz9_1, hfz9_2⟩ := bK3 (w := w6) BK123))
  repeat (go_quiet (first | (refine gB 2 #[.int .i64 a0_0, .int .i64 a0_1, .bool a0_2] 28 ?_; intro gb122 hg w5 BK122 hb; have GW122 := bG HB hg; replace HB := bS HB hb; clear hb hg) | (refine gB 3 #[.int .i64 a1_0, .int .i64 a1_1, .bool a1_2] 28 ?_; intro gb123 hg w6 BK123 hb; have GW123 := bG HB hg; replace HB := bS HB hb; obtain ⟨NB122_123, NB123_122⟩ := bN BK122 hg; replace BK122 := bB BK122 hb; clear hb hg; obtain ⟨hnb7, hnc7⟩ := nB NB122_123; obtain ⟨hcz8_0, hcz8_1, hcz8_2, hfz8_0, hfz8_1, hfz8_2⟩ := bK3 (w := w6) BK122; obtain ⟨hcz9_0, hcz9_1, hcz9_2, hfz9_0, hfz9_1, hfz9_2⟩ := bK3 (w := w6) BK123)); go_upto_region 3 with (first | (refine gB 2 #[.int .i64 a0_0, .int .i64 a0_1, .bool a0_2] 28 ?_; intro gb122 hg w5 BK122 hb; have GW122 := bG HB hg; replace HB := bS HB hb; clear hb hg) | (refine gB 3 #[.int .i64 a1_0, .int .i64 a1_1, .bool a1_2] 28 ?_; intro gb123 hg w6 BK123 hb; have GW123 := bG HB hg; replace HB := bS HB hb; obtain ⟨NB122_123, NB123_122⟩ := bN BK122 hg; replace BK122 := bB BK122 hb; clear hb hg; obtain ⟨hnb7, hnc7⟩ := nB NB122_123; obtain ⟨hcz8_0, hcz8_1, hcz8_2, hfz8_0, hfz8_1, hfz8_2⟩ := bK3 (w := w6) BK122; obtain ⟨hcz9_0, hcz9_1, hcz9_2, hfz9_0, hfz9_1, hfz9_2⟩ := bK3 (w := w6) BK123)))
  (try simp only [Act.put, List.setIfInBounds_toArray, List.set_cons_zero, List.set_cons_succ])
  go_cut [32] (fun v32 wc => ∃ (kq : Nat) (x32_3 : Bool), v32 = .bool x32_3 ∧ Aside0 (impl_slopeOf.j0 kq x32_3 a0_0 a0_1 a0_2 = some (r1, r2)) ∧ Aside0 (kq ≤ k) ∧ Aside0 (wc.heap[gb122]? = some (.cells #[.int .i64 a0_0, .int .i64 a0_1, .bool a0_2] 28 (0, 0))) ∧ Aside0 (wc.heap[gb123]? = some (.cells #[.int .i64 a1_0, .int .i64 a1_1, .bool a1_2] 28 (0, 0))) ∧ Aside0 (Below w.heap.size w wc))
  case first =>
   have H := HC4.out
   clear HC4
   by_cases c10 : a0_1 = a1_1
   ·rw [if_pos c10] at H
    have c10b0 : (a0_1 == a1_1) = true := beq_iff_eq.mpr c10
    have c10b1 : (a0_1 != a1_1) = false := bne_eq_false_iff_eq.mpr c10
    clear c10
    (first | rw [c10b0] | (simp only [i64_w, i32_w]; rw [c10b0]) | rw [c10b1] | skip)
    have H' := Aside0.mk H
    clear H
    obtain ⟨hnb11, hnc11⟩ := nB NB122_123
    obtain ⟨hcz12_0, hcz12_1, hcz12_2, hfz12_0, hfz12_1, hfz12_2⟩ := bK3 (w := w6) BK122
    obtain ⟨hcz13_0, hcz13_1, hcz13_2, hfz13_0, hfz13_1, hfz13_2⟩ := bK3 (w := w6) BK123
    go_wp2
    repeat (go_quiet (fail); try go_wp2)
    go_meet
    case rel => exact ⟨_, ((a0_1 == 0)), rS, H', ⟨by first | omega | exact Nat.le_refl _⟩, ⟨bP BK122⟩, ⟨bP BK123⟩, ⟨bZ HB⟩⟩
   ·rw [if_neg c10] at H
    have c10b0 : (a0_1 == a1_1) = false := beq_eq_false_iff_ne.mpr c10
    have c10b1 : (a0_1 != a1_1) = true := bne_iff_ne.mpr c10
    (first | rw [c10b0] | (simp only [i64_w, i32_w]; rw [c10b0]) | rw [c10b1] | skip)
    have H' := Aside0.mk H
    clear H
    obtain ⟨hnb14, hnc14⟩ := nB NB122_123
    obtain ⟨hcz15_0, hcz15_1, hcz15_2, hfz15_0, hfz15_1, hfz15_2⟩ := bK3 (w := w6) BK122
    obtain ⟨hcz16_0, hcz16_1, hcz16_2, hfz16_0, hfz16_1, hfz16_2⟩ := bK3 (w := w6) BK123
    go_wp2
    repeat (go_quiet (fail); try go_wp2)
    go_meet
    case rel => exact ⟨_, (true), rS, H', ⟨by first | omega | exact Nat.le_refl _⟩, ⟨bP BK122⟩, ⟨bP BK123⟩, ⟨bZ HB⟩⟩
  case rest =>
   clear HC4
   try clear c1
   try clear p2
   try clear c3
   try clear c3b0
   try clear c3b1
   try clear c7
   try clear c8
   try clear c10
   try clear c10b0
   try clear c10b1
   try clear c11
   try clear c14
   try clear hcz12_0
   try clear hcz12_1
   try clear hcz12_2
   try clear hcz13_0
   try clear hcz13_1
   try clear hcz13_2
   try clear hcz15_0
   try clear hcz15_1
   try clear hcz15_2
   try clear hcz16_0
   try clear hcz16_1
   try clear hcz16_2
   try clear hcz8_0
   try clear hcz8_1
   try clear hcz8_2
   try clear hcz9_0
   try clear hcz9_1
   try clear hcz9_2
   try clear hfz12_0
   try clear hfz12_1
   try clear hfz12_2
   try clear hfz13_0
   try clear hfz13_1
   try clear hfz13_2
   try clear hfz15_0
   try clear hfz15_1
   try clear hfz15_2
   try clear hfz16_0
   try clear hfz16_1
   try clear hfz16_2
   try clear hfz8_0
   try clear hfz8_1
   try clear hfz8_2
   try clear hfz9_0
   try clear hfz9_1
   try clear hfz9_2
   obtain ⟨kq, x32_3, rfl, HA, HJ3, BK122, BK123, HB⟩ := hcut
   cases kq with
   | zero => exact absurd HA.out (by simp [impl_slopeOf.j0])
   | succ kj3 =>
    have H := HA.out
    clear HA
    simp only [impl_slopeOf.j0] at H
    by_cases c17 : x32_3 = true
    ·subst c17
     rw [if_pos rfl] at H
     simp only [Option.some.injEq, Prod.mk.injEq] at H
     obtain ⟨rfl, rfl⟩ := H
     go_wp2
     repeat (go_quiet (fail); try go_wp2)
     go_ret2
     exact ⟨rR, bZ HB⟩
    ·replace c17 := Bool.eq_false_iff.mpr c17
     subst c17
     rw [if_neg (show ¬ (false = true) by decide)] at H
     obtain ⟨t128, A18, H⟩ := oB H
     obtain ⟨t129, A19, H⟩ := oB H
     obtain ⟨t130, A20, H⟩ := oB H
     obtain ⟨t131, A21, H⟩ := oB H
     obtain ⟨t132, A22, H⟩ := oB H
     obtain ⟨t133, A23, H⟩ := oB H
     simp only [Option.some.injEq, Prod.mk.injEq] at H
     obtain ⟨rfl, rfl⟩ := H
     obtain ⟨hnb24, hnc24⟩ := nB NB122_123
     obtain ⟨hcz25_0, hcz25_1, hcz25_2, hfz25_0, hfz25_1, hfz25_2⟩ := bK3 (w := wc) BK122
     go_wp2_with (first | (go_at_call 88; (with_reducible refine (impl_FpMul.calls a0_0 a0_0 t128 _ A18.out).mono ?_); rintro e w' ⟨rfl, ⟨nd, rfl⟩⟩; (try exact tD)) | (go_at_call 88; (with_reducible refine (impl_FpMul.calls 3 t128 t129 _ A19.out).mono ?_); rintro e w' ⟨rfl, ⟨nd, rfl⟩⟩; (try exact tD)) | (go_at_call 98; (with_reducible refine (impl_FpAdd.calls t129 1 t130 _ A20.out).mono ?_); rintro e w' ⟨rfl, ⟨nd, rfl⟩⟩; (try exact tD)) | (go_at_call 88; (with_reducible refine (impl_FpMul.calls 2 a0_1 t131 _ A21.out).mono ?_); rintro e w' ⟨rfl, ⟨nd, rfl⟩⟩; (try exact tD)) | (go_at_call 131; (with_reducible refine (impl_FpInv.calls kj3 t131 t132 _ A22.out).mono ?_); rintro e w' ⟨rfl, ⟨nd, rfl⟩⟩; (try exact tD)) | (go_at_call 88; (with_reducible refine (impl_FpMul.calls t130 t132 t133 _ A23.out).mono ?_); rintro e w' ⟨rfl, ⟨nd, rfl⟩⟩; (try exact tD)))
     repeat (go_quiet (first | (go_at_call 88; (with_reducible refine (impl_FpMul.calls a0_0 a0_0 t128 _ A18.out).mono ?_); rintro e w' ⟨rfl, ⟨nd, rfl⟩⟩; (try exact tD)) | (go_at_call 88; (with_reducible refine (impl_FpMul.calls 3 t128 t129 _ A19.out).mono ?_); rintro e w' ⟨rfl, ⟨nd, rfl⟩⟩; (try exact tD)) | (go_at_call 98; (with_reducible refine (impl_FpAdd.calls t129 1 t130 _ A20.out).mono ?_); rintro e w' ⟨rfl, ⟨nd, rfl⟩⟩; (try exact tD)) | (go_at_call 88; (with_reducible refine (impl_FpMul.calls 2 a0_1 t131 _ A21.out).mono ?_); rintro e w' ⟨rfl, ⟨nd, rfl⟩⟩; (try exact tD)) | (go_at_call 131; (with_reducible refine (impl_FpInv.calls kj3 t131 t132 _ A22.out).mono ?_); rintro e w' ⟨rfl, ⟨nd, rfl⟩⟩; (try exact tD)) | (go_at_call 88; (with_reducible refine (impl_FpMul.calls t130 t132 t133 _ A23.out).mono ?_); rintro e w' ⟨rfl, ⟨nd, rfl⟩⟩; (try exact tD))); try go_wp2)
     go_ret2
     exact ⟨rR, bZ HB⟩
 ·rw [if_neg c3] at H
  have c3b0 : (a0_0 == a1_0) = false := beq_eq_false_iff_ne.mpr c3
  have c3b1 : (a0_0 != a1_0) = true := bne_iff_ne.mpr c3
  obtain ⟨t124, A26, H⟩ := oB H
  obtain ⟨t125, A27, H⟩ := oB H
  obtain ⟨t126, A28, H⟩ := oB H
  obtain ⟨t127, A29, H⟩ := oB H
  simp only [Option.some.injEq, Prod.mk.injEq] at H
  obtain ⟨rfl, rfl⟩ := H
  go_enter Tryz.func89, Tryz.ntmps89
  go_wp2_with (first | (refine gB 2 #[.int .i64 a0_0, .int .i64 a0_1, .bool a0_2] 28 ?_; intro gb122 hg w30 BK122 hb; have GW122 := bG HB hg; replace HB := bS HB hb; clear hb hg) | (refine gB 3 #[.int .i64 a1_0, .int .i64 a1_1, .bool a1_2] 28 ?_; intro gb123 hg w31 BK123 hb; have GW123 := bG HB hg; replace HB := bS HB hb; obtain ⟨NB122_123, NB123_122⟩ := bN BK122 hg; replace BK122 := bB BK122 hb; clear hb hg; obtain ⟨hnb32, hnc32⟩ := nB NB122_123; obtain ⟨hcz33_0, hcz33_1, hcz33_2, hfz33_0, hfz33_1, hfz33_2⟩ := bK3 (w := w31) BK122; obtain ⟨hcz34_0, hcz34_1, hcz34_2, hfz34_0, hfz34_1, hfz34_2⟩ := bK3 (w := w31) BK123) | (go_at_call 90; (with_reducible refine (impl_FpSub.calls a1_1 a0_1 t124 _ A26.out).mono ?_); rintro e w' ⟨rfl, ⟨nd, rfl⟩⟩; (try exact tD)) | (go_at_call 90; (with_reducible refine (impl_FpSub.calls a1_0 a0_0 t125 _ A27.out).mono ?_); rintro e w' ⟨rfl, ⟨nd, rfl⟩⟩; (try exact tD)) | (go_at_call 131; (with_reducible refine (impl_FpInv.calls k t125 t126 _ A28.out).mono ?_); rintro e w' ⟨rfl, ⟨nd, rfl⟩⟩; (try exact tD)) | (go_at_call 88; (with_reducible refine (impl_FpMul.calls t124 t126 t127 _ A29.out).mono ?_); rintro e w' ⟨rfl, ⟨nd, rfl⟩⟩; (try exact tD)))
  repeat (go_quiet (first | (refine gB 2 #[.int .i64 a0_0, .int .i64 a0_1, .bool a0_2] 28 ?_; intro gb122 hg w30 BK122 hb; have GW122 := bG HB hg; replace HB := bS HB hb; clear hb hg) | (refine gB 3 #[.int .i64 a1_0, .int .i64 a1_1, .bool a1_2] 28 ?_; intro gb123 hg w31 BK123 hb; have GW123 := bG HB hg; replace HB := bS HB hb; obtain ⟨NB122_123, NB123_122⟩ := bN BK122 hg; replace BK122 := bB BK122 hb; clear hb hg; obtain ⟨hnb32, hnc32⟩ := nB NB122_123; obtain ⟨hcz33_0, hcz33_1, hcz33_2, hfz33_0, hfz33_1, hfz33_2⟩ := bK3 (w := w31) BK122; obtain ⟨hcz34_0, hcz34_1, hcz34_2, hfz34_0, hfz34_1, hfz34_2⟩ := bK3 (w := w31) BK123) | (go_at_call 90; (with_reducible refine (impl_FpSub.calls a1_1 a0_1 t124 _ A26.out).mono ?_); rintro e w' ⟨rfl, ⟨nd, rfl⟩⟩; (try exact tD)) | (go_at_call 90; (with_reducible refine (impl_FpSub.calls a1_0 a0_0 t125 _ A27.out).mono ?_); rintro e w' ⟨rfl, ⟨nd, rfl⟩⟩; (try exact tD)) | (go_at_call 131; (with_reducible refine (impl_FpInv.calls k t125 t126 _ A28.out).mono ?_); rintro e w' ⟨rfl, ⟨nd, rfl⟩⟩; (try exact tD)) | (go_at_call 88; (with_reducible refine (impl_FpMul.calls t124 t126 t127 _ A29.out).mono ?_); rintro e w' ⟨rfl, ⟨nd, rfl⟩⟩; (try exact tD))); try go_wp2)
  go_ret2
  exact ⟨rR, bZ HB⟩
end Go.Proofs.YtkdmplfldfagnaaGreatDoor.Pf
end
