/- What is proved here: part 1 of 5 of the proof of the given statement FnOneLeaf: the contracts of the Go functions that it reaches, the plain facts on lists and numbers, and (in the last part) the statement itself. No conditions beyond the given ones. -/
import Derived.Test.YtmiiknkfhiecgaaDoorProg
import Derived.Below
import Derived.Deep.Draws
import Derived.Deep.AppendLies
import Derived.Maps.AppendAt
import Derived.OwnWalk
import Derived.Laws.BytesArg
import Derived.Laws.MakeOwn
import Derived.Laws.OwnMore
import Derived.Deep.OwnRows
import Derived.Tactics
import Derived.Lib.ConvBytes
import Derived.Laws.Slices
import Derived.WalkKit
import Derived.KernelRfl
import Derived.RowKit3
import Derived.Deep.LoopGhost
import Derived.Deep.QuietTactic
import Derived.BigQuiet
import Derived.WideLaws
import Derived.Deep.DeepCutAuto
import Derived.Deep.CutBlock
import Derived.Deep.RegionHeld3
import Derived.Laws.Rows
import Derived.Lib.AppendStr
import Derived.ArgAppend
import Derived.Laws.IdiomCopy
import Derived.OrdersHeld
import Derived.Laws.BitsLemmas
import Derived.RowKit
import Derived.Test.YtmiiknkfhiecgaaDoorMFnOneLeafwWords
import Derived.Test.YtmiiknkfhiecgaaDoorMFnOneLeafwLast
import Derived.Test.YtmiiknkfhiecgaaDoorMFnOneLeafwTab
import Derived.Test.YtmiiknkfhiecgaaDoorMFnOneLeafwFour
import Derived.Test.YtmiiknkfhiecgaaDoorMFnOneLeafwQPut
import Derived.Test.YtmiiknkfhiecgaaDoorMFnOneLeafwApart
import Derived.Test.YtmiiknkfhiecgaaDoorMFnOneLeafwArr
import Derived.Test.YtmiiknkfhiecgaaDoorMFnOneLeafwZeros
import Derived.Test.YtmiiknkfhiecgaaDoorMFnOneLeafwFoot
import Derived.Test.YtmiiknkfhiecgaaDoorMFnOneLeafwKept
import Derived.Test.YtmiiknkfhiecgaaDoorMFnOneLeafwShare
import Derived.Test.YtmiiknkfhiecgaaDoorMFnOneLeafwN
import Derived.Test.YtmiiknkfhiecgaaDoorMFnOneLeafwFootNe
import Derived.Test.YtmiiknkfhiecgaaDoorMFnOneLeafwAt
import Derived.Test.YtmiiknkfhiecgaaDoorMFnOneLeafwEqStruct
import Derived.Test.YtmiiknkfhiecgaaDoorMFnOneLeafwRepsOne
import Derived.Test.YtmiiknkfhiecgaaDoorMFnOneLeafwInv
import Derived.Test.YtmiiknkfhiecgaaDoorMFnOneLeafwInvWords
import Derived.Test.YtmiiknkfhiecgaaDoorMFnOneLeafwGuard
import Derived.Test.YtmiiknkfhiecgaaDoorMFnOneLeafwNEv
import Derived.Test.YtmiiknkfhiecgaaDoorMFnOneLeafwMore
import Derived.Test.YtmiiknkfhiecgaaDoorMFnOneLeafwSlim
import Derived.Shelf.Strings.Repeat
import Derived.Laws.CopyOwn

section
namespace Go.Proofs.YtmiiknkfhiecgaaDoor.Pf
open Go.RowKit Go.Proofs.YtmiiknkfhiecgaaDoorW.PrintWords Go.Proofs.YtmiiknkfhiecgaaDoorW.PrintLast Go.Proofs.YtmiiknkfhiecgaaDoorW.PrintMore
attribute [local go_sem] max2_int min2_int max_two min_two max_three min_three max_four min_four   -- for this text's walks alone
set_option linter.unusedVariables false
set_option linter.unusedSimpArgs false
def errW : Option Int → Value
  | none => .nilIface
  | some c => .iface 0 (.int .i64 c)
theorem errW_none : errW none = .nilIface := rfl
theorem errW_some (c : Int) : errW (some c) = .iface 0 (.int .i64 c) := rfl

theorem info3 : (Tryd.prog.info? 3).map (fun i => (i.zero, i.size, i.bytes)) = some (some (.int .i64 0), 1, 8) := by kernel_rfl
theorem info5 : (Tryd.prog.info? 5).map (fun i => (i.zero, i.size, i.bytes)) = some (some (.int .u8 0), 1, 1) := by kernel_rfl
theorem info9 : (Tryd.prog.info? 9).map (fun i => (i.zero, i.size, i.bytes)) = some (some (.string ⟨#[]⟩), 1, 16) := by kernel_rfl
theorem info22 : (Tryd.prog.info? 22).map (fun i => (i.zero, i.size, i.bytes)) = some (some (.slice none 0 0), 1, 24) := by kernel_rfl
-- the values' own types
def rd_L2 (xs : List (List ByteArray)) (i : Int) : (List ByteArray) := xs.getD i.toNat ([] : List ByteArray)
theorem at_L2 {w : World} {A : Option Addr} {n : Nat} {xs : List (List ByteArray)} (h : Kd.C (Kd.slice 9 Kd.string) w A n xs) (i : Int) (h0 : 0 ≤ i) (h1 : i < n) : ∃ ad A0 c0, A = some ad ∧ w.cell? (ad.add i.toNat) = some (.slice A0 (rd_L2 xs i).length c0) ∧ (rd_L2 xs i).length ≤ c0 ∧ Kd.string.C w A0 (rd_L2 xs i).length (rd_L2 xs i) := by
  obtain ⟨ad, c, e, _, hK, hc0⟩ := Kd.C_get h ([] : List ByteArray) i h0 h1
  have hc : ∀ j u, c[j]? = some u → w.cell? (ad.add (i.toNat * 1 + j)) = some u := hc0
  obtain ⟨A0, c0, rfl, l0, g0⟩ := hK
  exact ⟨ad, A0, c0, e, by have hq := hc 0 _ rfl; rwa [Nat.mul_one, Nat.add_zero] at hq, l0, g0⟩

def rd_L4 (xs : List (List Int)) (i : Int) : (List Int) := xs.getD i.toNat ([] : List Int)
theorem at_L4 {w : World} {A : Option Addr} {n : Nat} {xs : List (List Int)} (h : Kd.C (Kd.slice 5 (Kd.int .u8)) w A n xs) (i : Int) (h0 : 0 ≤ i) (h1 : i < n) : ∃ ad A0 c0, A = some ad ∧ w.cell? (ad.add i.toNat) = some (.slice A0 (rd_L4 xs i).length c0) ∧ (rd_L4 xs i).length ≤ c0 ∧ (Kd.int .u8).C w A0 (rd_L4 xs i).length (rd_L4 xs i) := by
  obtain ⟨ad, c, e, _, hK, hc0⟩ := Kd.C_get h ([] : List Int) i h0 h1
  have hc : ∀ j u, c[j]? = some u → w.cell? (ad.add (i.toNat * 1 + j)) = some u := hc0
  obtain ⟨A0, c0, rfl, l0, g0⟩ := hK
  exact ⟨ad, A0, c0, e, by have hq := hc 0 _ rfl; rwa [Nat.mul_one, Nat.add_zero] at hq, l0, g0⟩
end Go.Proofs.YtmiiknkfhiecgaaDoor.Pf
end
section
namespace Go.Proofs.YtmiiknkfhiecgaaDoor.Kp
open Go.RowKit Go.Proofs.YtmiiknkfhiecgaaDoorW.PrintWords Go.Proofs.YtmiiknkfhiecgaaDoorW.PrintLast Go.Proofs.YtmiiknkfhiecgaaDoorW.PrintMore
attribute [local go_sem] max2_int min2_int max_two min_two max_three min_three max_four min_four   -- for this text's walks alone
set_option linter.unusedVariables false
set_option linter.unusedSimpArgs false
def errW : Option Int → Value
  | none => .nilIface
  | some c => .iface 0 (.int .i64 c)
theorem errW_none : errW none = .nilIface := rfl
theorem errW_some (c : Int) : errW (some c) = .iface 0 (.int .i64 c) := rfl

theorem info5 : (Tryd.prog.info? 5).map (fun i => (i.zero, i.size, i.bytes)) = some (some (.int .u8 0), 1, 1) := by kernel_rfl
theorem info9 : (Tryd.prog.info? 9).map (fun i => (i.zero, i.size, i.bytes)) = some (some (.string ⟨#[]⟩), 1, 16) := by kernel_rfl
-- the values' own types
/-! ### bits_RotateLeft64: function 101 -/
def bits_RotateLeft64.f (a0 : Int) (a1 : Int) : Option (Int) := if 0 ≤ (Go.bits .and .u64 (IntKind.u64.wrap (a1)) 63) then (if 0 ≤ (IntKind.u64.wrap (64 - (Go.bits .and .u64 (IntKind.u64.wrap (a1)) 63))) then (some (Go.bits .or .u64 (shl .u64 a0 (Go.bits .and .u64 (IntKind.u64.wrap (a1)) 63)) (shr .u64 a0 (IntKind.u64.wrap (64 - (Go.bits .and .u64 (IntKind.u64.wrap (a1)) 63)))))) else (none)) else (none)
set_option maxHeartbeats 8000000 in
set_option maxRecDepth 100000 in
theorem bits_RotateLeft64.calls (a0 : Int) (a1 : Int) (r : Int) (w : World) (h : bits_RotateLeft64.f a0 a1 = some r) :
  Calls Tryd.prog 101 #[.int .u64 a0, .int .i64 a1] w fun e w' => e = .returned (.int .u64 r) ∧ Drawn0 w w' := by
 have H : (if 0 ≤ (Go.bits .and .u64 (IntKind.u64.wrap (a1)) 63) then (if 0 ≤ (IntKind.u64.wrap (64 - (Go.bits .and .u64 (IntKind.u64.wrap (a1)) 63))) then (some (Go.bits .or .u64 (shl .u64 a0 (Go.bits .and .u64 (IntKind.u64.wrap (a1)) 63)) (shr .u64 a0 (IntKind.u64.wrap (64 - (Go.bits .and .u64 (IntKind.u64.wrap (a1)) 63)))))) else (none)) else (none)) = some r := h
 clear h
 obtain ⟨ji3, hji3⟩ : ∃ j_ : Int, (Go.bits .and .u64 (IntKind.u64.wrap (a1)) 63) = j_ := ⟨_, rfl⟩
 replace H : (if 0 ≤ (ji3) then (if 0 ≤ (IntKind.u64.wrap (64 - (ji3))) then (some (Go.bits .or .u64 (shl .u64 a0 (ji3)) (shr .u64 a0 (IntKind.u64.wrap (64 - (ji3)))))) else (none)) else (none)) = some r := by first | (rw [hji3] at H; exact H) | (simp only [hji3] at H ⊢; exact H)
 by_cases c4 : 0 ≤ (ji3)
 ·rw [if_pos c4] at H
  have c4b0 := eq_true c4
  have c4b1 : decide (0 ≤ (ji3)) = true := decide_eq_true c4
  clear c4
  obtain ⟨ji5, hji5⟩ : ∃ j_ : Int, (shl .u64 a0 (ji3)) = j_ := ⟨_, rfl⟩
  replace H : (if 0 ≤ (IntKind.u64.wrap (64 - (ji3))) then (some (Go.bits .or .u64 (ji5) (shr .u64 a0 (IntKind.u64.wrap (64 - (ji3)))))) else (none)) = some r := by first | (rw [hji5] at H; exact H) | (simp only [hji5] at H ⊢; exact H)
  have hji5_ : (IntKind.u64.wrap (a0 * 2 ^ min (ji3).toNat 64)) = ji5 := hji5
  have hji5z : (ji3) ≤ 64 → (IntKind.u64.wrap (a0 * 2 ^ (ji3).toNat)) = ji5 := shl_small hji5
  obtain ⟨ji6, hji6⟩ : ∃ j_ : Int, (IntKind.u64.wrap (64 - (ji3))) = j_ := ⟨_, rfl⟩
  replace H : (if 0 ≤ (ji6) then (some (Go.bits .or .u64 (ji5) (shr .u64 a0 (ji6)))) else (none)) = some r := by first | (rw [hji6] at H; exact H) | (simp only [hji6] at H ⊢; exact H)
  by_cases c7 : 0 ≤ (ji6)
  ·rw [if_pos c7] at H
   have c7b0 := eq_true c7
   have c7b1 : decide (0 ≤ (ji6)) = true := decide_eq_true c7
   clear c7
   obtain ⟨ji8, hji8⟩ : ∃ j_ : Int, (shr .u64 a0 (ji6)) = j_ := ⟨_, rfl⟩
   replace H : (some (Go.bits .or .u64 (ji5) (ji8))) = some r := by first | (rw [hji8] at H; exact H) | (simp only [hji8] at H ⊢; exact H)
   have hji8_ : (a0 / 2 ^ min (ji6).toNat 64) = ji8 := hji8
   have hji8z : (ji6) ≤ 64 → (a0 / 2 ^ (ji6).toNat) = ji8 := shr_small hji8
   obtain rfl := Option.some.inj H
   go_enter Tryd.func101, Tryd.ntmps101
   go_wp2
   go_ret
   exact ⟨by first | rfl | (simp; done) | (simp only [← hji3, ← hji5, ← hji6, ← hji8] <;> (first | rfl | simp)) | (simp [*]; done), by repeat (first | exact Drawn0.refl _ | apply Drawn0.step)⟩
  ·rw [if_neg c7] at H
   exact absurd H (by simp)
 ·rw [if_neg c4] at H
  exact absurd H (by simp)
end Go.Proofs.YtmiiknkfhiecgaaDoor.Kp
end
section
/- What is proved here: steps of Keccak as the program and the reference write it: what each function answers. No conditions but those that each theorem names. -/
namespace Go.Proofs.YtmiiknkfhiecgaaDoor.Kp
open Go.RowKit Go.Proofs.YtmiiknkfhiecgaaDoorW.PrintWords Go.Proofs.YtmiiknkfhiecgaaDoorW.PrintLast Go.Proofs.YtmiiknkfhiecgaaDoorW.PrintMore
set_option linter.unusedVariables false
set_option linter.unusedSimpArgs false
def ga (s : List Int) (i : Nat) : Int := s.getD i 0
def ue (xs : List Int) : Array Value := (xs.map (Value.int .u64)).toArray
theorem ue_get {xs : List Int} {i : Nat} (h : i < xs.length) : (ue xs)[i]? = some (.int .u64 (ga xs i)) := by
  unfold ue ga
  rw [List.getElem?_toArray, List.getElem?_map, List.getElem?_eq_getElem h, List.getD_eq_getElem?_getD, List.getElem?_eq_getElem h]
  rfl
theorem ue_set (xs : List Int) (i : Nat) (v : Int) : (ue xs).setIfInBounds i (.int .u64 v) = ue (xs.set i v) := by
  unfold ue
  rw [List.setIfInBounds_toArray, List.map_set]
abbrev xr (a b : Int) : Int := Go.bits .xor .u64 a b
def turnsL : List Int := [0, 1, 62, 28, 27, 36, 44, 6, 55, 20, 3, 10, 43, 25, 39, 41, 45, 15, 21, 8, 18, 2, 61, 56, 14]
def rcL : List Int := [1, 32898, 9223372036854808714, 9223372039002292224, 32907, 2147483649, 9223372039002292353, 9223372036854808585, 138, 136, 2147516425, 2147483658, 2147516555, 9223372036854775947, 9223372036854808713, 9223372036854808579, 9223372036854808578, 9223372036854775936, 32778, 9223372039002259466, 9223372039002292353, 9223372036854808704, 2147483649, 9223372039002292232]
/-- The tables stand in memory. -/
structure Tab (w : World) : Prop where
  t : ∀ i : Nat, i < 25 → w.cell? ⟨0, i, none⟩ = some (.int .i64 (ga turnsL i))
  r : ∀ i : Nat, i < 24 → w.cell? ⟨1, i, none⟩ = some (.int .u64 (ga rcL i))
  s : 0 < w.heap.size ∧ 1 < w.heap.size
theorem Tab.below {w w' : World} (h : Tab w) (hb : Below w.heap.size w w') : Tab w' :=
  ⟨fun i hi => (hb.cell (p := ⟨0, i, none⟩) h.s.1).trans (h.t i hi), fun i hi => (hb.cell (p := ⟨1, i, none⟩) h.s.2).trans (h.r i hi), ⟨Nat.lt_of_lt_of_le h.s.1 hb.size, Nat.lt_of_lt_of_le h.s.2 hb.size⟩⟩
def rl (v n : Int) : Int := Go.bits .or .u64 (shl .u64 v (Go.bits .and .u64 (IntKind.u64.wrap n) 63)) (shr .u64 v (IntKind.u64.wrap (64 - (Go.bits .and .u64 (IntKind.u64.wrap n) 63))))
def rok (n : Int) : Bool := decide (0 ≤ (Go.bits .and .u64 (IntKind.u64.wrap n) 63)) && decide (0 ≤ (IntKind.u64.wrap (64 - (Go.bits .and .u64 (IntKind.u64.wrap n) 63))))
theorem rot_f {v n : Int} (h : rok n = true) : bits_RotateLeft64.f v n = some (rl v n) := by
  unfold rok at h
  simp only [Bool.and_eq_true, decide_eq_true_eq] at h
  unfold bits_RotateLeft64.f rl
  rw [if_pos h.1, if_pos h.2]
theorem rok_one : rok 1 = true := by decide +kernel
theorem rok_turns : ∀ i : Fin 25, rok (ga turnsL i.val) = true := by decide +kernel
def col (s : List Int) (x : Nat) : Int := xr (xr (xr (xr (ga s x) (ga s (x + 5))) (ga s (x + 10))) (ga s (x + 15))) (ga s (x + 20))
def cst (s : List Int) : Nat → List Int
  | 0 => List.replicate 5 0
  | k + 1 => (cst s k).set k (col s k)
theorem cst_len (s : List Int) (k : Nat) : (cst s k).length = 5 := by
  induction k with
  | zero => rfl
  | succ k ih => simp [cst, ih]
def dd (c : List Int) (x : Nat) : Int := xr (ga c ((x + 4) % 5)) (rl (ga c ((x + 1) % 5)) 1)
def bat (s c : List Int) (y x : Nat) : Int := rl (xr (ga s (x + 5 * y)) (dd c x)) (ga turnsL (x + 5 * y))
def bst (s c : List Int) : Nat → List Int
  | 0 => List.replicate 25 0
  | m + 1 => (bst s c m).set (m / 5 + 5 * ((2 * (m % 5) + 3 * (m / 5)) % 5)) (bat s c (m / 5) (m % 5))
theorem bst_len (s c : List Int) (k : Nat) : (bst s c k).length = 25 := by
  induction k with
  | zero => rfl
  | succ k ih => simp [bst, ih]
theorem bst_succ (s c : List Int) {y x : Nat} (h : x < 5) : bst s c (5 * y + (x + 1)) = (bst s c (5 * y + x)).set (y + 5 * ((2 * x + 3 * y) % 5)) (bat s c y x) := by
  rw [show 5 * y + (x + 1) = (5 * y + x) + 1 by omega]
  simp only [bst]
  rw [show (5 * y + x) / 5 = y by omega, show (5 * y + x) % 5 = x by omega]
def u64not (x : Int) : Int := Go.bits .xor .u64 IntKind.u64.max x
def chi (b : List Int) (y x : Nat) : Int := xr (ga b (x + 5 * y)) (Go.bits .and .u64 (u64not (ga b ((x + 1) % 5 + 5 * y))) (ga b ((x + 2) % 5 + 5 * y)))
def sst (s b : List Int) : Nat → List Int
  | 0 => s
  | m + 1 => (sst s b m).set m (chi b (m / 5) (m % 5))
theorem sst_len (s b : List Int) (k : Nat) : (sst s b k).length = s.length := by
  induction k with
  | zero => rfl
  | succ k ih => simp [sst, ih]
theorem sst_succ (s b : List Int) {y x : Nat} (h : x < 5) : sst s b (5 * y + (x + 1)) = (sst s b (5 * y + x)).set (x + 5 * y) (chi b y x) := by
  rw [show 5 * y + (x + 1) = (5 * y + x) + 1 by omega]
  simp only [sst]
  rw [show (5 * y + x) / 5 = y by omega, show (5 * y + x) % 5 = x by omega, show 5 * y + x = x + 5 * y by omega]
def roundI (s : List Int) (n : Nat) : List Int :=
  let t := sst s (bst s (cst s 5) 25) 25
  t.set 0 (xr (ga t 0) (ga rcL n))
theorem roundI_len (s : List Int) (n : Nat) : (roundI s n).length = s.length := by simp [roundI, sst_len]
def impl_round.T4 : Bool × List (List Nat × List Nat) := (true, [([], []), ([], []), ([], []), ([1], [1]), ([3, 2], [2, 3]), ([4], [4]), ([], []), ([], []), ([7], [7]), ([6], [6]), ([9, 8], [8, 9]), ([10], [10]), ([5, 11], [5, 11]), ([], []), ([], []), ([14], [14]), ([13], [13]), ([16, 15], [15, 16]), ([17], [17]), ([12, 18], [12, 18]), ([], []), ([], []), ([21], [21]), ([20], [20]), ([23, 22], [22, 23]), ([24], [24]), ([19, 25], [19, 25]), ([], []), ([], []), ([28], [28]), ([27], [27]), ([30, 29], [29, 30]), ([31], [31]), ([26, 32], [26, 32]), ([0, 0, 1, 2, 3, 4, 5, 6, 7, 8, 9, 10, 11, 12, 13, 14, 15, 16, 17, 18, 19, 20, 21, 22, 23, 24, 25, 26, 27, 28, 29, 30, 31, 32, 33], [0]), ([34, 33, 0, 1, 2, 3, 4, 5, 6, 7, 8, 9, 10, 11, 12, 13, 14, 15, 16, 17, 18, 19, 20, 21, 22, 23, 24, 25, 26, 27, 28, 29, 30, 31, 32, 33], [33, 34])])
def impl_round.B4 : List Nat := [0, 0, 0, 2, 14, 30, 0, 0, 128, 64, 960, 1984, 4094, 0, 0, 16384, 8192, 122880, 253952, 524286, 0, 0, 2097152, 1048576, 15728640, 32505856, 67108862, 0, 0, 268435456, 134217728, 2013265920, 4160749568, 8589934590, 17179869183, 34359738367]
theorem impl_round.tab4 : rtab .any (opsOf Tryd.f91 4) = impl_round.T4 := by kernel_rfl
theorem impl_round.bits4 : waitsOk impl_round.T4.2 impl_round.B4 = true := by kernel_rfl
def impl_round.T13 : Bool × List (List Nat × List Nat) := (true, [([], []), ([0], [0]), ([1], [1]), ([2], [2]), ([3], [3]), ([], []), ([5], [5]), ([6], [6]), ([7], [7]), ([8], [8]), ([9], [9]), ([4, 10], [4, 10]), ([11, 10, 0, 1, 2, 3, 4, 5, 6, 7, 8, 9, 10, 11], [11])])
def impl_round.B13 : List Nat := [0, 1, 3, 7, 15, 0, 32, 96, 224, 480, 992, 2047, 4095]
theorem impl_round.tab13 : rtab .any (opsOf Tryd.f91 13) = impl_round.T13 := by kernel_rfl
theorem impl_round.bits13 : waitsOk impl_round.T13.2 impl_round.B13 = true := by kernel_rfl
def impl_round.T14 : Bool × List (List Nat × List Nat) := (true, [([], []), ([], []), ([1], [1]), ([], []), ([3], [3]), ([2, 4], [2, 4]), ([5], [5]), ([6], [6]), ([0, 7], [0, 7]), ([], []), ([], []), ([], []), ([11], [11]), ([10, 12], [10, 12]), ([9], [9]), ([14, 13], [13, 14]), ([15], [15]), ([], []), ([16, 17], [16, 17]), ([], []), ([], []), ([20], [20]), ([19, 21], [19, 21]), ([22], [22]), ([23], [23]), ([18, 24], [18, 24]), ([8, 0, 1, 2, 3, 4, 5, 6, 7, 8, 9, 10, 11, 12, 13, 14, 15, 16, 17, 18, 19, 20, 21, 22, 23, 24, 25], [8]), ([26, 25, 25, 0, 1, 2, 3, 4, 5, 6, 7, 8, 9, 10, 11, 12, 13, 14, 15, 16, 17, 18, 19, 20, 21, 22, 23, 24, 25], [25, 26])])
def impl_round.B14 : List Nat := [0, 0, 2, 0, 8, 30, 62, 126, 255, 0, 0, 0, 2048, 7168, 512, 32256, 65024, 0, 261632, 0, 0, 1048576, 3670016, 7864320, 16252928, 33553920, 67108863, 134217727]
theorem impl_round.tab14 : rtab .any (opsOf Tryd.f91 14) = impl_round.T14 := by kernel_rfl
theorem impl_round.bits14 : waitsOk impl_round.T14.2 impl_round.B14 = true := by kernel_rfl
def impl_round.T23 : Bool × List (List Nat × List Nat) := (true, [([], []), ([], []), ([], []), ([2], [2]), ([1, 3], [1, 3]), ([], []), ([], []), ([6], [6]), ([5, 7], [5, 7]), ([8], [8]), ([9], [9]), ([], []), ([11], [11]), ([12], [12]), ([], []), ([14], [14]), ([13, 15], [13, 15]), ([16], [16]), ([17], [17]), ([18], [18]), ([], []), ([20], [20]), ([21], [21]), ([], []), ([23], [23]), ([22, 24], [22, 24]), ([25], [25]), ([26], [26]), ([19, 27], [19, 27]), ([10, 28], [10, 28]), ([0], [0]), ([30, 4, 0, 1, 2, 3, 4, 5, 6, 7, 8, 9, 10, 11, 12, 13, 14, 15, 16, 17, 18, 19, 20, 21, 22, 23, 24, 25, 26, 27, 28, 29], [4, 30]), ([31, 29, 0, 1, 2, 3, 4, 5, 6, 7, 8, 9, 10, 11, 12, 13, 14, 15, 16, 17, 18, 19, 20, 21, 22, 23, 24, 25, 26, 27, 28, 29], [29, 31])])
def impl_round.B23 : List Nat := [0, 0, 0, 4, 14, 0, 0, 64, 224, 480, 992, 0, 2048, 6144, 0, 16384, 63488, 129024, 260096, 522240, 0, 1048576, 3145728, 0, 8388608, 32505856, 66060288, 133169152, 268433408, 536870880, 1, 2147483647, 4294967295]
theorem impl_round.tab23 : rtab .any (opsOf Tryd.f91 23) = impl_round.T23 := by kernel_rfl
theorem impl_round.bits23 : waitsOk impl_round.T23.2 impl_round.B23 = true := by kernel_rfl
def impl_round.T26 : Bool × List (List Nat × List Nat) := (true, [([], []), ([0], [0]), ([1], [1]), ([2], [2]), ([], []), ([4], [4]), ([5], [5]), ([3, 6], [3, 6]), ([0], [0]), ([8, 0, 1, 2, 3, 4, 5, 6, 7], [8]), ([9, 7, 0, 1, 2, 3, 4, 5, 6, 7], [7, 9])])
def impl_round.B26 : List Nat := [0, 1, 3, 7, 0, 16, 48, 127, 1, 511, 1023]
theorem impl_round.tab26 : rtab .any (opsOf Tryd.f91 26) = impl_round.T26 := by kernel_rfl
theorem impl_round.bits26 : waitsOk impl_round.T26.2 impl_round.B26 = true := by kernel_rfl
set_option maxHeartbeats 8000000 in
set_option maxRecDepth 100000 in
theorem impl_round.calls (g : Nat) (s : List Int) (hs : s.length = 25) (n : Int) (hn0 : 0 ≤ n) (hn1 : n < 24) (w0 w : World) (hT : Tab w0) (hB : Below w0.heap.size w0 w) (hg : w0.heap.size ≤ g) (hA : w.heap[g]? = some (.cells (ue s) 90 (0, 0))) :
    Calls Tryd.prog 91 #[.pointer (some ⟨g, 0, none⟩), .int .i64 n] w fun e w' => e = .returned (.tuple #[]) ∧ w'.heap[g]? = some (.cells (ue (roundI s n.toNat)) 90 (0, 0)) ∧ Below w0.heap.size w0 w' := by
  have HT := Aside0.mk hT
  have HB := Aside0.mk hB
  have BKs := Aside0.mk hA
  have GEs := Aside0.mk hg
  have HN := Aside0.mk (show 0 ≤ n ∧ n < 24 from ⟨hn0, hn1⟩)
  have HS := Aside0.mk hs
  clear hT hB hA hg hn0 hn1 hs
  go_enter Tryd.func91, Tryd.ntmps91
  go_wp2_with (first | ((with_reducible refine gate_dst (N := 4) rfl ?_); refine box_event ?hg (N := 4) ?hd (cs := ue (List.replicate 5 0)) (t := 107) ?hr ?_; (case hd => rfl); (case hg => rfl); (case hr => first | (go_simp; done) | (go_simp; rfl)); intro gc hg w1_ hbox hb; have n0_ := Aside0.mk (blk_below (by (with_reducible repeat (first | refine blk_drewN ?_ _ | refine blk_drew ?_)); exact BKs.out) hb); have n1_ := Aside0.mk (below_then (show Below w0.heap.size w0 _ by repeat (first | exact HB.out | apply Below.drew | apply pw_below_drewN | refine Below.setCell ?_ GEs.out _ | refine Below.setCell ?_ GEc.out _ | refine Below.setCell ?_ GEb.out _)) (Below.size (show Below w0.heap.size w0 _ by repeat (first | exact HB.out | apply Below.drew | apply pw_below_drewN | refine Below.setCell ?_ GEs.out _ | refine Below.setCell ?_ GEc.out _ | refine Below.setCell ?_ GEb.out _))) hb); have n2_ := Aside0.mk (show w0.heap.size ≤ gc by rw [hg]; exact (Below.size (show Below w0.heap.size w0 _ by repeat (first | exact HB.out | apply Below.drew | apply pw_below_drewN | refine Below.setCell ?_ GEs.out _ | refine Below.setCell ?_ GEc.out _ | refine Below.setCell ?_ GEb.out _)))); have n3_ := Aside0.mk (show g ≠ gc by rw [hg]; exact Nat.ne_of_lt (blk_lt (o := .cells _ _ _) (by (with_reducible repeat (first | refine blk_drewN ?_ _ | refine blk_drew ?_)); exact BKs.out))); have BKc := Aside0.mk hbox; clear BKs HB; have BKs := n0_; have HB := n1_; have GEc := n2_; have NEsc := n3_; clear n0_ n1_ n2_ n3_ hb hbox hg))
  go_loopg [12] 6 (fun kq v12 w' => ∃ (k : Nat) (x : Int), v12 = .int .i64 x ∧ Aside0 (x = (k : Int) ∧ k + kq = 6 ∧ k ≤ 5) ∧ Aside0 (w'.heap[gc]? = some (.cells (ue (cst s k)) 107 (0, 0))) ∧ Aside0 (w'.heap[g]? = some (.cells (ue (s)) 90 (0, 0))) ∧ Aside0 (Below w0.heap.size w0 w'))
  case atStart => exact ⟨0, 0, rfl, ⟨rfl, rfl, by decide⟩, ⟨by (with_reducible repeat (first | refine blk_drewN ?_ _ | refine blk_drew ?_)); exact BKc.out⟩, ⟨by (with_reducible repeat (first | refine blk_drewN ?_ _ | refine blk_drew ?_)); exact BKs.out⟩, ⟨(by repeat (first | exact HB.out | apply Below.drew | apply pw_below_drewN | refine Below.setCell ?_ GEs.out _ | refine Below.setCell ?_ GEc.out _ | refine Below.setCell ?_ GEb.out _))⟩⟩
  case round =>
    clear BKc BKs HB
    obtain ⟨K1, x, rfl, HK1, BKc, BKs, HB⟩ := hrel
    cases gk with
    | zero => exact absurd HK1.out (by omega)
    | succ k1 =>
      by_cases c : K1 < 5
      · have c0 : decide (x < 5) = true := decide_eq_true (by have := HK1.out; omega)
        have HC1 := Aside0.mk c
        clear c
        obtain ⟨x5, hx5, ex5⟩ : ∃ y_, wrap64 (x + 5) = y_ ∧ Aside0 (y_ = ((K1 + 5 : Nat) : Int)) := ⟨_, rfl, ⟨by have := HK1.out; have := HC1.out; have := HS.out; first | (unfold wrap64; omega) | (rw [Int.tmod_eq_emod_of_nonneg (by omega)]; omega)⟩⟩
        obtain ⟨x10, hx10, ex10⟩ : ∃ y_, wrap64 (x + 10) = y_ ∧ Aside0 (y_ = ((K1 + 10 : Nat) : Int)) := ⟨_, rfl, ⟨by have := HK1.out; have := HC1.out; have := HS.out; have := ex5.out; first | (unfold wrap64; omega) | (rw [Int.tmod_eq_emod_of_nonneg (by omega)]; omega)⟩⟩
        obtain ⟨x15, hx15, ex15⟩ : ∃ y_, wrap64 (x + 15) = y_ ∧ Aside0 (y_ = ((K1 + 15 : Nat) : Int)) := ⟨_, rfl, ⟨by have := HK1.out; have := HC1.out; have := HS.out; have := ex5.out; have := ex10.out; first | (unfold wrap64; omega) | (rw [Int.tmod_eq_emod_of_nonneg (by omega)]; omega)⟩⟩
        obtain ⟨x20, hx20, ex20⟩ : ∃ y_, wrap64 (x + 20) = y_ ∧ Aside0 (y_ = ((K1 + 20 : Nat) : Int)) := ⟨_, rfl, ⟨by have := HK1.out; have := HC1.out; have := HS.out; have := ex5.out; have := ex10.out; have := ex15.out; first | (unfold wrap64; omega) | (rw [Int.tmod_eq_emod_of_nonneg (by omega)]; omega)⟩⟩
        have px : (0 ≤ x) = True := eq_true (by have := HK1.out; have := HC1.out; have := HS.out; have := ex5.out; have := ex10.out; have := ex15.out; have := ex20.out; omega)
        have qx_25 : (x < 25) = True := eq_true (by have := HK1.out; have := HC1.out; have := HS.out; have := ex5.out; have := ex10.out; have := ex15.out; have := ex20.out; omega)
        have px : (0 ≤ x) = True := eq_true (by have := HK1.out; have := HC1.out; have := HS.out; have := ex5.out; have := ex10.out; have := ex15.out; have := ex20.out; omega)
        have qx_5 : (x < 5) = True := eq_true (by have := HK1.out; have := HC1.out; have := HS.out; have := ex5.out; have := ex10.out; have := ex15.out; have := ex20.out; omega)
        have px5 : (0 ≤ x5) = True := eq_true (by have := HK1.out; have := HC1.out; have := HS.out; have := ex5.out; have := ex10.out; have := ex15.out; have := ex20.out; omega)
        have qx5_25 : (x5 < 25) = True := eq_true (by have := HK1.out; have := HC1.out; have := HS.out; have := ex5.out; have := ex10.out; have := ex15.out; have := ex20.out; omega)
        have px10 : (0 ≤ x10) = True := eq_true (by have := HK1.out; have := HC1.out; have := HS.out; have := ex5.out; have := ex10.out; have := ex15.out; have := ex20.out; omega)
        have qx10_25 : (x10 < 25) = True := eq_true (by have := HK1.out; have := HC1.out; have := HS.out; have := ex5.out; have := ex10.out; have := ex15.out; have := ex20.out; omega)
        have px15 : (0 ≤ x15) = True := eq_true (by have := HK1.out; have := HC1.out; have := HS.out; have := ex5.out; have := ex10.out; have := ex15.out; have := ex20.out; omega)
        have qx15_25 : (x15 < 25) = True := eq_true (by have := HK1.out; have := HC1.out; have := HS.out; have := ex5.out; have := ex10.out; have := ex15.out; have := ex20.out; omega)
        have px20 : (0 ≤ x20) = True := eq_true (by have := HK1.out; have := HC1.out; have := HS.out; have := ex5.out; have := ex10.out; have := ex15.out; have := ex20.out; omega)
        have qx20_25 : (x20 < 25) = True := eq_true (by have := HK1.out; have := HC1.out; have := HS.out; have := ex5.out; have := ex10.out; have := ex15.out; have := ex20.out; omega)
        have hc0 : wr.cell? ⟨g, x.toNat, none⟩ = some (.int .u64 (ga (s) x.toNat)) := (blk_cell BKs.out _).trans (ue_get (by rw [HS.out]; have := HK1.out; have := HC1.out; have := HS.out; have := ex5.out; have := ex10.out; have := ex15.out; have := ex20.out; omega))
        have hc1 : wr.cell? ⟨g, x5.toNat, none⟩ = some (.int .u64 (ga (s) x5.toNat)) := (blk_cell BKs.out _).trans (ue_get (by rw [HS.out]; have := HK1.out; have := HC1.out; have := HS.out; have := ex5.out; have := ex10.out; have := ex15.out; have := ex20.out; omega))
        have hc2 : wr.cell? ⟨g, x10.toNat, none⟩ = some (.int .u64 (ga (s) x10.toNat)) := (blk_cell BKs.out _).trans (ue_get (by rw [HS.out]; have := HK1.out; have := HC1.out; have := HS.out; have := ex5.out; have := ex10.out; have := ex15.out; have := ex20.out; omega))
        have hc3 : wr.cell? ⟨g, x15.toNat, none⟩ = some (.int .u64 (ga (s) x15.toNat)) := (blk_cell BKs.out _).trans (ue_get (by rw [HS.out]; have := HK1.out; have := HC1.out; have := HS.out; have := ex5.out; have := ex10.out; have := ex15.out; have := ex20.out; omega))
        have hc4 : wr.cell? ⟨g, x20.toNat, none⟩ = some (.int .u64 (ga (s) x20.toNat)) := (blk_cell BKs.out _).trans (ue_get (by rw [HS.out]; have := HK1.out; have := HC1.out; have := HS.out; have := ex5.out; have := ex10.out; have := ex15.out; have := ex20.out; omega))
        have hst : wr.cell? ⟨gc, x.toNat, none⟩ = some (.int .u64 (ga (cst s K1) x.toNat)) := (blk_cell BKc.out _).trans (ue_get (by rw [cst_len]; have := HK1.out; have := HC1.out; have := HS.out; have := ex5.out; have := ex10.out; have := ex15.out; have := ex20.out; omega))
        have hfz : wr.frozen? ⟨gc, x.toNat, none⟩ = false := blk_frozen BKc.out _
        go_wp2
        refine start_ (n := 36) (S := fun w' => w'.cell? ⟨g, x.toNat, none⟩ = some (.int .u64 (ga (s) x.toNat)) ∧ w'.cell? ⟨g, x5.toNat, none⟩ = some (.int .u64 (ga (s) x5.toNat)) ∧ w'.cell? ⟨g, x10.toNat, none⟩ = some (.int .u64 (ga (s) x10.toNat)) ∧ w'.cell? ⟨g, x15.toNat, none⟩ = some (.int .u64 (ga (s) x15.toNat)) ∧ w'.cell? ⟨g, x20.toNat, none⟩ = some (.int .u64 (ga (s) x20.toNat))) (ds := [35]) #[false, false, false, false, false, false, false, false, false, false, false, false, false, false, false, false, false, false, false, false, false, false, false, false, false, false, false, false, false, false, false, false, false, false, false, false] (by kernel_rfl) rfl rfl ⟨hc0, hc1, hc2, hc3, hc4⟩ (fun hHeld => ?_)
        refine with_tabW impl_round.tab4 impl_round.bits4 (fun HT_ HW_ => ?_)
        refine pure_ (i := 0) (N := some 15) (v := ?_) (a' := ?_) #[true, false, false, false, false, false, false, false, false, false, false, false, false, false, false, false, false, false, false, false, false, false, false, false, false, false, false, false, false, false, false, false, false, false, false, false] rfl rfl (any_of HT_.out (by kernel_rfl)) (fun _ _ _ h => h) (Or.inl ⟨by rfl, ?_⟩) ?_ ?_
        rotate_left
        · intro w'
          go_simp
          with_reducible rfl
        rotate_left
        · simp only [Act.put, List.setIfInBounds_toArray, List.set_cons_zero, List.set_cons_succ, i64_w, i32_w]
          rfl
        refine pure_ (i := 1) (N := some 16) (v := ?_) (a' := ?_) #[true, true, false, false, false, false, false, false, false, false, false, false, false, false, false, false, false, false, false, false, false, false, false, false, false, false, false, false, false, false, false, false, false, false, false, false] rfl rfl (any_of HT_.out (by kernel_rfl)) (fun _ _ _ h => h) (Or.inl ⟨by rfl, ?_⟩) ?_ ?_
        rotate_left
        · intro w'
          go_simp
          with_reducible rfl
        rotate_left
        · simp only [Act.put, List.setIfInBounds_toArray, List.set_cons_zero, List.set_cons_succ, i64_w, i32_w]
          rfl
        refine pure_ (i := 2) (N := some 17) (v := ?_) (a' := ?_) #[true, true, true, false, false, false, false, false, false, false, false, false, false, false, false, false, false, false, false, false, false, false, false, false, false, false, false, false, false, false, false, false, false, false, false, false] rfl rfl (any_of HT_.out (by kernel_rfl)) (fun _ _ _ h => h) (Or.inl ⟨by rfl, ?_⟩) ?_ ?_
        rotate_left
        · intro w'
          go_simp
          with_reducible rfl
        rotate_left
        · simp only [Act.put, List.setIfInBounds_toArray, List.set_cons_zero, List.set_cons_succ, i64_w, i32_w]
          rfl
        refine pure_ (i := 3) (N := some 18) (v := ?_) (a' := ?_) #[true, true, true, true, false, false, false, false, false, false, false, false, false, false, false, false, false, false, false, false, false, false, false, false, false, false, false, false, false, false, false, false, false, false, false, false] rfl rfl (any_of HT_.out (by kernel_rfl)) (fun _ _ _ h => h) (Or.inl ⟨by rfl, ?_⟩) ?_ ?_
        rotate_left
        · intro w'
          go_simp
          with_reducible rfl
        rotate_left
        · simp only [Act.put, List.setIfInBounds_toArray, List.set_cons_zero, List.set_cons_succ, i64_w, i32_w]
          rfl
        refine pure_ (i := 4) (N := some 19) (v := ?_) (a' := ?_) #[true, true, true, true, true, false, false, false, false, false, false, false, false, false, false, false, false, false, false, false, false, false, false, false, false, false, false, false, false, false, false, false, false, false, false, false] rfl rfl (any_of HT_.out (by kernel_rfl)) (fun _ _ _ h => h) (Or.inl ⟨by rfl, ?_⟩) ?_ ?_
        rotate_left
        · intro w'
          go_simp
          with_reducible rfl
        rotate_left
        · simp only [Act.put, List.setIfInBounds_toArray, List.set_cons_zero, List.set_cons_succ, i64_w, i32_w]
          rfl
        refine pure_ (i := 6) (N := some 21) (v := ?_) (a' := ?_) #[true, true, true, true, true, false, true, false, false, false, false, false, false, false, false, false, false, false, false, false, false, false, false, false, false, false, false, false, false, false, false, false, false, false, false, false] rfl rfl (any_of HT_.out (by kernel_rfl)) (fun _ _ _ h => h) (Or.inl ⟨by rfl, ?_⟩) ?_ ?_
        rotate_left
        · intro w'
          go_simp
          with_reducible rfl
        rotate_left
        · simp only [Act.put, List.setIfInBounds_toArray, List.set_cons_zero, List.set_cons_succ, i64_w, i32_w]
          rfl
        refine pure_ (i := 7) (N := some 22) (v := ?_) (a' := ?_) #[true, true, true, true, true, false, true, true, false, false, false, false, false, false, false, false, false, false, false, false, false, false, false, false, false, false, false, false, false, false, false, false, false, false, false, false] rfl rfl (any_of HT_.out (by kernel_rfl)) (fun _ _ _ h => h) (Or.inl ⟨by rfl, ?_⟩) ?_ ?_
        rotate_left
        · intro w'
          go_simp
          with_reducible rfl
        rotate_left
        · simp only [Act.put, List.setIfInBounds_toArray, List.set_cons_zero, List.set_cons_succ, i64_w, i32_w]
          rfl
        refine pure_ (i := 8) (N := some 23) (v := ?_) (a' := ?_) #[true, true, true, true, true, false, true, true, true, false, false, false, false, false, false, false, false, false, false, false, false, false, false, false, false, false, false, false, false, false, false, false, false, false, false, false] rfl rfl (any_of HT_.out (by kernel_rfl)) (fun _ _ _ h => h) (Or.inl ⟨by rfl, ?_⟩) ?_ ?_
        rotate_left
        · intro w'
          go_simp
          with_reducible rfl
        rotate_left
        · simp only [Act.put, List.setIfInBounds_toArray, List.set_cons_zero, List.set_cons_succ, i64_w, i32_w]
          rfl
        refine pure_ (i := 9) (N := some 24) (v := ?_) (a' := ?_) #[true, true, true, true, true, false, true, true, true, true, false, false, false, false, false, false, false, false, false, false, false, false, false, false, false, false, false, false, false, false, false, false, false, false, false, false] rfl rfl (any_of HT_.out (by kernel_rfl)) (fun _ _ _ h => h) (Or.inl ⟨by rfl, ?_⟩) ?_ ?_
        rotate_left
        · intro w'
          go_simp
          with_reducible rfl
        rotate_left
        · simp only [Act.put, List.setIfInBounds_toArray, List.set_cons_zero, List.set_cons_succ, i64_w, i32_w]
          rfl
        refine pure_ (i := 10) (N := some 25) (v := ?_) (a' := ?_) #[true, true, true, true, true, false, true, true, true, true, true, false, false, false, false, false, false, false, false, false, false, false, false, false, false, false, false, false, false, false, false, false, false, false, false, false] rfl rfl (any_of HT_.out (by kernel_rfl)) (fun _ _ _ h => h) (Or.inl ⟨by rfl, ?_⟩) ?_ ?_
        rotate_left
        · intro w'
          go_simp
          with_reducible rfl
        rotate_left
        · simp only [Act.put, List.setIfInBounds_toArray, List.set_cons_zero, List.set_cons_succ, i64_w, i32_w]
          rfl
        refine pure_ (i := 13) (N := some 28) (v := ?_) (a' := ?_) #[true, true, true, true, true, false, true, true, true, true, true, false, false, true, false, false, false, false, false, false, false, false, false, false, false, false, false, false, false, false, false, false, false, false, false, false] rfl rfl (any_of HT_.out (by kernel_rfl)) (fun _ _ _ h => h) (Or.inl ⟨by rfl, ?_⟩) ?_ ?_
        rotate_left
        · intro w'
          go_simp
          with_reducible rfl
        rotate_left
        · simp only [Act.put, List.setIfInBounds_toArray, List.set_cons_zero, List.set_cons_succ, i64_w, i32_w]
          rfl
        refine pure_ (i := 14) (N := some 29) (v := ?_) (a' := ?_) #[true, true, true, true, true, false, true, true, true, true, true, false, false, true, true, false, false, false, false, false, false, false, false, false, false, false, false, false, false, false, false, false, false, false, false, false] rfl rfl (any_of HT_.out (by kernel_rfl)) (fun _ _ _ h => h) (Or.inl ⟨by rfl, ?_⟩) ?_ ?_
        rotate_left
        · intro w'
          go_simp
          with_reducible rfl
        rotate_left
        · simp only [Act.put, List.setIfInBounds_toArray, List.set_cons_zero, List.set_cons_succ, i64_w, i32_w]
          rfl
        refine pure_ (i := 15) (N := some 30) (v := ?_) (a' := ?_) #[true, true, true, true, true, false, true, true, true, true, true, false, false, true, true, true, false, false, false, false, false, false, false, false, false, false, false, false, false, false, false, false, false, false, false, false] rfl rfl (any_of HT_.out (by kernel_rfl)) (fun _ _ _ h => h) (Or.inl ⟨by rfl, ?_⟩) ?_ ?_
        rotate_left
        · intro w'
          go_simp
          with_reducible rfl
        rotate_left
        · simp only [Act.put, List.setIfInBounds_toArray, List.set_cons_zero, List.set_cons_succ, i64_w, i32_w]
          rfl
        refine pure_ (i := 16) (N := some 31) (v := ?_) (a' := ?_) #[true, true, true, true, true, false, true, true, true, true, true, false, false, true, true, true, true, false, false, false, false, false, false, false, false, false, false, false, false, false, false, false, false, false, false, false] rfl rfl (any_of HT_.out (by kernel_rfl)) (fun _ _ _ h => h) (Or.inl ⟨by rfl, ?_⟩) ?_ ?_
        rotate_left
        · intro w'
          go_simp
          with_reducible rfl
        rotate_left
        · simp only [Act.put, List.setIfInBounds_toArray, List.set_cons_zero, List.set_cons_succ, i64_w, i32_w]
          rfl
        refine pure_ (i := 17) (N := some 32) (v := ?_) (a' := ?_) #[true, true, true, true, true, false, true, true, true, true, true, false, false, true, true, true, true, true, false, false, false, false, false, false, false, false, false, false, false, false, false, false, false, false, false, false] rfl rfl (any_of HT_.out (by kernel_rfl)) (fun _ _ _ h => h) (Or.inl ⟨by rfl, ?_⟩) ?_ ?_
        rotate_left
        · intro w'
          go_simp
          with_reducible rfl
        rotate_left
        · simp only [Act.put, List.setIfInBounds_toArray, List.set_cons_zero, List.set_cons_succ, i64_w, i32_w]
          rfl
        refine pure_ (i := 20) (N := some 35) (v := ?_) (a' := ?_) #[true, true, true, true, true, false, true, true, true, true, true, false, false, true, true, true, true, true, false, false, true, false, false, false, false, false, false, false, false, false, false, false, false, false, false, false] rfl rfl (any_of HT_.out (by kernel_rfl)) (fun _ _ _ h => h) (Or.inl ⟨by rfl, ?_⟩) ?_ ?_
        rotate_left
        · intro w'
          go_simp
          with_reducible rfl
        rotate_left
        · simp only [Act.put, List.setIfInBounds_toArray, List.set_cons_zero, List.set_cons_succ, i64_w, i32_w]
          rfl
        refine pure_ (i := 21) (N := some 36) (v := ?_) (a' := ?_) #[true, true, true, true, true, false, true, true, true, true, true, false, false, true, true, true, true, true, false, false, true, true, false, false, false, false, false, false, false, false, false, false, false, false, false, false] rfl rfl (any_of HT_.out (by kernel_rfl)) (fun _ _ _ h => h) (Or.inl ⟨by rfl, ?_⟩) ?_ ?_
        rotate_left
        · intro w'
          go_simp
          with_reducible rfl
        rotate_left
        · simp only [Act.put, List.setIfInBounds_toArray, List.set_cons_zero, List.set_cons_succ, i64_w, i32_w]
          rfl
        refine pure_ (i := 22) (N := some 37) (v := ?_) (a' := ?_) #[true, true, true, true, true, false, true, true, true, true, true, false, false, true, true, true, true, true, false, false, true, true, true, false, false, false, false, false, false, false, false, false, false, false, false, false] rfl rfl (any_of HT_.out (by kernel_rfl)) (fun _ _ _ h => h) (Or.inl ⟨by rfl, ?_⟩) ?_ ?_
        rotate_left
        · intro w'
          go_simp
          with_reducible rfl
        rotate_left
        · simp only [Act.put, List.setIfInBounds_toArray, List.set_cons_zero, List.set_cons_succ, i64_w, i32_w]
          rfl
        refine pure_ (i := 23) (N := some 38) (v := ?_) (a' := ?_) #[true, true, true, true, true, false, true, true, true, true, true, false, false, true, true, true, true, true, false, false, true, true, true, true, false, false, false, false, false, false, false, false, false, false, false, false] rfl rfl (any_of HT_.out (by kernel_rfl)) (fun _ _ _ h => h) (Or.inl ⟨by rfl, ?_⟩) ?_ ?_
        rotate_left
        · intro w'
          go_simp
          with_reducible rfl
        rotate_left
        · simp only [Act.put, List.setIfInBounds_toArray, List.set_cons_zero, List.set_cons_succ, i64_w, i32_w]
          rfl
        refine pure_ (i := 24) (N := some 39) (v := ?_) (a' := ?_) #[true, true, true, true, true, false, true, true, true, true, true, false, false, true, true, true, true, true, false, false, true, true, true, true, true, false, false, false, false, false, false, false, false, false, false, false] rfl rfl (any_of HT_.out (by kernel_rfl)) (fun _ _ _ h => h) (Or.inl ⟨by rfl, ?_⟩) ?_ ?_
        rotate_left
        · intro w'
          go_simp
          with_reducible rfl
        rotate_left
        · simp only [Act.put, List.setIfInBounds_toArray, List.set_cons_zero, List.set_cons_succ, i64_w, i32_w]
          rfl
        refine pure_ (i := 27) (N := some 42) (v := ?_) (a' := ?_) #[true, true, true, true, true, false, true, true, true, true, true, false, false, true, true, true, true, true, false, false, true, true, true, true, true, false, false, true, false, false, false, false, false, false, false, false] rfl rfl (any_of HT_.out (by kernel_rfl)) (fun _ _ _ h => h) (Or.inl ⟨by rfl, ?_⟩) ?_ ?_
        rotate_left
        · intro w'
          go_simp
          with_reducible rfl
        rotate_left
        · simp only [Act.put, List.setIfInBounds_toArray, List.set_cons_zero, List.set_cons_succ, i64_w, i32_w]
          rfl
        refine pure_ (i := 28) (N := some 43) (v := ?_) (a' := ?_) #[true, true, true, true, true, false, true, true, true, true, true, false, false, true, true, true, true, true, false, false, true, true, true, true, true, false, false, true, true, false, false, false, false, false, false, false] rfl rfl (any_of HT_.out (by kernel_rfl)) (fun _ _ _ h => h) (Or.inl ⟨by rfl, ?_⟩) ?_ ?_
        rotate_left
        · intro w'
          go_simp
          with_reducible rfl
        rotate_left
        · simp only [Act.put, List.setIfInBounds_toArray, List.set_cons_zero, List.set_cons_succ, i64_w, i32_w]
          rfl
        refine pure_ (i := 29) (N := some 44) (v := ?_) (a' := ?_) #[true, true, true, true, true, false, true, true, true, true, true, false, false, true, true, true, true, true, false, false, true, true, true, true, true, false, false, true, true, true, false, false, false, false, false, false] rfl rfl (any_of HT_.out (by kernel_rfl)) (fun _ _ _ h => h) (Or.inl ⟨by rfl, ?_⟩) ?_ ?_
        rotate_left
        · intro w'
          go_simp
          with_reducible rfl
        rotate_left
        · simp only [Act.put, List.setIfInBounds_toArray, List.set_cons_zero, List.set_cons_succ, i64_w, i32_w]
          rfl
        refine pure_ (i := 30) (N := some 45) (v := ?_) (a' := ?_) #[true, true, true, true, true, false, true, true, true, true, true, false, false, true, true, true, true, true, false, false, true, true, true, true, true, false, false, true, true, true, true, false, false, false, false, false] rfl rfl (any_of HT_.out (by kernel_rfl)) (fun _ _ _ h => h) (Or.inl ⟨by rfl, ?_⟩) ?_ ?_
        rotate_left
        · intro w'
          go_simp
          with_reducible rfl
        rotate_left
        · simp only [Act.put, List.setIfInBounds_toArray, List.set_cons_zero, List.set_cons_succ, i64_w, i32_w]
          rfl
        refine pure_ (i := 31) (N := some 46) (v := ?_) (a' := ?_) #[true, true, true, true, true, false, true, true, true, true, true, false, false, true, true, true, true, true, false, false, true, true, true, true, true, false, false, true, true, true, true, true, false, false, false, false] rfl rfl (any_of HT_.out (by kernel_rfl)) (fun _ _ _ h => h) (Or.inl ⟨by rfl, ?_⟩) ?_ ?_
        rotate_left
        · intro w'
          go_simp
          with_reducible rfl
        rotate_left
        · simp only [Act.put, List.setIfInBounds_toArray, List.set_cons_zero, List.set_cons_succ, i64_w, i32_w]
          rfl
        refine take_ (i := 5) (N := some 20) (v := ?_) (a' := ?_) #[true, true, true, true, true, true, true, true, true, true, true, false, false, true, true, true, true, true, false, false, true, true, true, true, true, false, false, true, true, true, true, true, false, false, false, false] rfl rfl (take_ofW HT_.out HW_.out (by kernel_rfl)) (fun _ _ _ h => h) (Or.inl ⟨by rfl, ?_⟩) hHeld ?_ ?_
        rotate_left
        · rintro w' ⟨s0, s1, s2, s3, s4⟩
          go_simp
          with_reducible rfl
        rotate_left
        · simp only [Act.put, List.setIfInBounds_toArray, List.set_cons_zero, List.set_cons_succ, i64_w, i32_w]
          rfl
        refine take_ (i := 11) (N := some 26) (v := ?_) (a' := ?_) #[true, true, true, true, true, true, true, true, true, true, true, true, false, true, true, true, true, true, false, false, true, true, true, true, true, false, false, true, true, true, true, true, false, false, false, false] rfl rfl (take_ofW HT_.out HW_.out (by kernel_rfl)) (fun _ _ _ h => h) (Or.inl ⟨by rfl, ?_⟩) hHeld ?_ ?_
        rotate_left
        · rintro w' ⟨s0, s1, s2, s3, s4⟩
          go_simp
          with_reducible rfl
        rotate_left
        · simp only [Act.put, List.setIfInBounds_toArray, List.set_cons_zero, List.set_cons_succ, i64_w, i32_w]
          rfl
        refine pure_ (i := 12) (N := some 27) (v := ?_) (a' := ?_) #[true, true, true, true, true, true, true, true, true, true, true, true, true, true, true, true, true, true, false, false, true, true, true, true, true, false, false, true, true, true, true, true, false, false, false, false] rfl rfl (any_of HT_.out (by kernel_rfl)) (fun _ _ _ h => h) (Or.inl ⟨by rfl, ?_⟩) ?_ ?_
        rotate_left
        · intro w'
          go_simp
          with_reducible rfl
        rotate_left
        · simp only [Act.put, List.setIfInBounds_toArray, List.set_cons_zero, List.set_cons_succ, i64_w, i32_w]
          rfl
        refine take_ (i := 18) (N := some 33) (v := ?_) (a' := ?_) #[true, true, true, true, true, true, true, true, true, true, true, true, true, true, true, true, true, true, true, false, true, true, true, true, true, false, false, true, true, true, true, true, false, false, false, false] rfl rfl (take_ofW HT_.out HW_.out (by kernel_rfl)) (fun _ _ _ h => h) (Or.inl ⟨by rfl, ?_⟩) hHeld ?_ ?_
        rotate_left
        · rintro w' ⟨s0, s1, s2, s3, s4⟩
          go_simp
          with_reducible rfl
        rotate_left
        · simp only [Act.put, List.setIfInBounds_toArray, List.set_cons_zero, List.set_cons_succ, i64_w, i32_w]
          rfl
        refine pure_ (i := 19) (N := some 34) (v := ?_) (a' := ?_) #[true, true, true, true, true, true, true, true, true, true, true, true, true, true, true, true, true, true, true, true, true, true, true, true, true, false, false, true, true, true, true, true, false, false, false, false] rfl rfl (any_of HT_.out (by kernel_rfl)) (fun _ _ _ h => h) (Or.inl ⟨by rfl, ?_⟩) ?_ ?_
        rotate_left
        · intro w'
          go_simp
          with_reducible rfl
        rotate_left
        · simp only [Act.put, List.setIfInBounds_toArray, List.set_cons_zero, List.set_cons_succ, i64_w, i32_w]
          rfl
        refine take_ (i := 25) (N := some 40) (v := ?_) (a' := ?_) #[true, true, true, true, true, true, true, true, true, true, true, true, true, true, true, true, true, true, true, true, true, true, true, true, true, true, false, true, true, true, true, true, false, false, false, false] rfl rfl (take_ofW HT_.out HW_.out (by kernel_rfl)) (fun _ _ _ h => h) (Or.inl ⟨by rfl, ?_⟩) hHeld ?_ ?_
        rotate_left
        · rintro w' ⟨s0, s1, s2, s3, s4⟩
          go_simp
          with_reducible rfl
        rotate_left
        · simp only [Act.put, List.setIfInBounds_toArray, List.set_cons_zero, List.set_cons_succ, i64_w, i32_w]
          rfl
        refine pure_ (i := 26) (N := some 41) (v := ?_) (a' := ?_) #[true, true, true, true, true, true, true, true, true, true, true, true, true, true, true, true, true, true, true, true, true, true, true, true, true, true, true, true, true, true, true, true, false, false, false, false] rfl rfl (any_of HT_.out (by kernel_rfl)) (fun _ _ _ h => h) (Or.inl ⟨by rfl, ?_⟩) ?_ ?_
        rotate_left
        · intro w'
          go_simp
          with_reducible rfl
        rotate_left
        · simp only [Act.put, List.setIfInBounds_toArray, List.set_cons_zero, List.set_cons_succ, i64_w, i32_w]
          rfl
        refine take_ (i := 32) (N := some 47) (v := ?_) (a' := ?_) #[true, true, true, true, true, true, true, true, true, true, true, true, true, true, true, true, true, true, true, true, true, true, true, true, true, true, true, true, true, true, true, true, true, false, false, false] rfl rfl (take_ofW HT_.out HW_.out (by kernel_rfl)) (fun _ _ _ h => h) (Or.inl ⟨by rfl, ?_⟩) hHeld ?_ ?_
        rotate_left
        · rintro w' ⟨s0, s1, s2, s3, s4⟩
          go_simp
          with_reducible rfl
        rotate_left
        · simp only [Act.put, List.setIfInBounds_toArray, List.set_cons_zero, List.set_cons_succ, i64_w, i32_w]
          rfl
        refine pure_ (i := 33) (N := some 48) (v := ?_) (a' := ?_) #[true, true, true, true, true, true, true, true, true, true, true, true, true, true, true, true, true, true, true, true, true, true, true, true, true, true, true, true, true, true, true, true, true, true, false, false] rfl rfl (any_of HT_.out (by kernel_rfl)) (fun _ _ _ h => h) (Or.inl ⟨by rfl, ?_⟩) ?_ ?_
        rotate_left
        · intro w'
          go_simp
          with_reducible rfl
        rotate_left
        · simp only [Act.put, List.setIfInBounds_toArray, List.set_cons_zero, List.set_cons_succ, i64_w, i32_w]
          rfl
        refine pure_ (i := 34) (N := some 49) (v := ?_) (a' := ?_) #[true, true, true, true, true, true, true, true, true, true, true, true, true, true, true, true, true, true, true, true, true, true, true, true, true, true, true, true, true, true, true, true, true, true, true, false] rfl rfl (any_of HT_.out (by kernel_rfl)) (fun _ _ _ h => h) (Or.inl ⟨by rfl, ?_⟩) ?_ ?_
        rotate_left
        · intro w'
          go_simp
          with_reducible rfl
        rotate_left
        · simp only [Act.put, List.setIfInBounds_toArray, List.set_cons_zero, List.set_cons_succ, i64_w, i32_w]
          rfl
        refine last_ (i := 35) (N := none) #[true, true, true, true, true, true, true, true, true, true, true, true, true, true, true, true, true, true, true, true, true, true, true, true, true, true, true, true, true, true, true, true, true, true, true, true] rfl rfl (one_of HT_.out (by kernel_rfl)) (by decide) (fun K hK => ?_)
        refine skip_ (w1 := ?_) (by rfl) rfl ?_ ?_
        rotate_left
        · go_simp
          rfl
        refine hK.out _ _ ?_
        clear hK K
        refine done_ (done_of HT_.out (by kernel_rfl)) ?_
        go_wp2
        go_roundg k1
        case measure => omega
        case rel => exact ⟨K1 + 1, _, rfl, ⟨by have := HK1.out; have := HC1.out; have := HS.out; have := ex5.out; have := ex10.out; have := ex15.out; have := ex20.out; first | omega | (unfold wrap64; omega), by have := HK1.out; have := HC1.out; have := HS.out; have := ex5.out; have := ex10.out; have := ex15.out; have := ex20.out; omega, by have := HK1.out; have := HC1.out; have := HS.out; have := ex5.out; have := ex10.out; have := ex15.out; have := ex20.out; omega⟩, ⟨by (with_reducible repeat (first | refine blk_drewN ?_ _ | refine blk_drew ?_)); refine blk_put (cs := ue (cst s K1)) (by (with_reducible repeat (first | refine blk_drewN ?_ _ | refine blk_drew ?_)); exact BKc.out) x.toNat _ ?_; rw [ue_set]; simp only [cst, col]; rw [show x.toNat = K1 by have := HK1.out; have := HC1.out; have := HS.out; have := ex5.out; have := ex10.out; have := ex15.out; have := ex20.out; omega, show x5.toNat = K1 + 5 by have := HK1.out; have := HC1.out; have := HS.out; have := ex5.out; have := ex10.out; have := ex15.out; have := ex20.out; omega, show x10.toNat = K1 + 10 by have := HK1.out; have := HC1.out; have := HS.out; have := ex5.out; have := ex10.out; have := ex15.out; have := ex20.out; omega, show x15.toNat = K1 + 15 by have := HK1.out; have := HC1.out; have := HS.out; have := ex5.out; have := ex10.out; have := ex15.out; have := ex20.out; omega, show x20.toNat = K1 + 20 by have := HK1.out; have := HC1.out; have := HS.out; have := ex5.out; have := ex10.out; have := ex15.out; have := ex20.out; omega]⟩, ⟨by (with_reducible repeat (first | refine blk_drewN ?_ _ | refine blk_drew ?_)); refine blk_far ?_ (p := ⟨gc, _, none⟩) NEsc.out _; (with_reducible repeat (first | refine blk_drewN ?_ _ | refine blk_drew ?_)); exact BKs.out⟩, ⟨(by repeat (first | exact HB.out | apply Below.drew | apply pw_below_drewN | refine Below.setCell ?_ GEs.out _ | refine Below.setCell ?_ GEc.out _ | refine Below.setCell ?_ GEb.out _))⟩⟩
      · have c0 : decide (x < 5) = false := decide_eq_false (by have := HK1.out; omega)
        obtain rfl : K1 = 5 := by have := HK1.out; omega
        clear c HK1
        go_wp2_with (first | ((with_reducible refine gate_dst (N := 6) rfl ?_); refine box_event ?hg (N := 6) ?hd (cs := ue (List.replicate 25 0)) (t := 90) ?hr ?_; (case hd => rfl); (case hg => rfl); (case hr => first | (go_simp; done) | (go_simp; rfl)); intro gb hg w1_ hbox hb; have n0_ := Aside0.mk (blk_below (by (with_reducible repeat (first | refine blk_drewN ?_ _ | refine blk_drew ?_)); exact BKs.out) hb); have n1_ := Aside0.mk (blk_below (by (with_reducible repeat (first | refine blk_drewN ?_ _ | refine blk_drew ?_)); exact BKc.out) hb); have n2_ := Aside0.mk (below_then (show Below w0.heap.size w0 _ by repeat (first | exact HB.out | apply Below.drew | apply pw_below_drewN | refine Below.setCell ?_ GEs.out _ | refine Below.setCell ?_ GEc.out _ | refine Below.setCell ?_ GEb.out _)) (Below.size (show Below w0.heap.size w0 _ by repeat (first | exact HB.out | apply Below.drew | apply pw_below_drewN | refine Below.setCell ?_ GEs.out _ | refine Below.setCell ?_ GEc.out _ | refine Below.setCell ?_ GEb.out _))) hb); have n3_ := Aside0.mk (show w0.heap.size ≤ gb by rw [hg]; exact (Below.size (show Below w0.heap.size w0 _ by repeat (first | exact HB.out | apply Below.drew | apply pw_below_drewN | refine Below.setCell ?_ GEs.out _ | refine Below.setCell ?_ GEc.out _ | refine Below.setCell ?_ GEb.out _)))); have n4_ := Aside0.mk (show g ≠ gb by rw [hg]; exact Nat.ne_of_lt (blk_lt (o := .cells _ _ _) (by (with_reducible repeat (first | refine blk_drewN ?_ _ | refine blk_drew ?_)); exact BKs.out))); have n5_ := Aside0.mk (show gc ≠ gb by rw [hg]; exact Nat.ne_of_lt (blk_lt (o := .cells _ _ _) (by (with_reducible repeat (first | refine blk_drewN ?_ _ | refine blk_drew ?_)); exact BKc.out))); have BKb := Aside0.mk hbox; clear BKs BKc HB; have BKs := n0_; have BKc := n1_; have HB := n2_; have GEb := n3_; have NEsb := n4_; have NEcb := n5_; clear n0_ n1_ n2_ n3_ n4_ n5_ hb hbox hg))
        go_loopg [51] 6 (fun kq v51 w' => ∃ (k : Nat) (x : Int), v51 = .int .i64 x ∧ Aside0 (x = (k : Int) ∧ k + kq = 6 ∧ k ≤ 5) ∧ Aside0 (w'.heap[gc]? = some (.cells (ue (cst s 5)) 107 (0, 0))) ∧ Aside0 (w'.heap[g]? = some (.cells (ue (s)) 90 (0, 0))) ∧ Aside0 (w'.heap[gb]? = some (.cells (ue (bst s (cst s 5) (5 * k))) 90 (0, 0))) ∧ Aside0 (Below w0.heap.size w0 w'))
        case atStart => exact ⟨0, 0, rfl, ⟨rfl, rfl, by decide⟩, ⟨by (with_reducible repeat (first | refine blk_drewN ?_ _ | refine blk_drew ?_)); exact BKc.out⟩, ⟨by (with_reducible repeat (first | refine blk_drewN ?_ _ | refine blk_drew ?_)); exact BKs.out⟩, ⟨by (with_reducible repeat (first | refine blk_drewN ?_ _ | refine blk_drew ?_)); exact BKb.out⟩, ⟨(by repeat (first | exact HB.out | apply Below.drew | apply pw_below_drewN | refine Below.setCell ?_ GEs.out _ | refine Below.setCell ?_ GEc.out _ | refine Below.setCell ?_ GEb.out _))⟩⟩
        case round =>
          clear BKc BKs BKb HB
          clear c0
          obtain ⟨K2, y, rfl, HK2, BKc, BKs, BKb, HB⟩ := hrel
          cases gk with
          | zero => exact absurd HK2.out (by omega)
          | succ k2 =>
            by_cases c : K2 < 5
            · have c0 : decide (y < 5) = true := decide_eq_true (by have := HK2.out; omega)
              have HC2 := Aside0.mk c
              clear c
              go_wp2
              go_loopg [54] 6 (fun kq v54 w' => ∃ (k : Nat) (x : Int), v54 = .int .i64 x ∧ Aside0 (x = (k : Int) ∧ k + kq = 6 ∧ k ≤ 5) ∧ Aside0 (w'.heap[gc]? = some (.cells (ue (cst s 5)) 107 (0, 0))) ∧ Aside0 (w'.heap[g]? = some (.cells (ue (s)) 90 (0, 0))) ∧ Aside0 (w'.heap[gb]? = some (.cells (ue (bst s (cst s 5) (5 * K2 + k))) 90 (0, 0))) ∧ Aside0 (Below w0.heap.size w0 w'))
              case atStart => exact ⟨0, 0, rfl, ⟨rfl, rfl, by decide⟩, ⟨by (with_reducible repeat (first | refine blk_drewN ?_ _ | refine blk_drew ?_)); exact BKc.out⟩, ⟨by (with_reducible repeat (first | refine blk_drewN ?_ _ | refine blk_drew ?_)); exact BKs.out⟩, ⟨by (with_reducible repeat (first | refine blk_drewN ?_ _ | refine blk_drew ?_)); exact BKb.out⟩, ⟨(by repeat (first | exact HB.out | apply Below.drew | apply pw_below_drewN | refine Below.setCell ?_ GEs.out _ | refine Below.setCell ?_ GEc.out _ | refine Below.setCell ?_ GEb.out _))⟩⟩
              case round =>
                clear BKc BKs BKb HB
                clear c0
                obtain ⟨K3, x, rfl, HK3, BKc, BKs, BKb, HB⟩ := hrel
                cases gk with
                | zero => exact absurd HK3.out (by omega)
                | succ k3 =>
                  by_cases c : K3 < 5
                  · have c0 : decide (x < 5) = true := decide_eq_true (by have := HK3.out; omega)
                    have HC3 := Aside0.mk c
                    clear c
                    obtain ⟨a1, ha1, ea1⟩ : ∃ y_, wrap64 (x + 4) = y_ ∧ Aside0 (y_ = ((K3 + 4 : Nat) : Int)) := ⟨_, rfl, ⟨by have := HK2.out; have := HC2.out; have := HK3.out; have := HC3.out; have := HS.out; first | (unfold wrap64; omega) | (rw [Int.tmod_eq_emod_of_nonneg (by omega)]; omega)⟩⟩
                    obtain ⟨a2, ha2, ea2⟩ : ∃ y_, Int.tmod a1 5 = y_ ∧ Aside0 (y_ = (((K3 + 4) % 5 : Nat) : Int)) := ⟨_, rfl, ⟨by have := HK2.out; have := HC2.out; have := HK3.out; have := HC3.out; have := HS.out; have := ea1.out; first | (unfold wrap64; omega) | (rw [Int.tmod_eq_emod_of_nonneg (by omega)]; omega)⟩⟩
                    obtain ⟨b1, hb1, eb1⟩ : ∃ y_, wrap64 (x + 1) = y_ ∧ Aside0 (y_ = ((K3 + 1 : Nat) : Int)) := ⟨_, rfl, ⟨by have := HK2.out; have := HC2.out; have := HK3.out; have := HC3.out; have := HS.out; have := ea1.out; have := ea2.out; first | (unfold wrap64; omega) | (rw [Int.tmod_eq_emod_of_nonneg (by omega)]; omega)⟩⟩
                    obtain ⟨b2, hb2, eb2⟩ : ∃ y_, Int.tmod b1 5 = y_ ∧ Aside0 (y_ = (((K3 + 1) % 5 : Nat) : Int)) := ⟨_, rfl, ⟨by have := HK2.out; have := HC2.out; have := HK3.out; have := HC3.out; have := HS.out; have := ea1.out; have := ea2.out; have := eb1.out; first | (unfold wrap64; omega) | (rw [Int.tmod_eq_emod_of_nonneg (by omega)]; omega)⟩⟩
                    have pa2 : (0 ≤ a2) = True := eq_true (by have := HK2.out; have := HC2.out; have := HK3.out; have := HC3.out; have := HS.out; have := ea1.out; have := ea2.out; have := eb1.out; have := eb2.out; omega)
                    have qa2_5 : (a2 < 5) = True := eq_true (by have := HK2.out; have := HC2.out; have := HK3.out; have := HC3.out; have := HS.out; have := ea1.out; have := ea2.out; have := eb1.out; have := eb2.out; omega)
                    have pb2 : (0 ≤ b2) = True := eq_true (by have := HK2.out; have := HC2.out; have := HK3.out; have := HC3.out; have := HS.out; have := ea1.out; have := ea2.out; have := eb1.out; have := eb2.out; omega)
                    have qb2_5 : (b2 < 5) = True := eq_true (by have := HK2.out; have := HC2.out; have := HK3.out; have := HC3.out; have := HS.out; have := ea1.out; have := ea2.out; have := eb1.out; have := eb2.out; omega)
                    have hc0 : wr.cell? ⟨gc, a2.toNat, none⟩ = some (.int .u64 (ga (cst s 5) a2.toNat)) := (blk_cell BKc.out _).trans (ue_get (by rw [cst_len]; have := HK2.out; have := HC2.out; have := HK3.out; have := HC3.out; have := HS.out; have := ea1.out; have := ea2.out; have := eb1.out; have := eb2.out; omega))
                    have hc1 : wr.cell? ⟨gc, b2.toNat, none⟩ = some (.int .u64 (ga (cst s 5) b2.toNat)) := (blk_cell BKc.out _).trans (ue_get (by rw [cst_len]; have := HK2.out; have := HC2.out; have := HK3.out; have := HC3.out; have := HS.out; have := ea1.out; have := ea2.out; have := eb1.out; have := eb2.out; omega))
                    have HR := rot_f (v := ga (cst s 5) b2.toNat) rok_one
                    have HRa := Aside0.mk HR
                    clear HR
                    go_wp2
                    refine start_ (n := 13) (S := fun w' => w'.cell? ⟨gc, a2.toNat, none⟩ = some (.int .u64 (ga (cst s 5) a2.toNat)) ∧ w'.cell? ⟨gc, b2.toNat, none⟩ = some (.int .u64 (ga (cst s 5) b2.toNat))) (ds := []) #[false, false, false, false, false, false, false, false, false, false, false, false, false] (by kernel_rfl) rfl rfl ⟨hc0, hc1⟩ (fun hHeld => ?_)
                    refine with_tabW impl_round.tab13 impl_round.bits13 (fun HT_ HW_ => ?_)
                    refine pure_ (i := 0) (N := some 57) (v := ?_) (a' := ?_) #[true, false, false, false, false, false, false, false, false, false, false, false, false] rfl rfl (any_of HT_.out (by kernel_rfl)) (fun _ _ _ h => h) (Or.inl ⟨by rfl, ?_⟩) ?_ ?_
                    rotate_left
                    · intro w'
                      go_simp
                      with_reducible rfl
                    rotate_left
                    · simp only [Act.put, List.setIfInBounds_toArray, List.set_cons_zero, List.set_cons_succ, i64_w, i32_w]
                      rfl
                    refine pure_ (i := 1) (N := some 58) (v := ?_) (a' := ?_) #[true, true, false, false, false, false, false, false, false, false, false, false, false] rfl rfl (any_of HT_.out (by kernel_rfl)) (fun _ _ _ h => h) (Or.inl ⟨by rfl, ?_⟩) ?_ ?_
                    rotate_left
                    · intro w'
                      go_simp
                      with_reducible rfl
                    rotate_left
                    · simp only [Act.put, List.setIfInBounds_toArray, List.set_cons_zero, List.set_cons_succ, i64_w, i32_w]
                      rfl
                    refine pure_ (i := 2) (N := some 59) (v := ?_) (a' := ?_) #[true, true, true, false, false, false, false, false, false, false, false, false, false] rfl rfl (any_of HT_.out (by kernel_rfl)) (fun _ _ _ h => h) (Or.inl ⟨by rfl, ?_⟩) ?_ ?_
                    rotate_left
                    · intro w'
                      go_simp
                      with_reducible rfl
                    rotate_left
                    · simp only [Act.put, List.setIfInBounds_toArray, List.set_cons_zero, List.set_cons_succ, i64_w, i32_w]
                      rfl
                    refine pure_ (i := 3) (N := some 60) (v := ?_) (a' := ?_) #[true, true, true, true, false, false, false, false, false, false, false, false, false] rfl rfl (any_of HT_.out (by kernel_rfl)) (fun _ _ _ h => h) (Or.inl ⟨by rfl, ?_⟩) ?_ ?_
                    rotate_left
                    · intro w'
                      go_simp
                      with_reducible rfl
                    rotate_left
                    · simp only [Act.put, List.setIfInBounds_toArray, List.set_cons_zero, List.set_cons_succ, i64_w, i32_w]
                      rfl
                    refine pure_ (i := 5) (N := some 62) (v := ?_) (a' := ?_) #[true, true, true, true, false, true, false, false, false, false, false, false, false] rfl rfl (any_of HT_.out (by kernel_rfl)) (fun _ _ _ h => h) (Or.inl ⟨by rfl, ?_⟩) ?_ ?_
                    rotate_left
                    · intro w'
                      go_simp
                      with_reducible rfl
                    rotate_left
                    · simp only [Act.put, List.setIfInBounds_toArray, List.set_cons_zero, List.set_cons_succ, i64_w, i32_w]
                      rfl
                    refine pure_ (i := 6) (N := some 63) (v := ?_) (a' := ?_) #[true, true, true, true, false, true, true, false, false, false, false, false, false] rfl rfl (any_of HT_.out (by kernel_rfl)) (fun _ _ _ h => h) (Or.inl ⟨by rfl, ?_⟩) ?_ ?_
                    rotate_left
                    · intro w'
                      go_simp
                      with_reducible rfl
                    rotate_left
                    · simp only [Act.put, List.setIfInBounds_toArray, List.set_cons_zero, List.set_cons_succ, i64_w, i32_w]
                      rfl
                    refine pure_ (i := 7) (N := some 64) (v := ?_) (a' := ?_) #[true, true, true, true, false, true, true, true, false, false, false, false, false] rfl rfl (any_of HT_.out (by kernel_rfl)) (fun _ _ _ h => h) (Or.inl ⟨by rfl, ?_⟩) ?_ ?_
                    rotate_left
                    · intro w'
                      go_simp
                      with_reducible rfl
                    rotate_left
                    · simp only [Act.put, List.setIfInBounds_toArray, List.set_cons_zero, List.set_cons_succ, i64_w, i32_w]
                      rfl
                    refine pure_ (i := 8) (N := some 65) (v := ?_) (a' := ?_) #[true, true, true, true, false, true, true, true, true, false, false, false, false] rfl rfl (any_of HT_.out (by kernel_rfl)) (fun _ _ _ h => h) (Or.inl ⟨by rfl, ?_⟩) ?_ ?_
                    rotate_left
                    · intro w'
                      go_simp
                      with_reducible rfl
                    rotate_left
                    · simp only [Act.put, List.setIfInBounds_toArray, List.set_cons_zero, List.set_cons_succ, i64_w, i32_w]
                      rfl
                    refine take_ (i := 4) (N := some 61) (v := ?_) (a' := ?_) #[true, true, true, true, true, true, true, true, true, false, false, false, false] rfl rfl (take_ofW HT_.out HW_.out (by kernel_rfl)) (fun _ _ _ h => h) (Or.inl ⟨by rfl, ?_⟩) hHeld ?_ ?_
                    rotate_left
                    · rintro w' ⟨s0, s1⟩
                      go_simp
                      with_reducible rfl
                    rotate_left
                    · simp only [Act.put, List.setIfInBounds_toArray, List.set_cons_zero, List.set_cons_succ, i64_w, i32_w]
                      rfl
                    refine take_ (i := 9) (N := some 66) (v := ?_) (a' := ?_) #[true, true, true, true, true, true, true, true, true, true, false, false, false] rfl rfl (take_ofW HT_.out HW_.out (by kernel_rfl)) (fun _ _ _ h => h) (Or.inl ⟨by rfl, ?_⟩) hHeld ?_ ?_
                    rotate_left
                    · rintro w' ⟨s0, s1⟩
                      go_simp
                      with_reducible rfl
                    rotate_left
                    · simp only [Act.put, List.setIfInBounds_toArray, List.set_cons_zero, List.set_cons_succ, i64_w, i32_w]
                      rfl
                    refine one_ (i := 10) (N := some 67) #[true, true, true, true, true, true, true, true, true, true, true, false, false] rfl rfl (one_of HT_.out (by kernel_rfl)) (by decide) (fun K hK => ?_)
                    refine goes_ Tryd.func101 (by kernel_rfl) rfl #[.int .u64 (ga (cst s 5) b2.toNat), .int .i64 (1)] (by rfl) rfl rfl (by simp only [List.map_toArray, List.map_cons, List.map_nil]; rfl) ?_
                    with_reducible refine (bits_RotateLeft64.calls _ _ _ _ HRa.out).mono ?_
                    rintro e w3_ ⟨rfl, ⟨nd, rfl⟩⟩
                    refine ⟨_, rfl, ?_⟩
                    refine hK.out _ _ ⟨(by exact hHeld.1), (by exact hHeld.2)⟩ (fun hHeld => ?_)
                    clear hK K
                    refine norm_ (a' := ?_) ?_ ?_
                    rotate_left
                    · show Act.put _ (some 67) _ = _
                      simp only [Act.put, List.setIfInBounds_toArray, List.set_cons_zero, List.set_cons_succ, i64_w, i32_w]
                      rfl
                    refine pure_ (i := 11) (N := some 68) (v := ?_) (a' := ?_) #[true, true, true, true, true, true, true, true, true, true, true, true, false] rfl rfl (any_of HT_.out (by kernel_rfl)) (fun _ _ _ h => h) (Or.inl ⟨by rfl, ?_⟩) ?_ ?_
                    rotate_left
                    · intro w'
                      go_simp
                      with_reducible rfl
                    rotate_left
                    · simp only [Act.put, List.setIfInBounds_toArray, List.set_cons_zero, List.set_cons_succ, i64_w, i32_w]
                      rfl
                    refine pure_ (i := 12) (N := some 9) (v := ?_) (a' := ?_) #[true, true, true, true, true, true, true, true, true, true, true, true, true] rfl rfl (any_of HT_.out (by kernel_rfl)) (fun _ _ _ h => h) (Or.inl ⟨by rfl, ?_⟩) ?_ ?_
                    rotate_left
                    · intro w'
                      go_simp
                      with_reducible rfl
                    rotate_left
                    · simp only [Act.put, List.setIfInBounds_toArray, List.set_cons_zero, List.set_cons_succ, i64_w, i32_w]
                      rfl
                    refine done_ (done_of HT_.out (by kernel_rfl)) ?_
                    obtain ⟨m1, hm1, em1⟩ : ∃ y_, wrap64 (2 * x) = y_ ∧ Aside0 (y_ = ((2 * K3 : Nat) : Int)) := ⟨_, rfl, ⟨by have := HK2.out; have := HC2.out; have := HK3.out; have := HC3.out; have := HS.out; have := ea1.out; have := ea2.out; have := eb1.out; have := eb2.out; first | (unfold wrap64; omega) | (rw [Int.tmod_eq_emod_of_nonneg (by omega)]; omega)⟩⟩
                    obtain ⟨m2, hm2, em2⟩ : ∃ y_, wrap64 (3 * y) = y_ ∧ Aside0 (y_ = ((3 * K2 : Nat) : Int)) := ⟨_, rfl, ⟨by have := HK2.out; have := HC2.out; have := HK3.out; have := HC3.out; have := HS.out; have := ea1.out; have := ea2.out; have := eb1.out; have := eb2.out; have := em1.out; first | (unfold wrap64; omega) | (rw [Int.tmod_eq_emod_of_nonneg (by omega)]; omega)⟩⟩
                    obtain ⟨m3, hm3, em3⟩ : ∃ y_, wrap64 (m1 + m2) = y_ ∧ Aside0 (y_ = ((2 * K3 + 3 * K2 : Nat) : Int)) := ⟨_, rfl, ⟨by have := HK2.out; have := HC2.out; have := HK3.out; have := HC3.out; have := HS.out; have := ea1.out; have := ea2.out; have := eb1.out; have := eb2.out; have := em1.out; have := em2.out; first | (unfold wrap64; omega) | (rw [Int.tmod_eq_emod_of_nonneg (by omega)]; omega)⟩⟩
                    obtain ⟨m4, hm4, em4⟩ : ∃ y_, Int.tmod m3 5 = y_ ∧ Aside0 (y_ = (((2 * K3 + 3 * K2) % 5 : Nat) : Int)) := ⟨_, rfl, ⟨by have := HK2.out; have := HC2.out; have := HK3.out; have := HC3.out; have := HS.out; have := ea1.out; have := ea2.out; have := eb1.out; have := eb2.out; have := em1.out; have := em2.out; have := em3.out; first | (unfold wrap64; omega) | (rw [Int.tmod_eq_emod_of_nonneg (by omega)]; omega)⟩⟩
                    obtain ⟨m5, hm5, em5⟩ : ∃ y_, wrap64 (5 * m4) = y_ ∧ Aside0 (y_ = ((5 * ((2 * K3 + 3 * K2) % 5) : Nat) : Int)) := ⟨_, rfl, ⟨by have := HK2.out; have := HC2.out; have := HK3.out; have := HC3.out; have := HS.out; have := ea1.out; have := ea2.out; have := eb1.out; have := eb2.out; have := em1.out; have := em2.out; have := em3.out; have := em4.out; first | (unfold wrap64; omega) | (rw [Int.tmod_eq_emod_of_nonneg (by omega)]; omega)⟩⟩
                    obtain ⟨m6, hm6, em6⟩ : ∃ y_, wrap64 (y + m5) = y_ ∧ Aside0 (y_ = ((K2 + 5 * ((2 * K3 + 3 * K2) % 5) : Nat) : Int)) := ⟨_, rfl, ⟨by have := HK2.out; have := HC2.out; have := HK3.out; have := HC3.out; have := HS.out; have := ea1.out; have := ea2.out; have := eb1.out; have := eb2.out; have := em1.out; have := em2.out; have := em3.out; have := em4.out; have := em5.out; first | (unfold wrap64; omega) | (rw [Int.tmod_eq_emod_of_nonneg (by omega)]; omega)⟩⟩
                    obtain ⟨z1, hz1, ez1⟩ : ∃ y_, wrap64 (5 * y) = y_ ∧ Aside0 (y_ = ((5 * K2 : Nat) : Int)) := ⟨_, rfl, ⟨by have := HK2.out; have := HC2.out; have := HK3.out; have := HC3.out; have := HS.out; have := ea1.out; have := ea2.out; have := eb1.out; have := eb2.out; have := em1.out; have := em2.out; have := em3.out; have := em4.out; have := em5.out; have := em6.out; first | (unfold wrap64; omega) | (rw [Int.tmod_eq_emod_of_nonneg (by omega)]; omega)⟩⟩
                    obtain ⟨z2, hz2, ez2⟩ : ∃ y_, wrap64 (x + z1) = y_ ∧ Aside0 (y_ = ((K3 + 5 * K2 : Nat) : Int)) := ⟨_, rfl, ⟨by have := HK2.out; have := HC2.out; have := HK3.out; have := HC3.out; have := HS.out; have := ea1.out; have := ea2.out; have := eb1.out; have := eb2.out; have := em1.out; have := em2.out; have := em3.out; have := em4.out; have := em5.out; have := em6.out; have := ez1.out; first | (unfold wrap64; omega) | (rw [Int.tmod_eq_emod_of_nonneg (by omega)]; omega)⟩⟩
                    have pm6 : (0 ≤ m6) = True := eq_true (by have := HK2.out; have := HC2.out; have := HK3.out; have := HC3.out; have := HS.out; have := ea1.out; have := ea2.out; have := eb1.out; have := eb2.out; have := em1.out; have := em2.out; have := em3.out; have := em4.out; have := em5.out; have := em6.out; have := ez1.out; have := ez2.out; omega)
                    have qm6_25 : (m6 < 25) = True := eq_true (by have := HK2.out; have := HC2.out; have := HK3.out; have := HC3.out; have := HS.out; have := ea1.out; have := ea2.out; have := eb1.out; have := eb2.out; have := em1.out; have := em2.out; have := em3.out; have := em4.out; have := em5.out; have := em6.out; have := ez1.out; have := ez2.out; omega)
                    have pz2 : (0 ≤ z2) = True := eq_true (by have := HK2.out; have := HC2.out; have := HK3.out; have := HC3.out; have := HS.out; have := ea1.out; have := ea2.out; have := eb1.out; have := eb2.out; have := em1.out; have := em2.out; have := em3.out; have := em4.out; have := em5.out; have := em6.out; have := ez1.out; have := ez2.out; omega)
                    have qz2_25 : (z2 < 25) = True := eq_true (by have := HK2.out; have := HC2.out; have := HK3.out; have := HC3.out; have := HS.out; have := ea1.out; have := ea2.out; have := eb1.out; have := eb2.out; have := em1.out; have := em2.out; have := em3.out; have := em4.out; have := em5.out; have := em6.out; have := ez1.out; have := ez2.out; omega)
                    have hd0 : wr.cell? ⟨g, z2.toNat, none⟩ = some (.int .u64 (ga (s) z2.toNat)) := (blk_cell BKs.out _).trans (ue_get (by rw [HS.out]; have := HK2.out; have := HC2.out; have := HK3.out; have := HC3.out; have := HS.out; have := ea1.out; have := ea2.out; have := eb1.out; have := eb2.out; have := em1.out; have := em2.out; have := em3.out; have := em4.out; have := em5.out; have := em6.out; have := ez1.out; have := ez2.out; omega))
                    have hd1 : wr.cell? ⟨0, z2.toNat, none⟩ = some (.int .i64 (ga turnsL z2.toNat)) := (HB.out.cell (p := ⟨0, z2.toNat, none⟩) HT.out.s.1).trans (HT.out.t _ (by have := HK2.out; have := HC2.out; have := HK3.out; have := HC3.out; have := HS.out; have := ea1.out; have := ea2.out; have := eb1.out; have := eb2.out; have := em1.out; have := em2.out; have := em3.out; have := em4.out; have := em5.out; have := em6.out; have := ez1.out; have := ez2.out; omega))
                    have hst : wr.cell? ⟨gb, m6.toNat, none⟩ = some (.int .u64 (ga (bst s (cst s 5) (5 * K2 + K3)) m6.toNat)) := (blk_cell BKb.out _).trans (ue_get (by rw [bst_len]; have := HK2.out; have := HC2.out; have := HK3.out; have := HC3.out; have := HS.out; have := ea1.out; have := ea2.out; have := eb1.out; have := eb2.out; have := em1.out; have := em2.out; have := em3.out; have := em4.out; have := em5.out; have := em6.out; have := ez1.out; have := ez2.out; omega))
                    have hfz : wr.frozen? ⟨gb, m6.toNat, none⟩ = false := blk_frozen BKb.out _
                    have hz25 : z2.toNat < 25 := by have := HK2.out; have := HC2.out; have := HK3.out; have := HC3.out; have := HS.out; have := ea1.out; have := ea2.out; have := eb1.out; have := eb2.out; have := em1.out; have := em2.out; have := em3.out; have := em4.out; have := em5.out; have := em6.out; have := ez1.out; have := ez2.out; omega
                    have HR := rot_f (v := Go.bits .xor .u64 (ga s z2.toNat) (Go.bits .xor .u64 (ga (cst s 5) a2.toNat) (rl (ga (cst s 5) b2.toNat) 1))) (rok_turns ⟨z2.toNat, hz25⟩)
                    have HRb := Aside0.mk (show bits_RotateLeft64.f (Go.bits .xor .u64 (ga s z2.toNat) (Go.bits .xor .u64 (ga (cst s 5) a2.toNat) (rl (ga (cst s 5) b2.toNat) 1))) (ga turnsL z2.toNat) = some (rl (Go.bits .xor .u64 (ga s z2.toNat) (Go.bits .xor .u64 (ga (cst s 5) a2.toNat) (rl (ga (cst s 5) b2.toNat) 1))) (ga turnsL z2.toNat)) from HR)
                    clear HR hz25
                    go_wp2
                    refine start_ (n := 28) (S := fun w' => w'.cell? ⟨g, z2.toNat, none⟩ = some (.int .u64 (ga (s) z2.toNat)) ∧ w'.cell? ⟨0, z2.toNat, none⟩ = some (.int .i64 (ga turnsL z2.toNat))) (ds := [27]) #[false, false, false, false, false, false, false, false, false, false, false, false, false, false, false, false, false, false, false, false, false, false, false, false, false, false, false, false] (by kernel_rfl) rfl rfl ⟨(by exact hd0), (by exact hd1)⟩ (fun hHeld => ?_)
                    refine with_tabW impl_round.tab14 impl_round.bits14 (fun HT_ HW_ => ?_)
                    refine pure_ (i := 0) (N := some 69) (v := ?_) (a' := ?_) #[true, false, false, false, false, false, false, false, false, false, false, false, false, false, false, false, false, false, false, false, false, false, false, false, false, false, false, false] rfl rfl (any_of HT_.out (by kernel_rfl)) (fun _ _ _ h => h) (Or.inl ⟨by rfl, ?_⟩) ?_ ?_
                    rotate_left
                    · intro w'
                      go_simp
                      with_reducible rfl
                    rotate_left
                    · simp only [Act.put, List.setIfInBounds_toArray, List.set_cons_zero, List.set_cons_succ, i64_w, i32_w]
                      rfl
                    refine pure_ (i := 1) (N := some 70) (v := ?_) (a' := ?_) #[true, true, false, false, false, false, false, false, false, false, false, false, false, false, false, false, false, false, false, false, false, false, false, false, false, false, false, false] rfl rfl (any_of HT_.out (by kernel_rfl)) (fun _ _ _ h => h) (Or.inl ⟨by rfl, ?_⟩) ?_ ?_
                    rotate_left
                    · intro w'
                      go_simp
                      with_reducible rfl
                    rotate_left
                    · simp only [Act.put, List.setIfInBounds_toArray, List.set_cons_zero, List.set_cons_succ, i64_w, i32_w]
                      rfl
                    refine pure_ (i := 2) (N := some 71) (v := ?_) (a' := ?_) #[true, true, true, false, false, false, false, false, false, false, false, false, false, false, false, false, false, false, false, false, false, false, false, false, false, false, false, false] rfl rfl (any_of HT_.out (by kernel_rfl)) (fun _ _ _ h => h) (Or.inl ⟨by rfl, ?_⟩) ?_ ?_
                    rotate_left
                    · intro w'
                      go_simp
                      with_reducible rfl
                    rotate_left
                    · simp only [Act.put, List.setIfInBounds_toArray, List.set_cons_zero, List.set_cons_succ, i64_w, i32_w]
                      rfl
                    refine pure_ (i := 3) (N := some 72) (v := ?_) (a' := ?_) #[true, true, true, true, false, false, false, false, false, false, false, false, false, false, false, false, false, false, false, false, false, false, false, false, false, false, false, false] rfl rfl (any_of HT_.out (by kernel_rfl)) (fun _ _ _ h => h) (Or.inl ⟨by rfl, ?_⟩) ?_ ?_
                    rotate_left
                    · intro w'
                      go_simp
                      with_reducible rfl
                    rotate_left
                    · simp only [Act.put, List.setIfInBounds_toArray, List.set_cons_zero, List.set_cons_succ, i64_w, i32_w]
                      rfl
                    refine pure_ (i := 4) (N := some 73) (v := ?_) (a' := ?_) #[true, true, true, true, true, false, false, false, false, false, false, false, false, false, false, false, false, false, false, false, false, false, false, false, false, false, false, false] rfl rfl (any_of HT_.out (by kernel_rfl)) (fun _ _ _ h => h) (Or.inl ⟨by rfl, ?_⟩) ?_ ?_
                    rotate_left
                    · intro w'
                      go_simp
                      with_reducible rfl
                    rotate_left
                    · simp only [Act.put, List.setIfInBounds_toArray, List.set_cons_zero, List.set_cons_succ, i64_w, i32_w]
                      rfl
                    refine pure_ (i := 5) (N := some 74) (v := ?_) (a' := ?_) #[true, true, true, true, true, true, false, false, false, false, false, false, false, false, false, false, false, false, false, false, false, false, false, false, false, false, false, false] rfl rfl (any_of HT_.out (by kernel_rfl)) (fun _ _ _ h => h) (Or.inl ⟨by rfl, ?_⟩) ?_ ?_
                    rotate_left
                    · intro w'
                      go_simp
                      with_reducible rfl
                    rotate_left
                    · simp only [Act.put, List.setIfInBounds_toArray, List.set_cons_zero, List.set_cons_succ, i64_w, i32_w]
                      rfl
                    refine pure_ (i := 6) (N := some 75) (v := ?_) (a' := ?_) #[true, true, true, true, true, true, true, false, false, false, false, false, false, false, false, false, false, false, false, false, false, false, false, false, false, false, false, false] rfl rfl (any_of HT_.out (by kernel_rfl)) (fun _ _ _ h => h) (Or.inl ⟨by rfl, ?_⟩) ?_ ?_
                    rotate_left
                    · intro w'
                      go_simp
                      with_reducible rfl
                    rotate_left
                    · simp only [Act.put, List.setIfInBounds_toArray, List.set_cons_zero, List.set_cons_succ, i64_w, i32_w]
                      rfl
                    refine pure_ (i := 7) (N := some 76) (v := ?_) (a' := ?_) #[true, true, true, true, true, true, true, true, false, false, false, false, false, false, false, false, false, false, false, false, false, false, false, false, false, false, false, false] rfl rfl (any_of HT_.out (by kernel_rfl)) (fun _ _ _ h => h) (Or.inl ⟨by rfl, ?_⟩) ?_ ?_
                    rotate_left
                    · intro w'
                      go_simp
                      with_reducible rfl
                    rotate_left
                    · simp only [Act.put, List.setIfInBounds_toArray, List.set_cons_zero, List.set_cons_succ, i64_w, i32_w]
                      rfl
                    refine pure_ (i := 8) (N := some 77) (v := ?_) (a' := ?_) #[true, true, true, true, true, true, true, true, true, false, false, false, false, false, false, false, false, false, false, false, false, false, false, false, false, false, false, false] rfl rfl (any_of HT_.out (by kernel_rfl)) (fun _ _ _ h => h) (Or.inl ⟨by rfl, ?_⟩) ?_ ?_
                    rotate_left
                    · intro w'
                      go_simp
                      with_reducible rfl
                    rotate_left
                    · simp only [Act.put, List.setIfInBounds_toArray, List.set_cons_zero, List.set_cons_succ, i64_w, i32_w]
                      rfl
                    refine pure_ (i := 9) (N := some 78) (v := ?_) (a' := ?_) #[true, true, true, true, true, true, true, true, true, true, false, false, false, false, false, false, false, false, false, false, false, false, false, false, false, false, false, false] rfl rfl (any_of HT_.out (by kernel_rfl)) (fun _ _ _ h => h) (Or.inl ⟨by rfl, ?_⟩) ?_ ?_
                    rotate_left
                    · intro w'
                      go_simp
                      with_reducible rfl
                    rotate_left
                    · simp only [Act.put, List.setIfInBounds_toArray, List.set_cons_zero, List.set_cons_succ, i64_w, i32_w]
                      rfl
                    refine pure_ (i := 10) (N := some 79) (v := ?_) (a' := ?_) #[true, true, true, true, true, true, true, true, true, true, true, false, false, false, false, false, false, false, false, false, false, false, false, false, false, false, false, false] rfl rfl (any_of HT_.out (by kernel_rfl)) (fun _ _ _ h => h) (Or.inl ⟨by rfl, ?_⟩) ?_ ?_
                    rotate_left
                    · intro w'
                      go_simp
                      with_reducible rfl
                    rotate_left
                    · simp only [Act.put, List.setIfInBounds_toArray, List.set_cons_zero, List.set_cons_succ, i64_w, i32_w]
                      rfl
                    refine pure_ (i := 11) (N := some 80) (v := ?_) (a' := ?_) #[true, true, true, true, true, true, true, true, true, true, true, true, false, false, false, false, false, false, false, false, false, false, false, false, false, false, false, false] rfl rfl (any_of HT_.out (by kernel_rfl)) (fun _ _ _ h => h) (Or.inl ⟨by rfl, ?_⟩) ?_ ?_
                    rotate_left
                    · intro w'
                      go_simp
                      with_reducible rfl
                    rotate_left
                    · simp only [Act.put, List.setIfInBounds_toArray, List.set_cons_zero, List.set_cons_succ, i64_w, i32_w]
                      rfl
                    refine pure_ (i := 12) (N := some 81) (v := ?_) (a' := ?_) #[true, true, true, true, true, true, true, true, true, true, true, true, true, false, false, false, false, false, false, false, false, false, false, false, false, false, false, false] rfl rfl (any_of HT_.out (by kernel_rfl)) (fun _ _ _ h => h) (Or.inl ⟨by rfl, ?_⟩) ?_ ?_
                    rotate_left
                    · intro w'
                      go_simp
                      with_reducible rfl
                    rotate_left
                    · simp only [Act.put, List.setIfInBounds_toArray, List.set_cons_zero, List.set_cons_succ, i64_w, i32_w]
                      rfl
                    refine pure_ (i := 13) (N := some 82) (v := ?_) (a' := ?_) #[true, true, true, true, true, true, true, true, true, true, true, true, true, true, false, false, false, false, false, false, false, false, false, false, false, false, false, false] rfl rfl (any_of HT_.out (by kernel_rfl)) (fun _ _ _ h => h) (Or.inl ⟨by rfl, ?_⟩) ?_ ?_
                    rotate_left
                    · intro w'
                      go_simp
                      with_reducible rfl
                    rotate_left
                    · simp only [Act.put, List.setIfInBounds_toArray, List.set_cons_zero, List.set_cons_succ, i64_w, i32_w]
                      rfl
                    refine pure_ (i := 14) (N := some 83) (v := ?_) (a' := ?_) #[true, true, true, true, true, true, true, true, true, true, true, true, true, true, true, false, false, false, false, false, false, false, false, false, false, false, false, false] rfl rfl (any_of HT_.out (by kernel_rfl)) (fun _ _ _ h => h) (Or.inl ⟨by rfl, ?_⟩) ?_ ?_
                    rotate_left
                    · intro w'
                      go_simp
                      with_reducible rfl
                    rotate_left
                    · simp only [Act.put, List.setIfInBounds_toArray, List.set_cons_zero, List.set_cons_succ, i64_w, i32_w]
                      rfl
                    refine pure_ (i := 15) (N := some 84) (v := ?_) (a' := ?_) #[true, true, true, true, true, true, true, true, true, true, true, true, true, true, true, true, false, false, false, false, false, false, false, false, false, false, false, false] rfl rfl (any_of HT_.out (by kernel_rfl)) (fun _ _ _ h => h) (Or.inl ⟨by rfl, ?_⟩) ?_ ?_
                    rotate_left
                    · intro w'
                      go_simp
                      with_reducible rfl
                    rotate_left
                    · simp only [Act.put, List.setIfInBounds_toArray, List.set_cons_zero, List.set_cons_succ, i64_w, i32_w]
                      rfl
                    refine pure_ (i := 17) (N := some 86) (v := ?_) (a' := ?_) #[true, true, true, true, true, true, true, true, true, true, true, true, true, true, true, true, false, true, false, false, false, false, false, false, false, false, false, false] rfl rfl (any_of HT_.out (by kernel_rfl)) (fun _ _ _ h => h) (Or.inl ⟨by rfl, ?_⟩) ?_ ?_
                    rotate_left
                    · intro w'
                      go_simp
                      with_reducible rfl
                    rotate_left
                    · simp only [Act.put, List.setIfInBounds_toArray, List.set_cons_zero, List.set_cons_succ, i64_w, i32_w]
                      rfl
                    refine pure_ (i := 19) (N := some 88) (v := ?_) (a' := ?_) #[true, true, true, true, true, true, true, true, true, true, true, true, true, true, true, true, false, true, false, true, false, false, false, false, false, false, false, false] rfl rfl (any_of HT_.out (by kernel_rfl)) (fun _ _ _ h => h) (Or.inl ⟨by rfl, ?_⟩) ?_ ?_
                    rotate_left
                    · intro w'
                      go_simp
                      with_reducible rfl
                    rotate_left
                    · simp only [Act.put, List.setIfInBounds_toArray, List.set_cons_zero, List.set_cons_succ, i64_w, i32_w]
                      rfl
                    refine pure_ (i := 20) (N := some 89) (v := ?_) (a' := ?_) #[true, true, true, true, true, true, true, true, true, true, true, true, true, true, true, true, false, true, false, true, true, false, false, false, false, false, false, false] rfl rfl (any_of HT_.out (by kernel_rfl)) (fun _ _ _ h => h) (Or.inl ⟨by rfl, ?_⟩) ?_ ?_
                    rotate_left
                    · intro w'
                      go_simp
                      with_reducible rfl
                    rotate_left
                    · simp only [Act.put, List.setIfInBounds_toArray, List.set_cons_zero, List.set_cons_succ, i64_w, i32_w]
                      rfl
                    refine pure_ (i := 21) (N := some 90) (v := ?_) (a' := ?_) #[true, true, true, true, true, true, true, true, true, true, true, true, true, true, true, true, false, true, false, true, true, true, false, false, false, false, false, false] rfl rfl (any_of HT_.out (by kernel_rfl)) (fun _ _ _ h => h) (Or.inl ⟨by rfl, ?_⟩) ?_ ?_
                    rotate_left
                    · intro w'
                      go_simp
                      with_reducible rfl
                    rotate_left
                    · simp only [Act.put, List.setIfInBounds_toArray, List.set_cons_zero, List.set_cons_succ, i64_w, i32_w]
                      rfl
                    refine pure_ (i := 22) (N := some 91) (v := ?_) (a' := ?_) #[true, true, true, true, true, true, true, true, true, true, true, true, true, true, true, true, false, true, false, true, true, true, true, false, false, false, false, false] rfl rfl (any_of HT_.out (by kernel_rfl)) (fun _ _ _ h => h) (Or.inl ⟨by rfl, ?_⟩) ?_ ?_
                    rotate_left
                    · intro w'
                      go_simp
                      with_reducible rfl
                    rotate_left
                    · simp only [Act.put, List.setIfInBounds_toArray, List.set_cons_zero, List.set_cons_succ, i64_w, i32_w]
                      rfl
                    refine pure_ (i := 23) (N := some 92) (v := ?_) (a' := ?_) #[true, true, true, true, true, true, true, true, true, true, true, true, true, true, true, true, false, true, false, true, true, true, true, true, false, false, false, false] rfl rfl (any_of HT_.out (by kernel_rfl)) (fun _ _ _ h => h) (Or.inl ⟨by rfl, ?_⟩) ?_ ?_
                    rotate_left
                    · intro w'
                      go_simp
                      with_reducible rfl
                    rotate_left
                    · simp only [Act.put, List.setIfInBounds_toArray, List.set_cons_zero, List.set_cons_succ, i64_w, i32_w]
                      rfl
                    refine take_ (i := 16) (N := some 85) (v := ?_) (a' := ?_) #[true, true, true, true, true, true, true, true, true, true, true, true, true, true, true, true, true, true, false, true, true, true, true, true, false, false, false, false] rfl rfl (take_ofW HT_.out HW_.out (by kernel_rfl)) (fun _ _ _ h => h) (Or.inl ⟨by rfl, ?_⟩) hHeld ?_ ?_
                    rotate_left
                    · rintro w' ⟨s0, s1⟩
                      go_simp
                      with_reducible rfl
                    rotate_left
                    · simp only [Act.put, List.setIfInBounds_toArray, List.set_cons_zero, List.set_cons_succ, i64_w, i32_w]
                      rfl
                    refine pure_ (i := 18) (N := some 87) (v := ?_) (a' := ?_) #[true, true, true, true, true, true, true, true, true, true, true, true, true, true, true, true, true, true, true, true, true, true, true, true, false, false, false, false] rfl rfl (any_of HT_.out (by kernel_rfl)) (fun _ _ _ h => h) (Or.inl ⟨by rfl, ?_⟩) ?_ ?_
                    rotate_left
                    · intro w'
                      go_simp
                      with_reducible rfl
                    rotate_left
                    · simp only [Act.put, List.setIfInBounds_toArray, List.set_cons_zero, List.set_cons_succ, i64_w, i32_w]
                      rfl
                    refine take_ (i := 24) (N := some 93) (v := ?_) (a' := ?_) #[true, true, true, true, true, true, true, true, true, true, true, true, true, true, true, true, true, true, true, true, true, true, true, true, true, false, false, false] rfl rfl (take_ofW HT_.out HW_.out (by kernel_rfl)) (fun _ _ _ h => h) (Or.inl ⟨by rfl, ?_⟩) hHeld ?_ ?_
                    rotate_left
                    · rintro w' ⟨s0, s1⟩
                      go_simp
                      with_reducible rfl
                    rotate_left
                    · simp only [Act.put, List.setIfInBounds_toArray, List.set_cons_zero, List.set_cons_succ, i64_w, i32_w]
                      rfl
                    refine one_ (i := 25) (N := some 94) #[true, true, true, true, true, true, true, true, true, true, true, true, true, true, true, true, true, true, true, true, true, true, true, true, true, true, false, false] rfl rfl (one_of HT_.out (by kernel_rfl)) (by decide) (fun K hK => ?_)
                    refine goes_ Tryd.func101 (by kernel_rfl) rfl #[.int .u64 (Go.bits .xor .u64 (ga s z2.toNat) (Go.bits .xor .u64 (ga (cst s 5) a2.toNat) (rl (ga (cst s 5) b2.toNat) 1))), .int .i64 (ga turnsL z2.toNat)] (by rfl) rfl rfl (by simp only [List.map_toArray, List.map_cons, List.map_nil]; rfl) ?_
                    with_reducible refine (bits_RotateLeft64.calls _ _ _ _ HRb.out).mono ?_
                    rintro e w3_ ⟨rfl, ⟨nd, rfl⟩⟩
                    refine ⟨_, rfl, ?_⟩
                    refine hK.out _ _ ⟨(by exact hHeld.1), (by exact hHeld.2)⟩ (fun hHeld => ?_)
                    clear hK K
                    refine norm_ (a' := ?_) ?_ ?_
                    rotate_left
                    · show Act.put _ (some 94) _ = _
                      simp only [Act.put, List.setIfInBounds_toArray, List.set_cons_zero, List.set_cons_succ, i64_w, i32_w]
                      rfl
                    refine pure_ (i := 26) (N := some 95) (v := ?_) (a' := ?_) #[true, true, true, true, true, true, true, true, true, true, true, true, true, true, true, true, true, true, true, true, true, true, true, true, true, true, true, false] rfl rfl (any_of HT_.out (by kernel_rfl)) (fun _ _ _ h => h) (Or.inl ⟨by rfl, ?_⟩) ?_ ?_
                    rotate_left
                    · intro w'
                      go_simp
                      with_reducible rfl
                    rotate_left
                    · simp only [Act.put, List.setIfInBounds_toArray, List.set_cons_zero, List.set_cons_succ, i64_w, i32_w]
                      rfl
                    refine last_ (i := 27) (N := none) #[true, true, true, true, true, true, true, true, true, true, true, true, true, true, true, true, true, true, true, true, true, true, true, true, true, true, true, true] rfl rfl (one_of HT_.out (by kernel_rfl)) (by decide) (fun K hK => ?_)
                    refine skip_ (w1 := ?_) (by rfl) rfl ?_ ?_
                    rotate_left
                    · go_simp
                      rfl
                    refine hK.out _ _ ?_
                    clear hK K
                    refine done_ (done_of HT_.out (by kernel_rfl)) ?_
                    go_wp2
                    go_roundg k3
                    case measure => omega
                    case rel => exact ⟨K3 + 1, _, rfl, ⟨by have := HK2.out; have := HC2.out; have := HK3.out; have := HC3.out; have := HS.out; have := ea1.out; have := ea2.out; have := eb1.out; have := eb2.out; have := em1.out; have := em2.out; have := em3.out; have := em4.out; have := em5.out; have := em6.out; have := ez1.out; have := ez2.out; first | omega | (unfold wrap64; omega), by have := HK2.out; have := HC2.out; have := HK3.out; have := HC3.out; have := HS.out; have := ea1.out; have := ea2.out; have := eb1.out; have := eb2.out; have := em1.out; have := em2.out; have := em3.out; have := em4.out; have := em5.out; have := em6.out; have := ez1.out; have := ez2.out; omega, by have := HK2.out; have := HC2.out; have := HK3.out; have := HC3.out; have := HS.out; have := ea1.out; have := ea2.out; have := eb1.out; have := eb2.out; have := em1.out; have := em2.out; have := em3.out; have := em4.out; have := em5.out; have := em6.out; have := ez1.out; have := ez2.out; omega⟩, ⟨by (with_reducible repeat (first | refine blk_drewN ?_ _ | refine blk_drew ?_)); refine blk_far ?_ (p := ⟨gb, _, none⟩) NEcb.out _; (with_reducible repeat (first | refine blk_drewN ?_ _ | refine blk_drew ?_)); exact BKc.out⟩, ⟨by (with_reducible repeat (first | refine blk_drewN ?_ _ | refine blk_drew ?_)); refine blk_far ?_ (p := ⟨gb, _, none⟩) NEsb.out _; (with_reducible repeat (first | refine blk_drewN ?_ _ | refine blk_drew ?_)); exact BKs.out⟩, ⟨by (with_reducible repeat (first | refine blk_drewN ?_ _ | refine blk_drew ?_)); refine blk_put (cs := ue (bst s (cst s 5) (5 * K2 + K3))) (by (with_reducible repeat (first | refine blk_drewN ?_ _ | refine blk_drew ?_)); exact BKb.out) m6.toNat _ ?_; rw [ue_set, bst_succ s _ (by have := HK2.out; have := HC2.out; have := HK3.out; have := HC3.out; have := HS.out; have := ea1.out; have := ea2.out; have := eb1.out; have := eb2.out; have := em1.out; have := em2.out; have := em3.out; have := em4.out; have := em5.out; have := em6.out; have := ez1.out; have := ez2.out; omega)]; simp only [bat, dd]; rw [show m6.toNat = K2 + 5 * ((2 * K3 + 3 * K2) % 5) by have := HK2.out; have := HC2.out; have := HK3.out; have := HC3.out; have := HS.out; have := ea1.out; have := ea2.out; have := eb1.out; have := eb2.out; have := em1.out; have := em2.out; have := em3.out; have := em4.out; have := em5.out; have := em6.out; have := ez1.out; have := ez2.out; omega, show z2.toNat = K3 + 5 * K2 by have := HK2.out; have := HC2.out; have := HK3.out; have := HC3.out; have := HS.out; have := ea1.out; have := ea2.out; have := eb1.out; have := eb2.out; have := em1.out; have := em2.out; have := em3.out; have := em4.out; have := em5.out; have := em6.out; have := ez1.out; have := ez2.out; omega, show a2.toNat = (K3 + 4) % 5 by have := HK2.out; have := HC2.out; have := HK3.out; have := HC3.out; have := HS.out; have := ea1.out; have := ea2.out; have := eb1.out; have := eb2.out; have := em1.out; have := em2.out; have := em3.out; have := em4.out; have := em5.out; have := em6.out; have := ez1.out; have := ez2.out; omega, show b2.toNat = (K3 + 1) % 5 by have := HK2.out; have := HC2.out; have := HK3.out; have := HC3.out; have := HS.out; have := ea1.out; have := ea2.out; have := eb1.out; have := eb2.out; have := em1.out; have := em2.out; have := em3.out; have := em4.out; have := em5.out; have := em6.out; have := ez1.out; have := ez2.out; omega]⟩, ⟨(by repeat (first | exact HB.out | apply Below.drew | apply pw_below_drewN | refine Below.setCell ?_ GEs.out _ | refine Below.setCell ?_ GEc.out _ | refine Below.setCell ?_ GEb.out _))⟩⟩
                  · have c0 : decide (x < 5) = false := decide_eq_false (by have := HK3.out; omega)
                    obtain rfl : K3 = 5 := by have := HK3.out; omega
                    clear c HK3
                    go_wp2
                    go_roundg k2
                    case measure => omega
                    case rel => exact ⟨K2 + 1, _, rfl, ⟨by have := HK2.out; have := HC2.out; first | omega | (unfold wrap64; omega), by have := HK2.out; have := HC2.out; omega, by have := HK2.out; have := HC2.out; omega⟩, ⟨by (with_reducible repeat (first | refine blk_drewN ?_ _ | refine blk_drew ?_)); exact BKc.out⟩, ⟨by (with_reducible repeat (first | refine blk_drewN ?_ _ | refine blk_drew ?_)); exact BKs.out⟩, ⟨by rw [show 5 * (K2 + 1) = 5 * K2 + 5 by omega]; (with_reducible repeat (first | refine blk_drewN ?_ _ | refine blk_drew ?_)); exact BKb.out⟩, ⟨(by repeat (first | exact HB.out | apply Below.drew | apply pw_below_drewN | refine Below.setCell ?_ GEs.out _ | refine Below.setCell ?_ GEc.out _ | refine Below.setCell ?_ GEb.out _))⟩⟩
            · have c0 : decide (y < 5) = false := decide_eq_false (by have := HK2.out; omega)
              obtain rfl : K2 = 5 := by have := HK2.out; omega
              clear c HK2
              go_wp2
              go_loopg [98] 6 (fun kq v98 w' => ∃ (k : Nat) (x : Int), v98 = .int .i64 x ∧ Aside0 (x = (k : Int) ∧ k + kq = 6 ∧ k ≤ 5) ∧ Aside0 (w'.heap[g]? = some (.cells (ue (sst s (bst s (cst s 5) 25) (5 * k))) 90 (0, 0))) ∧ Aside0 (w'.heap[gb]? = some (.cells (ue (bst s (cst s 5) 25)) 90 (0, 0))) ∧ Aside0 (Below w0.heap.size w0 w'))
              case atStart => exact ⟨0, 0, rfl, ⟨rfl, rfl, by decide⟩, ⟨by (with_reducible repeat (first | refine blk_drewN ?_ _ | refine blk_drew ?_)); exact BKs.out⟩, ⟨by (with_reducible repeat (first | refine blk_drewN ?_ _ | refine blk_drew ?_)); exact BKb.out⟩, ⟨(by repeat (first | exact HB.out | apply Below.drew | apply pw_below_drewN | refine Below.setCell ?_ GEs.out _ | refine Below.setCell ?_ GEc.out _ | refine Below.setCell ?_ GEb.out _))⟩⟩
              case round =>
                clear BKc BKs BKb HB
                clear c0
                obtain ⟨K2, y, rfl, HK2, BKs, BKb, HB⟩ := hrel
                cases gk with
                | zero => exact absurd HK2.out (by omega)
                | succ k2 =>
                  by_cases c : K2 < 5
                  · have c0 : decide (y < 5) = true := decide_eq_true (by have := HK2.out; omega)
                    have HC2 := Aside0.mk c
                    clear c
                    go_wp2
                    go_loopg [101] 6 (fun kq v101 w' => ∃ (k : Nat) (x : Int), v101 = .int .i64 x ∧ Aside0 (x = (k : Int) ∧ k + kq = 6 ∧ k ≤ 5) ∧ Aside0 (w'.heap[g]? = some (.cells (ue (sst s (bst s (cst s 5) 25) (5 * K2 + k))) 90 (0, 0))) ∧ Aside0 (w'.heap[gb]? = some (.cells (ue (bst s (cst s 5) 25)) 90 (0, 0))) ∧ Aside0 (Below w0.heap.size w0 w'))
                    case atStart => exact ⟨0, 0, rfl, ⟨rfl, rfl, by decide⟩, ⟨by (with_reducible repeat (first | refine blk_drewN ?_ _ | refine blk_drew ?_)); exact BKs.out⟩, ⟨by (with_reducible repeat (first | refine blk_drewN ?_ _ | refine blk_drew ?_)); exact BKb.out⟩, ⟨(by repeat (first | exact HB.out | apply Below.drew | apply pw_below_drewN | refine Below.setCell ?_ GEs.out _ | refine Below.setCell ?_ GEc.out _ | refine Below.setCell ?_ GEb.out _))⟩⟩
                    case round =>
                      clear BKs BKb HB
                      clear c0
                      obtain ⟨K3, x, rfl, HK3, BKs, BKb, HB⟩ := hrel
                      cases gk with
                      | zero => exact absurd HK3.out (by omega)
                      | succ k3 =>
                        by_cases c : K3 < 5
                        · have c0 : decide (x < 5) = true := decide_eq_true (by have := HK3.out; omega)
                          have HC3 := Aside0.mk c
                          clear c
                          obtain ⟨z1, hz1, ez1⟩ : ∃ y_, wrap64 (5 * y) = y_ ∧ Aside0 (y_ = ((5 * K2 : Nat) : Int)) := ⟨_, rfl, ⟨by have := HK2.out; have := HC2.out; have := HK3.out; have := HC3.out; have := HS.out; first | (unfold wrap64; omega) | (rw [Int.tmod_eq_emod_of_nonneg (by omega)]; omega)⟩⟩
                          obtain ⟨z2, hz2, ez2⟩ : ∃ y_, wrap64 (x + z1) = y_ ∧ Aside0 (y_ = ((K3 + 5 * K2 : Nat) : Int)) := ⟨_, rfl, ⟨by have := HK2.out; have := HC2.out; have := HK3.out; have := HC3.out; have := HS.out; have := ez1.out; first | (unfold wrap64; omega) | (rw [Int.tmod_eq_emod_of_nonneg (by omega)]; omega)⟩⟩
                          obtain ⟨c1, hc1, ec1⟩ : ∃ y_, wrap64 (x + 1) = y_ ∧ Aside0 (y_ = ((K3 + 1 : Nat) : Int)) := ⟨_, rfl, ⟨by have := HK2.out; have := HC2.out; have := HK3.out; have := HC3.out; have := HS.out; have := ez1.out; have := ez2.out; first | (unfold wrap64; omega) | (rw [Int.tmod_eq_emod_of_nonneg (by omega)]; omega)⟩⟩
                          obtain ⟨c2, hc2, ec2⟩ : ∃ y_, Int.tmod c1 5 = y_ ∧ Aside0 (y_ = (((K3 + 1) % 5 : Nat) : Int)) := ⟨_, rfl, ⟨by have := HK2.out; have := HC2.out; have := HK3.out; have := HC3.out; have := HS.out; have := ez1.out; have := ez2.out; have := ec1.out; first | (unfold wrap64; omega) | (rw [Int.tmod_eq_emod_of_nonneg (by omega)]; omega)⟩⟩
                          obtain ⟨c3, hc3, ec3⟩ : ∃ y_, wrap64 (c2 + z1) = y_ ∧ Aside0 (y_ = (((K3 + 1) % 5 + 5 * K2 : Nat) : Int)) := ⟨_, rfl, ⟨by have := HK2.out; have := HC2.out; have := HK3.out; have := HC3.out; have := HS.out; have := ez1.out; have := ez2.out; have := ec1.out; have := ec2.out; first | (unfold wrap64; omega) | (rw [Int.tmod_eq_emod_of_nonneg (by omega)]; omega)⟩⟩
                          obtain ⟨d1, hd1, ed1⟩ : ∃ y_, wrap64 (x + 2) = y_ ∧ Aside0 (y_ = ((K3 + 2 : Nat) : Int)) := ⟨_, rfl, ⟨by have := HK2.out; have := HC2.out; have := HK3.out; have := HC3.out; have := HS.out; have := ez1.out; have := ez2.out; have := ec1.out; have := ec2.out; have := ec3.out; first | (unfold wrap64; omega) | (rw [Int.tmod_eq_emod_of_nonneg (by omega)]; omega)⟩⟩
                          obtain ⟨d2, hd2, ed2⟩ : ∃ y_, Int.tmod d1 5 = y_ ∧ Aside0 (y_ = (((K3 + 2) % 5 : Nat) : Int)) := ⟨_, rfl, ⟨by have := HK2.out; have := HC2.out; have := HK3.out; have := HC3.out; have := HS.out; have := ez1.out; have := ez2.out; have := ec1.out; have := ec2.out; have := ec3.out; have := ed1.out; first | (unfold wrap64; omega) | (rw [Int.tmod_eq_emod_of_nonneg (by omega)]; omega)⟩⟩
                          obtain ⟨d3, hd3, ed3⟩ : ∃ y_, wrap64 (d2 + z1) = y_ ∧ Aside0 (y_ = (((K3 + 2) % 5 + 5 * K2 : Nat) : Int)) := ⟨_, rfl, ⟨by have := HK2.out; have := HC2.out; have := HK3.out; have := HC3.out; have := HS.out; have := ez1.out; have := ez2.out; have := ec1.out; have := ec2.out; have := ec3.out; have := ed1.out; have := ed2.out; first | (unfold wrap64; omega) | (rw [Int.tmod_eq_emod_of_nonneg (by omega)]; omega)⟩⟩
                          have pz2 : (0 ≤ z2) = True := eq_true (by have := HK2.out; have := HC2.out; have := HK3.out; have := HC3.out; have := HS.out; have := ez1.out; have := ez2.out; have := ec1.out; have := ec2.out; have := ec3.out; have := ed1.out; have := ed2.out; have := ed3.out; omega)
                          have qz2_25 : (z2 < 25) = True := eq_true (by have := HK2.out; have := HC2.out; have := HK3.out; have := HC3.out; have := HS.out; have := ez1.out; have := ez2.out; have := ec1.out; have := ec2.out; have := ec3.out; have := ed1.out; have := ed2.out; have := ed3.out; omega)
                          have pc3 : (0 ≤ c3) = True := eq_true (by have := HK2.out; have := HC2.out; have := HK3.out; have := HC3.out; have := HS.out; have := ez1.out; have := ez2.out; have := ec1.out; have := ec2.out; have := ec3.out; have := ed1.out; have := ed2.out; have := ed3.out; omega)
                          have qc3_25 : (c3 < 25) = True := eq_true (by have := HK2.out; have := HC2.out; have := HK3.out; have := HC3.out; have := HS.out; have := ez1.out; have := ez2.out; have := ec1.out; have := ec2.out; have := ec3.out; have := ed1.out; have := ed2.out; have := ed3.out; omega)
                          have pd3 : (0 ≤ d3) = True := eq_true (by have := HK2.out; have := HC2.out; have := HK3.out; have := HC3.out; have := HS.out; have := ez1.out; have := ez2.out; have := ec1.out; have := ec2.out; have := ec3.out; have := ed1.out; have := ed2.out; have := ed3.out; omega)
                          have qd3_25 : (d3 < 25) = True := eq_true (by have := HK2.out; have := HC2.out; have := HK3.out; have := HC3.out; have := HS.out; have := ez1.out; have := ez2.out; have := ec1.out; have := ec2.out; have := ec3.out; have := ed1.out; have := ed2.out; have := ed3.out; omega)
                          have hc0 : wr.cell? ⟨gb, z2.toNat, none⟩ = some (.int .u64 (ga (bst s (cst s 5) 25) z2.toNat)) := (blk_cell BKb.out _).trans (ue_get (by rw [bst_len]; have := HK2.out; have := HC2.out; have := HK3.out; have := HC3.out; have := HS.out; have := ez1.out; have := ez2.out; have := ec1.out; have := ec2.out; have := ec3.out; have := ed1.out; have := ed2.out; have := ed3.out; omega))
                          have hc1 : wr.cell? ⟨gb, c3.toNat, none⟩ = some (.int .u64 (ga (bst s (cst s 5) 25) c3.toNat)) := (blk_cell BKb.out _).trans (ue_get (by rw [bst_len]; have := HK2.out; have := HC2.out; have := HK3.out; have := HC3.out; have := HS.out; have := ez1.out; have := ez2.out; have := ec1.out; have := ec2.out; have := ec3.out; have := ed1.out; have := ed2.out; have := ed3.out; omega))
                          have hc2 : wr.cell? ⟨gb, d3.toNat, none⟩ = some (.int .u64 (ga (bst s (cst s 5) 25) d3.toNat)) := (blk_cell BKb.out _).trans (ue_get (by rw [bst_len]; have := HK2.out; have := HC2.out; have := HK3.out; have := HC3.out; have := HS.out; have := ez1.out; have := ez2.out; have := ec1.out; have := ec2.out; have := ec3.out; have := ed1.out; have := ed2.out; have := ed3.out; omega))
                          have hst : wr.cell? ⟨g, z2.toNat, none⟩ = some (.int .u64 (ga (sst s (bst s (cst s 5) 25) (5 * K2 + K3)) z2.toNat)) := (blk_cell BKs.out _).trans (ue_get (by rw [sst_len]; have := HK2.out; have := HC2.out; have := HK3.out; have := HC3.out; have := HS.out; have := ez1.out; have := ez2.out; have := ec1.out; have := ec2.out; have := ec3.out; have := ed1.out; have := ed2.out; have := ed3.out; omega))
                          have hfz : wr.frozen? ⟨g, z2.toNat, none⟩ = false := blk_frozen BKs.out _
                          go_wp2
                          refine start_ (n := 33) (S := fun w' => w'.cell? ⟨gb, z2.toNat, none⟩ = some (.int .u64 (ga (bst s (cst s 5) 25) z2.toNat)) ∧ w'.cell? ⟨gb, c3.toNat, none⟩ = some (.int .u64 (ga (bst s (cst s 5) 25) c3.toNat)) ∧ w'.cell? ⟨gb, d3.toNat, none⟩ = some (.int .u64 (ga (bst s (cst s 5) 25) d3.toNat))) (ds := [32]) #[false, false, false, false, false, false, false, false, false, false, false, false, false, false, false, false, false, false, false, false, false, false, false, false, false, false, false, false, false, false, false, false, false] (by kernel_rfl) rfl rfl ⟨hc0, hc1, hc2⟩ (fun hHeld => ?_)
                          refine with_tabW impl_round.tab23 impl_round.bits23 (fun HT_ HW_ => ?_)
                          refine pure_ (i := 0) (N := some 104) (v := ?_) (a' := ?_) #[true, false, false, false, false, false, false, false, false, false, false, false, false, false, false, false, false, false, false, false, false, false, false, false, false, false, false, false, false, false, false, false, false] rfl rfl (any_of HT_.out (by kernel_rfl)) (fun _ _ _ h => h) (Or.inl ⟨by rfl, ?_⟩) ?_ ?_
                          rotate_left
                          · intro w'
                            go_simp
                            with_reducible rfl
                          rotate_left
                          · simp only [Act.put, List.setIfInBounds_toArray, List.set_cons_zero, List.set_cons_succ, i64_w, i32_w]
                            rfl
                          refine pure_ (i := 1) (N := some 105) (v := ?_) (a' := ?_) #[true, true, false, false, false, false, false, false, false, false, false, false, false, false, false, false, false, false, false, false, false, false, false, false, false, false, false, false, false, false, false, false, false] rfl rfl (any_of HT_.out (by kernel_rfl)) (fun _ _ _ h => h) (Or.inl ⟨by rfl, ?_⟩) ?_ ?_
                          rotate_left
                          · intro w'
                            go_simp
                            with_reducible rfl
                          rotate_left
                          · simp only [Act.put, List.setIfInBounds_toArray, List.set_cons_zero, List.set_cons_succ, i64_w, i32_w]
                            rfl
                          refine pure_ (i := 2) (N := some 106) (v := ?_) (a' := ?_) #[true, true, true, false, false, false, false, false, false, false, false, false, false, false, false, false, false, false, false, false, false, false, false, false, false, false, false, false, false, false, false, false, false] rfl rfl (any_of HT_.out (by kernel_rfl)) (fun _ _ _ h => h) (Or.inl ⟨by rfl, ?_⟩) ?_ ?_
                          rotate_left
                          · intro w'
                            go_simp
                            with_reducible rfl
                          rotate_left
                          · simp only [Act.put, List.setIfInBounds_toArray, List.set_cons_zero, List.set_cons_succ, i64_w, i32_w]
                            rfl
                          refine pure_ (i := 3) (N := some 107) (v := ?_) (a' := ?_) #[true, true, true, true, false, false, false, false, false, false, false, false, false, false, false, false, false, false, false, false, false, false, false, false, false, false, false, false, false, false, false, false, false] rfl rfl (any_of HT_.out (by kernel_rfl)) (fun _ _ _ h => h) (Or.inl ⟨by rfl, ?_⟩) ?_ ?_
                          rotate_left
                          · intro w'
                            go_simp
                            with_reducible rfl
                          rotate_left
                          · simp only [Act.put, List.setIfInBounds_toArray, List.set_cons_zero, List.set_cons_succ, i64_w, i32_w]
                            rfl
                          refine pure_ (i := 4) (N := some 108) (v := ?_) (a' := ?_) #[true, true, true, true, true, false, false, false, false, false, false, false, false, false, false, false, false, false, false, false, false, false, false, false, false, false, false, false, false, false, false, false, false] rfl rfl (any_of HT_.out (by kernel_rfl)) (fun _ _ _ h => h) (Or.inl ⟨by rfl, ?_⟩) ?_ ?_
                          rotate_left
                          · intro w'
                            go_simp
                            with_reducible rfl
                          rotate_left
                          · simp only [Act.put, List.setIfInBounds_toArray, List.set_cons_zero, List.set_cons_succ, i64_w, i32_w]
                            rfl
                          refine pure_ (i := 5) (N := some 109) (v := ?_) (a' := ?_) #[true, true, true, true, true, true, false, false, false, false, false, false, false, false, false, false, false, false, false, false, false, false, false, false, false, false, false, false, false, false, false, false, false] rfl rfl (any_of HT_.out (by kernel_rfl)) (fun _ _ _ h => h) (Or.inl ⟨by rfl, ?_⟩) ?_ ?_
                          rotate_left
                          · intro w'
                            go_simp
                            with_reducible rfl
                          rotate_left
                          · simp only [Act.put, List.setIfInBounds_toArray, List.set_cons_zero, List.set_cons_succ, i64_w, i32_w]
                            rfl
                          refine pure_ (i := 6) (N := some 110) (v := ?_) (a' := ?_) #[true, true, true, true, true, true, true, false, false, false, false, false, false, false, false, false, false, false, false, false, false, false, false, false, false, false, false, false, false, false, false, false, false] rfl rfl (any_of HT_.out (by kernel_rfl)) (fun _ _ _ h => h) (Or.inl ⟨by rfl, ?_⟩) ?_ ?_
                          rotate_left
                          · intro w'
                            go_simp
                            with_reducible rfl
                          rotate_left
                          · simp only [Act.put, List.setIfInBounds_toArray, List.set_cons_zero, List.set_cons_succ, i64_w, i32_w]
                            rfl
                          refine pure_ (i := 7) (N := some 111) (v := ?_) (a' := ?_) #[true, true, true, true, true, true, true, true, false, false, false, false, false, false, false, false, false, false, false, false, false, false, false, false, false, false, false, false, false, false, false, false, false] rfl rfl (any_of HT_.out (by kernel_rfl)) (fun _ _ _ h => h) (Or.inl ⟨by rfl, ?_⟩) ?_ ?_
                          rotate_left
                          · intro w'
                            go_simp
                            with_reducible rfl
                          rotate_left
                          · simp only [Act.put, List.setIfInBounds_toArray, List.set_cons_zero, List.set_cons_succ, i64_w, i32_w]
                            rfl
                          refine pure_ (i := 8) (N := some 112) (v := ?_) (a' := ?_) #[true, true, true, true, true, true, true, true, true, false, false, false, false, false, false, false, false, false, false, false, false, false, false, false, false, false, false, false, false, false, false, false, false] rfl rfl (any_of HT_.out (by kernel_rfl)) (fun _ _ _ h => h) (Or.inl ⟨by rfl, ?_⟩) ?_ ?_
                          rotate_left
                          · intro w'
                            go_simp
                            with_reducible rfl
                          rotate_left
                          · simp only [Act.put, List.setIfInBounds_toArray, List.set_cons_zero, List.set_cons_succ, i64_w, i32_w]
                            rfl
                          refine pure_ (i := 9) (N := some 113) (v := ?_) (a' := ?_) #[true, true, true, true, true, true, true, true, true, true, false, false, false, false, false, false, false, false, false, false, false, false, false, false, false, false, false, false, false, false, false, false, false] rfl rfl (any_of HT_.out (by kernel_rfl)) (fun _ _ _ h => h) (Or.inl ⟨by rfl, ?_⟩) ?_ ?_
                          rotate_left
                          · intro w'
                            go_simp
                            with_reducible rfl
                          rotate_left
                          · simp only [Act.put, List.setIfInBounds_toArray, List.set_cons_zero, List.set_cons_succ, i64_w, i32_w]
                            rfl
                          refine pure_ (i := 11) (N := some 115) (v := ?_) (a' := ?_) #[true, true, true, true, true, true, true, true, true, true, false, true, false, false, false, false, false, false, false, false, false, false, false, false, false, false, false, false, false, false, false, false, false] rfl rfl (any_of HT_.out (by kernel_rfl)) (fun _ _ _ h => h) (Or.inl ⟨by rfl, ?_⟩) ?_ ?_
                          rotate_left
                          · intro w'
                            go_simp
                            with_reducible rfl
                          rotate_left
                          · simp only [Act.put, List.setIfInBounds_toArray, List.set_cons_zero, List.set_cons_succ, i64_w, i32_w]
                            rfl
                          refine pure_ (i := 12) (N := some 116) (v := ?_) (a' := ?_) #[true, true, true, true, true, true, true, true, true, true, false, true, true, false, false, false, false, false, false, false, false, false, false, false, false, false, false, false, false, false, false, false, false] rfl rfl (any_of HT_.out (by kernel_rfl)) (fun _ _ _ h => h) (Or.inl ⟨by rfl, ?_⟩) ?_ ?_
                          rotate_left
                          · intro w'
                            go_simp
                            with_reducible rfl
                          rotate_left
                          · simp only [Act.put, List.setIfInBounds_toArray, List.set_cons_zero, List.set_cons_succ, i64_w, i32_w]
                            rfl
                          refine pure_ (i := 13) (N := some 117) (v := ?_) (a' := ?_) #[true, true, true, true, true, true, true, true, true, true, false, true, true, true, false, false, false, false, false, false, false, false, false, false, false, false, false, false, false, false, false, false, false] rfl rfl (any_of HT_.out (by kernel_rfl)) (fun _ _ _ h => h) (Or.inl ⟨by rfl, ?_⟩) ?_ ?_
                          rotate_left
                          · intro w'
                            go_simp
                            with_reducible rfl
                          rotate_left
                          · simp only [Act.put, List.setIfInBounds_toArray, List.set_cons_zero, List.set_cons_succ, i64_w, i32_w]
                            rfl
                          refine pure_ (i := 14) (N := some 118) (v := ?_) (a' := ?_) #[true, true, true, true, true, true, true, true, true, true, false, true, true, true, true, false, false, false, false, false, false, false, false, false, false, false, false, false, false, false, false, false, false] rfl rfl (any_of HT_.out (by kernel_rfl)) (fun _ _ _ h => h) (Or.inl ⟨by rfl, ?_⟩) ?_ ?_
                          rotate_left
                          · intro w'
                            go_simp
                            with_reducible rfl
                          rotate_left
                          · simp only [Act.put, List.setIfInBounds_toArray, List.set_cons_zero, List.set_cons_succ, i64_w, i32_w]
                            rfl
                          refine pure_ (i := 15) (N := some 119) (v := ?_) (a' := ?_) #[true, true, true, true, true, true, true, true, true, true, false, true, true, true, true, true, false, false, false, false, false, false, false, false, false, false, false, false, false, false, false, false, false] rfl rfl (any_of HT_.out (by kernel_rfl)) (fun _ _ _ h => h) (Or.inl ⟨by rfl, ?_⟩) ?_ ?_
                          rotate_left
                          · intro w'
                            go_simp
                            with_reducible rfl
                          rotate_left
                          · simp only [Act.put, List.setIfInBounds_toArray, List.set_cons_zero, List.set_cons_succ, i64_w, i32_w]
                            rfl
                          refine pure_ (i := 16) (N := some 120) (v := ?_) (a' := ?_) #[true, true, true, true, true, true, true, true, true, true, false, true, true, true, true, true, true, false, false, false, false, false, false, false, false, false, false, false, false, false, false, false, false] rfl rfl (any_of HT_.out (by kernel_rfl)) (fun _ _ _ h => h) (Or.inl ⟨by rfl, ?_⟩) ?_ ?_
                          rotate_left
                          · intro w'
                            go_simp
                            with_reducible rfl
                          rotate_left
                          · simp only [Act.put, List.setIfInBounds_toArray, List.set_cons_zero, List.set_cons_succ, i64_w, i32_w]
                            rfl
                          refine pure_ (i := 17) (N := some 121) (v := ?_) (a' := ?_) #[true, true, true, true, true, true, true, true, true, true, false, true, true, true, true, true, true, true, false, false, false, false, false, false, false, false, false, false, false, false, false, false, false] rfl rfl (any_of HT_.out (by kernel_rfl)) (fun _ _ _ h => h) (Or.inl ⟨by rfl, ?_⟩) ?_ ?_
                          rotate_left
                          · intro w'
                            go_simp
                            with_reducible rfl
                          rotate_left
                          · simp only [Act.put, List.setIfInBounds_toArray, List.set_cons_zero, List.set_cons_succ, i64_w, i32_w]
                            rfl
                          refine pure_ (i := 20) (N := some 124) (v := ?_) (a' := ?_) #[true, true, true, true, true, true, true, true, true, true, false, true, true, true, true, true, true, true, false, false, true, false, false, false, false, false, false, false, false, false, false, false, false] rfl rfl (any_of HT_.out (by kernel_rfl)) (fun _ _ _ h => h) (Or.inl ⟨by rfl, ?_⟩) ?_ ?_
                          rotate_left
                          · intro w'
                            go_simp
                            with_reducible rfl
                          rotate_left
                          · simp only [Act.put, List.setIfInBounds_toArray, List.set_cons_zero, List.set_cons_succ, i64_w, i32_w]
                            rfl
                          refine pure_ (i := 21) (N := some 125) (v := ?_) (a' := ?_) #[true, true, true, true, true, true, true, true, true, true, false, true, true, true, true, true, true, true, false, false, true, true, false, false, false, false, false, false, false, false, false, false, false] rfl rfl (any_of HT_.out (by kernel_rfl)) (fun _ _ _ h => h) (Or.inl ⟨by rfl, ?_⟩) ?_ ?_
                          rotate_left
                          · intro w'
                            go_simp
                            with_reducible rfl
                          rotate_left
                          · simp only [Act.put, List.setIfInBounds_toArray, List.set_cons_zero, List.set_cons_succ, i64_w, i32_w]
                            rfl
                          refine pure_ (i := 22) (N := some 126) (v := ?_) (a' := ?_) #[true, true, true, true, true, true, true, true, true, true, false, true, true, true, true, true, true, true, false, false, true, true, true, false, false, false, false, false, false, false, false, false, false] rfl rfl (any_of HT_.out (by kernel_rfl)) (fun _ _ _ h => h) (Or.inl ⟨by rfl, ?_⟩) ?_ ?_
                          rotate_left
                          · intro w'
                            go_simp
                            with_reducible rfl
                          rotate_left
                          · simp only [Act.put, List.setIfInBounds_toArray, List.set_cons_zero, List.set_cons_succ, i64_w, i32_w]
                            rfl
                          refine pure_ (i := 23) (N := some 127) (v := ?_) (a' := ?_) #[true, true, true, true, true, true, true, true, true, true, false, true, true, true, true, true, true, true, false, false, true, true, true, true, false, false, false, false, false, false, false, false, false] rfl rfl (any_of HT_.out (by kernel_rfl)) (fun _ _ _ h => h) (Or.inl ⟨by rfl, ?_⟩) ?_ ?_
                          rotate_left
                          · intro w'
                            go_simp
                            with_reducible rfl
                          rotate_left
                          · simp only [Act.put, List.setIfInBounds_toArray, List.set_cons_zero, List.set_cons_succ, i64_w, i32_w]
                            rfl
                          refine pure_ (i := 24) (N := some 128) (v := ?_) (a' := ?_) #[true, true, true, true, true, true, true, true, true, true, false, true, true, true, true, true, true, true, false, false, true, true, true, true, true, false, false, false, false, false, false, false, false] rfl rfl (any_of HT_.out (by kernel_rfl)) (fun _ _ _ h => h) (Or.inl ⟨by rfl, ?_⟩) ?_ ?_
                          rotate_left
                          · intro w'
                            go_simp
                            with_reducible rfl
                          rotate_left
                          · simp only [Act.put, List.setIfInBounds_toArray, List.set_cons_zero, List.set_cons_succ, i64_w, i32_w]
                            rfl
                          refine pure_ (i := 25) (N := some 129) (v := ?_) (a' := ?_) #[true, true, true, true, true, true, true, true, true, true, false, true, true, true, true, true, true, true, false, false, true, true, true, true, true, true, false, false, false, false, false, false, false] rfl rfl (any_of HT_.out (by kernel_rfl)) (fun _ _ _ h => h) (Or.inl ⟨by rfl, ?_⟩) ?_ ?_
                          rotate_left
                          · intro w'
                            go_simp
                            with_reducible rfl
                          rotate_left
                          · simp only [Act.put, List.setIfInBounds_toArray, List.set_cons_zero, List.set_cons_succ, i64_w, i32_w]
                            rfl
                          refine pure_ (i := 26) (N := some 130) (v := ?_) (a' := ?_) #[true, true, true, true, true, true, true, true, true, true, false, true, true, true, true, true, true, true, false, false, true, true, true, true, true, true, true, false, false, false, false, false, false] rfl rfl (any_of HT_.out (by kernel_rfl)) (fun _ _ _ h => h) (Or.inl ⟨by rfl, ?_⟩) ?_ ?_
                          rotate_left
                          · intro w'
                            go_simp
                            with_reducible rfl
                          rotate_left
                          · simp only [Act.put, List.setIfInBounds_toArray, List.set_cons_zero, List.set_cons_succ, i64_w, i32_w]
                            rfl
                          refine pure_ (i := 30) (N := some 134) (v := ?_) (a' := ?_) #[true, true, true, true, true, true, true, true, true, true, false, true, true, true, true, true, true, true, false, false, true, true, true, true, true, true, true, false, false, false, true, false, false] rfl rfl (any_of HT_.out (by kernel_rfl)) (fun _ _ _ h => h) (Or.inl ⟨by rfl, ?_⟩) ?_ ?_
                          rotate_left
                          · intro w'
                            go_simp
                            with_reducible rfl
                          rotate_left
                          · simp only [Act.put, List.setIfInBounds_toArray, List.set_cons_zero, List.set_cons_succ, i64_w, i32_w]
                            rfl
                          refine take_ (i := 10) (N := some 114) (v := ?_) (a' := ?_) #[true, true, true, true, true, true, true, true, true, true, true, true, true, true, true, true, true, true, false, false, true, true, true, true, true, true, true, false, false, false, true, false, false] rfl rfl (take_ofW HT_.out HW_.out (by kernel_rfl)) (fun _ _ _ h => h) (Or.inl ⟨by rfl, ?_⟩) hHeld ?_ ?_
                          rotate_left
                          · rintro w' ⟨s0, s1, s2⟩
                            go_simp
                            with_reducible rfl
                          rotate_left
                          · simp only [Act.put, List.setIfInBounds_toArray, List.set_cons_zero, List.set_cons_succ, i64_w, i32_w]
                            rfl
                          refine take_ (i := 18) (N := some 122) (v := ?_) (a' := ?_) #[true, true, true, true, true, true, true, true, true, true, true, true, true, true, true, true, true, true, true, false, true, true, true, true, true, true, true, false, false, false, true, false, false] rfl rfl (take_ofW HT_.out HW_.out (by kernel_rfl)) (fun _ _ _ h => h) (Or.inl ⟨by rfl, ?_⟩) hHeld ?_ ?_
                          rotate_left
                          · rintro w' ⟨s0, s1, s2⟩
                            go_simp
                            with_reducible rfl
                          rotate_left
                          · simp only [Act.put, List.setIfInBounds_toArray, List.set_cons_zero, List.set_cons_succ, i64_w, i32_w]
                            rfl
                          refine pure_ (i := 19) (N := some 123) (v := ?_) (a' := ?_) #[true, true, true, true, true, true, true, true, true, true, true, true, true, true, true, true, true, true, true, true, true, true, true, true, true, true, true, false, false, false, true, false, false] rfl rfl (any_of HT_.out (by kernel_rfl)) (fun _ _ _ h => h) (Or.inl ⟨by rfl, ?_⟩) ?_ ?_
                          rotate_left
                          · intro w'
                            go_simp
                            with_reducible rfl
                          rotate_left
                          · simp only [Act.put, List.setIfInBounds_toArray, List.set_cons_zero, List.set_cons_succ, i64_w, i32_w]
                            rfl
                          refine take_ (i := 27) (N := some 131) (v := ?_) (a' := ?_) #[true, true, true, true, true, true, true, true, true, true, true, true, true, true, true, true, true, true, true, true, true, true, true, true, true, true, true, true, false, false, true, false, false] rfl rfl (take_ofW HT_.out HW_.out (by kernel_rfl)) (fun _ _ _ h => h) (Or.inl ⟨by rfl, ?_⟩) hHeld ?_ ?_
                          rotate_left
                          · rintro w' ⟨s0, s1, s2⟩
                            go_simp
                            with_reducible rfl
                          rotate_left
                          · simp only [Act.put, List.setIfInBounds_toArray, List.set_cons_zero, List.set_cons_succ, i64_w, i32_w]
                            rfl
                          refine pure_ (i := 28) (N := some 132) (v := ?_) (a' := ?_) #[true, true, true, true, true, true, true, true, true, true, true, true, true, true, true, true, true, true, true, true, true, true, true, true, true, true, true, true, true, false, true, false, false] rfl rfl (any_of HT_.out (by kernel_rfl)) (fun _ _ _ h => h) (Or.inl ⟨by rfl, ?_⟩) ?_ ?_
                          rotate_left
                          · intro w'
                            go_simp
                            with_reducible rfl
                          rotate_left
                          · simp only [Act.put, List.setIfInBounds_toArray, List.set_cons_zero, List.set_cons_succ, i64_w, i32_w]
                            rfl
                          refine pure_ (i := 29) (N := some 133) (v := ?_) (a' := ?_) #[true, true, true, true, true, true, true, true, true, true, true, true, true, true, true, true, true, true, true, true, true, true, true, true, true, true, true, true, true, true, true, false, false] rfl rfl (any_of HT_.out (by kernel_rfl)) (fun _ _ _ h => h) (Or.inl ⟨by rfl, ?_⟩) ?_ ?_
                          rotate_left
                          · intro w'
                            go_simp
                            with_reducible rfl
                          rotate_left
                          · simp only [Act.put, List.setIfInBounds_toArray, List.set_cons_zero, List.set_cons_succ, i64_w, i32_w]
                            rfl
                          refine pure_ (i := 31) (N := some 135) (v := ?_) (a' := ?_) #[true, true, true, true, true, true, true, true, true, true, true, true, true, true, true, true, true, true, true, true, true, true, true, true, true, true, true, true, true, true, true, true, false] rfl rfl (any_of HT_.out (by kernel_rfl)) (fun _ _ _ h => h) (Or.inl ⟨by rfl, ?_⟩) ?_ ?_
                          rotate_left
                          · intro w'
                            go_simp
                            with_reducible rfl
                          rotate_left
                          · simp only [Act.put, List.setIfInBounds_toArray, List.set_cons_zero, List.set_cons_succ, i64_w, i32_w]
                            rfl
                          refine last_ (i := 32) (N := none) #[true, true, true, true, true, true, true, true, true, true, true, true, true, true, true, true, true, true, true, true, true, true, true, true, true, true, true, true, true, true, true, true, true] rfl rfl (one_of HT_.out (by kernel_rfl)) (by decide) (fun K hK => ?_)
                          refine skip_ (w1 := ?_) (by rfl) rfl ?_ ?_
                          rotate_left
                          · go_simp
                            rfl
                          refine hK.out _ _ ?_
                          clear hK K
                          refine done_ (done_of HT_.out (by kernel_rfl)) ?_
                          go_wp2
                          go_roundg k3
                          case measure => omega
                          case rel => exact ⟨K3 + 1, _, rfl, ⟨by have := HK2.out; have := HC2.out; have := HK3.out; have := HC3.out; have := HS.out; have := ez1.out; have := ez2.out; have := ec1.out; have := ec2.out; have := ec3.out; have := ed1.out; have := ed2.out; have := ed3.out; first | omega | (unfold wrap64; omega), by have := HK2.out; have := HC2.out; have := HK3.out; have := HC3.out; have := HS.out; have := ez1.out; have := ez2.out; have := ec1.out; have := ec2.out; have := ec3.out; have := ed1.out; have := ed2.out; have := ed3.out; omega, by have := HK2.out; have := HC2.out; have := HK3.out; have := HC3.out; have := HS.out; have := ez1.out; have := ez2.out; have := ec1.out; have := ec2.out; have := ec3.out; have := ed1.out; have := ed2.out; have := ed3.out; omega⟩, ⟨by (with_reducible repeat (first | refine blk_drewN ?_ _ | refine blk_drew ?_)); refine blk_put (cs := ue (sst s (bst s (cst s 5) 25) (5 * K2 + K3))) (by (with_reducible repeat (first | refine blk_drewN ?_ _ | refine blk_drew ?_)); exact BKs.out) z2.toNat _ ?_; rw [ue_set, sst_succ s _ (by have := HK2.out; have := HC2.out; have := HK3.out; have := HC3.out; have := HS.out; have := ez1.out; have := ez2.out; have := ec1.out; have := ec2.out; have := ec3.out; have := ed1.out; have := ed2.out; have := ed3.out; omega)]; simp only [chi, u64not]; rw [show z2.toNat = K3 + 5 * K2 by have := HK2.out; have := HC2.out; have := HK3.out; have := HC3.out; have := HS.out; have := ez1.out; have := ez2.out; have := ec1.out; have := ec2.out; have := ec3.out; have := ed1.out; have := ed2.out; have := ed3.out; omega, show c3.toNat = (K3 + 1) % 5 + 5 * K2 by have := HK2.out; have := HC2.out; have := HK3.out; have := HC3.out; have := HS.out; have := ez1.out; have := ez2.out; have := ec1.out; have := ec2.out; have := ec3.out; have := ed1.out; have := ed2.out; have := ed3.out; omega, show d3.toNat = (K3 + 2) % 5 + 5 * K2 by have := HK2.out; have := HC2.out; have := HK3.out; have := HC3.out; have := HS.out; have := ez1.out; have := ez2.out; have := ec1.out; have := ec2.out; have := ec3.out; have := ed1.out; have := ed2.out; have := ed3.out; omega]⟩, ⟨by (with_reducible repeat (first | refine blk_drewN ?_ _ | refine blk_drew ?_)); refine blk_far ?_ (p := ⟨g, _, none⟩) NEsb.out.symm _; (with_reducible repeat (first | refine blk_drewN ?_ _ | refine blk_drew ?_)); exact BKb.out⟩, ⟨(by repeat (first | exact HB.out | apply Below.drew | apply pw_below_drewN | refine Below.setCell ?_ GEs.out _ | refine Below.setCell ?_ GEc.out _ | refine Below.setCell ?_ GEb.out _))⟩⟩
                        · have c0 : decide (x < 5) = false := decide_eq_false (by have := HK3.out; omega)
                          obtain rfl : K3 = 5 := by have := HK3.out; omega
                          clear c HK3
                          go_wp2
                          go_roundg k2
                          case measure => omega
                          case rel => exact ⟨K2 + 1, _, rfl, ⟨by have := HK2.out; have := HC2.out; first | omega | (unfold wrap64; omega), by have := HK2.out; have := HC2.out; omega, by have := HK2.out; have := HC2.out; omega⟩, ⟨by rw [show 5 * (K2 + 1) = 5 * K2 + 5 by omega]; (with_reducible repeat (first | refine blk_drewN ?_ _ | refine blk_drew ?_)); exact BKs.out⟩, ⟨by (with_reducible repeat (first | refine blk_drewN ?_ _ | refine blk_drew ?_)); exact BKb.out⟩, ⟨(by repeat (first | exact HB.out | apply Below.drew | apply pw_below_drewN | refine Below.setCell ?_ GEs.out _ | refine Below.setCell ?_ GEc.out _ | refine Below.setCell ?_ GEb.out _))⟩⟩
                  · have c0 : decide (y < 5) = false := decide_eq_false (by have := HK2.out; omega)
                    obtain rfl : K2 = 5 := by have := HK2.out; omega
                    clear c HK2
                    have pn : (0 ≤ n) = True := eq_true HN.out.1
                    have qn : (n < 24) = True := eq_true HN.out.2
                    have hc0 : wr.cell? ⟨g, 0, none⟩ = some (.int .u64 (ga (sst s (bst s (cst s 5) 25) 25) 0)) := (blk_cell BKs.out _).trans (ue_get (by rw [sst_len, HS.out]; decide))
                    have hc1 : wr.cell? ⟨1, n.toNat, none⟩ = some (.int .u64 (ga rcL n.toNat)) := (HB.out.cell (p := ⟨1, n.toNat, none⟩) HT.out.s.2).trans (HT.out.r _ (by have := HN.out; omega))
                    have hfz : wr.frozen? ⟨g, 0, none⟩ = false := blk_frozen BKs.out _
                    go_wp2
                    refine start_ (n := 11) (S := fun w' => w'.cell? ⟨g, 0, none⟩ = some (.int .u64 (ga (sst s (bst s (cst s 5) 25) 25) 0)) ∧ w'.cell? ⟨1, n.toNat, none⟩ = some (.int .u64 (ga rcL n.toNat))) (ds := [10]) #[false, false, false, false, false, false, false, false, false, false, false] (by kernel_rfl) rfl rfl ⟨hc0, hc1⟩ (fun hHeld => ?_)
                    refine with_tabW impl_round.tab26 impl_round.bits26 (fun HT_ HW_ => ?_)
                    refine pure_ (i := 0) (N := some 138) (v := ?_) (a' := ?_) #[true, false, false, false, false, false, false, false, false, false, false] rfl rfl (any_of HT_.out (by kernel_rfl)) (fun _ _ _ h => h) (Or.inl ⟨by rfl, ?_⟩) ?_ ?_
                    rotate_left
                    · intro w'
                      go_simp
                      with_reducible rfl
                    rotate_left
                    · simp only [Act.put, List.setIfInBounds_toArray, List.set_cons_zero, List.set_cons_succ, i64_w, i32_w]
                      rfl
                    refine pure_ (i := 1) (N := some 139) (v := ?_) (a' := ?_) #[true, true, false, false, false, false, false, false, false, false, false] rfl rfl (any_of HT_.out (by kernel_rfl)) (fun _ _ _ h => h) (Or.inl ⟨by rfl, ?_⟩) ?_ ?_
                    rotate_left
                    · intro w'
                      go_simp
                      with_reducible rfl
                    rotate_left
                    · simp only [Act.put, List.setIfInBounds_toArray, List.set_cons_zero, List.set_cons_succ, i64_w, i32_w]
                      rfl
                    refine pure_ (i := 2) (N := some 140) (v := ?_) (a' := ?_) #[true, true, true, false, false, false, false, false, false, false, false] rfl rfl (any_of HT_.out (by kernel_rfl)) (fun _ _ _ h => h) (Or.inl ⟨by rfl, ?_⟩) ?_ ?_
                    rotate_left
                    · intro w'
                      go_simp
                      with_reducible rfl
                    rotate_left
                    · simp only [Act.put, List.setIfInBounds_toArray, List.set_cons_zero, List.set_cons_succ, i64_w, i32_w]
                      rfl
                    refine pure_ (i := 4) (N := some 142) (v := ?_) (a' := ?_) #[true, true, true, false, true, false, false, false, false, false, false] rfl rfl (any_of HT_.out (by kernel_rfl)) (fun _ _ _ h => h) (Or.inl ⟨by rfl, ?_⟩) ?_ ?_
                    rotate_left
                    · intro w'
                      go_simp
                      with_reducible rfl
                    rotate_left
                    · simp only [Act.put, List.setIfInBounds_toArray, List.set_cons_zero, List.set_cons_succ, i64_w, i32_w]
                      rfl
                    refine pure_ (i := 5) (N := some 143) (v := ?_) (a' := ?_) #[true, true, true, false, true, true, false, false, false, false, false] rfl rfl (any_of HT_.out (by kernel_rfl)) (fun _ _ _ h => h) (Or.inl ⟨by rfl, ?_⟩) ?_ ?_
                    rotate_left
                    · intro w'
                      go_simp
                      with_reducible rfl
                    rotate_left
                    · simp only [Act.put, List.setIfInBounds_toArray, List.set_cons_zero, List.set_cons_succ, i64_w, i32_w]
                      rfl
                    refine pure_ (i := 8) (N := some 146) (v := ?_) (a' := ?_) #[true, true, true, false, true, true, false, false, true, false, false] rfl rfl (any_of HT_.out (by kernel_rfl)) (fun _ _ _ h => h) (Or.inl ⟨by rfl, ?_⟩) ?_ ?_
                    rotate_left
                    · intro w'
                      go_simp
                      with_reducible rfl
                    rotate_left
                    · simp only [Act.put, List.setIfInBounds_toArray, List.set_cons_zero, List.set_cons_succ, i64_w, i32_w]
                      rfl
                    refine take_ (i := 3) (N := some 141) (v := ?_) (a' := ?_) #[true, true, true, true, true, true, false, false, true, false, false] rfl rfl (take_ofW HT_.out HW_.out (by kernel_rfl)) (fun _ _ _ h => h) (Or.inl ⟨by rfl, ?_⟩) hHeld ?_ ?_
                    rotate_left
                    · rintro w' ⟨s0, s1⟩
                      go_simp
                      with_reducible rfl
                    rotate_left
                    · simp only [Act.put, List.setIfInBounds_toArray, List.set_cons_zero, List.set_cons_succ, i64_w, i32_w]
                      rfl
                    refine take_ (i := 6) (N := some 144) (v := ?_) (a' := ?_) #[true, true, true, true, true, true, true, false, true, false, false] rfl rfl (take_ofW HT_.out HW_.out (by kernel_rfl)) (fun _ _ _ h => h) (Or.inl ⟨by rfl, ?_⟩) hHeld ?_ ?_
                    rotate_left
                    · rintro w' ⟨s0, s1⟩
                      go_simp
                      with_reducible rfl
                    rotate_left
                    · simp only [Act.put, List.setIfInBounds_toArray, List.set_cons_zero, List.set_cons_succ, i64_w, i32_w]
                      rfl
                    refine pure_ (i := 7) (N := some 145) (v := ?_) (a' := ?_) #[true, true, true, true, true, true, true, true, true, false, false] rfl rfl (any_of HT_.out (by kernel_rfl)) (fun _ _ _ h => h) (Or.inl ⟨by rfl, ?_⟩) ?_ ?_
                    rotate_left
                    · intro w'
                      go_simp
                      with_reducible rfl
                    rotate_left
                    · simp only [Act.put, List.setIfInBounds_toArray, List.set_cons_zero, List.set_cons_succ, i64_w, i32_w]
                      rfl
                    refine pure_ (i := 9) (N := some 147) (v := ?_) (a' := ?_) #[true, true, true, true, true, true, true, true, true, true, false] rfl rfl (any_of HT_.out (by kernel_rfl)) (fun _ _ _ h => h) (Or.inl ⟨by rfl, ?_⟩) ?_ ?_
                    rotate_left
                    · intro w'
                      go_simp
                      with_reducible rfl
                    rotate_left
                    · simp only [Act.put, List.setIfInBounds_toArray, List.set_cons_zero, List.set_cons_succ, i64_w, i32_w]
                      rfl
                    refine last_ (i := 10) (N := none) #[true, true, true, true, true, true, true, true, true, true, true] rfl rfl (one_of HT_.out (by kernel_rfl)) (by decide) (fun K hK => ?_)
                    refine skip_ (w1 := ?_) (by rfl) rfl ?_ ?_
                    rotate_left
                    · go_simp
                      rfl
                    refine hK.out _ _ ?_
                    clear hK K
                    refine done_ (done_of HT_.out (by kernel_rfl)) ?_
                    go_wp2
                    go_end0
                    exact ⟨rfl, by (with_reducible repeat (first | refine blk_drewN ?_ _ | refine blk_drew ?_)); refine blk_put (cs := ue (sst s (bst s (cst s 5) 25) 25)) (by (with_reducible repeat (first | refine blk_drewN ?_ _ | refine blk_drew ?_)); exact BKs.out) 0 _ ?_; rw [ue_set]; rfl, (by repeat (first | exact HB.out | apply Below.drew | apply pw_below_drewN | refine Below.setCell ?_ GEs.out _ | refine Below.setCell ?_ GEc.out _ | refine Below.setCell ?_ GEb.out _))⟩
end Go.Proofs.YtmiiknkfhiecgaaDoor.Kp
end
section
/- What is proved here: steps of Keccak as the program and the reference write it: what each function answers. No conditions but those that each theorem names. -/
namespace Go.Proofs.YtmiiknkfhiecgaaDoor.Kp
open Go.RowKit Go.Proofs.YtmiiknkfhiecgaaDoorW.PrintWords Go.Proofs.YtmiiknkfhiecgaaDoorW.PrintLast Go.Proofs.YtmiiknkfhiecgaaDoorW.PrintMore
set_option linter.unusedVariables false
set_option linter.unusedSimpArgs false
def rit (s : List Int) : Nat → List Int
  | 0 => s
  | k + 1 => roundI (rit s k) k
theorem rit_len (s : List Int) (k : Nat) : (rit s k).length = s.length := by
  induction k with
  | zero => rfl
  | succ k ih => simp [rit, roundI_len, ih]
set_option maxHeartbeats 4000000 in
set_option maxRecDepth 100000 in
theorem impl_rounds.calls (g : Nat) (s : List Int) (hs : s.length = 25) (w0 w : World) (hT : Tab w0) (hB : Below w0.heap.size w0 w) (hg : w0.heap.size ≤ g) (hA : w.heap[g]? = some (.cells (ue s) 90 (0, 0))) :
    Calls Tryd.prog 81 #[.pointer (some ⟨g, 0, none⟩)] w fun e w' => e = .returned (.tuple #[]) ∧ w'.heap[g]? = some (.cells (ue (rit s 24)) 90 (0, 0)) ∧ Below w0.heap.size w0 w' := by
  have HT := Aside0.mk hT
  have HB := Aside0.mk hB
  have BKs := Aside0.mk hA
  have GEs := Aside0.mk hg
  have HS := Aside0.mk hs
  clear hT hB hA hg hs
  go_enter Tryd.func81, Tryd.ntmps81
  go_wp2
  go_loopg [3] 25 (fun kq v3 w' => ∃ (k : Nat) (x : Int), v3 = .int .i64 x ∧ Aside0 (x = (k : Int) ∧ k + kq = 25 ∧ k ≤ 24) ∧ Aside0 (w'.heap[g]? = some (.cells (ue (rit s k)) 90 (0, 0))) ∧ Aside0 (Below w0.heap.size w0 w'))
  case atStart => exact ⟨0, 0, rfl, ⟨rfl, rfl, by decide⟩, ⟨by (with_reducible repeat (first | refine blk_drewN ?_ _ | refine blk_drew ?_)); exact BKs.out⟩, ⟨(by repeat (first | exact HB.out | apply Below.drew | apply pw_below_drewN | refine Below.setCell ?_ GEs.out _))⟩⟩
  case round =>
    clear BKs HB
    obtain ⟨K1, x, rfl, HK1, BKs, HB⟩ := hrel
    cases gk with
    | zero => exact absurd HK1.out (by omega)
    | succ k1 =>
      by_cases c : K1 < 24
      · have c0 : decide (x < 24) = true := decide_eq_true (by have := HK1.out; omega)
        have HC1 := Aside0.mk c
        clear c
        go_wp2_with (first | (go_at_call 91; (with_reducible refine (impl_round.calls g (rit s K1) (by rw [rit_len]; exact HS.out) x (by have := HK1.out; omega) (by have := HK1.out; have := HC1.out; omega) w0 _ HT.out ?side1 GEs.out ?side2).mono ?_); (case side1 => exact (by repeat (first | exact HB.out | apply Below.drew | apply pw_below_drewN | refine Below.setCell ?_ GEs.out _))); (case side2 => ((with_reducible repeat (first | refine blk_drewN ?_ _ | refine blk_drew ?_)); exact BKs.out)); rintro e w1_ ⟨rfl, hk, hb⟩; have BKs := Aside0.mk hk; have HB := Aside0.mk hb; clear hk hb))
        go_roundg k1
        case measure => omega
        case rel => exact ⟨K1 + 1, _, rfl, ⟨by have := HK1.out; unfold wrap64; omega, by have := HK1.out; omega, by have := HK1.out; have := HC1.out; omega⟩, ⟨by have h_ := BKs.out; rw [show x.toNat = K1 by have := HK1.out; omega] at h_; (with_reducible repeat (first | refine blk_drewN ?_ _ | refine blk_drew ?_)); exact h_⟩, ⟨(by repeat (first | exact HB.out | apply Below.drew | apply pw_below_drewN | refine Below.setCell ?_ GEs.out _))⟩⟩
      · have c0 : decide (x < 24) = false := decide_eq_false (by have := HK1.out; omega)
        obtain rfl : K1 = 24 := by have := HK1.out; omega
        clear c
        go_wp2
        go_end0
        exact ⟨rfl, by (with_reducible repeat (first | refine blk_drewN ?_ _ | refine blk_drew ?_)); exact BKs.out, (by repeat (first | exact HB.out | apply Below.drew | apply pw_below_drewN | refine Below.setCell ?_ GEs.out _))⟩
end Go.Proofs.YtmiiknkfhiecgaaDoor.Kp
end
section
namespace Go.Proofs.YtmiiknkfhiecgaaDoor.Kp
open Go.RowKit Go.Proofs.YtmiiknkfhiecgaaDoorW.PrintWords Go.Proofs.YtmiiknkfhiecgaaDoorW.PrintLast Go.Proofs.YtmiiknkfhiecgaaDoorW.PrintMore
attribute [local go_sem] max2_int min2_int max_two min_two max_three min_three max_four min_four   -- for this text's walks alone
set_option linter.unusedVariables false
set_option linter.unusedSimpArgs false
/-! ### impl_wordBytes: function 92 -/
def impl_wordBytes.l0 : Nat → List Int → Int → Int → Option (List Int)
 | 0, _, _, _ => none
 | k + 1, x0, x1, x5 => if x5 < 8 then (if x0.length < 140737488355328 then (impl_wordBytes.l0 k (x0 ++ [(x1) % 256]) (x1 / 256) (wrap64 (x5 + 1))) else (none)) else (some x0)
def impl_wordBytes.f (k : Nat) (l0 : List Int) (a1 : Int) : Option (List Int) := impl_wordBytes.l0 k l0 a1 0
theorem impl_wordBytes.mono_l : ∀ k, (∀ y0 y1 y2, LeO (impl_wordBytes.l0 k y0 y1 y2) (impl_wordBytes.l0 (k + 1) y0 y1 y2))
 | 0 => fun _ _ _ r h => by simp [impl_wordBytes.l0] at h
 | k + 1 => by
  have ih0 := impl_wordBytes.mono_l k
  ·intro y0 y1 y2
   unfold impl_wordBytes.l0
   repeat' first
   | (with_reducible exact ih0 _ _ _)
   | (with_reducible exact LeO.refl _)
   | (with_reducible exact LeO.none _)
   | (with_reducible refine LeO.ite ?_ ?_)
   | (with_reducible refine LeO.bind ?_ (fun _ => ?_))
   | exact ih0 _ _ _
   | exact LeO.none _
   | refine LeO.ite ?_ ?_
   | refine LeO.bind ?_ (fun _ => ?_)
theorem impl_wordBytes.mono : ∀ a0 a1 k, LeO (impl_wordBytes.f k a0 a1) (impl_wordBytes.f (k + 1) a0 a1) := by
 intro a0 a1 k
 have ih0 := impl_wordBytes.mono_l k
 unfold impl_wordBytes.f
 repeat' first
   | (with_reducible exact ih0 _ _ _)
   | (with_reducible exact LeO.refl _)
   | (with_reducible exact LeO.none _)
   | (with_reducible refine LeO.ite ?_ ?_)
   | (with_reducible refine LeO.bind ?_ (fun _ => ?_))
   | exact ih0 _ _ _
   | exact LeO.none _
   | refine LeO.ite ?_ ?_
   | refine LeO.bind ?_ (fun _ => ?_)
set_option maxHeartbeats 8000000 in
set_option maxRecDepth 100000 in
theorem impl_wordBytes.calls (k : Nat) (P0_ : Nat → Prop) (u9000_ : Value) (l0 : List Int) (a1 : Int) (r : List Int) (w0 w : World) (hB : Below w0.heap.size w0 w) (ho0 : Kd.R (Kd.int .u8) 5 w w0.heap.size P0_ u9000_ l0) (h : impl_wordBytes.f k l0 a1 = some r) :
  Calls Tryd.prog 92 #[u9000_, .int .u64 a1] w fun e w' => ∃ v0_ : Value, e = .returned (v0_) ∧ Kd.R (Kd.int .u8) 5 w' w0.heap.size (fun k_ => (P0_ k_ ∨ w.heap.size ≤ k_)) v0_ r ∧ Below w0.heap.size w0 w' ∧ Kept w w' (fun k_ => P0_ k_) := by
 have HO0 := Aside0.mk (show Kd.R (Kd.int .u8) 5 w w0.heap.size (fun k_ => (P0_ k_ ∨ w.heap.size ≤ k_)) u9000_ l0 from Kd.R_mono ho0 (fun k_ hk => (.inl hk)))
 have HK := Aside0.mk (Kept.refl w (fun k_ => P0_ k_))
 have HW0 := Aside0.mk hB.size
 have HB := Aside0.mk hB
 clear hB
 have H : (impl_wordBytes.l0 k l0 a1 0) = some r := h
 clear h
 have H' := Aside0.mk H
 clear H
 go_enter Tryd.func92, Tryd.ntmps92
 go_wp2
 go_loopg [0, 1, 5] k (fun kq v0 v1 v5 w' => ∃ (x0_1 : List Int) (x1_1 : Int) (x5_1 : Int), v1 = .int .u64 x1_1 ∧ v5 = .int .i64 x5_1 ∧ Aside0 (impl_wordBytes.l0 kq x0_1 x1_1 x5_1 = some r) ∧ Aside0 (kq ≤ k) ∧ Aside0 (Kd.R (Kd.int .u8) 5 w' w0.heap.size (fun k_ => (P0_ k_ ∨ w.heap.size ≤ k_)) v0 x0_1) ∧ Aside0 (Kept w w' (fun k_ => P0_ k_)) ∧ Aside0 (Below w0.heap.size w0 w'))
 case atStart => exact ⟨(l0), (a1), (0), (by first | rfl | (simp; done) | (simp [*]; done)), (by first | rfl | (simp; done) | (simp [*]; done)), H', ⟨Nat.le_refl _⟩, ⟨by (with_reducible repeat (first | apply Kd.R_alloc | apply Kd.R_drewN | apply Kd.R_drew)); exact HO0.out⟩, ⟨by repeat (first | (with_reducible first | exact HK.out | apply Kept.alloc | apply Kept.drewN | apply Kept.drew) | exact HK.out)⟩, ⟨bZ HB⟩⟩
 case round =>
  clear H'
  try clear p2
  obtain ⟨x0_1, x1_1, x5_1, rfl, rfl, HA, HK1, HO_0, HK, HB⟩ := hrel
  cases gk with
  | zero => exact absurd HA.out (by simp [impl_wordBytes.l0])
  | succ k1 =>
   have H := HA.out
   clear HA
   simp only [impl_wordBytes.l0] at H
   by_cases c3 : x5_1 < 8
   ·rw [if_pos c3] at H
    have c3b0 : decide (x5_1 < 8) = true := decide_eq_true c3
    clear c3
    by_cases c4 : x0_1.length < 140737488355328
    ·rw [if_pos c4] at H
     have LMc4 := Aside0.mk c4
     clear c4
     obtain ⟨y111, hy111⟩ : ∃ y_ : List Int, y_ = (x0_1 ++ [(x1_1) % 256]) := ⟨_, rfl⟩
     replace H : (impl_wordBytes.l0 k1 y111 (x1_1 / 256) (wrap64 (x5_1 + 1))) = some r := by first | (rw [hy111]; with_reducible exact H) | (have H2_ := (Option.bind_some _ _).symm.trans H; rw [hy111]; with_reducible exact H2_) | (have H2_ := (Option.bind_some _ _).symm.trans H; with_reducible exact H2_) | with_reducible exact H | (rw [hy111]; exact H) | exact H
     have Ny111 := Aside0.mk hy111
     clear hy111
     have H' := Aside0.mk H
     clear H
     go_wp2_with (first | ((with_reducible refine gate_builtin (b := .append) (xs := #[.tmp 7, .tmp 10]) rfl ?_); at_builtin; refine Kd.R_append (Kd.int .u8) (w0 := w0) w0.heap.size rfl (.tmp 7) (.tmp 10) 39 5 (.int .u8 0) 1 rfl Tryd.underlying39 info5 rfl (by decide) (by omega) u0 x0_1 ((x1_1) % 256) [.int .u8 ((x1_1) % 256)] (fun k_ => (P0_ k_ ∨ w.heap.size ≤ k_)) (fun _ => False) rfl rfl ?aP (fun _ hk => hk.elim) ?aF ?aO ?aB ?aS ?aL ?_; (case aP => exact rfl); (case aB => exact (bZ HB)); (case aF => exact (fun k_ hk => (.inr (Nat.le_trans (by first | exact HK.out.1 | exact (show Kept w _ (fun k_ => P0_ k_) from by repeat (first | (with_reducible first | exact HK.out | apply Kept.alloc | apply Kept.drewN | apply Kept.drew) | exact HK.out)).1) hk)))); (case aO => exact (by (with_reducible repeat (first | apply Kd.R_alloc | apply Kd.R_drewN | apply Kd.R_drew)); exact HO_0.out)); (case aS => exact (below_size (bZ HB))); (case aL => have := LMc4.out; omega); intro v112 w5 ho hb hg hat; rw [← Ny111.out] at ho; replace HB := Aside0.mk (hb); replace HK := Aside0.mk (Kept.of_grown (S := (fun k_ => P0_ k_)) hg (by repeat (first | (with_reducible first | exact HK.out | apply Kept.alloc | apply Kept.drewN | apply Kept.drew) | exact HK.out)) (fun k_ e_ => (HO_0.out.1 k_ e_))); have HO113 := Aside0.mk (ho); clear HO_0; clear ho hb hg hat))
     go_roundg k1
     case measure => have := HK1.out; omega
     case rel => exact ⟨(y111), (x1_1 / 256), (wrap64 (x5_1 + 1)), (by first | rfl | (simp; done) | (simp [*]; done)), (by first | rfl | (simp; done) | (simp [*]; done)), H', ⟨by have := HK1.out; omega⟩, ⟨by (with_reducible repeat (first | apply Kd.R_alloc | apply Kd.R_drewN | apply Kd.R_drew)); exact HO113.out⟩, ⟨by repeat (first | (with_reducible first | exact HK.out | apply Kept.alloc | apply Kept.drewN | apply Kept.drew) | exact HK.out)⟩, ⟨bZ HB⟩⟩
    ·rw [if_neg c4] at H
     exact absurd H (by simp)
   ·rw [if_neg c3] at H
    have c3b0 : decide (x5_1 < 8) = false := decide_eq_false c3
    clear c3
    obtain rfl := Option.some.inj H
    go_wp2
    go_ret
    exact ⟨_, by first | rfl | (simp [errW_none, errW_some] <;> rfl) | (simp [*, errW_none, errW_some] <;> rfl), by (with_reducible repeat (first | apply Kd.R_alloc | apply Kd.R_drewN | apply Kd.R_drew)); exact HO_0.out, bZ HB, by repeat (first | (with_reducible first | exact HK.out | apply Kept.alloc | apply Kept.drewN | apply Kept.drew) | exact HK.out)⟩
end Go.Proofs.YtmiiknkfhiecgaaDoor.Kp
end
section
/- What is proved here: steps of Keccak as the program and the reference write it: what each function answers. No conditions but those that each theorem names. -/
namespace Go.Proofs.YtmiiknkfhiecgaaDoor.Kp
open Go.RowKit Go.Proofs.YtmiiknkfhiecgaaDoorW.PrintWords Go.Proofs.YtmiiknkfhiecgaaDoorW.PrintLast Go.Proofs.YtmiiknkfhiecgaaDoorW.PrintMore
set_option linter.unusedVariables false
set_option linter.unusedSimpArgs false
def b8 (x : Int) : List Int := [x % 256, x / 256 % 256, x / 256 / 256 % 256, x / 256 / 256 / 256 % 256, x / 256 / 256 / 256 / 256 % 256, x / 256 / 256 / 256 / 256 / 256 % 256, x / 256 / 256 / 256 / 256 / 256 / 256 % 256, x / 256 / 256 / 256 / 256 / 256 / 256 / 256 % 256]
theorem wordBytes_f (l : List Int) (x : Int) (h : l.length ≤ 1000) : impl_wordBytes.f 9 l x = some (l ++ b8 x) := by
  unfold impl_wordBytes.f
  have w1 : wrap64 (0 + 1) = 1 := by unfold wrap64; rfl
  have w2 : wrap64 (1 + 1) = 2 := by unfold wrap64; rfl
  have w3 : wrap64 (2 + 1) = 3 := by unfold wrap64; rfl
  have w4 : wrap64 (3 + 1) = 4 := by unfold wrap64; rfl
  have w5 : wrap64 (4 + 1) = 5 := by unfold wrap64; rfl
  have w6 : wrap64 (5 + 1) = 6 := by unfold wrap64; rfl
  have w7 : wrap64 (6 + 1) = 7 := by unfold wrap64; rfl
  have w8 : wrap64 (7 + 1) = 8 := by unfold wrap64; rfl
  simp only [impl_wordBytes.l0, w1, w2, w3, w4, w5, w6, w7, w8]
  simp only [show ((0 : Int) < 8) = True from eq_true (by decide), show ((1 : Int) < 8) = True from eq_true (by decide), show ((2 : Int) < 8) = True from eq_true (by decide), show ((3 : Int) < 8) = True from eq_true (by decide), show ((4 : Int) < 8) = True from eq_true (by decide), show ((5 : Int) < 8) = True from eq_true (by decide), show ((6 : Int) < 8) = True from eq_true (by decide), show ((7 : Int) < 8) = True from eq_true (by decide), show ((8 : Int) < 8) = False from eq_false (by decide), if_true, if_false, List.length_append, List.length_cons, List.length_nil]
  rw [if_pos (by omega), if_pos (by omega), if_pos (by omega), if_pos (by omega), if_pos (by omega), if_pos (by omega), if_pos (by omega), if_pos (by omega)]
  simp [b8]
def txl (s : List Int) : Nat → List Int
  | 0 => []
  | k + 1 => txl s k ++ b8 (ga s k)
theorem txl_len (s : List Int) (k : Nat) : (txl s k).length = 8 * k := by
  induction k with
  | zero => rfl
  | succ k ih => simp only [txl, List.length_append, ih]; simp [b8]; omega
set_option maxHeartbeats 4000000 in
set_option maxRecDepth 100000 in
theorem impl_text.calls (g : Nat) (s : List Int) (hs : s.length = 25) (w : World) (hA : w.heap[g]? = some (.cells (ue s) 90 (0, 0))) :
    Calls Tryd.prog 82 #[.pointer (some ⟨g, 0, none⟩)] w fun e w' => e = .returned (.string (strOfNums (txl s 25))) ∧ Below w.heap.size w w' := by
  have HB := Aside0.mk (Below.refl w.heap.size w)
  have BKs := Aside0.mk hA
  have HS := Aside0.mk hs
  clear hA hs
  obtain ⟨i0, hi, hz0, hz1, hz2⟩ := info_parts info5
  go_enter Tryd.func82, Tryd.ntmps82
  go_wp2_with (first | ((with_reducible refine gate_dst (N := 6) rfl ?_); refine wpList_make_own _ rfl _ _ 39 rfl w.heap.size 5 i0 (.int .u8 0) 1 Tryd.underlying39 hi hz0 hz1 .i64 .i64 200 200 rfl rfl rfl (by rw [hz2]; decide) (by decide) (Nat.le_refl _) ?_; intro w1_ ho hgr; have HO := Aside0.mk (show Kd.R (Kd.int .u8) 5 w1_ w.heap.size (fun _ => True) _ ([] : List Int) from Kd.R_of_own (h1 := fun _ => rfl) ho (fun _ _ => trivial)); have n0_ := Aside0.mk (Below.grown HB.out hgr (Nat.le_refl _) (fun _ h => by cases h)); clear HB; have HB := n0_; clear n0_ ho hgr))
  go_loopg [3, 8] 26 (fun kq v3 v8 w' => ∃ (k : Nat) (x : Int) (u : Value), v3 = u ∧ v8 = .int .i64 x ∧ Aside0 (x = (k : Int) ∧ k + kq = 26 ∧ k ≤ 25) ∧ Aside0 (Kd.R (Kd.int .u8) 5 w' w.heap.size (fun _ => True) u (txl s k)) ∧ Aside0 (Below w.heap.size w w'))
  case atStart => exact ⟨0, 0, _, rfl, rfl, ⟨rfl, rfl, by decide⟩, ⟨by (with_reducible repeat (first | apply Kd.R_alloc | apply Kd.R_drewN | apply Kd.R_drew)); exact HO.out⟩, ⟨(by repeat (first | exact HB.out | apply Below.drew | apply pw_below_drewN | refine Below.setCell ?_ GEs.out _))⟩⟩
  case round =>
    clear HB HO
    obtain ⟨K1, x, u, rfl, rfl, HK1, HO, HB⟩ := hrel
    cases gk with
    | zero => exact absurd HK1.out (by omega)
    | succ k1 =>
      by_cases c : K1 < 25
      · have c0 : decide (x < 25) = true := decide_eq_true (by have := HK1.out; omega)
        have HC1 := Aside0.mk c
        clear c
        have px : (0 ≤ x) = True := eq_true (by have := HK1.out; omega)
        have qx : (x < 25) = True := eq_true (by have := HK1.out; have := HC1.out; omega)
        have hc0 : wr.cell? ⟨g, x.toNat, none⟩ = some (.int .u64 (ga s x.toNat)) := (blk_cell ((HB.out.block g (blk_lt BKs.out)).trans BKs.out) _).trans (ue_get (by rw [HS.out]; have := HK1.out; have := HC1.out; omega))
        go_wp2_with (first | (go_at_call 92; (with_reducible refine (impl_wordBytes.calls 9 (fun _ => True) _ (txl s K1) (ga s x.toNat) _ w _ ?side1 ?side2 (wordBytes_f _ _ (by rw [txl_len]; have := HC1.out; omega))).mono ?_); (case side1 => exact (by repeat (first | exact HB.out | apply Below.drew | apply pw_below_drewN | refine Below.setCell ?_ GEs.out _))); (case side2 => (with_reducible repeat (first | apply Kd.R_alloc | apply Kd.R_drewN | apply Kd.R_drew)); exact HO.out); rintro e w2_ ⟨v4, rfl, ho, hb, hk⟩; have n0_ := Aside0.mk (Kd.R_mono ho (fun _ _ => trivial) : Kd.R (Kd.int .u8) 5 w2_ w.heap.size (fun _ => True) v4 _); have n1_ := Aside0.mk hb; clear HO HB; have HO := n0_; have HB := n1_; clear n0_ n1_ ho hb hk))
        go_roundg k1
        case measure => omega
        case rel => exact ⟨K1 + 1, _, _, rfl, rfl, ⟨by have := HK1.out; unfold wrap64; omega, by have := HK1.out; omega, by have := HK1.out; have := HC1.out; omega⟩, ⟨by have h_ := HO.out; rw [show x.toNat = K1 by have := HK1.out; omega] at h_; (with_reducible repeat (first | apply Kd.R_alloc | apply Kd.R_drewN | apply Kd.R_drew)); exact h_⟩, ⟨(by repeat (first | exact HB.out | apply Below.drew | apply pw_below_drewN | refine Below.setCell ?_ GEs.out _))⟩⟩
      · have c0 : decide (x < 25) = false := decide_eq_false (by have := HK1.out; omega)
        obtain rfl : K1 = 25 := by have := HK1.out; omega
        clear c
        have hcv := own_string (P := Tryd.prog) Tryd.underlying39 Tryd.underlying5 Tryd.underlying9 (Kd.own_of_R HO.out)
        go_wp2
        go_ret
        exact ⟨rfl, (by repeat (first | exact HB.out | apply Below.drew | apply pw_below_drewN | refine Below.setCell ?_ GEs.out _))⟩
end Go.Proofs.YtmiiknkfhiecgaaDoor.Kp
end
section
/- What is proved here: steps of Keccak as the program and the reference write it: what each function answers. No conditions but those that each theorem names. -/
namespace Go.Proofs.YtmiiknkfhiecgaaDoor.Kp
open Go.RowKit Go.Proofs.YtmiiknkfhiecgaaDoorW.PrintWords Go.Proofs.YtmiiknkfhiecgaaDoorW.PrintLast Go.Proofs.YtmiiknkfhiecgaaDoorW.PrintMore
set_option linter.unusedVariables false
set_option linter.unusedSimpArgs false
section
variable {P : Program} {ops : Array Oper} {rest : List Oper} {o : Oper} {a : Act} {Q : Exit → Act → World → Prop}
theorem below_bytesWorld (W : World) (e : TypeId) (s : ByteArray) : Below W.heap.size W (Lib.bytesWorld W e s) :=
  ⟨rfl, rfl, rfl, by rw [Lib.bytesWorld_size]; omega, fun k hk => Lib.bytesWorld_at_old W e s k hk⟩
theorem conv_event {W : World} (hgd : o.guard = none) {N : Tmp} (_hd : o.dst = some N) {src dst e : TypeId} {x : Operand} (ho : o.op = .convert src dst x) {S : ByteArray} (hx : a.eval x = .string S)
    (hs : P.underlying src = some .string) (hd : P.underlying dst = some (.slice e)) (he : P.underlying e = some (.int .u8))
    (h : ∀ g c cs w1, g = W.heap.size → w1.heap[g]? = some (.cells cs e (cs.size, cs.size + 1)) → S.size ≤ cs.size → (∀ i, i < S.size → w1.cell? ⟨g, i, none⟩ = some (.int .u8 (S.data.toList.getD i 0).toNat)) → Below W.heap.size W w1 →
      wpList P ops Q rest (a.put o.dst (.slice (some ⟨g, 0, none⟩) S.size c)) w1) : wpList P ops Q (o :: rest) a W := by
  refine Kd.event_run hgd (v := .slice (some ⟨W.heap.size, 0, none⟩) S.size (grownCap W S.size 0 e)) (w1 := Lib.bytesWorld W e S) ?_ (h _ _ _ _ rfl (Lib.bytesWorld_at_new W e S) ?_ (fun i hi => Lib.bytesWorld_cell W e S i hi) (below_bytesWorld W e S))
  · have := Lib.run_convert_string_bytes (P := P) W src dst e S hs hd he
    unfold execOp
    rw [ho]
    dsimp only
    rw [hx]
    rw [Sem.run_bind, this]
    rfl
  · unfold Lib.bytesCells
    rw [Array.size_append, Array.size_map]
    exact Nat.le_add_right _ _
end
end Go.Proofs.YtmiiknkfhiecgaaDoor.Kp
end
section
/- What is proved here: steps of Keccak as the program and the reference write it: what each function answers. No conditions but those that each theorem names. -/
namespace Go.Proofs.YtmiiknkfhiecgaaDoor.Kp
open Go.RowKit Go.Proofs.YtmiiknkfhiecgaaDoorW.PrintWords Go.Proofs.YtmiiknkfhiecgaaDoorW.PrintLast Go.Proofs.YtmiiknkfhiecgaaDoorW.PrintMore
set_option linter.unusedVariables false
set_option linter.unusedSimpArgs false
def Tryd.rep_ren : Go.Shelf.Ren := ⟨fun | 105 => 90 | 212 => 95 | 99 => 96 | 165 => 97 | 166 => 98 | 170 => 99 | 169 => 100 | 263 => 102 | 264 => 103 | 206 => 104 | 240 => 105 | 241 => 106 | 276 => 107 | 277 => 108 | n => n, fun | 9 => 9 | 3 => 3 | 4 => 4 | 20 => 20 | 0 => 0 | 46 => 45 | 109 => 109 | 5 => 5 | 72 => 114 | 76 => 117 | 51 => 121 | 146 => 122 | 53 => 73 | 148 => 124 | 70 => 112 | 37 => 39 | 75 => 116 | 127 => 126 | 164 => 127 | 80 => 91 | n => n, fun | n => n⟩
theorem Tryd.rep : Go.Proofs.Lays.n105 Tryd.prog Tryd.rep_ren := {
  mixed := by kernel_rfl
  f99 := Tryd.func96.trans (congrArg some (by kernel_rfl))
  f105 := Tryd.func90.trans (congrArg some (by kernel_rfl))
  f165 := Tryd.func97.trans (congrArg some (by kernel_rfl))
  f166 := Tryd.func98.trans (congrArg some (by kernel_rfl))
  f169 := Tryd.func100.trans (congrArg some (by kernel_rfl))
  f170 := Tryd.func99.trans (congrArg some (by kernel_rfl))
  f206 := Tryd.func104.trans (congrArg some (by kernel_rfl))
  f212 := Tryd.func95.trans (congrArg some (by kernel_rfl))
  f240 := Tryd.func105.trans (congrArg some (by kernel_rfl))
  f241 := Tryd.func106.trans (congrArg some (by kernel_rfl))
  f263 := Tryd.func102.trans (congrArg some (by kernel_rfl))
  f264 := Tryd.func103.trans (congrArg some (by kernel_rfl))
  f276 := Tryd.func107.trans (congrArg some (by kernel_rfl))
  f277 := Tryd.func108.trans (congrArg some (by kernel_rfl))
  t0 := Tryd.underlying0
  a0 := Tryd.isAgg0
  z0 := Tryd.sizeOf0
  v0 := Tryd.zeroValue0
  t3 := Tryd.underlying3
  a3 := Tryd.isAgg3
  z3 := Tryd.sizeOf3
  v3 := Tryd.zeroValue3
  t4 := Tryd.underlying4
  a4 := Tryd.isAgg4
  z4 := Tryd.sizeOf4
  v4 := Tryd.zeroValue4
  t5 := Tryd.underlying5
  a5 := Tryd.isAgg5
  z5 := Tryd.sizeOf5
  v5 := Tryd.zeroValue5
  t9 := Tryd.underlying9
  a9 := Tryd.isAgg9
  z9 := Tryd.sizeOf9
  v9 := Tryd.zeroValue9
  t20 := Tryd.underlying20
  a20 := Tryd.isAgg20
  z20 := Tryd.sizeOf20
  v20 := Tryd.zeroValue20
  t37 := Tryd.underlying39
  a37 := Tryd.isAgg39
  z37 := Tryd.sizeOf39
  v37 := Tryd.zeroValue39
  t46 := Tryd.underlying45
  a46 := Tryd.isAgg45
  z46 := Tryd.sizeOf45
  v46 := Tryd.zeroValue45
  t51 := Tryd.underlying121
  a51 := Tryd.isAgg121
  z51 := Tryd.sizeOf121
  v51 := Tryd.zeroValue121
  t53 := Tryd.underlying73
  a53 := Tryd.isAgg73
  z53 := Tryd.sizeOf73
  v53 := Tryd.zeroValue73
  t70 := Tryd.underlying112
  a70 := Tryd.isAgg112
  z70 := Tryd.sizeOf112
  v70 := Tryd.zeroValue112
  t72 := Tryd.underlying114
  a72 := Tryd.isAgg114
  z72 := Tryd.sizeOf114
  v72 := Tryd.zeroValue114
  t75 := Tryd.underlying116
  a75 := Tryd.isAgg116
  z75 := Tryd.sizeOf116
  v75 := Tryd.zeroValue116
  t76 := Tryd.underlying117
  a76 := Tryd.isAgg117
  z76 := Tryd.sizeOf117
  v76 := Tryd.zeroValue117
  t109 := Tryd.underlying109
  a109 := Tryd.isAgg109
  z109 := Tryd.sizeOf109
  v109 := Tryd.zeroValue109
  t127 := Tryd.underlying126
  a127 := Tryd.isAgg126
  z127 := Tryd.sizeOf126
  v127 := Tryd.zeroValue126
  t146 := Tryd.underlying122
  a146 := Tryd.isAgg122
  z146 := Tryd.sizeOf122
  v146 := Tryd.zeroValue122
  t148 := Tryd.underlying124
  a148 := Tryd.isAgg124
  z148 := Tryd.sizeOf124
  v148 := Tryd.zeroValue124
  t164 := Tryd.underlying127
  a164 := Tryd.isAgg127
  z164 := Tryd.sizeOf127
  v164 := Tryd.zeroValue127 }


theorem repExtra : Go.Proofs.Builder.Extra Tryd.prog Tryd.rep_ren := {
  sizeBuilder := by kernel_rfl
  liesBuilder := by kernel_rfl
  t5 := Tryd.rep.t5
  a5 := Tryd.rep.a5
  z5 := Tryd.rep.z5
  v5 := Tryd.rep.v5
  infoByte := by kernel_rfl
  cellsByte := by kernel_rfl
  sizeByte := by kernel_rfl
  neB5 := by decide }
theorem rep_calls (Z : Nat) (w : World) (h : Z ≤ 135) : Calls Tryd.prog 90 #[.string ⟨#[0]⟩, .int .i64 (Z : Int)] w fun e w' => e = .returned (.string ⟨(List.replicate Z (0 : UInt8)).toArray⟩) ∧ Below w.heap.size w w' := by
  have hr : Lib.repeatL (ByteArray.data (⟨#[0]⟩ : ByteArray)).toList Z = List.replicate Z (0 : UInt8) := by
    have := Lib.repeatL_replicate (0 : UInt8) 1 Z
    rwa [Nat.mul_one] at this
  have := Go.Proofs.Any.strings_Repeat Tryd.rep repExtra (⟨#[0]⟩ : ByteArray) Z w (by omega) (by show 1 * Z ≤ _; omega)
  rwa [hr] at this
theorem blkf_set {w : World} {g : Nat} {t : TypeId} {cs : Array Value} {fr : Nat × Nat} (h : w.heap[g]? = some (.cells cs t fr)) (i : Nat) (u : Value) : (w.setCell ⟨g, i, none⟩ u).heap[g]? = some (.cells (cs.setIfInBounds i u) t fr) := by
  simp [World.setCell, Array.getElem?_modify, h]
section
variable {P : Program} {ops : Array Oper} {rest : List Oper} {o : Oper} {a : Act} {Q : Exit → Act → World → Prop}
theorem conv2_event {W : World} (hgd : o.guard = none) {N : Tmp} (_hd : o.dst = some N) {src dst e : TypeId} {x : Operand} (ho : o.op = .convert src dst x) {g n c : Nat} (hx : a.eval x = .slice (some ⟨g, 0, none⟩) n c)
    (hs : P.underlying src = some (.slice e)) (he : P.underlying e = some (.int .u8)) (hd : P.underlying dst = some .string) (xs : List Int) (hlen : xs.length = n) (hcell : ∀ i, i < n → W.cell? ⟨g, i, none⟩ = some (.int .u8 (xs.getD i 0)))
    (h : wpList P ops Q rest (a.put o.dst (.string (strOfNums xs))) W) : wpList P ops Q (o :: rest) a W := by
  refine Kd.event_run hgd (v := .string (strOfNums xs)) (w1 := W) ?_ h
  have := run_convert_bytes_arg (P := P) W src e hs he g 0 n c xs hlen (fun i hi => by rw [Nat.zero_add]; exact hcell i hi) dst hd
  unfold execOp
  rw [ho]
  dsimp only
  rw [hx]
  rw [Sem.run_bind, this]
  rfl
end
def nb (t : ByteArray) : List Int := t.data.toList.map fun b => (b.toNat : Int)
theorem nb_len (t : ByteArray) : (nb t).length = t.size := by
  unfold nb
  rw [List.length_map]
  exact Array.length_toList
def padRaw (xs : List Int) : List Int := xs ++ [1] ++ List.replicate (135 - xs.length % 136) 0
def padL (xs : List Int) : List Int := (padRaw xs).set ((padRaw xs).length - 1) (Go.bits .or .u8 (ga (padRaw xs) ((padRaw xs).length - 1)) 128)
theorem nb_append (a b : ByteArray) : nb (a ++ b) = nb a ++ nb b := by
  unfold nb
  have : (a ++ b).data = a.data ++ b.data := by first | rfl | simp
  rw [this]
  simp
theorem nb_pad (t : ByteArray) (Z : Nat) (h : Z = 135 - t.size % 136) : nb (t ++ (⟨#[1]⟩ : ByteArray) ++ ⟨(List.replicate Z (0 : UInt8)).toArray⟩) = padRaw (nb t) := by
  rw [nb_append, nb_append]
  unfold padRaw
  rw [nb_len, ← h]
  congr 1
  simp [nb]
theorem nb_get (t : ByteArray) (i : Nat) (h : i < t.size) : ((t.data.toList.getD i 0).toNat : Int) = ga (nb t) i := by
  have h' : i < t.data.toList.length := by rw [Array.length_toList]; exact h
  unfold ga nb
  rw [List.getD_eq_getElem?_getD, List.getD_eq_getElem?_getD, List.getElem?_map, List.getElem?_eq_getElem h']
  rfl
theorem padL_len (xs : List Int) : (padL xs).length = (padRaw xs).length := by simp [padL]
theorem pad_cells {xs : List Int} {cs : Array Value} {n : Nat} (hl : (padRaw xs).length = n) (h0 : 0 < n) (hsz : n ≤ cs.size) (hcs : ∀ i, i < n → cs[i]? = some (.int .u8 (ga (padRaw xs) i))) (i : Nat) (hi : i < n) :
    (cs.setIfInBounds (n - 1) (.int .u8 (Go.bits .or .u8 (ga (padRaw xs) (n - 1)) 128)))[i]? = some (.int .u8 ((padL xs).getD i 0)) := by
  unfold padL
  rw [hl, Array.getElem?_setIfInBounds]
  by_cases h : n - 1 = i
  · rw [if_pos h, if_pos (by omega), List.getD_eq_getElem?_getD, List.getElem?_set, if_pos h, if_pos (by omega)]
    rfl
  · rw [if_neg h, hcs i hi, List.getD_eq_getElem?_getD, List.getElem?_set, if_neg h]
    rfl
set_option maxHeartbeats 4000000 in
set_option maxRecDepth 100000 in
theorem impl_KeccakPad.calls (t : ByteArray) (ht : t.size ≤ 140737488351232) (w : World) :
    Calls Tryd.prog 79 #[.string t] w fun e w' => e = .returned (.string (strOfNums (padL (nb t)))) ∧ Below w.heap.size w w' := by
  have HB := Aside0.mk (Below.refl w.heap.size w)
  have HTt := Aside0.mk ht
  obtain ⟨m, hm, em⟩ : ∃ y_, Int.tmod (t.size : Int) 136 = y_ ∧ Aside0 (y_ = ((t.size % 136 : Nat) : Int)) := ⟨_, rfl, ⟨by rw [Int.tmod_eq_emod_of_nonneg (by omega)]; omega⟩⟩
  obtain ⟨Z, hz, ez⟩ : ∃ Z : Nat, wrap64 (135 - m) = (Z : Int) ∧ Aside0 (Z = 135 - t.size % 136) := ⟨135 - t.size % 136, by have := em.out; unfold wrap64; omega, ⟨rfl⟩⟩
  obtain ⟨S, hS⟩ : ∃ S : ByteArray, S = (t ++ (⟨#[1]⟩ : ByteArray)) ++ ⟨(List.replicate Z (0 : UInt8)).toArray⟩ := ⟨_, rfl⟩
  have HSz := Aside0.mk (show S.size = t.size + 1 + Z by rw [hS, ByteArray.size_append, ByteArray.size_append]; show t.size + 1 + (List.replicate Z (0 : UInt8)).toArray.size = _; rw [List.size_toArray, List.length_replicate])
  have HSn := Aside0.mk (show nb S = padRaw (nb t) by rw [hS]; exact nb_pad t Z ez.out)
  have HSe := Aside0.mk hS
  have c1 : (9223372036854775807 < t.size + 1) = False := eq_false (by omega)
  have c2 : (t.size + 1 ≤ 9223372036854775807) = True := eq_true (by omega)
  have c3 : (9223372036854775807 < t.size + 1 + Z) = False := eq_false (by have := ez.out; omega)
  have c4 : (t.size + 1 + Z ≤ 9223372036854775807) = True := eq_true (by have := ez.out; omega)
  clear ht hS
  go_enter Tryd.func79, Tryd.ntmps79
  go_wp2_with (first | (go_at_call 90; (with_reducible refine (rep_calls Z _ (by have := ez.out; omega)).mono ?_); rintro e w1_ ⟨rfl, hb⟩; have n0_ := Aside0.mk (below_then (by repeat (first | exact HB.out | apply Below.drew | apply pw_below_drewN | refine Below.setCell ?_ GEs.out _)) (Below.size (by repeat (first | exact HB.out | apply Below.drew | apply pw_below_drewN | refine Below.setCell ?_ GEs.out _))) hb); clear HB; have HB := n0_; clear n0_ hb) | ((with_reducible refine gate_dst (N := 14) rfl ?_); refine conv_event ?hg (N := 14) ?hd (src := 9) (dst := 39) (e := 5) (S := S) rfl ?hx Tryd.underlying9 Tryd.underlying39 Tryd.underlying5 ?_; (case hg => rfl); (case hd => rfl); (case hx => rw [HSe.out]; rfl); intro g c cs w2_ hg hblk hsz hcell hb; have n0_ := Aside0.mk (below_then (by repeat (first | exact HB.out | apply Below.drew | apply pw_below_drewN | refine Below.setCell ?_ GEs.out _)) (Below.size (by repeat (first | exact HB.out | apply Below.drew | apply pw_below_drewN | refine Below.setCell ?_ GEs.out _))) hb); have GEs := Aside0.mk (show w.heap.size ≤ g by rw [hg]; exact Below.size (by repeat (first | exact HB.out | apply Below.drew | apply pw_below_drewN | refine Below.setCell ?_ GEs.out _))); clear HB; have HB := n0_; clear n0_ hb hg; have HBK := Aside0.mk hblk; have HSC := Aside0.mk hsz; have HCE := Aside0.mk (show ∀ i, i < S.size → cs[i]? = some (.int .u8 (ga (padRaw (nb t)) i)) from fun i hi => by rw [← cell_of_row w2_ g i cs _ _ hblk, hcell i hi, nb_get _ _ hi, HSn.out]); clear hblk hsz hcell; obtain ⟨li, hli, eli⟩ : ∃ y_, wrap64 ((S.size : Int) - 1) = y_ ∧ Aside0 (y_ = ((S.size - 1 : Nat) : Int)) := ⟨_, rfl, ⟨by have := HSz.out; have := HTt.out; have := ez.out; unfold wrap64; omega⟩⟩; have pl : (0 ≤ li) = True := eq_true (by have := eli.out; omega); have ql : (li < (S.size : Int)) = True := eq_true (by have := eli.out; have := HSz.out; omega); have hcl : w2_.cell? ⟨g, li.toNat, none⟩ = some (.int .u8 (ga (padRaw (nb t)) li.toNat)) := (cell_of_row w2_ g _ cs _ _ HBK.out).trans (HCE.out _ (by have := eli.out; have := HSz.out; omega)); have hfz : w2_.frozen? ⟨g, li.toNat, none⟩ = false := (by have h1_ := HBK.out; have h2_ := HSC.out; have h3_ := eli.out; have h4_ := HSz.out; unfold World.frozen?; dsimp only; rw [h1_]; dsimp only; rw [decide_eq_false (by omega)]; rfl)) | ((with_reducible refine gate_dst (N := 24) rfl ?_); refine conv2_event ?hg (N := 24) ?hd (src := 39) (dst := 9) (e := 5) rfl (g := g) (n := S.size) (c := c) ?hx Tryd.underlying39 Tryd.underlying5 Tryd.underlying9 (padL (nb t)) ?hlen ?hcell ?_; (case hg => rfl); (case hd => rfl); (case hx => rfl); (case hlen => rw [padL_len, ← HSn.out, nb_len]); (case hcell => intro i hi; refine (cell_of_row _ g i _ _ _ (blkf_set HBK.out li.toNat _)).trans ?_; rw [show li.toNat = S.size - 1 by have := eli.out; omega]; exact pad_cells (by rw [← HSn.out, nb_len]) (by omega) HSC.out HCE.out i hi)))
  go_ret
  exact ⟨rfl, (by repeat (first | exact HB.out | apply Below.drew | apply pw_below_drewN | refine Below.setCell ?_ GEs.out _))⟩
end Go.Proofs.YtmiiknkfhiecgaaDoor.Kp
end
section
namespace Go.Proofs.YtmiiknkfhiecgaaDoor.Kp
open Go.RowKit Go.Proofs.YtmiiknkfhiecgaaDoorW.PrintWords Go.Proofs.YtmiiknkfhiecgaaDoorW.PrintLast Go.Proofs.YtmiiknkfhiecgaaDoorW.PrintMore
attribute [local go_sem] max2_int min2_int max_two min_two max_three min_three max_four min_four   -- for this text's walks alone
set_option linter.unusedVariables false
set_option linter.unusedSimpArgs false
/-! ### impl_wordAt: function 80 -/
def impl_wordAt.l0 : Nat → ByteArray → Int → Int → Int → Option (Int)
 | 0, _, _, _, _ => none
 | k + 1, x0, x1, x5, x6 => if x6 ≥ 0 then (if 0 ≤ (wrap64 (x1 + x6)) then (if (wrap64 (x1 + x6)) < (x0.size : Int) then (impl_wordAt.l0 k x0 x1 (Go.bits .or .u64 (IntKind.u64.wrap (x5 * 256)) (IntKind.u64.wrap (bt x0 (wrap64 (x1 + x6))))) (wrap64 (x6 - 1))) else (none)) else (none)) else (some x5)
def impl_wordAt.f (k : Nat) (a0 : ByteArray) (a1 : Int) : Option (Int) := impl_wordAt.l0 k a0 a1 0 7
theorem impl_wordAt.mono_l : ∀ k, (∀ y0 y1 y2 y3, LeO (impl_wordAt.l0 k y0 y1 y2 y3) (impl_wordAt.l0 (k + 1) y0 y1 y2 y3))
 | 0 => fun _ _ _ _ r h => by simp [impl_wordAt.l0] at h
 | k + 1 => by
  have ih0 := impl_wordAt.mono_l k
  ·intro y0 y1 y2 y3
   unfold impl_wordAt.l0
   repeat' first
   | (with_reducible exact ih0 _ _ _ _)
   | (with_reducible exact LeO.refl _)
   | (with_reducible exact LeO.none _)
   | (with_reducible refine LeO.ite ?_ ?_)
   | (with_reducible refine LeO.bind ?_ (fun _ => ?_))
   | exact ih0 _ _ _ _
   | exact LeO.none _
   | refine LeO.ite ?_ ?_
   | refine LeO.bind ?_ (fun _ => ?_)
theorem impl_wordAt.mono : ∀ a0 a1 k, LeO (impl_wordAt.f k a0 a1) (impl_wordAt.f (k + 1) a0 a1) := by
 intro a0 a1 k
 have ih0 := impl_wordAt.mono_l k
 unfold impl_wordAt.f
 repeat' first
   | (with_reducible exact ih0 _ _ _ _)
   | (with_reducible exact LeO.refl _)
   | (with_reducible exact LeO.none _)
   | (with_reducible refine LeO.ite ?_ ?_)
   | (with_reducible refine LeO.bind ?_ (fun _ => ?_))
   | exact ih0 _ _ _ _
   | exact LeO.none _
   | refine LeO.ite ?_ ?_
   | refine LeO.bind ?_ (fun _ => ?_)
set_option maxHeartbeats 8000000 in
set_option maxRecDepth 100000 in
theorem impl_wordAt.calls (k : Nat) (a0 : ByteArray) (a1 : Int) (r : Int) (w : World) (h : impl_wordAt.f k a0 a1 = some r) :
  Calls Tryd.prog 80 #[.string a0, .int .i64 a1] w fun e w' => e = .returned (.int .u64 r) ∧ Drawn0 w w' := by
 have H : (impl_wordAt.l0 k a0 a1 0 7) = some r := h
 clear h
 have H' := Aside0.mk H
 clear H
 go_enter Tryd.func80, Tryd.ntmps80
 go_wp2
 go_loopg [5, 6] k (fun kq v5 v6 w' => ∃ (x5_1 : Int) (x6_1 : Int), v5 = .int .u64 x5_1 ∧ v6 = .int .i64 x6_1 ∧ Aside0 (impl_wordAt.l0 kq a0 a1 x5_1 x6_1 = some r) ∧ Aside0 (kq ≤ k) ∧ Drawn0 w w')
 case atStart => exact ⟨(0), (7), (by first | rfl | (simp; done) | (simp [*]; done)), (by first | rfl | (simp; done) | (simp [*]; done)), H', ⟨Nat.le_refl _⟩, by repeat (first | exact Drawn0.refl _ | apply Drawn0.step)⟩
 case round =>
  clear H'
  try clear p2
  obtain ⟨x5_1, x6_1, rfl, rfl, HA, HK1, ⟨m1, rfl⟩⟩ := hrel
  cases gk with
  | zero => exact absurd HA.out (by simp [impl_wordAt.l0])
  | succ k1 =>
   have H := HA.out
   clear HA
   simp only [impl_wordAt.l0] at H
   by_cases c3 : x6_1 ≥ 0
   ·rw [if_pos c3] at H
    have c3b0 : decide (0 ≤ x6_1) = true := decide_eq_true c3
    clear c3
    obtain ⟨ji4, hji4⟩ : ∃ j_ : Int, (wrap64 (a1 + x6_1)) = j_ := ⟨_, rfl⟩
    replace H : (if 0 ≤ (ji4) then (if (ji4) < (a0.size : Int) then (impl_wordAt.l0 k1 a0 a1 (Go.bits .or .u64 (IntKind.u64.wrap (x5_1 * 256)) (IntKind.u64.wrap (bt a0 (ji4)))) (wrap64 (x6_1 - 1))) else (none)) else (none)) = some r := by first | (rw [hji4] at H; exact H) | (simp only [hji4] at H ⊢; exact H)
    have hji4w : (IntKind.i64.wrap (a1 + x6_1)) = ji4 := (i64_w _).trans hji4
    by_cases c5 : 0 ≤ (ji4)
    ·rw [if_pos c5] at H
     have c5b0 : decide (0 ≤ (ji4)) = true := decide_eq_true c5
     clear c5
     by_cases c6 : (ji4) < (a0.size : Int)
     ·rw [if_pos c6] at H
      have c6b0 : decide ((ji4) < (a0.size : Int)) = true := decide_eq_true c6
      clear c6
      have H' := Aside0.mk H
      clear H
      have p7 : 0 ≤ ((ji4) : Int) := of_decide_eq_true (by first | (with_reducible assumption) | assumption)
      have q7 : (ji4) < (a0.size : Int) := of_decide_eq_true (by first | (with_reducible assumption) | assumption)
      have hx7 := bt_at a0 (ji4)
      replace p7 := eq_true p7
      replace q7 := eq_true q7
      go_wp2
      go_roundg k1
      case measure => have := HK1.out; omega
      case rel => exact ⟨(Go.bits .or .u64 (IntKind.u64.wrap (x5_1 * 256)) (IntKind.u64.wrap (bt a0 (ji4)))), (wrap64 (x6_1 - 1)), (by first | rfl | (simp; done) | (simp only [← hji4] <;> (first | rfl | simp)) | (simp [*]; done)), (by first | rfl | (simp; done) | (simp [*]; done)), H', ⟨by have := HK1.out; omega⟩, by repeat (first | exact Drawn0.refl _ | apply Drawn0.step)⟩
     ·rw [if_neg c6] at H
      exact absurd H (by simp)
    ·rw [if_neg c5] at H
     exact absurd H (by simp)
   ·rw [if_neg c3] at H
    have c3b0 : decide (0 ≤ x6_1) = false := decide_eq_false c3
    clear c3
    obtain rfl := Option.some.inj H
    go_wp2
    go_ret
    exact ⟨by first | rfl | (simp; done) | (simp [*]; done), by repeat (first | exact Drawn0.refl _ | apply Drawn0.step)⟩
end Go.Proofs.YtmiiknkfhiecgaaDoor.Kp
end
section
/- What is proved here: steps of Keccak as the program and the reference write it: what each function answers. No conditions but those that each theorem names. -/
namespace Go.Proofs.YtmiiknkfhiecgaaDoor.Kp
open Go.RowKit Go.Proofs.YtmiiknkfhiecgaaDoorW.PrintWords Go.Proofs.YtmiiknkfhiecgaaDoorW.PrintLast Go.Proofs.YtmiiknkfhiecgaaDoorW.PrintMore
set_option linter.unusedVariables false
set_option linter.unusedSimpArgs false
theorem wordAt_some (p : ByteArray) (a : Nat) (h : a + 8 ≤ p.size) (hp : p.size ≤ 281474976710656) (d : Nat) : ∀ (k : Nat) (x i : Int), d ≤ 8 → i = (d : Int) - 1 → d < k → ∃ v, impl_wordAt.l0 k p (a : Int) x i = some v := by
  induction d with
  | zero =>
    intro k x i hd hi hk
    obtain ⟨k, rfl⟩ : ∃ j, k = j + 1 := ⟨k - 1, by omega⟩
    simp only [impl_wordAt.l0]
    rw [if_neg (by omega)]
    exact ⟨_, rfl⟩
  | succ d ih =>
    intro k x i hd hi hk
    obtain ⟨k, rfl⟩ : ∃ j, k = j + 1 := ⟨k - 1, by omega⟩
    simp only [impl_wordAt.l0]
    have e1 : wrap64 ((a : Int) + i) = a + d := by unfold wrap64; omega
    have e2 : wrap64 (i - 1) = (d : Int) - 1 := by unfold wrap64; omega
    rw [if_pos (by omega), e1, if_pos (by omega), if_pos (by omega), e2]
    exact ih k _ _ (by omega) rfl (by omega)
def wv (p : ByteArray) (a : Nat) : Int := (impl_wordAt.f 9 p (a : Int)).getD 0
theorem wordAt_f (p : ByteArray) (a : Nat) (h : a + 8 ≤ p.size) (hp : p.size ≤ 281474976710656) : impl_wordAt.f 9 p (a : Int) = some (wv p a) := by
  obtain ⟨v, hv⟩ := wordAt_some p a h hp 8 9 0 7 (by omega) (by omega) (by omega)
  have hv' : impl_wordAt.f 9 p (a : Int) = some v := hv
  unfold wv
  rw [hv']
  rfl
def xst (s : List Int) (p : ByteArray) (a : Nat) : Nat → List Int
  | 0 => s
  | k + 1 => (xst s p a k).set k (xr (ga (xst s p a k) k) (wv p (a + 8 * k)))
theorem xst_len (s : List Int) (p : ByteArray) (a k : Nat) : (xst s p a k).length = s.length := by
  induction k with
  | zero => rfl
  | succ k ih => simp [xst, ih]
def abst (p : ByteArray) : Nat → List Int
  | 0 => List.replicate 25 0
  | j + 1 => rit (xst (abst p j) p (136 * j) 17) 24
theorem abst_len (p : ByteArray) (j : Nat) : (abst p j).length = 25 := by
  cases j with
  | zero => rfl
  | succ j => simp only [abst, rit_len, xst_len]; induction j with
    | zero => rfl
    | succ j ih => simp only [abst, rit_len, xst_len]; exact ih
theorem strOf_size (xs : List Int) : (strOfNums xs).size = xs.length := by
  unfold strOfNums
  show (xs.map _).toArray.size = _
  rw [List.size_toArray, List.length_map]
def padT (t : ByteArray) : ByteArray := strOfNums (padL (nb t))
theorem padT_size (t : ByteArray) : (padT t).size = 136 * (t.size / 136 + 1) := by
  unfold padT
  rw [strOf_size, padL_len]
  unfold padRaw
  rw [List.length_append, List.length_append, List.length_replicate, nb_len]
  show t.size + 1 + _ = _
  omega
def digI (t : ByteArray) : ByteArray := (strOfNums (txl (abst (padT t) (t.size / 136 + 1)) 25)).extract 0 32
def impl_Digest.f (a0 : ByteArray) : Option ByteArray := if a0.size ≤ 140737488351232 then some (digI a0) else none
theorem tx_size (s : List Int) : (strOfNums (txl s 25)).size = 200 := by
  rw [strOf_size, txl_len]
def impl_Digest.T9 : Bool × List (List Nat × List Nat) := (true, [([], []), ([0], [0]), ([1], [1]), ([], []), ([], []), ([], []), ([5], [5]), ([4, 6], [4, 6]), ([3, 7], [3, 7]), ([2, 8], [2, 8]), ([0, 0, 1, 2, 3, 4, 5, 6, 7, 8, 9], [0]), ([10, 9, 8, 0, 1, 2, 3, 4, 5, 6, 7, 8, 9], [9, 10])])
def impl_Digest.B9 : List Nat := [0, 1, 3, 0, 0, 0, 32, 112, 248, 511, 1023, 2047]
theorem impl_Digest.tab9 : rtab .any (opsOf Tryd.f51 9) = impl_Digest.T9 := by kernel_rfl
theorem impl_Digest.bits9 : waitsOk impl_Digest.T9.2 impl_Digest.B9 = true := by kernel_rfl
set_option maxHeartbeats 8000000 in
set_option maxRecDepth 100000 in
theorem impl_Digest.calls (t : ByteArray) (r : ByteArray) (w : World) (hT : Tab w) (h : impl_Digest.f t = some r) :
    Calls Tryd.prog 51 #[.string t] w fun e w' => e = .returned (.string r) ∧ Below w.heap.size w w' := by
  unfold impl_Digest.f at h
  by_cases ht : t.size ≤ 140737488351232
  case neg => rw [if_neg ht] at h; exact absurd h (by simp)
  rw [if_pos ht] at h
  obtain rfl := Option.some.inj h
  clear h
  have HT := Aside0.mk hT
  have HTt := Aside0.mk ht
  have HB := Aside0.mk (Below.refl w.heap.size w)
  clear hT ht
  obtain ⟨pd, hpd⟩ : ∃ p_, p_ = padT t := ⟨_, rfl⟩
  have HPD := Aside0.mk hpd
  have HPS := Aside0.mk (show pd.size = 136 * (t.size / 136 + 1) by rw [hpd]; exact padT_size t)
  clear hpd
  go_enter Tryd.func51, Tryd.ntmps51
  go_wp2_with (first | (go_at_call 79; (with_reducible refine (impl_KeccakPad.calls t HTt.out _).mono ?_); rintro e w1_ ⟨rfl, hb⟩; have n0_ := Aside0.mk (below_then (by repeat (first | exact HB.out | apply Below.drew | apply pw_below_drewN)) (Below.size (by repeat (first | exact HB.out | apply Below.drew | apply pw_below_drewN))) hb); clear HB; have HB := n0_; clear n0_ hb; rw [show strOfNums (padL (nb t)) = pd from HPD.out.symm]) | ((with_reducible refine gate_dst (N := 4) rfl ?_); refine box_event ?hg (N := 4) ?hd (cs := ue (List.replicate 25 0)) (t := 90) ?hr ?_; (case hd => rfl); (case hg => rfl); (case hr => first | (go_simp; done) | (go_simp; rfl)); intro g hg w2_ hbox hb; have n0_ := Aside0.mk (below_then (by repeat (first | exact HB.out | apply Below.drew | apply pw_below_drewN)) (Below.size (by repeat (first | exact HB.out | apply Below.drew | apply pw_below_drewN))) hb); have GEs := Aside0.mk (show w.heap.size ≤ g by rw [hg]; exact Below.size (by repeat (first | exact HB.out | apply Below.drew | apply pw_below_drewN))); clear HB; have HB := n0_; have BKs := Aside0.mk hbox; clear n0_ hb hbox hg))
  go_loopg [5] (t.size / 136 + 2) (fun kq v5 w' => ∃ (j : Nat) (x : Int), v5 = .int .i64 x ∧ Aside0 (x = ((136 * j : Nat) : Int) ∧ j + kq = t.size / 136 + 2 ∧ j ≤ t.size / 136 + 1) ∧ Aside0 (w'.heap[g]? = some (.cells (ue (abst pd j)) 90 (0, 0))) ∧ Aside0 (Below w.heap.size w w'))
  case atStart => exact ⟨0, 0, rfl, ⟨rfl, by omega, by omega⟩, ⟨by (with_reducible repeat (first | refine blk_drewN ?_ _ | refine blk_drew ?_)); exact BKs.out⟩, ⟨(by repeat (first | exact HB.out | apply Below.drew | apply pw_below_drewN | refine Below.setCell ?_ GEs.out _))⟩⟩
  case round =>
    clear BKs HB
    obtain ⟨J, at_, rfl, HK1, BKs, HB⟩ := hrel
    cases gk with
    | zero => exact absurd HK1.out (by omega)
    | succ k1 =>
      by_cases c : J < t.size / 136 + 1
      · have c0 : decide (at_ < (pd.size : Int)) = true := decide_eq_true (by have := HK1.out; have := HPS.out; omega)
        have HC1 := Aside0.mk c
        clear c
        go_wp2
        go_loopg [15] 18 (fun kq v15 w' => ∃ (k : Nat) (x : Int), v15 = .int .i64 x ∧ Aside0 (x = (k : Int) ∧ k + kq = 18 ∧ k ≤ 17) ∧ Aside0 (w'.heap[g]? = some (.cells (ue (xst (abst pd J) pd (136 * J) k)) 90 (0, 0))) ∧ Aside0 (Below w.heap.size w w'))
        case atStart => exact ⟨0, 0, rfl, ⟨rfl, rfl, by decide⟩, ⟨by (with_reducible repeat (first | refine blk_drewN ?_ _ | refine blk_drew ?_)); exact BKs.out⟩, ⟨(by repeat (first | exact HB.out | apply Below.drew | apply pw_below_drewN | refine Below.setCell ?_ GEs.out _))⟩⟩
        case round =>
          clear BKs HB c0
          obtain ⟨K2, x, rfl, HK2, BKs, HB⟩ := hrel
          cases gk with
          | zero => exact absurd HK2.out (by omega)
          | succ k2 =>
            by_cases c : K2 < 17
            · have c0 : decide (x < 17) = true := decide_eq_true (by have := HK2.out; omega)
              have HC2 := Aside0.mk c
              clear c
              obtain ⟨a1, ha1, ea1⟩ : ∃ y_, wrap64 (8 * x) = y_ ∧ Aside0 (y_ = ((8 * K2 : Nat) : Int)) := ⟨_, rfl, ⟨by have := HK1.out; have := HC1.out; have := HK2.out; have := HC2.out; have := HPS.out; have := HTt.out; first | (unfold wrap64; omega) | (rw [Int.tmod_eq_emod_of_nonneg (by omega)]; omega)⟩⟩
              obtain ⟨a2, ha2, ea2⟩ : ∃ a2 : Nat, wrap64 (at_ + a1) = (a2 : Int) ∧ Aside0 (a2 = 136 * J + 8 * K2) := ⟨136 * J + 8 * K2, by have := HK1.out; have := HC1.out; have := HK2.out; have := HC2.out; have := HPS.out; have := HTt.out; have := ea1.out; unfold wrap64; omega, ⟨rfl⟩⟩
              have px : (0 ≤ x) = True := eq_true (by have := HK1.out; have := HC1.out; have := HK2.out; have := HC2.out; have := HPS.out; have := HTt.out; have := ea1.out; have := ea2.out; omega)
              have qx_25 : (x < 25) = True := eq_true (by have := HK1.out; have := HC1.out; have := HK2.out; have := HC2.out; have := HPS.out; have := HTt.out; have := ea1.out; have := ea2.out; omega)
              have hc0 : wr.cell? ⟨g, x.toNat, none⟩ = some (.int .u64 (ga (xst (abst pd J) pd (136 * J) K2) x.toNat)) := (blk_cell BKs.out _).trans (ue_get (by rw [xst_len, abst_len]; have := HK1.out; have := HC1.out; have := HK2.out; have := HC2.out; have := HPS.out; have := HTt.out; have := ea1.out; have := ea2.out; omega))
              have hfz : wr.frozen? ⟨g, x.toNat, none⟩ = false := blk_frozen BKs.out _
              have HW := Aside0.mk (wordAt_f pd a2 (by have := HK1.out; have := HC1.out; have := HK2.out; have := HC2.out; have := HPS.out; have := HTt.out; have := ea1.out; have := ea2.out; omega) (by have := HK1.out; have := HC1.out; have := HK2.out; have := HC2.out; have := HPS.out; have := HTt.out; have := ea1.out; have := ea2.out; omega))
              go_wp2
              refine start_ (n := 12) (S := fun w' => w'.cell? ⟨g, x.toNat, none⟩ = some (.int .u64 (ga (xst (abst pd J) pd (136 * J) K2) x.toNat))) (ds := [11]) #[false, false, false, false, false, false, false, false, false, false, false, false] (by kernel_rfl) rfl rfl (hc0) (fun hHeld => ?_)
              refine with_tabW impl_Digest.tab9 impl_Digest.bits9 (fun HT_ HW_ => ?_)
              refine pure_ (i := 0) (N := some 18) (v := ?_) (a' := ?_) #[true, false, false, false, false, false, false, false, false, false, false, false] rfl rfl (any_of HT_.out (by kernel_rfl)) (fun _ _ _ h => h) (Or.inl ⟨by rfl, ?_⟩) ?_ ?_
              rotate_left
              · intro w'
                go_simp
                with_reducible rfl
              rotate_left
              · simp only [Act.put, List.setIfInBounds_toArray, List.set_cons_zero, List.set_cons_succ, i64_w, i32_w]
                rfl
              refine pure_ (i := 1) (N := some 19) (v := ?_) (a' := ?_) #[true, true, false, false, false, false, false, false, false, false, false, false] rfl rfl (any_of HT_.out (by kernel_rfl)) (fun _ _ _ h => h) (Or.inl ⟨by rfl, ?_⟩) ?_ ?_
              rotate_left
              · intro w'
                go_simp
                with_reducible rfl
              rotate_left
              · simp only [Act.put, List.setIfInBounds_toArray, List.set_cons_zero, List.set_cons_succ, i64_w, i32_w]
                rfl
              refine pure_ (i := 3) (N := some 21) (v := ?_) (a' := ?_) #[true, true, false, true, false, false, false, false, false, false, false, false] rfl rfl (any_of HT_.out (by kernel_rfl)) (fun _ _ _ h => h) (Or.inl ⟨by rfl, ?_⟩) ?_ ?_
              rotate_left
              · intro w'
                go_simp
                with_reducible rfl
              rotate_left
              · simp only [Act.put, List.setIfInBounds_toArray, List.set_cons_zero, List.set_cons_succ, i64_w, i32_w]
                rfl
              refine pure_ (i := 4) (N := some 22) (v := ?_) (a' := ?_) #[true, true, false, true, true, false, false, false, false, false, false, false] rfl rfl (any_of HT_.out (by kernel_rfl)) (fun _ _ _ h => h) (Or.inl ⟨by rfl, ?_⟩) ?_ ?_
              rotate_left
              · intro w'
                go_simp
                with_reducible rfl
              rotate_left
              · simp only [Act.put, List.setIfInBounds_toArray, List.set_cons_zero, List.set_cons_succ, i64_w, i32_w]
                rfl
              refine pure_ (i := 5) (N := some 23) (v := ?_) (a' := ?_) #[true, true, false, true, true, true, false, false, false, false, false, false] rfl rfl (any_of HT_.out (by kernel_rfl)) (fun _ _ _ h => h) (Or.inl ⟨by rfl, ?_⟩) ?_ ?_
              rotate_left
              · intro w'
                go_simp
                with_reducible rfl
              rotate_left
              · simp only [Act.put, List.setIfInBounds_toArray, List.set_cons_zero, List.set_cons_succ, i64_w, i32_w]
                rfl
              refine pure_ (i := 6) (N := some 24) (v := ?_) (a' := ?_) #[true, true, false, true, true, true, true, false, false, false, false, false] rfl rfl (any_of HT_.out (by kernel_rfl)) (fun _ _ _ h => h) (Or.inl ⟨by rfl, ?_⟩) ?_ ?_
              rotate_left
              · intro w'
                go_simp
                with_reducible rfl
              rotate_left
              · simp only [Act.put, List.setIfInBounds_toArray, List.set_cons_zero, List.set_cons_succ, i64_w, i32_w]
                rfl
              refine pure_ (i := 7) (N := some 25) (v := ?_) (a' := ?_) #[true, true, false, true, true, true, true, true, false, false, false, false] rfl rfl (any_of HT_.out (by kernel_rfl)) (fun _ _ _ h => h) (Or.inl ⟨by rfl, ?_⟩) ?_ ?_
              rotate_left
              · intro w'
                go_simp
                with_reducible rfl
              rotate_left
              · simp only [Act.put, List.setIfInBounds_toArray, List.set_cons_zero, List.set_cons_succ, i64_w, i32_w]
                rfl
              refine take_ (i := 2) (N := some 20) (v := ?_) (a' := ?_) #[true, true, true, true, true, true, true, true, false, false, false, false] rfl rfl (take_ofW HT_.out HW_.out (by kernel_rfl)) (fun _ _ _ h => h) (Or.inl ⟨by rfl, ?_⟩) hHeld ?_ ?_
              rotate_left
              · intro w' s0
                go_simp
                with_reducible rfl
              rotate_left
              · simp only [Act.put, List.setIfInBounds_toArray, List.set_cons_zero, List.set_cons_succ, i64_w, i32_w]
                rfl
              refine one_ (i := 8) (N := some 26) #[true, true, true, true, true, true, true, true, true, false, false, false] rfl rfl (one_of HT_.out (by kernel_rfl)) (by decide) (fun K hK => ?_)
              refine goes_ Tryd.func80 (by kernel_rfl) rfl #[.string pd, .int .i64 (wrap64 (at_ + a1))] (by rfl) rfl rfl (by simp only [List.map_toArray, List.map_cons, List.map_nil]; rfl) ?_
              rw [ha2]
              with_reducible refine (impl_wordAt.calls 9 _ _ _ _ HW.out).mono ?_
              rintro e w3_ ⟨rfl, ⟨nd, rfl⟩⟩
              refine ⟨_, rfl, ?_⟩
              refine hK.out _ _ ((by exact hHeld)) (fun hHeld => ?_)
              clear hK K
              refine norm_ (a' := ?_) ?_ ?_
              rotate_left
              · show Act.put _ (some 26) _ = _
                simp only [Act.put, List.setIfInBounds_toArray, List.set_cons_zero, List.set_cons_succ, i64_w, i32_w]
                rfl
              refine pure_ (i := 9) (N := some 27) (v := ?_) (a' := ?_) #[true, true, true, true, true, true, true, true, true, true, false, false] rfl rfl (any_of HT_.out (by kernel_rfl)) (fun _ _ _ h => h) (Or.inl ⟨by rfl, ?_⟩) ?_ ?_
              rotate_left
              · intro w'
                go_simp
                with_reducible rfl
              rotate_left
              · simp only [Act.put, List.setIfInBounds_toArray, List.set_cons_zero, List.set_cons_succ, i64_w, i32_w]
                rfl
              refine pure_ (i := 10) (N := some 28) (v := ?_) (a' := ?_) #[true, true, true, true, true, true, true, true, true, true, true, false] rfl rfl (any_of HT_.out (by kernel_rfl)) (fun _ _ _ h => h) (Or.inl ⟨by rfl, ?_⟩) ?_ ?_
              rotate_left
              · intro w'
                go_simp
                with_reducible rfl
              rotate_left
              · simp only [Act.put, List.setIfInBounds_toArray, List.set_cons_zero, List.set_cons_succ, i64_w, i32_w]
                rfl
              refine last_ (i := 11) (N := none) #[true, true, true, true, true, true, true, true, true, true, true, true] rfl rfl (one_of HT_.out (by kernel_rfl)) (by decide) (fun K hK => ?_)
              refine skip_ (w1 := ?_) (by rfl) rfl ?_ ?_
              rotate_left
              · go_simp
                rfl
              refine hK.out _ _ ?_
              clear hK K
              refine done_ (done_of HT_.out (by kernel_rfl)) ?_
              go_wp2
              go_roundg k2
              case measure => omega
              case rel => exact ⟨K2 + 1, _, rfl, ⟨by have := HK1.out; have := HC1.out; have := HK2.out; have := HC2.out; have := HPS.out; have := HTt.out; have := ea1.out; have := ea2.out; first | omega | (unfold wrap64; omega), by have := HK1.out; have := HC1.out; have := HK2.out; have := HC2.out; have := HPS.out; have := HTt.out; have := ea1.out; have := ea2.out; omega, by have := HK1.out; have := HC1.out; have := HK2.out; have := HC2.out; have := HPS.out; have := HTt.out; have := ea1.out; have := ea2.out; omega⟩, ⟨by (with_reducible repeat (first | refine blk_drewN ?_ _ | refine blk_drew ?_)); refine blk_put (cs := ue (xst (abst pd J) pd (136 * J) K2)) (by (with_reducible repeat (first | refine blk_drewN ?_ _ | refine blk_drew ?_)); exact BKs.out) x.toNat _ ?_; rw [ue_set]; simp only [xst]; rw [show x.toNat = K2 by have := HK1.out; have := HC1.out; have := HK2.out; have := HC2.out; have := HPS.out; have := HTt.out; have := ea1.out; have := ea2.out; omega, show a2 = 136 * J + 8 * K2 by have := HK1.out; have := HC1.out; have := HK2.out; have := HC2.out; have := HPS.out; have := HTt.out; have := ea1.out; have := ea2.out; omega]⟩, ⟨(by repeat (first | exact HB.out | apply Below.drew | apply pw_below_drewN | refine Below.setCell ?_ GEs.out _))⟩⟩
            · have c0 : decide (x < 17) = false := decide_eq_false (by have := HK2.out; omega)
              obtain rfl : K2 = 17 := by have := HK2.out; omega
              clear c HK2
              go_wp2_with (first | (go_at_call 81; (with_reducible refine (impl_rounds.calls g (xst (abst pd J) pd (136 * J) 17) (by rw [xst_len, abst_len]) w _ HT.out ?side1 GEs.out ?side2).mono ?_); (case side1 => exact (by repeat (first | exact HB.out | apply Below.drew | apply pw_below_drewN | refine Below.setCell ?_ GEs.out _))); (case side2 => ((with_reducible repeat (first | refine blk_drewN ?_ _ | refine blk_drew ?_)); exact BKs.out)); rintro e w4_ ⟨rfl, hk, hb⟩; have n0_ := Aside0.mk hk; have n1_ := Aside0.mk hb; clear BKs HB; have BKs := n0_; have HB := n1_; clear n0_ n1_ hk hb))
              go_roundg k1
              case measure => omega
              case rel => exact ⟨J + 1, _, rfl, ⟨by have := HK1.out; have := HC1.out; have := HPS.out; have := HTt.out; unfold wrap64; omega, by have := HK1.out; have := HC1.out; have := HPS.out; have := HTt.out; omega, by have := HK1.out; have := HC1.out; have := HPS.out; have := HTt.out; omega⟩, ⟨by (with_reducible repeat (first | refine blk_drewN ?_ _ | refine blk_drew ?_)); exact BKs.out⟩, ⟨(by repeat (first | exact HB.out | apply Below.drew | apply pw_below_drewN | refine Below.setCell ?_ GEs.out _))⟩⟩
      · have c0 : decide (at_ < (pd.size : Int)) = false := decide_eq_false (by have := HK1.out; have := HPS.out; omega)
        obtain rfl : J = t.size / 136 + 1 := by have := HK1.out; omega
        clear c
        have HX := Aside0.mk (tx_size (abst pd (t.size / 136 + 1)))
        obtain ⟨tx, htx⟩ : ∃ y_, y_ = strOfNums (txl (abst pd (t.size / 136 + 1)) 25) := ⟨_, rfl⟩
        rw [← htx] at HX
        have HXe := Aside0.mk htx
        clear htx
        have h32 : ((32 : Int) ≤ (tx.size : Int)) = True := eq_true (by have := HX.out; omega)
        go_wp2_with (first | (go_at_call 82; (with_reducible refine (impl_text.calls g (abst pd (t.size / 136 + 1)) (abst_len _ _) _ ?side1).mono ?_); (case side1 => ((with_reducible repeat (first | refine blk_drewN ?_ _ | refine blk_drew ?_)); exact BKs.out)); rintro e w4_ ⟨rfl, hb⟩; have n0_ := Aside0.mk (below_then (by repeat (first | exact HB.out | apply Below.drew | apply pw_below_drewN | refine Below.setCell ?_ GEs.out _)) (Below.size (by repeat (first | exact HB.out | apply Below.drew | apply pw_below_drewN | refine Below.setCell ?_ GEs.out _))) hb); clear BKs HB; have HB := n0_; clear n0_ hb; rw [← HXe.out]))
        go_ret
        exact ⟨by unfold digI; rw [← HPD.out, ← HXe.out]; first | done | rfl, (by repeat (first | exact HB.out | apply Below.drew | apply pw_below_drewN | refine Below.setCell ?_ GEs.out _))⟩
end Go.Proofs.YtmiiknkfhiecgaaDoor.Kp
end
section
/- What is proved here: steps of Keccak as the program and the reference write it: what each function answers. No conditions but those that each theorem names. -/
namespace Go.Proofs.YtmiiknkfhiecgaaDoor.Kp
open Go.RowKit Go.Proofs.YtmiiknkfhiecgaaDoorW.PrintWords Go.Proofs.YtmiiknkfhiecgaaDoorW.PrintLast Go.Proofs.YtmiiknkfhiecgaaDoorW.PrintMore
set_option linter.unusedVariables false
set_option linter.unusedSimpArgs false
theorem ue_one (xs : List Int) : (ue xs).all (·.oneCell') = true := by
  unfold ue
  rw [Array.all_eq_true_iff_forall_mem]
  intro v hv
  obtain ⟨x, _, rfl⟩ := List.mem_map.1 (List.mem_toArray.1 hv)
  rfl
section
variable {P : Program} {ops : Array Oper} {rest : List Oper} {o : Oper} {a : Act} {w : World} {Q : Exit → Act → World → Prop}
theorem wpList_buildA (hg : o.guard = none) (t : TypeId) (parts : Array (Nat × Operand)) (ho : o.op = .build t parts) {cs : Array Value} (hb : P.built t (parts.map fun (i, x) => (i, a.eval x)).toList = some cs)
    (h : wpList P ops Q rest (a.put o.dst (.agg cs)) w) : wpList P ops Q (o :: rest) a w := by
  refine wpList_build hg t parts ho (by rw [hb]; rfl) ?_
  rw [hb]
  exact h
end
theorem built_l03Offsets : Tryd.prog.built 94 [(0, .int .u64 0), (1, .int .u64 1), (2, .int .u64 62), (3, .int .u64 28), (4, .int .u64 27), (5, .int .u64 36), (6, .int .u64 44), (7, .int .u64 6), (8, .int .u64 55), (9, .int .u64 20), (10, .int .u64 3), (11, .int .u64 10), (12, .int .u64 43), (13, .int .u64 25), (14, .int .u64 39), (15, .int .u64 41), (16, .int .u64 45), (17, .int .u64 15), (18, .int .u64 21), (19, .int .u64 8), (20, .int .u64 18), (21, .int .u64 2), (22, .int .u64 61), (23, .int .u64 56), (24, .int .u64 14)] = some (ue turnsL) := by kernel_rfl
set_option maxHeartbeats 4000000 in
set_option maxRecDepth 100000 in
theorem spec_l03Offsets.calls (w : World) : Calls Tryd.prog 83 #[] w fun e w' => e = .returned (.agg (ue turnsL)) ∧ Below w.heap.size w w' := by
  have HB := Aside0.mk (Below.refl w.heap.size w)
  go_enter Tryd.func83, Tryd.ntmps83
  go_wp2_with (first | ((with_reducible refine gate_dst (N := 0) rfl ?_); refine box_event ?hg (N := 0) ?hd (cs := ue (List.replicate 25 0)) (t := 94) ?hr ?_; (case hd => rfl); (case hg => rfl); (case hr => first | (go_simp; done) | (go_simp; rfl)); intro g hg w2_ hbox hb; have n0_ := Aside0.mk (below_then HB.out (Below.size HB.out) hb); have GEs := Aside0.mk (show w.heap.size ≤ g by rw [hg]; exact Nat.le_refl _); clear HB; have HB := n0_; have BKs := Aside0.mk hbox; clear n0_ hb hbox hg) | ((with_reducible refine gate_dst (N := 1) rfl ?_); refine wpList_buildA rfl 94 _ rfl (cs := ue turnsL) ?hb ?_; (case hb => exact built_l03Offsets)) | ((with_reducible refine gate_store (t := 94) (p := 0) rfl ?_); refine wpList_store_row rfl 94 _ _ rfl g (ue turnsL) rfl rfl 94 (ue (List.replicate 25 0)) BKs.out (by kernel_rfl) rfl (ue_one _) ?_; have n0_ := Aside0.mk (below_setRow HB.out GEs.out (ue turnsL)); have n1_ := Aside0.mk (setRow_heap _ g _ (ue turnsL) _ _ BKs.out); clear HB BKs; have HB := n0_; have BKs := n1_; clear n0_ n1_))
  refine bodyPost_ret (results_cell_row rfl _ _ g 94 (ue turnsL) (0, 0) _ rfl (by (with_reducible repeat (first | refine blk_drewN ?_ _ | refine blk_drew ?_)); exact BKs.out) Tryd.underlying94 rfl (by kernel_rfl)) rfl ?_
  exact ⟨rfl, (by repeat (first | exact HB.out | apply Below.drew | apply pw_below_drewN | refine Below.setCell ?_ GEs.out _))⟩
theorem built_l03Rounds : Tryd.prog.built 96 [(0, .int .u64 1), (1, .int .u64 32898), (2, .int .u64 9223372036854808714), (3, .int .u64 9223372039002292224), (4, .int .u64 32907), (5, .int .u64 2147483649), (6, .int .u64 9223372039002292353), (7, .int .u64 9223372036854808585), (8, .int .u64 138), (9, .int .u64 136), (10, .int .u64 2147516425), (11, .int .u64 2147483658), (12, .int .u64 2147516555), (13, .int .u64 9223372036854775947), (14, .int .u64 9223372036854808713), (15, .int .u64 9223372036854808579), (16, .int .u64 9223372036854808578), (17, .int .u64 9223372036854775936), (18, .int .u64 32778), (19, .int .u64 9223372039002259466), (20, .int .u64 9223372039002292353), (21, .int .u64 9223372036854808704), (22, .int .u64 2147483649), (23, .int .u64 9223372039002292232)] = some (ue rcL) := by kernel_rfl
set_option maxHeartbeats 4000000 in
set_option maxRecDepth 100000 in
theorem spec_l03Rounds.calls (w : World) : Calls Tryd.prog 84 #[] w fun e w' => e = .returned (.agg (ue rcL)) ∧ Below w.heap.size w w' := by
  have HB := Aside0.mk (Below.refl w.heap.size w)
  go_enter Tryd.func84, Tryd.ntmps84
  go_wp2_with (first | ((with_reducible refine gate_dst (N := 0) rfl ?_); refine box_event ?hg (N := 0) ?hd (cs := ue (List.replicate 24 0)) (t := 96) ?hr ?_; (case hd => rfl); (case hg => rfl); (case hr => first | (go_simp; done) | (go_simp; rfl)); intro g hg w2_ hbox hb; have n0_ := Aside0.mk (below_then HB.out (Below.size HB.out) hb); have GEs := Aside0.mk (show w.heap.size ≤ g by rw [hg]; exact Nat.le_refl _); clear HB; have HB := n0_; have BKs := Aside0.mk hbox; clear n0_ hb hbox hg) | ((with_reducible refine gate_dst (N := 1) rfl ?_); refine wpList_buildA rfl 96 _ rfl (cs := ue rcL) ?hb ?_; (case hb => exact built_l03Rounds)) | ((with_reducible refine gate_store (t := 96) (p := 0) rfl ?_); refine wpList_store_row rfl 96 _ _ rfl g (ue rcL) rfl rfl 96 (ue (List.replicate 24 0)) BKs.out (by kernel_rfl) rfl (ue_one _) ?_; have n0_ := Aside0.mk (below_setRow HB.out GEs.out (ue rcL)); have n1_ := Aside0.mk (setRow_heap _ g _ (ue rcL) _ _ BKs.out); clear HB BKs; have HB := n0_; have BKs := n1_; clear n0_ n1_))
  refine bodyPost_ret (results_cell_row rfl _ _ g 96 (ue rcL) (0, 0) _ rfl (by (with_reducible repeat (first | refine blk_drewN ?_ _ | refine blk_drew ?_)); exact BKs.out) Tryd.underlying96 rfl (by kernel_rfl)) rfl ?_
  exact ⟨rfl, (by repeat (first | exact HB.out | apply Below.drew | apply pw_below_drewN | refine Below.setCell ?_ GEs.out _))⟩
end Go.Proofs.YtmiiknkfhiecgaaDoor.Kp
end
section
namespace Go.Proofs.YtmiiknkfhiecgaaDoor.Kp
open Go.RowKit Go.Proofs.YtmiiknkfhiecgaaDoorW.PrintWords Go.Proofs.YtmiiknkfhiecgaaDoorW.PrintLast Go.Proofs.YtmiiknkfhiecgaaDoorW.PrintMore
attribute [local go_sem] max2_int min2_int max_two min_two max_three min_three max_four min_four   -- for this text's walks alone
set_option linter.unusedVariables false
set_option linter.unusedSimpArgs false
/-! ### spec_l03Turn: function 93 -/
def spec_l03Turn.f (a0 : Int) (a1 : Int) : Option (Int) := if 0 ≤ a1 then (if 0 ≤ (IntKind.u64.wrap (64 - a1)) then (some (Go.bits .or .u64 (shl .u64 a0 a1) (shr .u64 a0 (IntKind.u64.wrap (64 - a1))))) else (none)) else (none)
set_option maxHeartbeats 8000000 in
set_option maxRecDepth 100000 in
theorem spec_l03Turn.calls (a0 : Int) (a1 : Int) (r : Int) (w : World) (h : spec_l03Turn.f a0 a1 = some r) :
  Calls Tryd.prog 93 #[.int .u64 a0, .int .u64 a1] w fun e w' => e = .returned (.int .u64 r) ∧ Drawn0 w w' := by
 have H : (if 0 ≤ a1 then (if 0 ≤ (IntKind.u64.wrap (64 - a1)) then (some (Go.bits .or .u64 (shl .u64 a0 a1) (shr .u64 a0 (IntKind.u64.wrap (64 - a1))))) else (none)) else (none)) = some r := h
 clear h
 by_cases c3 : 0 ≤ a1
 ·rw [if_pos c3] at H
  have c3b0 := eq_true c3
  have c3b1 : decide (0 ≤ a1) = true := decide_eq_true c3
  clear c3
  obtain ⟨ji4, hji4⟩ : ∃ j_ : Int, (shl .u64 a0 a1) = j_ := ⟨_, rfl⟩
  replace H : (if 0 ≤ (IntKind.u64.wrap (64 - a1)) then (some (Go.bits .or .u64 (ji4) (shr .u64 a0 (IntKind.u64.wrap (64 - a1))))) else (none)) = some r := by first | (rw [hji4] at H; exact H) | (simp only [hji4] at H ⊢; exact H)
  have hji4_ : (IntKind.u64.wrap (a0 * 2 ^ min a1.toNat 64)) = ji4 := hji4
  have hji4z : a1 ≤ 64 → (IntKind.u64.wrap (a0 * 2 ^ a1.toNat)) = ji4 := shl_small hji4
  obtain ⟨ji5, hji5⟩ : ∃ j_ : Int, (IntKind.u64.wrap (64 - a1)) = j_ := ⟨_, rfl⟩
  replace H : (if 0 ≤ (ji5) then (some (Go.bits .or .u64 (ji4) (shr .u64 a0 (ji5)))) else (none)) = some r := by first | (rw [hji5] at H; exact H) | (simp only [hji5] at H ⊢; exact H)
  by_cases c6 : 0 ≤ (ji5)
  ·rw [if_pos c6] at H
   have c6b0 := eq_true c6
   have c6b1 : decide (0 ≤ (ji5)) = true := decide_eq_true c6
   clear c6
   obtain ⟨ji7, hji7⟩ : ∃ j_ : Int, (shr .u64 a0 (ji5)) = j_ := ⟨_, rfl⟩
   replace H : (some (Go.bits .or .u64 (ji4) (ji7))) = some r := by first | (rw [hji7] at H; exact H) | (simp only [hji7] at H ⊢; exact H)
   have hji7_ : (a0 / 2 ^ min (ji5).toNat 64) = ji7 := hji7
   have hji7z : (ji5) ≤ 64 → (a0 / 2 ^ (ji5).toNat) = ji7 := shr_small hji7
   obtain rfl := Option.some.inj H
   go_enter Tryd.func93, Tryd.ntmps93
   go_wp2
   go_ret
   exact ⟨by first | rfl | (simp; done) | (simp only [← hji4, ← hji5, ← hji7] <;> (first | rfl | simp)) | (simp [*]; done), by repeat (first | exact Drawn0.refl _ | apply Drawn0.step)⟩
  ·rw [if_neg c6] at H
   exact absurd H (by simp)
 ·rw [if_neg c3] at H
  exact absurd H (by simp)
end Go.Proofs.YtmiiknkfhiecgaaDoor.Kp
end
