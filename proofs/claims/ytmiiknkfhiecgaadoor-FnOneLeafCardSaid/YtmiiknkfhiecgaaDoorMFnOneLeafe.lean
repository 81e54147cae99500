/- What is proved here: part 5 of 5 of the proof of the given statement FnOneLeaf: the contracts of the Go functions that it reaches, the plain facts on lists and numbers, and (in the last part) the statement itself. No conditions beyond the given ones. -/
import Derived.Test.YtmiiknkfhiecgaaDoorMFnOneLeafwSlim
import Derived.Test.YtmiiknkfhiecgaaDoorMFnOneLeafa
import Derived.Test.YtmiiknkfhiecgaaDoorMFnOneLeafc
import Derived.Test.YtmiiknkfhiecgaaDoorMFnOneLeafd
import Derived.Test.YtmiiknkfhiecgaaDoorMFnOneLeafwMore
import Derived.Deep.Slices
import Derived.ChangeArms
import Derived.DataReads
import Derived.ChangeShapes
import Derived.Test.YtmiiknkfhiecgaaDoorRows
import Derived.ProofKit
import Derived.LaidMore
import Derived.OpenShut
import Derived.Stop.Joined
import Derived.Test.YtmiiknkfhiecgaaDoorTie
import Derived.Test.YtmiiknkfhiecgaaDoorCards
import Derived.WalkKit
import Derived.ShutString
import Derived.ChangeOld
import Derived.Below
import Derived.SizedLaws
import Derived.OpenVars
import Derived.SevenTiedAt

section
namespace Go.Proofs.YtmiiknkfhiecgaaDoor.Pf
open Go.RowKit Go.Proofs.YtmiiknkfhiecgaaDoorW.PrintWords Go.Proofs.YtmiiknkfhiecgaaDoorW.PrintLast Go.Proofs.YtmiiknkfhiecgaaDoorW.PrintMore
attribute [local go_sem] max2_int min2_int max_two min_two max_three min_three max_four min_four   -- for this text's walks alone
set_option linter.unusedVariables false
set_option linter.unusedSimpArgs false
/-! ### spec_l01Place: function 68 -/
def spec_l01Place.f (s0_0 : List Int) (s0_1 : Int) (s0_2 : Int) (a1 : Int) : Option (Int × Int × Int) := (spec_l01Once.f s0_0 s0_1 s0_2 15).bind fun bt470 => (if bt470.1 = true then ((spec_l01PickInt.f s0_0 bt470.2.1 bt470.2.2 (([(-1), a1, wrap64 (a1 + 1), 9223372036854775807, (-9223372036854775808)] : List Int))).bind fun bt476 => (some (bt476.1, bt476.2.1, bt476.2.2))) else ((spec_l01Below.f s0_0 bt470.2.1 bt470.2.2 a1).bind fun bt479 => (some (bt479.1, bt479.2.1, bt479.2.2))))
set_option maxHeartbeats 8000000 in
set_option maxRecDepth 100000 in
theorem spec_l01Place.calls (g : Nat) (s0_0 : List Int) (s0_1 : Int) (s0_2 : Int) (a1 : Int) (r1 : Int) (r2 : Int) (r3 : Int) (w0 w : World) (hI : IsS93 w0 w g s0_0 s0_1 s0_2) (hB : Below w0.heap.size w0 w) (h : spec_l01Place.f s0_0 s0_1 s0_2 a1 = some (r1, r2, r3)) :
  Calls Tryd.prog 68 #[.pointer (some ⟨g, 0, none⟩), .int .i64 a1] w fun e w' => e = .returned (.int .i64 r1) ∧ IsS93 w0 w' g s0_0 r2 r3 ∧ Below w0.heap.size w0 w' ∧ KeepBut w w' g none := by
 have HI0 := Aside0.mk hI
 have HK := Aside0.mk (KeepBut.refl w g none)
 have HL := Aside0.mk hB.size
 clear hI
 have HW0 := Aside0.mk hB.size
 have HB := Aside0.mk hB
 clear hB
 have H : ((spec_l01Once.f s0_0 s0_1 s0_2 15).bind fun bt470 => (if bt470.1 = true then ((spec_l01PickInt.f s0_0 bt470.2.1 bt470.2.2 (([(-1), a1, wrap64 (a1 + 1), 9223372036854775807, (-9223372036854775808)] : List Int))).bind fun bt476 => (some (bt476.1, bt476.2.1, bt476.2.2))) else ((spec_l01Below.f s0_0 bt470.2.1 bt470.2.2 a1).bind fun bt479 => (some (bt479.1, bt479.2.1, bt479.2.2))))) = some (r1, r2, r3) := h
 clear h
 replace H := Option.bind_eq_some_iff.mp H
 obtain ⟨⟨t470, t471, t472⟩, A30, H⟩ := H
 replace H : (if t470 = true then ((spec_l01PickInt.f s0_0 t471 t472 (([(-1), a1, wrap64 (a1 + 1), 9223372036854775807, (-9223372036854775808)] : List Int))).bind fun bt476 => (some (bt476.1, bt476.2.1, bt476.2.2))) else ((spec_l01Below.f s0_0 t471 t472 a1).bind fun bt479 => (some (bt479.1, bt479.2.1, bt479.2.2)))) = some (r1, r2, r3) := H
 have A3 := Aside0.mk A30
 clear A30
 by_cases c4 : t470 = true
 ·subst c4
  have H1 : ((spec_l01PickInt.f s0_0 t471 t472 (([(-1), a1, wrap64 (a1 + 1), 9223372036854775807, (-9223372036854775808)] : List Int))).bind fun bt476 => (some (bt476.1, bt476.2.1, bt476.2.2))) = some (r1, r2, r3) := by rw [if_pos rfl] at H; exact H
  clear H
  have H := H1
  clear H1
  obtain ⟨y473, hy473⟩ : ∃ y_ : List Int, y_ = (([(-1), a1, wrap64 (a1 + 1), 9223372036854775807, (-9223372036854775808)] : List Int)) := ⟨_, rfl⟩
  replace H : ((spec_l01PickInt.f s0_0 t471 t472 y473).bind fun bt476 => (some (bt476.1, bt476.2.1, bt476.2.2))) = some (r1, r2, r3) := by first | (rw [hy473]; with_reducible exact H) | (have H2_ := (Option.bind_some _ _).symm.trans H; rw [hy473]; with_reducible exact H2_) | (have H2_ := (Option.bind_some _ _).symm.trans H; with_reducible exact H2_) | with_reducible exact H | (rw [hy473]; exact H) | exact H
  have Ny473 := Aside0.mk hy473
  clear hy473
  replace H := Option.bind_eq_some_iff.mp H
  obtain ⟨⟨t476, t477, t478⟩, A50, H⟩ := H
  replace H : (some (t476, t477, t478)) = some (r1, r2, r3) := H
  have A5 := Aside0.mk A50
  clear A50
  simp only [Option.some.injEq, Prod.mk.injEq] at H
  obtain ⟨rfl, rfl, rfl⟩ := H
  go_enter Tryd.func68, Tryd.ntmps68
  go_wp2_with (first | ((with_reducible refine gate_callee (f := 86) rfl ?_); refine goesL_ (some 6) rfl rfl Tryd.func86 (by kernel_rfl) rfl #[.pointer (some ⟨g, 0, none⟩), .int .i64 15] rfl (by (try simp only [List.map_toArray, List.map_cons, List.map_nil]); first | done | rfl | (simp only [List.length_drop, List.length_take]; rfl)) ?_; (with_reducible refine (spec_l01Once.calls g s0_0 s0_1 s0_2 15 true t471 t472 w0 _ ?side1 ?side2 A3.out).mono ?_); (case side1 => repeat (first | (with_reducible first | exact HI0.out | apply IsS93.alloc | apply IsS93.drewN | apply IsS93.drew | apply IsS93.set_1 | apply IsS93.set_2) | exact HI0.out)); (case side2 => repeat (first | (with_reducible first | exact HB.out | apply below_alloc | apply pw_below_drewN | apply below_drew1 | refine below_set ?_ (IsS93.ge HI0.out)) | exact HB.out)); rintro e w6 ⟨rfl, hi, hb, hk⟩; refine ⟨_, rfl, ?_⟩; replace HK := Aside0.mk (KeepBut.trans (by repeat (first | (with_reducible first | exact HK.out | apply KeepBut.set_ | apply keep_drewN | apply keep_drew | apply keep_alloc) | exact HK.out)) hk (.inl rfl)); replace HB := Aside0.mk (hb); replace HI0 := Aside0.mk (hi); (try clear hb); (try clear hb2); (try clear hk); (try clear hi)) | ((with_reducible refine gate_dst (N := 11) rfl ?_); refine Kd.R_lit (Kd.int .i64) _ 3 ?hg (N := 11) ?hd (xs := ([(-1), a1, wrap64 (a1 + 1), 9223372036854775807, (-9223372036854775808)] : List Int)) (inner := [.int .i64 (-1), .int .i64 a1, .int .i64 (wrap64 (a1 + 1)), .int .i64 9223372036854775807, .int .i64 (-9223372036854775808)]) (ok := fun _ => True) (okp := fun _ => True) ?hr ?hp (fun _ hk => hk) trivial (Below.refl _ _) (Nat.le_refl _) (by simp) ?_; (case hd => rfl); (case hg => rfl); (case hr => first | (go_simp; done) | (go_simp; rfl)); (case hp => exact (Reps.one (show Kd.M (Kd.int .i64) _ _ _ (-1) [.int .i64 (-1)] from rfl) (Reps.one (show Kd.M (Kd.int .i64) _ _ _ a1 [.int .i64 a1] from rfl) (Reps.one (show Kd.M (Kd.int .i64) _ _ _ (wrap64 (a1 + 1)) [.int .i64 (wrap64 (a1 + 1))] from rfl) (Reps.one (show Kd.M (Kd.int .i64) _ _ _ 9223372036854775807 [.int .i64 9223372036854775807] from rfl) (Reps.one (show Kd.M (Kd.int .i64) _ _ _ (-9223372036854775808) [.int .i64 (-9223372036854775808)] from rfl) (Reps.none _ _))))))); intro v474 w7 ho8 hb hg_ hnew_; clear hg_ hnew_; (first | rw [← Ny473.out] at ho8 | (simp only [Int.reduceToNat] at ho8; rw [← Ny473.out] at ho8)); have HO475 := Aside0.mk (Kd.R_lower ho8 (keep_size (w := w) (g := g) (row := none) (by repeat (first | (with_reducible first | exact HK.out | apply KeepBut.set_ | apply keep_drewN | apply keep_drew | apply keep_alloc) | exact HK.out)))); replace HK := Aside0.mk (KeepBut.trans (by repeat (first | (with_reducible first | exact HK.out | apply KeepBut.set_ | apply keep_drewN | apply keep_drew | apply keep_alloc) | exact HK.out)) (KeepBut.of_below hb g none) (.inl rfl)); replace HB := Aside0.mk (below_step (by repeat (first | (with_reducible first | exact HB.out | apply below_alloc | apply pw_below_drewN | apply below_drew1 | refine below_set ?_ (IsS93.ge HI0.out)) | exact HB.out)) hb); replace HI0 := Aside0.mk (IsS93.below (by repeat (first | (with_reducible first | exact HI0.out | apply IsS93.alloc | apply IsS93.drewN | apply IsS93.drew | apply IsS93.set_1 | apply IsS93.set_2) | exact HI0.out)) hb); clear hb ho8; obtain ⟨Ao9, co9, eo9⟩ := Kd.R_slice HO475.out; subst eo9) | ((with_reducible refine gate_callee (f := 76) rfl ?_); refine goesL_ (some 12) rfl rfl Tryd.func76 (by kernel_rfl) rfl #[.pointer (some ⟨g, 0, none⟩), .slice Ao9 y473.length co9] rfl (by (try simp only [List.map_toArray, List.map_cons, List.map_nil]); first | done | rfl | (simp only [List.length_drop, List.length_take]; rfl)) ?_; (with_reducible refine (spec_l01PickInt.calls g s0_0 t471 t472 _ _ y473 t476 t477 t478 w0 _ ?side1 ?side2 ?side3 ?side4 ?side5 A5.out).mono ?_); (case side1 => repeat (first | (with_reducible first | exact HI0.out | apply IsS93.alloc | apply IsS93.drewN | apply IsS93.drew | apply IsS93.set_1 | apply IsS93.set_2) | exact HI0.out)); (case side2 => repeat (first | (with_reducible first | exact HB.out | apply below_alloc | apply pw_below_drewN | apply below_drew1 | refine below_set ?_ (IsS93.ge HI0.out)) | exact HB.out)); (case side3 => repeat (first | exact (Kd.R_reads' HO475.out).2.2 | (with_reducible refine Kd.C_alloc ?_ _) | (with_reducible refine Kd.C_drewN ?_ _) | (with_reducible refine Kd.C_drew ?_))); (case side4 => exact (Kd.R_reads' HO475.out).2.1); (case side5 => exact far_slice (IsS93.own_ne HI0.out HO475.out (by decide))); rintro e w10 ⟨rfl, hi, hb, hk⟩; refine ⟨_, rfl, ?_⟩; replace HO475 := Aside0.mk (Kd.R_mono (Kd.R_keep (IsS93.apart (show IsS93 w0 _ g s0_0 t471 t472 from by repeat (first | (with_reducible first | exact HI0.out | apply IsS93.alloc | apply IsS93.drewN | apply IsS93.drew | apply IsS93.set_1 | apply IsS93.set_2) | exact HI0.out)) (by (with_reducible repeat (first | apply Kd.R_alloc | apply Kd.R_drewN | apply Kd.R_drew)); exact HO475.out) (by decide)) hk (fun _ h => h.2)) (fun _ h => h.1)); replace HK := Aside0.mk (KeepBut.trans (by repeat (first | (with_reducible first | exact HK.out | apply KeepBut.set_ | apply keep_drewN | apply keep_drew | apply keep_alloc) | exact HK.out)) hk (.inl rfl)); replace HB := Aside0.mk (hb); replace HI0 := Aside0.mk (hi); (try clear hb); (try clear hb2); (try clear hk); (try clear hi)))
  go_ret
  exact ⟨by first | rfl | (simp [errW_none, errW_some] <;> rfl) | (simp [*, errW_none, errW_some] <;> rfl), by repeat (first | (with_reducible first | exact HI0.out | apply IsS93.alloc | apply IsS93.drewN | apply IsS93.drew | apply IsS93.set_1 | apply IsS93.set_2) | exact HI0.out), by repeat (first | (with_reducible first | exact HB.out | apply below_alloc | apply pw_below_drewN | apply below_drew1 | refine below_set ?_ (IsS93.ge HI0.out)) | exact HB.out), by repeat (first | (with_reducible first | exact HK.out | apply KeepBut.set_ | apply keep_drewN | apply keep_drew | apply keep_alloc) | exact HK.out)⟩
 ·replace c4 := Bool.eq_false_iff.mpr c4
  subst c4
  have H1 : ((spec_l01Below.f s0_0 t471 t472 a1).bind fun bt479 => (some (bt479.1, bt479.2.1, bt479.2.2))) = some (r1, r2, r3) := by rw [if_neg (show ¬ (false = true) by decide)] at H; exact H
  clear H
  have H := H1
  clear H1
  replace H := Option.bind_eq_some_iff.mp H
  obtain ⟨⟨t479, t480, t481⟩, A110, H⟩ := H
  replace H : (some (t479, t480, t481)) = some (r1, r2, r3) := H
  have A11 := Aside0.mk A110
  clear A110
  simp only [Option.some.injEq, Prod.mk.injEq] at H
  obtain ⟨rfl, rfl, rfl⟩ := H
  go_enter Tryd.func68, Tryd.ntmps68
  go_wp2_with (first | ((with_reducible refine gate_callee (f := 86) rfl ?_); refine goesL_ (some 6) rfl rfl Tryd.func86 (by kernel_rfl) rfl #[.pointer (some ⟨g, 0, none⟩), .int .i64 15] rfl (by (try simp only [List.map_toArray, List.map_cons, List.map_nil]); first | done | rfl | (simp only [List.length_drop, List.length_take]; rfl)) ?_; (with_reducible refine (spec_l01Once.calls g s0_0 s0_1 s0_2 15 false t471 t472 w0 _ ?side1 ?side2 A3.out).mono ?_); (case side1 => repeat (first | (with_reducible first | exact HI0.out | apply IsS93.alloc | apply IsS93.drewN | apply IsS93.drew | apply IsS93.set_1 | apply IsS93.set_2) | exact HI0.out)); (case side2 => repeat (first | (with_reducible first | exact HB.out | apply below_alloc | apply pw_below_drewN | apply below_drew1 | refine below_set ?_ (IsS93.ge HI0.out)) | exact HB.out)); rintro e w12 ⟨rfl, hi, hb, hk⟩; refine ⟨_, rfl, ?_⟩; replace HK := Aside0.mk (KeepBut.trans (by repeat (first | (with_reducible first | exact HK.out | apply KeepBut.set_ | apply keep_drewN | apply keep_drew | apply keep_alloc) | exact HK.out)) hk (.inl rfl)); replace HB := Aside0.mk (hb); replace HI0 := Aside0.mk (hi); (try clear hb); (try clear hb2); (try clear hk); (try clear hi)) | ((with_reducible refine gate_callee (f := 60) rfl ?_); refine goesL_ (some 15) rfl rfl Tryd.func60 (by kernel_rfl) rfl #[.pointer (some ⟨g, 0, none⟩), .int .i64 a1] rfl (by (try simp only [List.map_toArray, List.map_cons, List.map_nil]); first | done | rfl | (simp only [List.length_drop, List.length_take]; rfl)) ?_; (with_reducible refine (spec_l01Below.calls g s0_0 t471 t472 a1 t479 t480 t481 w0 _ ?side1 ?side2 A11.out).mono ?_); (case side1 => repeat (first | (with_reducible first | exact HI0.out | apply IsS93.alloc | apply IsS93.drewN | apply IsS93.drew | apply IsS93.set_1 | apply IsS93.set_2) | exact HI0.out)); (case side2 => repeat (first | (with_reducible first | exact HB.out | apply below_alloc | apply pw_below_drewN | apply below_drew1 | refine below_set ?_ (IsS93.ge HI0.out)) | exact HB.out)); rintro e w13 ⟨rfl, hi, hb, hk⟩; refine ⟨_, rfl, ?_⟩; replace HK := Aside0.mk (KeepBut.trans (by repeat (first | (with_reducible first | exact HK.out | apply KeepBut.set_ | apply keep_drewN | apply keep_drew | apply keep_alloc) | exact HK.out)) hk (.inl rfl)); replace HB := Aside0.mk (hb); replace HI0 := Aside0.mk (hi); (try clear hb); (try clear hb2); (try clear hk); (try clear hi)))
  go_ret
  exact ⟨by first | rfl | (simp [errW_none, errW_some] <;> rfl) | (simp [*, errW_none, errW_some] <;> rfl), by repeat (first | (with_reducible first | exact HI0.out | apply IsS93.alloc | apply IsS93.drewN | apply IsS93.drew | apply IsS93.set_1 | apply IsS93.set_2) | exact HI0.out), by repeat (first | (with_reducible first | exact HB.out | apply below_alloc | apply pw_below_drewN | apply below_drew1 | refine below_set ?_ (IsS93.ge HI0.out)) | exact HB.out), by repeat (first | (with_reducible first | exact HK.out | apply KeepBut.set_ | apply keep_drewN | apply keep_drew | apply keep_alloc) | exact HK.out)⟩
end Go.Proofs.YtmiiknkfhiecgaaDoor.Pf
end
section
/- What is proved here: the reference's reader of draws always answers, and its numbers lie where they should. No conditions but that the bytes are no longer than a Go slice can be. -/
set_option linter.unusedVariables false
set_option linter.unusedSimpArgs false
namespace Go.Proofs.YtmiiknkfhiecgaaDoor.Draw
open Go.RowKit Go.Proofs.YtmiiknkfhiecgaaDoor.Pf Go.Proofs.YtmiiknkfhiecgaaDoorW.PrintWords

theorem wrapd {i : Int} (h0 : -9223372036854775808 ≤ i) (h : i ≤ 9223372036854775807) : wrap64 i = i := by
  unfold wrap64; omega
theorem Ev.one {α : Type} {g : Nat → Option α} {r : α} (h : ∀ k, g (k + 1) = some r) : Ev g r :=
  ⟨1, fun k hk => by obtain ⟨k, rfl⟩ : ∃ m, k = m + 1 := ⟨k - 1, by omega⟩; exact h k⟩
theorem and_255 (x : Int) : 0 ≤ Go.bits .and .i64 x 255 ∧ Go.bits .and .i64 x 255 ≤ 255 := by
  have h : (BitVec.ofInt (IntKind.bits .i64) 255).toNat = 255 := by decide
  simp only [Go.bits, BitVec.toNat_and, h]
  generalize (BitVec.ofInt _ x).toNat = a
  have : a &&& 255 ≤ 255 := Nat.and_le_right
  rw [IntKind.wrap_i64]
  omega
/-- a reader's state: its place lies in the bytes -/
def Okc (b : List Int) (i : Int) : Prop := 0 ≤ i ∧ i ≤ 9223372036854775807 ∧ b.length ≤ 9223372036854775807
theorem byte_some (b : List Int) (i h : Int) (ho : Okc b i) : ∃ x i' h', spec_l01Byte.f b i h = some (x, i', h') ∧ 0 ≤ x ∧ x ≤ 255 ∧ Okc b i' := by
  obtain ⟨h0, h1, h2⟩ := ho
  unfold spec_l01Byte.f
  by_cases c : i < (b.length : Int)
  · rw [if_pos c, if_pos h0, wrapd (i := i + 1) (by omega) (by omega)]
    exact ⟨_, _, _, rfl, (and_255 _).1, (and_255 _).2, by omega, by omega, h2⟩
  · rw [if_neg c]
    exact ⟨_, _, _, rfl, (and_255 _).1, (and_255 _).2, h0, h1, h2⟩
theorem below_some (b : List Int) (i h n : Int) (ho : Okc b i) (hn : 0 < n) (hn2 : n ≤ 4294967296) : ∃ x i' h', spec_l01Below.f b i h n = some (x, i', h') ∧ 0 ≤ x ∧ x < n ∧ Okc b i' := by
  unfold spec_l01Below.f
  rw [if_neg (by omega)]
  by_cases c : n ≤ 256
  · obtain ⟨x, i1, h1, e1, x0, x1, o1⟩ := byte_some b i h ho
    rw [if_pos c, e1]
    simp only [Option.bind_some]
    rw [if_neg (by omega)]
    exact ⟨_, _, _, rfl, Int.tmod_nonneg _ x0, Int.tmod_lt_of_pos _ hn, o1⟩
  · obtain ⟨x, i1, h1, e1, x0, x1, o1⟩ := byte_some b i h ho
    obtain ⟨y, i2, h2, e2, y0, y1, o2⟩ := byte_some b i1 h1 o1
    obtain ⟨z, i3, h3, e3, z0, z1, o3⟩ := byte_some b i2 h2 o2
    obtain ⟨u, i4, h4, e4, u0, u1, o4⟩ := byte_some b i3 h3 o3
    rw [if_neg c]
    simp only [e1, e2, e3, e4, Option.bind_some]
    rw [if_neg (by omega), wrapd (i := x * 16777216) (by omega) (by omega), wrapd (i := y * 65536) (by omega) (by omega), wrapd (i := z * 256) (by omega) (by omega), wrapd (i := x * 16777216 + y * 65536) (by omega) (by omega), wrapd (i := x * 16777216 + y * 65536 + z * 256) (by omega) (by omega), wrapd (by omega) (by omega)]
    exact ⟨_, _, _, rfl, Int.tmod_nonneg _ (by omega), Int.tmod_lt_of_pos _ hn, o4⟩
theorem new_l0 (b : List Int) (hb : b.length ≤ 9223372036854775807) : ∀ (d i : Nat) (h : Int), i + d = b.length → ∃ h', Ev (fun k => spec_l01New.l0 k b h (i : Int)) (b, 0, h')
  | 0, i, h, hi => ⟨h, Ev.one fun k => by
      simp only [spec_l01New.l0]
      rw [if_neg (by omega)]⟩
  | d + 1, i, h, hi => by
    by_cases c : (i : Int) < 4000
    · obtain ⟨h', he⟩ := new_l0 b hb d (i + 1) (Go.bits .and .i64 (wrap64 ((wrap64 ((wrap64 (h * 131)) + (wrap64 (rd b (i : Int))))) + 7)) 1073741823) (by omega)
      refine ⟨h', Ev.step (fun k => ?_) he⟩
      simp only [spec_l01New.l0]
      rw [if_pos (by omega), if_pos c, if_pos (by omega), wrapd (i := (i : Int) + 1) (by omega) (by omega)]
      rfl
    · refine ⟨h, Ev.one fun k => ?_⟩
      simp only [spec_l01New.l0]
      rw [if_pos (by omega), if_neg c]
theorem new_ev (b : List Int) (hb : b.length ≤ 9223372036854775807) : ∃ h, Ev (fun k => spec_l01New.f k b) (b, 0, h) := by
  obtain ⟨h, he⟩ := new_l0 b hb b.length 0 (wrap64 (76801 + (b.length : Int))) (by omega)
  exact ⟨h, he⟩
theorem ok0 (b : List Int) (hb : b.length ≤ 9223372036854775807) : Okc b 0 := ⟨by omega, by omega, hb⟩
theorem once_some (b : List Int) (i h n : Int) (ho : Okc b i) (hn : 0 < n) (hn2 : n ≤ 4294967296) : ∃ x i' h', spec_l01Once.f b i h n = some (x, i', h') ∧ Okc b i' := by
  obtain ⟨x, i1, h1, e1, _, _, o1⟩ := below_some b i h n ho hn hn2
  exact ⟨x == 0, i1, h1, by simp only [spec_l01Once.f, e1, Option.bind_some], o1⟩
theorem pick_some (b : List Int) (i h : Int) (l : List Int) (ho : Okc b i) (hl : 0 < l.length) (hl2 : l.length ≤ 1000) : ∃ x i' h', spec_l01PickInt.f b i h l = some (x, i', h') ∧ x ∈ l ∧ Okc b i' := by
  obtain ⟨x, i1, h1, e1, x0, x1, o1⟩ := below_some b i h (l.length : Int) ho (by omega) (by omega)
  have hx : x.toNat < l.length := by omega
  refine ⟨rd l x, i1, h1, ?_, ?_, o1⟩
  · simp only [spec_l01PickInt.f, e1, Option.bind_some]
    rw [if_pos x0, if_pos x1]
  · unfold rd
    rw [List.getD_eq_getElem?_getD, List.getElem?_eq_getElem hx, Option.getD_some]
    exact List.getElem_mem hx
theorem places_l0 (b : List Int) : ∀ (d : Nat) (j : Nat) (xs : List Int) (i h : Int), j + d = 12 → xs.length = j → (∀ x ∈ xs, 0 ≤ x ∧ x ≤ 9999) → Okc b i →
    ∃ ys : List Int, ys.length = 12 ∧ (∀ x ∈ ys, 0 ≤ x ∧ x ≤ 9999) ∧ Ev (fun k => spec_DrawPlaces.l0 k xs (j : Int) b i h) ys
  | 0, j, xs, i, h, hj, hl, hx, ho => ⟨xs, by omega, hx, Ev.one fun k => by
      simp only [spec_DrawPlaces.l0]
      rw [if_neg (by omega)]⟩
  | d + 1, j, xs, i, h, hj, hl, hx, ho => by
    obtain ⟨x, i1, h1, e1, x0, x1, o1⟩ := below_some b i h 10000 ho (by decide) (by decide)
    obtain ⟨ys, y1, y2, y3⟩ := places_l0 b d (j + 1) (xs ++ [x]) i1 h1 (by omega) (by simp [hl]) (fun z hz => by
      rcases List.mem_append.1 hz with hz | hz
      · exact hx z hz
      · rw [List.mem_singleton.1 hz]; omega) o1
    refine ⟨ys, y1, y2, Ev.step (fun k => ?_) y3⟩
    simp only [spec_DrawPlaces.l0]
    rw [if_pos (by omega), e1, Option.bind_some, if_pos (by omega), wrapd (by omega) (by omega)]
    rfl
theorem places_ev (b : List Int) (hb : b.length ≤ 9223372036854775807) : ∃ ys : List Int, ys.length = 12 ∧ (∀ x ∈ ys, 0 ≤ x ∧ x ≤ 9999) ∧ Ev (fun k => spec_DrawPlaces.f k b) ys := by
  obtain ⟨h, K1, e1⟩ := new_ev b hb
  obtain ⟨x, i1, h1, e2, _, _, o1⟩ := byte_some b 0 h (ok0 b hb)
  obtain ⟨ys, y1, y2, K2, y3⟩ := places_l0 b 12 0 [] i1 h1 (by omega) rfl (fun z hz => by cases hz) o1
  refine ⟨ys, y1, y2, K1 + K2, fun k hk => ?_⟩
  have g1 := e1 k (by omega)
  have g2 := y3 k (by omega)
  dsimp only at g1 g2 ⊢
  simp only [spec_DrawPlaces.f, g1, Option.bind_some, e2]
  exact g2
end Go.Proofs.YtmiiknkfhiecgaaDoor.Draw
end
section
/- What is proved here: drawn texts, places and leaves always answer, and none is long. No conditions but that the bytes are no longer than a Go slice can be. -/
set_option linter.unusedVariables false
set_option linter.unusedSimpArgs false
namespace Go.Proofs.YtmiiknkfhiecgaaDoor.Draw
open Go.RowKit Go.Proofs.YtmiiknkfhiecgaaDoor.Pf Go.Proofs.YtmiiknkfhiecgaaDoorW.PrintWords
theorem text_l0 (b : List Int) (n : Nat) (hn : n ≤ 5000) : ∀ (d j : Nat) (xs : List Int) (i h : Int), j + d = n → xs.length = j → Okc b i →
    ∃ t i' h', (∀ k, d < k → spec_l01Text.l0 k (n : Int) xs (j : Int) b i h = some (t, i', h')) ∧ t.size = n ∧ Okc b i'
  | 0, j, xs, i, h, hj, hl, ho => by
    refine ⟨strOfNums xs, i, h, fun k hk => ?_, by rw [strOfNums_size]; omega, ho⟩
    obtain ⟨k, rfl⟩ : ∃ m, k = m + 1 := ⟨k - 1, by omega⟩
    simp only [spec_l01Text.l0]
    rw [if_neg (by omega)]
  | d + 1, j, xs, i, h, hj, hl, ho => by
    obtain ⟨x, i1, h1, e1, _, _, o1⟩ := byte_some b i h ho
    obtain ⟨t, i2, h2, e2, s2, o2⟩ := text_l0 b n hn d (j + 1) (xs ++ [x % 256]) i1 h1 (by omega) (by simp [hl]) o1
    refine ⟨t, i2, h2, fun k hk => ?_, s2, o2⟩
    obtain ⟨k, rfl⟩ : ∃ m, k = m + 1 := ⟨k - 1, by omega⟩
    simp only [spec_l01Text.l0]
    rw [if_pos (by omega), e1, Option.bind_some, if_pos (by omega), wrapd (by omega) (by omega), show (j : Int) + 1 = ((j + 1 : Nat) : Int) by omega]
    exact e2 k (by omega)
theorem text_some (b : List Int) (i h n : Int) (h0 : 0 ≤ n) (hn : n ≤ 5000) (ho : Okc b i) :
    ∃ t i' h', (∀ k, 6000 ≤ k → spec_l01Text.f k b i h n = some (t, i', h')) ∧ (t.size : Int) = n ∧ Okc b i' := by
  obtain ⟨t, i1, h1, e1, s1, o1⟩ := text_l0 b n.toNat (by omega) n.toNat 0 [] i h (by omega) rfl ho
  refine ⟨t, i1, h1, fun k hk => ?_, by omega, o1⟩
  obtain ⟨k, rfl⟩ : ∃ m, k = m + 1 := ⟨k - 1, by omega⟩
  unfold spec_l01Text.f
  rw [if_neg (by omega)]
  simp only [spec_l01Text.j0]
  have h3 := e1 k (by omega)
  rw [show ((n.toNat : Nat) : Int) = n by omega] at h3
  exact h3
theorem leaves_l0 (b : List Int) : ∀ (d j : Nat) (xs : List ByteArray) (i h : Int), j + d = 9 → xs.length = j → (∀ y ∈ xs, y.size ≤ 5) → Okc b i →
    ∃ ys i' h', (∀ k, 6000 + d < k → spec_l10Leaves.l0 k xs (j : Int) b i h = some (ys, i', h')) ∧ ys.length ≤ 33 ∧ (∀ y ∈ ys, y.size ≤ 5) ∧ Okc b i' := by
  intro d
  induction d with
  | zero =>
    intro j xs i h hj hl hs ho
    obtain ⟨n, i1, h1, e1, n0, n1, o1⟩ := below_some b i h 9 ho (by decide) (by decide)
    obtain ⟨c, i2, h2, e2, o2⟩ := once_some b i1 h1 12 o1 (by decide) (by decide)
    by_cases hc : c = true
    · obtain ⟨m, i3, h3, e3, m0, m1, o3⟩ := below_some b i2 h2 2 o2 (by decide) (by decide)
      refine ⟨List.replicate (32 + m).toNat (⟨#[]⟩ : ByteArray), i3, h3, fun k hk => ?_, ?_, ?_, o3⟩
      · obtain ⟨k, rfl⟩ : ∃ m, k = m + 1 := ⟨k - 1, by omega⟩
        simp only [spec_l10Leaves.l0, e1, Option.bind_some]
        rw [if_neg (by omega), e2, Option.bind_some, if_pos hc, e3, Option.bind_some, wrapd (by omega) (by omega), if_pos (by omega), if_pos (by omega)]
      · rw [List.length_replicate]; omega
      · intro y hy; rw [(List.mem_replicate.1 hy).2]; decide
    · refine ⟨xs, i2, h2, fun k hk => ?_, by omega, hs, o2⟩
      obtain ⟨k, rfl⟩ : ∃ m, k = m + 1 := ⟨k - 1, by omega⟩
      simp only [spec_l10Leaves.l0, e1, Option.bind_some]
      rw [if_neg (by omega), e2, Option.bind_some, if_neg hc]
  | succ d ih =>
    intro j xs i h hj hl hs ho
    obtain ⟨n, i1, h1, e1, n0, n1, o1⟩ := below_some b i h 9 ho (by decide) (by decide)
    by_cases c0 : (j : Int) < n
    · obtain ⟨m, i2, h2, e2, m0, m1, o2⟩ := below_some b i1 h1 5 o1 (by decide) (by decide)
      obtain ⟨t, i3, h3, e3, s3, o3⟩ := text_some b i2 h2 m m0 (by omega) o2
      obtain ⟨ys, i4, h4, e4, l4, s4, o4⟩ := ih (j + 1) (xs ++ [t]) i3 h3 (by omega) (by simp [hl]) (fun y hy => by
        rcases List.mem_append.1 hy with hy | hy
        · exact hs y hy
        · rw [List.mem_singleton.1 hy]; omega) o3
      refine ⟨ys, i4, h4, fun k hk => ?_, l4, s4, o4⟩
      obtain ⟨k, rfl⟩ : ∃ m, k = m + 1 := ⟨k - 1, by omega⟩
      simp only [spec_l10Leaves.l0, e1, Option.bind_some]
      rw [if_pos c0, e2, Option.bind_some, e3 k (by omega), Option.bind_some, if_pos (by omega), wrapd (by omega) (by omega), show (j : Int) + 1 = ((j + 1 : Nat) : Int) by omega]
      exact e4 k (by omega)
    · obtain ⟨c, i2, h2, e2, o2⟩ := once_some b i1 h1 12 o1 (by decide) (by decide)
      by_cases hc : c = true
      · obtain ⟨m, i3, h3, e3, m0, m1, o3⟩ := below_some b i2 h2 2 o2 (by decide) (by decide)
        refine ⟨List.replicate (32 + m).toNat (⟨#[]⟩ : ByteArray), i3, h3, fun k hk => ?_, ?_, ?_, o3⟩
        · obtain ⟨k, rfl⟩ : ∃ m, k = m + 1 := ⟨k - 1, by omega⟩
          simp only [spec_l10Leaves.l0, e1, Option.bind_some]
          rw [if_neg c0, e2, Option.bind_some, if_pos hc, e3, Option.bind_some, wrapd (by omega) (by omega), if_pos (by omega), if_pos (by omega)]
        · rw [List.length_replicate]; omega
        · intro y hy; rw [(List.mem_replicate.1 hy).2]; decide
      · refine ⟨xs, i2, h2, fun k hk => ?_, by omega, hs, o2⟩
        obtain ⟨k, rfl⟩ : ∃ m, k = m + 1 := ⟨k - 1, by omega⟩
        simp only [spec_l10Leaves.l0, e1, Option.bind_some]
        rw [if_neg c0, e2, Option.bind_some, if_neg hc]
theorem leaves_some (b : List Int) (i h : Int) (ho : Okc b i) :
    ∃ ys i' h', (∀ k, 6100 ≤ k → spec_l10Leaves.f k b i h = some (ys, i', h')) ∧ ys.length ≤ 33 ∧ (∀ y ∈ ys, y.size ≤ 5) ∧ Okc b i' := by
  obtain ⟨ys, i', h', e, l, s, o⟩ := leaves_l0 b 9 0 [] i h (by omega) rfl (fun y hy => by cases hy) ho
  refine ⟨ys, i', h', fun k hk => ?_, l, s, o⟩
  unfold spec_l10Leaves.f
  exact e k (by omega)
theorem place_some (b : List Int) (i h a : Int) (h0 : 0 < a) (h1 : a ≤ 1000) (ho : Okc b i) : ∃ x i' h', spec_l01Place.f b i h a = some (x, i', h') ∧ Okc b i' := by
  obtain ⟨c, i1, h1', e1, o1⟩ := once_some b i h 15 ho (by decide) (by decide)
  unfold spec_l01Place.f
  rw [e1, Option.bind_some]
  by_cases hc : c = true
  · obtain ⟨x, i2, h2, e2, _, o2⟩ := pick_some b i1 h1' [(-1), a, wrap64 (a + 1), 9223372036854775807, (-9223372036854775808)] o1 (by simp) (by simp)
    rw [if_pos hc, e2]
    exact ⟨_, _, _, rfl, o2⟩
  · obtain ⟨x, i2, h2, e2, _, _, o2⟩ := below_some b i1 h1' a o1 h0 (by omega)
    rw [if_neg hc, e2]
    exact ⟨_, _, _, rfl, o2⟩
theorem dleaves_l0 (b : List Int) : ∀ (d j : Nat) (xs : List ByteArray) (i h : Int), j + d = 9 → xs.length = j + 1 → (∀ y ∈ xs, y.size ≤ 5) → Okc b i →
    ∃ ys, (∀ k, 6000 + d < k → spec_DrawLeaves.l0 k xs (j : Int) b i h = some ys) ∧ 1 ≤ ys.length ∧ ys.length ≤ 10 ∧ (∀ y ∈ ys, y.size ≤ 5) := by
  intro d
  induction d with
  | zero =>
    intro j xs i h hj hl hs ho
    obtain ⟨n, i1, h1, e1, n0, n1, o1⟩ := below_some b i h 9 ho (by decide) (by decide)
    refine ⟨xs, fun k hk => ?_, by omega, by omega, hs⟩
    obtain ⟨k, rfl⟩ : ∃ m, k = m + 1 := ⟨k - 1, by omega⟩
    simp only [spec_DrawLeaves.l0, e1, Option.bind_some]
    rw [if_neg (by omega)]
  | succ d ih =>
    intro j xs i h hj hl hs ho
    obtain ⟨n, i1, h1, e1, n0, n1, o1⟩ := below_some b i h 9 ho (by decide) (by decide)
    by_cases c0 : (j : Int) < n
    · obtain ⟨m, i2, h2, e2, m0, m1, o2⟩ := below_some b i1 h1 5 o1 (by decide) (by decide)
      obtain ⟨t, i3, h3, e3, s3, o3⟩ := text_some b i2 h2 m m0 (by omega) o2
      obtain ⟨ys, e4, l4, l5, s4⟩ := ih (j + 1) (xs ++ [t]) i3 h3 (by omega) (by simp [hl]) (fun y hy => by
        rcases List.mem_append.1 hy with hy | hy
        · exact hs y hy
        · rw [List.mem_singleton.1 hy]; omega) o3
      refine ⟨ys, fun k hk => ?_, l4, l5, s4⟩
      obtain ⟨k, rfl⟩ : ∃ m, k = m + 1 := ⟨k - 1, by omega⟩
      simp only [spec_DrawLeaves.l0, e1, Option.bind_some]
      rw [if_pos c0, e2, Option.bind_some, e3 k (by omega), Option.bind_some, if_pos (by omega), wrapd (by omega) (by omega), show (j : Int) + 1 = ((j + 1 : Nat) : Int) by omega]
      exact e4 k (by omega)
    · refine ⟨xs, fun k hk => ?_, by omega, by omega, hs⟩
      obtain ⟨k, rfl⟩ : ∃ m, k = m + 1 := ⟨k - 1, by omega⟩
      simp only [spec_DrawLeaves.l0, e1, Option.bind_some]
      rw [if_neg c0]
theorem dleaves_ev (b : List Int) (hb : b.length ≤ 9223372036854775807) : ∃ ys, Ev (fun k => spec_DrawLeaves.f k b) ys ∧ 1 ≤ ys.length ∧ ys.length ≤ 10 ∧ (∀ y ∈ ys, y.size ≤ 5) := by
  obtain ⟨h, K, hK⟩ := new_ev b hb
  obtain ⟨ys, e, l1, l2, s⟩ := dleaves_l0 b 9 0 [(⟨#[102, 105, 114, 115, 116]⟩ : ByteArray)] 0 h (by omega) rfl (fun y hy => by rw [List.mem_singleton.1 hy]; decide) (ok0 b hb)
  refine ⟨ys, ⟨K + 6100, fun k hk => ?_⟩, l1, l2, s⟩
  have g := hK k (by omega)
  dsimp only at g
  simp only [spec_DrawLeaves.f, g, Option.bind_some]
  exact e k (by omega)
end Go.Proofs.YtmiiknkfhiecgaaDoor.Draw
end
section
/- What is proved here: of two leaves that make one root at one place, they are one, or two unlike texts have one digest. No conditions. -/
set_option linter.unusedVariables false
set_option linter.unusedSimpArgs false
namespace Go.Proofs.YtmiiknkfhiecgaaDoor.Pure
open Go Go.RowKit Go.Proofs.YtmiiknkfhiecgaaDoor.Pf Go.Proofs.YtmiiknkfhiecgaaDoorW.PrintWords Go.Proofs.YtmiiknkfhiecgaaDoor.Strs Go.Proofs.YtmiiknkfhiecgaaDoor.Tree Go.Proofs.YtmiiknkfhiecgaaDoor.Draw
theorem data_inj {a b : ByteArray} (h : a.data.toList = b.data.toList) : a = b := by
  cases a; cases b
  simp only [ByteArray.mk.injEq]
  exact Array.toList_inj.1 h
theorem tl_inj {a b : ByteArray} (h : a.toList = b.toList) : a = b := by
  rw [ByteArray.toList_eq, ByteArray.toList_eq] at h
  exact data_inj h
theorem app_l {a b c : ByteArray} (h : a ++ b = a ++ c) : b = c := by
  have h1 := congrArg (fun z => z.data.toList) h
  simp only [ByteArray.data_append, Array.toList_append] at h1
  exact data_inj (List.append_cancel_left h1)
theorem app_r {a b c : ByteArray} (h : b ++ a = c ++ a) : b = c := by
  have h1 := congrArg (fun z => z.data.toList) h
  simp only [ByteArray.data_append, Array.toList_append] at h1
  exact data_inj (List.append_cancel_right h1)
def Cl (A B : List ByteArray) : Prop := ∃ m m' : Nat, ∃ (h : m < A.length) (h' : m' < B.length), A[m] ≠ B[m'] ∧ D A[m] = D B[m']
theorem clash_l1 (A B : List ByteArray) (hA : A.length ≤ 100) (hB : B.length ≤ 100) (sA : ∀ y ∈ A, y.size ≤ 1000) (sB : ∀ y ∈ B, y.size ≤ 1000) (i : Nat) (hi : i < A.length) (K : Nat) : ∀ (d j k : Nat), j + d = B.length → K + d + 1 ≤ k →
    ((∃ m' : Nat, ∃ h' : m' < B.length, j ≤ m' ∧ A[i] ≠ B[m'] ∧ D A[i] = D B[m']) ∨ (∀ k, K ≤ k → laws_clash.l0 k A B ((i + 1 : Nat) : Int) = some true)) → laws_clash.l1 k A B (i : Int) (j : Int) = some true
  | 0, j, k, hj, hk, h => by
    obtain ⟨k, rfl⟩ : ∃ m, k = m + 1 := ⟨k - 1, by omega⟩
    rw [laws_clash.l1, if_neg (by omega), Strs.wrap_in (by omega) (by omega)]
    rcases h with ⟨m', h', hm, _⟩ | h
    · omega
    · exact h k (by omega)
  | d + 1, j, k, hj, hk, h => by
    obtain ⟨k, rfl⟩ : ∃ m, k = m + 1 := ⟨k - 1, by omega⟩
    have h1 : j < B.length := by omega
    have s1 := sA _ (List.getElem_mem hi)
    have s2 := sB _ (List.getElem_mem h1)
    rw [laws_clash.l1, if_pos (by omega), if_pos (by omega), if_pos (by omega), if_pos (by omega), rdOf_get hi, rdOf_get h1, spec_D (by omega), spec_D (by omega), Option.bind_some, Option.bind_some, Strs.wrap_in (by omega) (by omega), show (j : Int) + 1 = ((j + 1 : Nat) : Int) by omega]
    by_cases c1 : A[i].toList = B[j].toList
    · rw [if_pos c1]
      refine clash_l1 A B hA hB sA sB i hi K d (j + 1) k (by omega) (by omega) ?_
      rcases h with ⟨m', h', hm, h3, h4⟩ | h
      · refine Or.inl ⟨m', h', ?_, h3, h4⟩
        have : m' ≠ j := by intro e; subst e; exact h3 (tl_inj c1)
        omega
      · exact Or.inr h
    rw [if_neg c1]
    by_cases c2 : (D A[i]).toList = (D B[j]).toList
    · rw [if_pos c2]
    · rw [if_neg c2]
      refine clash_l1 A B hA hB sA sB i hi K d (j + 1) k (by omega) (by omega) ?_
      rcases h with ⟨m', h', hm, h3, h4⟩ | h
      · refine Or.inl ⟨m', h', ?_, h3, h4⟩
        have : m' ≠ j := by intro e; subst e; exact c2 (by rw [h4])
        omega
      · exact Or.inr h
theorem clash_l0 (A B : List ByteArray) (hA : A.length ≤ 100) (hB : B.length ≤ 100) (sA : ∀ y ∈ A, y.size ≤ 1000) (sB : ∀ y ∈ B, y.size ≤ 1000) : ∀ (d i k : Nat), i + d = A.length → d * (B.length + 3) + 1 ≤ k →
    (∃ m m' : Nat, ∃ (h : m < A.length) (h' : m' < B.length), i ≤ m ∧ A[m] ≠ B[m'] ∧ D A[m] = D B[m']) → laws_clash.l0 k A B (i : Int) = some true
  | 0, i, k, hi, hk, h => by
    obtain ⟨m, m', h1, h2, h3, _⟩ := h
    omega
  | d + 1, i, k, hi, hk, h => by
    obtain ⟨k, rfl⟩ : ∃ m, k = m + 1 := ⟨k - 1, by omega⟩
    have e : (d + 1) * (B.length + 3) = d * (B.length + 3) + (B.length + 3) := Nat.succ_mul _ _
    rw [laws_clash.l0, if_pos (by omega)]
    refine clash_l1 A B hA hB sA sB i (by omega) (d * (B.length + 3) + 1) B.length 0 k (by omega) (by omega) ?_
    obtain ⟨m, m', h1, h2, h3, h4, h5⟩ := h
    by_cases c : m = i
    · subst c
      exact Or.inl ⟨m', h2, by omega, h4, h5⟩
    · exact Or.inr fun k hk => clash_l0 A B hA hB sA sB d (i + 1) k (by omega) hk ⟨m, m', h1, h2, by omega, h4, h5⟩
theorem clash_f (A B : List ByteArray) (hA : A.length ≤ 20) (hB : B.length ≤ 20) (sA : ∀ y ∈ A, y.size ≤ 1000) (sB : ∀ y ∈ B, y.size ≤ 1000) (k : Nat) (hk : 1000 ≤ k) (h : Cl A B) : laws_clash.f k A B = some true := by
  obtain ⟨m, m', h1, h2, h3, h4⟩ := h
  unfold laws_clash.f
  refine clash_l0 A B (by omega) (by omega) sA sB A.length 0 k (by omega) ?_ ⟨m, m', h1, h2, by omega, h3, h4⟩
  have : A.length * (B.length + 3) ≤ 20 * 23 := Nat.mul_le_mul hA (by omega)
  omega
theorem Cl.more {A B : List ByteArray} (u v : ByteArray) (h : Cl A B) : Cl (A ++ [u]) (B ++ [v]) := by
  obtain ⟨m, m', h1, h2, h3, h4⟩ := h
  refine ⟨m, m', by simp; omega, by simp; omega, ?_, ?_⟩
  · rw [List.getElem_append_left h1, List.getElem_append_left h2]; exact h3
  · rw [List.getElem_append_left h1, List.getElem_append_left h2]; exact h4
theorem Cl.last {A B : List ByteArray} {u v : ByteArray} (h : u ≠ v) (he : D u = D v) : Cl (A ++ [u]) (B ++ [v]) := by
  refine ⟨A.length, B.length, by simp, by simp, ?_, ?_⟩
  · simpa using h
  · simpa using he
theorem Cl.next {A B : List ByteArray} {x y u v : ByteArray} (h : Cl A B ∨ x ≠ y) (hu : u = v → x = y) : Cl (A ++ [u]) (B ++ [v]) ∨ D u ≠ D v := by
  rcases h with h | h
  · exact Or.inl (h.more u v)
  · by_cases c : D u = D v
    · exact Or.inl (Cl.last (fun e => h (hu e)) c)
    · exact Or.inr c
theorem leaf_l0 (n : Nat) (hn : n < 32) (b : List ByteArray) (hb : b.length ≤ 5) (sb : ∀ y ∈ b, y.size = 32) (d : Nat) : ∀ (t k : Nat) (A B : List ByteArray) (x y : ByteArray), t + d = b.length → 2000 + d ≤ k → A.length = t + 1 → B.length = t + 1 → (∀ y ∈ A, y.size ≤ 1000) → (∀ y ∈ B, y.size ≤ 1000) →
    x.size = 32 → y.size = 32 → (Cl A B ∨ x ≠ y) → up n x (b.drop t) t = up n y (b.drop t) t → laws_FnOneLeaf.l0 k (n : Int) b A B x y (t : Int) = some true := by
  induction d with
  | zero =>
    intro t k A B x y ht hk lA lB sA sB hx hy hc he
    obtain ⟨k, rfl⟩ : ∃ m, k = m + 1 := ⟨k - 1, by omega⟩
    rw [List.drop_of_length_le (by omega)] at he
    have hxy : x = y := he
    have hcl : Cl A B := hc.resolve_right (fun h => h hxy)
    rw [laws_FnOneLeaf.l0, if_neg (by omega), clash_f A B (by omega) (by omega) sA sB k (by omega) hcl, Option.bind_some]
  | succ d ih =>
    intro t k A B x y ht hk lA lB sA sB hx hy hc he
    obtain ⟨k, rfl⟩ : ∃ m, k = m + 1 := ⟨k - 1, by omega⟩
    have h1 : t < b.length := by omega
    have h2 := sb _ (List.getElem_mem h1)
    obtain ⟨b0, _, b1⟩ := bit_dec n hn t (by omega)
    have more : ∀ (X : List ByteArray) (u : ByteArray), (∀ y ∈ X, y.size ≤ 1000) → u.size = 64 → ∀ y ∈ X ++ [u], y.size ≤ 1000 := by
      intro X u hX hu y hy
      rcases List.mem_append.1 hy with hy | hy
      · exact hX y hy
      · rw [List.mem_singleton.1 hy]; omega
    rw [List.drop_eq_getElem_cons h1] at he
    rw [laws_FnOneLeaf.l0, if_pos (by omega), if_pos (by omega), rdOf_get h1, if_pos (by omega), if_pos (by omega), if_pos b0]
    by_cases c : jb n t = true
    · simp only [up, c, if_true] at he
      rw [if_pos (b1.2 c), if_pos (by omega), if_pos (by omega), if_pos (by omega), if_pos (by omega), spec_D (by rw [ByteArray.size_append]; omega), Option.bind_some, spec_D (by rw [ByteArray.size_append]; omega), Option.bind_some, Strs.wrap_in (by omega) (by omega), show (t : Int) + 1 = ((t + 1 : Nat) : Int) by omega]
      exact ih (t + 1) k _ _ _ _ (by omega) (by omega) (by simp [lA]) (by simp [lB]) (more A _ sA (by rw [ByteArray.size_append]; omega)) (more B _ sB (by rw [ByteArray.size_append]; omega)) (D_size _) (D_size _) (Cl.next hc app_l) he
    · simp only [up] at he
      rw [if_neg c, if_neg c] at he
      rw [if_neg (fun e => c (b1.1 e)), if_pos (by omega), if_pos (by omega), spec_D (by rw [ByteArray.size_append]; omega), Option.bind_some, spec_D (by rw [ByteArray.size_append]; omega), Option.bind_some, Strs.wrap_in (by omega) (by omega), show (t : Int) + 1 = ((t + 1 : Nat) : Int) by omega]
      exact ih (t + 1) k _ _ _ _ (by omega) (by omega) (by simp [lA]) (by simp [lB]) (more A _ sA (by rw [ByteArray.size_append]; omega)) (more B _ sB (by rw [ByteArray.size_append]; omega)) (D_size _) (D_size _) (Cl.next hc app_r) he
theorem FnOneLeaf : laws_FnOneLeaf.Pure := by
  intro b hb
  by_cases hbig : (b.length : Int) > 1048576
  · exact ⟨0, by simp only [laws_FnOneLeaf.f, laws_big.f, Option.bind_some]; rw [if_pos (decide_eq_true hbig)]⟩
  obtain ⟨l, ⟨K1, d1⟩, l1, l2, ls⟩ := dleaves_ev b (by omega)
  have hs : ∀ y ∈ l, y.size ≤ 1048576 := fun y hy => by have := ls y hy; omega
  obtain ⟨ps, hp, hr, K2, d2⟩ := places_ev b (by omega)
  dsimp only at d1 d2
  have h0 : 0 ≤ rd ps 0 := by
    have : 0 < ps.length := by omega
    have e : rd ps 0 = ps[0] := by unfold rd; rw [List.getD_eq_getElem?_getD, show (0 : Int).toNat = 0 from rfl, List.getElem?_eq_getElem this, Option.getD_some]
    rw [e]; exact (hr _ (List.getElem_mem this)).1
  obtain ⟨i, hi⟩ : ∃ i : Nat, Int.tmod (rd ps 0) (l.length : Int) = (i : Int) := ⟨(Int.tmod (rd ps 0) (l.length : Int)).toNat, by have := Int.tmod_nonneg (l.length : Int) h0; omega⟩
  have hil : i < l.length := by have := Int.tmod_lt_of_pos (rd ps 0) (b := (l.length : Int)) (by omega); omega
  have hx := ls _ (List.getElem_mem hil)
  obtain ⟨k, hk⟩ : ∃ k, k = K1 + K2 + 20000 := ⟨_, rfl⟩
  refine ⟨k, ?_⟩
  have hc : l.length ≤ 32 ∧ 0 ≤ (i : Int) ∧ (i : Int) < (l.length : Int) := ⟨by omega, by omega, by omega⟩
  have hbr := branch_length hc
  have hsb := branch_size l (i : Int)
  have hsb2 : ∀ y ∈ branch l (i : Int), y.size ≤ 1048576 := fun y hy => by rw [hsb y hy]; decide
  have h5 := branch_le l (i : Int)
  have hlt : i < 2 ^ (branch l (i : Int)).length := by rw [hbr]; exact lg_lt (by omega) hil
  have hp5 := pow_small h5
  have hfold : ∀ z : ByteArray, foldB z (i : Int) (branch l (i : Int)) = up i (D z) (branch l (i : Int)) 0 := by
    intro z
    unfold foldB
    rw [if_pos ⟨h5, by omega, by omega⟩, Int.toNat_natCast]
  have hroot : up i (D l[i]) (branch l (i : Int)) 0 = root l := by rw [← hfold]; exact fold_root (by omega) hil
  have hox : (l[i] ++ (⟨#[120]⟩ : ByteArray)).size = l[i].size + 1 := by rw [ByteArray.size_append]; rfl
  simp only [laws_FnOneLeaf.f, laws_big.f, Option.bind_some]
  rw [decide_eq_false hbig, if_neg (by decide), d1 k (by omega), Option.bind_some, d2 k (by omega), Option.bind_some, if_pos (by omega), if_neg (by omega), hi, rdOf_get hil, impl_branch k (by omega) l (i : Int) hs, Option.bind_some, if_pos (by omega), if_pos (by omega), if_pos (by omega),
    impl_root k (by omega) l hs, Option.bind_some, impl_fold k (by omega) _ _ _ (by omega) hsb2, Option.bind_some, hfold]
  by_cases c : (up i (D (l[i] ++ (⟨#[120]⟩ : ByteArray))) (branch l (i : Int)) 0).toList = (root l).toList
  · rw [if_pos c, spec_D (by omega), Option.bind_some, spec_D (by omega), Option.bind_some]
    have he := tl_inj c
    rw [← hroot] at he
    refine leaf_l0 i (by omega) _ h5 hsb (branch l (i : Int)).length 0 k _ _ _ _ (by omega) (by omega) rfl rfl ?_ ?_ (D_size _) (D_size _) ?_ he.symm
    · intro y hy; rw [List.mem_singleton.1 hy]; omega
    · intro y hy; rw [List.mem_singleton.1 hy]; omega
    · have hne : l[i] ≠ l[i] ++ (⟨#[120]⟩ : ByteArray) := fun e => by have := congrArg ByteArray.size e; omega
      by_cases c2 : D l[i] = D (l[i] ++ (⟨#[120]⟩ : ByteArray))
      · exact Or.inl (Cl.last (A := []) (B := []) hne c2)
      · exact Or.inr c2
  · rw [if_neg c, if_pos (by rw [up_size i _ _ 0 (D_size _)]; rfl), spec_fold k (by omega) _ _ _ (by omega) hsb2, Option.bind_some, hfold, if_pos rfl, root_size (by omega)]
    rfl
end Go.Proofs.YtmiiknkfhiecgaaDoor.Pure
end
section
/- What is proved here: a value of a Go type that reads as data opens into the print's own kinds (Kd), for whole numbers, bools, strings, slices and structs. No conditions. -/
set_option linter.unusedVariables false
set_option linter.unusedSimpArgs false
namespace Go.Proofs.YtmiiknkfhiecgaaDoor.Open
open Go.RowKit Go.Proofs.YtmiiknkfhiecgaaDoorW.PrintWords Go.ChangeShapes Go.WideShapes

def Opens (P : Program) (t : TypeId) {α : Type} (d : Kd α) (g : α → Prop) : Prop :=
  ∀ {H : Type} (enc : TypeId × Value → H) (w : World) (base : Nat) (spare : Nat → Bool) (held : Bool) (fuel : Nat) (cs : List Value) (x : DataW H × List MemPlace),
    DataW.trod enc P w base spare held fuel t cs = some x → ∃ a, d.K w a cs ∧ g a

theorem list_of {α : Type} {p : Nat → α → Prop} : ∀ n, (∀ i, i < n → ∃ y, p i y) → ∃ ys : List α, ys.length = n ∧ ∀ i y, ys[i]? = some y → p i y
  | 0, _ => ⟨[], rfl, fun i y h => by simp at h⟩
  | n + 1, h => by
    obtain ⟨ys, hl, hy⟩ := list_of n (fun i hi => h i (by omega))
    obtain ⟨y, hy'⟩ := h n (by omega)
    refine ⟨ys ++ [y], by simp [hl], fun i z hz => ?_⟩
    rcases Nat.lt_or_ge i n with hi | hi
    · rw [List.getElem?_append_left (by omega)] at hz
      exact hy i z hz
    · have h1 := (List.getElem?_eq_some_iff.1 hz).1
      rw [List.length_append, List.length_singleton] at h1
      have h2 : i = n := by omega
      subst h2
      rw [List.getElem?_append_right (by omega), hl, Nat.sub_self] at hz
      simp at hz
      subst hz
      exact hy'

section
variable {P : Program} {t : TypeId}
theorem opens_int {k : IntKind} (h : P.underlying t = some (.int k)) : Opens P t (Kd.int k) (fun n => (Lit.int k n).wf = true) := by
  intro H enc w base spare held fuel cs x hx
  obtain ⟨n, rfl, _, hw⟩ := DataW.trod_int h hx
  exact ⟨n, rfl, hw⟩
theorem opens_bool (h : P.underlying t = some .bool) : Opens P t Kd.bool (fun _ => True) := by
  intro H enc w base spare held fuel cs x hx
  obtain ⟨b, hb⟩ : ∃ b, cs = [.bool b] := by
    cases fuel with
    | zero => simp [DataW.trod] at hx
    | succ n =>
      unfold DataW.trod at hx
      rw [h] at hx
      split at hx <;> simp_all
  exact ⟨b, hb, trivial⟩
theorem opens_string (h : P.underlying t = some .string) : Opens P t Kd.string (fun s => s.size ≤ maxLen) := by
  intro H enc w base spare held fuel cs x hx
  obtain ⟨n, rfl, _, hw⟩ := DataW.trod_string h hx
  exact ⟨n, rfl, hw⟩
theorem opens_slice {e : TypeId} {α : Type} {d : Kd α} {g : α → Prop} (ht : P.underlying t = some (.slice e)) (hc : P.cellsOf e = d.sz) (he : Opens P e d g) :
    Opens P t (Kd.slice e d) (fun xs => xs.length ≤ 9223372036854775807 ∧ ∀ x ∈ xs, g x) := by
  intro H enc w base spare held fuel cs x h
  rcases Go.Deep.open_slice ht h with ⟨rfl, _⟩ | ⟨a, len, cap, m, n, D, Pl, rfl, hb, hl, hm, hmm, _, hx⟩
  · exact ⟨[], ⟨none, 0, rfl, Nat.le_refl _, Kd.C_nil d w⟩, by simp, fun x hx => by cases hx⟩
  · have hlm : len ≤ m := by rw [hmm]; split <;> omega
    obtain ⟨ys, hy1, hy2⟩ := list_of (p := fun i y => ∃ c, w.cells? base (a.add (i * P.cellsOf e)) (P.cellsOf e) = some c ∧ d.K w y c ∧ g y) len (fun i hi => by
      obtain ⟨c, h1, h2⟩ := hx i (by omega)
      obtain ⟨y, h3, h4⟩ := he _ _ _ _ _ _ _ _ h2
      exact ⟨y, c, h1, h3, h4⟩)
    unfold maxLen at hm
    refine ⟨ys, ⟨some a, cap, by rw [hy1], by omega, rfl, by omega, fun _ => ⟨a, rfl, fun j p hp => ?_⟩⟩, by omega, fun y hy => ?_⟩
    · obtain ⟨c, h1, h2, h3⟩ := hy2 j p hp
      obtain ⟨_, hlen, hcell⟩ := World.cells?_some h1
      refine ⟨c, by rw [hlen, hc], h2, fun i u hu => ?_⟩
      have hi := (List.getElem?_eq_some_iff.1 hu).1
      have := hcell i (by omega)
      rw [Go.Deep.add_add, hc] at this
      rw [this, hu]
    · obtain ⟨i, hi⟩ := List.mem_iff_getElem?.1 hy
      obtain ⟨c, h1, h2, h3⟩ := hy2 i y hi
      exact h3
theorem opens_iso {α β : Type} {d : Kd α} {g : α → Prop} (f : β → α) (mk : α → β) (hf : ∀ a, f (mk a) = a) (h : Opens P t d g) : Opens P t (Kd.iso d f) (fun x => g (f x)) := by
  intro H enc w base spare held fuel cs x hx
  obtain ⟨a, h1, h2⟩ := h enc w base spare held fuel cs x hx
  exact ⟨mk a, by show d.K w (f (mk a)) cs; rw [hf]; exact h1, by show g (f (mk a)); rw [hf]; exact h2⟩
theorem struct_field {fs : Array Field} {H : Type} {enc : TypeId × Value → H} {w : World} {base : Nat} {spare : Nat → Bool} {held : Bool} {n : Nat} {cs : List Value} {xs : List (DataW H × List MemPlace)} (hl : xs.length = fs.size)
    (hf : ∀ (i : Nat) (f : Field), fs[i]? = some f → DataW.trod enc P w base spare held n f.type ((cs.drop f.offset).take (P.cellsOf f.type)) = xs[i]?) {i : Nat} {f : Field} (hi : fs[i]? = some f) {α : Type} {d : Kd α} {g : α → Prop} (ho : Opens P f.type d g) :
    ∃ a, d.K w a ((cs.drop f.offset).take (P.cellsOf f.type)) ∧ g a := by
  have h1 := hf i f hi
  have h2 : i < xs.length := by rw [hl]; exact (Array.getElem?_eq_some_iff.1 hi).1
  rw [List.getElem?_eq_getElem h2] at h1
  exact ho _ _ _ _ _ _ _ _ h1
theorem opens_struct1 {f0 : Field} {α : Type} {d0 : Kd α} {g0 : α → Prop} (ht : P.underlying t = some (.struct #[f0])) (h0 : Opens P f0.type d0 g0)
    (s0 : P.cellsOf f0.type = d0.sz) (o0 : f0.offset = 0) (st : P.cellsOf t = d0.sz) : Opens P t d0 g0 := by
  intro H enc w base spare held fuel cs x hx
  obtain ⟨xs, n, _, _, hlen, hl, hf⟩ := DataW.trod_struct ht hx
  obtain ⟨a, ha, hg⟩ := struct_field hl hf (i := 0) (f := f0) rfl h0
  rw [o0, s0, List.drop_zero, List.take_of_length_le (by omega)] at ha
  exact ⟨a, ha, hg⟩
theorem opens_struct2 {f0 f1 : Field} {α β : Type} {d0 : Kd α} {d1 : Kd β} {g0 : α → Prop} {g1 : β → Prop} (ht : P.underlying t = some (.struct #[f0, f1])) (h0 : Opens P f0.type d0 g0) (h1 : Opens P f1.type d1 g1)
    (s0 : P.cellsOf f0.type = d0.sz) (s1 : P.cellsOf f1.type = d1.sz) (o0 : f0.offset = 0) (o1 : f1.offset = d0.sz) (st : P.cellsOf t = d0.sz + d1.sz) : Opens P t (Kd.pair d0 d1) (fun x => g0 x.1 ∧ g1 x.2) := by
  intro H enc w base spare held fuel cs x hx
  obtain ⟨xs, n, _, _, hlen, hl, hf⟩ := DataW.trod_struct ht hx
  obtain ⟨a, ha, ga⟩ := struct_field hl hf (i := 0) (f := f0) rfl h0
  obtain ⟨b, hb, gb⟩ := struct_field hl hf (i := 1) (f := f1) rfl h1
  rw [o0, s0, List.drop_zero] at ha
  rw [o1, s1, List.take_of_length_le (by rw [List.length_drop]; omega)] at hb
  exact ⟨(a, b), ⟨_, _, (List.take_append_drop d0.sz cs).symm, ha, hb⟩, ga, gb⟩
theorem opens_struct3 {f0 f1 f2 : Field} {α β γ : Type} {d0 : Kd α} {d1 : Kd β} {d2 : Kd γ} {g0 : α → Prop} {g1 : β → Prop} {g2 : γ → Prop} (ht : P.underlying t = some (.struct #[f0, f1, f2])) (h0 : Opens P f0.type d0 g0) (h1 : Opens P f1.type d1 g1) (h2 : Opens P f2.type d2 g2)
    (s0 : P.cellsOf f0.type = d0.sz) (s1 : P.cellsOf f1.type = d1.sz) (s2 : P.cellsOf f2.type = d2.sz) (o0 : f0.offset = 0) (o1 : f1.offset = d0.sz) (o2 : f2.offset = d0.sz + d1.sz) (st : P.cellsOf t = d0.sz + d1.sz + d2.sz) :
    Opens P t (Kd.pair d0 (Kd.pair d1 d2)) (fun x => g0 x.1 ∧ g1 x.2.1 ∧ g2 x.2.2) := by
  intro H enc w base spare held fuel cs x hx
  obtain ⟨xs, n, _, _, hlen, hl, hf⟩ := DataW.trod_struct ht hx
  obtain ⟨a, ha, ga⟩ := struct_field hl hf (i := 0) (f := f0) rfl h0
  obtain ⟨b, hb, gb⟩ := struct_field hl hf (i := 1) (f := f1) rfl h1
  obtain ⟨c, hc, gc⟩ := struct_field hl hf (i := 2) (f := f2) rfl h2
  rw [o0, s0, List.drop_zero] at ha
  rw [o1, s1] at hb
  rw [o2, s2, List.take_of_length_le (by rw [List.length_drop]; omega)] at hc
  refine ⟨(a, b, c), ⟨_, _, (List.take_append_drop d0.sz cs).symm, ha, _, _, (List.take_append_drop d1.sz _).symm, hb, ?_⟩, ga, gb, gc⟩
  rw [List.drop_drop]
  exact hc
theorem opens_struct4 {f0 f1 f2 f3 : Field} {α β γ δ : Type} {d0 : Kd α} {d1 : Kd β} {d2 : Kd γ} {d3 : Kd δ} {g0 : α → Prop} {g1 : β → Prop} {g2 : γ → Prop} {g3 : δ → Prop} (ht : P.underlying t = some (.struct #[f0, f1, f2, f3]))
    (h0 : Opens P f0.type d0 g0) (h1 : Opens P f1.type d1 g1) (h2 : Opens P f2.type d2 g2) (h3 : Opens P f3.type d3 g3)
    (s0 : P.cellsOf f0.type = d0.sz) (s1 : P.cellsOf f1.type = d1.sz) (s2 : P.cellsOf f2.type = d2.sz) (s3 : P.cellsOf f3.type = d3.sz) (o0 : f0.offset = 0) (o1 : f1.offset = d0.sz) (o2 : f2.offset = d0.sz + d1.sz) (o3 : f3.offset = d0.sz + d1.sz + d2.sz)
    (st : P.cellsOf t = d0.sz + d1.sz + d2.sz + d3.sz) :
    Opens P t (Kd.pair d0 (Kd.pair d1 (Kd.pair d2 d3))) (fun x => g0 x.1 ∧ g1 x.2.1 ∧ g2 x.2.2.1 ∧ g3 x.2.2.2) := by
  intro H enc w base spare held fuel cs x hx
  obtain ⟨xs, n, _, _, hlen, hl, hf⟩ := DataW.trod_struct ht hx
  obtain ⟨a, ha, ga⟩ := struct_field hl hf (i := 0) (f := f0) rfl h0
  obtain ⟨b, hb, gb⟩ := struct_field hl hf (i := 1) (f := f1) rfl h1
  obtain ⟨c, hc, gc⟩ := struct_field hl hf (i := 2) (f := f2) rfl h2
  obtain ⟨d, hd, gd⟩ := struct_field hl hf (i := 3) (f := f3) rfl h3
  rw [o0, s0, List.drop_zero] at ha
  rw [o1, s1] at hb
  rw [o2, s2] at hc
  rw [o3, s3, List.take_of_length_le (by rw [List.length_drop]; omega)] at hd
  refine ⟨(a, b, c, d), ⟨_, _, (List.take_append_drop d0.sz cs).symm, ha, _, _, (List.take_append_drop d1.sz _).symm, hb, _, _, (List.take_append_drop d2.sz _).symm, ?_, ?_⟩, ga, gb, gc, gd⟩
  · rw [List.drop_drop]
    exact hc
  · rw [List.drop_drop, List.drop_drop, ← Nat.add_assoc]
    exact hd
end
end Go.Proofs.YtmiiknkfhiecgaaDoor.Open
end
section
/- What is proved here: the listed tables, as the row's condition lays them, stand in memory; the door's own heap meets the condition. No conditions but those that each theorem names. -/
namespace Go.Proofs.YtmiiknkfhiecgaaDoor.Laid
open Go.ChangeShapes Go.WideShapes Go.ChangeAt Go.RowKit
set_option maxRecDepth 100000
theorem arr_cells {P : Program} {H : Type} {enc : TypeId × Value → H} {w : World} {spare : Nat → Bool} {held : Bool} {fuel : Nat} {t e : TypeId} {n : Nat} {k : IntKind} {cs : List Value} {L : List Int} {p : List MemPlace}
    (ht : P.underlying t = some (.array n e)) (he : P.underlying e = some (.int k)) (c1 : P.cellsOf e = 1)
    (hd : DataW.trod enc P w 0 spare held fuel t cs = some (.agg (L.map fun z => .lit (.int k z)), p)) :
    ∀ i : Nat, i < n → cs[i]? = some (.int k (Kp.ga L i)) := by
  intro i hi
  obtain ⟨xs, m, rfl, hx, hlen, hn, hel⟩ := DataW.trod_array ht hd
  have h1 := hel i hi
  rw [c1, Nat.mul_one] at h1
  have hi' : i < xs.length := hn.symm ▸ hi
  rw [List.getElem?_eq_getElem hi'] at h1
  obtain ⟨z, hz, hz2, _⟩ := DataW.trod_int he h1
  simp only [Prod.mk.injEq, DataW.agg.injEq] at hx
  have hL : (L.map fun z => (DataW.lit (.int k z) : DataW H))[i]? = (xs.map (·.1))[i]? := by rw [hx.1]
  rw [List.getElem?_map, List.getElem?_map, List.getElem?_eq_getElem hi', hz2] at hL
  have hLz : Kp.ga L i = z := by
    unfold Kp.ga
    rw [List.getD_eq_getElem?_getD]
    cases hq : L[i]? with
    | none => rw [hq] at hL; simp at hL
    | some y => rw [hq] at hL; simpa using hL
  rw [hLz]
  have h2 : ((cs.drop i).take 1)[0]? = some (.int k z) := by rw [hz]; rfl
  simpa using h2
theorem gR : Tryd.prog.globalNamed "loop.example/g00321/impl.roundConstants" = some 1 := by kernel_rfl
theorem gT : Tryd.prog.globalNamed "loop.example/g00321/impl.turns" = some 0 := by kernel_rfl
theorem tR : (Tryd.prog.globals[1]?).map (·.type) = some 96 := by kernel_rfl
theorem tT : (Tryd.prog.globals[0]?).map (·.type) = some 120 := by kernel_rfl
abbrev laidL : List (String × DataW Unit) := [("loop.example/g00321/impl.roundConstants", Rows.laid_loop_example_g00321_impl_roundConstants), ("loop.example/g00321/impl.turns", Rows.laid_loop_example_g00321_impl_turns)]
theorem cell_lt {W : World} {g i : Nat} {v : Value} (h : W.cell? ⟨g, i, none⟩ = some v) : g < W.heap.size := by
  unfold World.cell? at h
  by_cases hg : g < W.heap.size
  · exact hg
  · simp [hg] at h
theorem tab {W : World} (h : laidMetH Tryd.prog laidL W) : Kp.Tab W := by
  rw [MakeChecks.laidMetH_plain _ _ _ (by kernel_rfl)] at h
  obtain ⟨ps, ⟨g0, t0, cs0, f0, p0, q0, hg0, ht0, hv0, hd0, ⟨g1, t1, cs1, f1, p1, q1, hg1, ht1, hv1, hd1, _, _⟩, _⟩, _, _⟩ := h
  obtain rfl := Option.some.inj (gR.symm.trans hg0)
  obtain rfl := Option.some.inj (gT.symm.trans hg1)
  obtain rfl := Option.some.inj (tR.symm.trans ht0)
  obtain rfl := Option.some.inj (tT.symm.trans ht1)
  have r : ∀ i : Nat, i < 24 → W.cell? ⟨1, i, none⟩ = some (.int .u64 (Kp.ga Kp.rcL i)) := fun i hi => by
    rw [World.var?_cell hg0 hv0 i, ← Array.getElem?_toList]
    exact arr_cells (L := Kp.rcL) Tryd.underlying96 Tryd.underlying73 (by kernel_rfl) hd0 i hi
  have t : ∀ i : Nat, i < 25 → W.cell? ⟨0, i, none⟩ = some (.int .i64 (Kp.ga Kp.turnsL i)) := fun i hi => by
    rw [World.var?_cell hg1 hv1 i, ← Array.getElem?_toList]
    exact arr_cells (L := Kp.turnsL) Tryd.underlying120 Tryd.underlying3 (by kernel_rfl) hd1 i hi
  exact ⟨t, r, cell_lt (t 0 (by decide)), cell_lt (r 0 (by decide))⟩
/-- The door's own heap meets the condition. -/
theorem door_met (os : Os) (args : Array Value) : laidMetH Tryd.prog laidL ((World.doorLaid Tryd.prog 400 os).forCall (fun _ _ => 0) ⟨#[], args, []⟩).memory :=
  laidMetH_of_parts3 (fuel := 8) (laidMet_of_run' 8 (by kernel_rfl) (by kernel_rfl)) (by kernel_rfl) (by kernel_rfl)
#print axioms door_met
#print axioms tab
end Go.Proofs.YtmiiknkfhiecgaaDoor.Laid
end
section
namespace Go.Proofs.YtmiiknkfhiecgaaDoor.fnOneLeaf
open Go.ChangeShapes Go.WideShapes Go.ChangeAt Go.RowKit Go.Proofs.YtmiiknkfhiecgaaDoorW.PrintWords Go.Proofs.YtmiiknkfhiecgaaDoor.Open Go.Proofs.YtmiiknkfhiecgaaDoor.Pf
open Go.ChangeMaps (open_string shut_string)
set_option linter.unusedVariables false
set_option linter.unusedSimpArgs false
theorem own : ownKnob Tryd.prog.godebug = none := by kernel_rfl
theorem laidOut : laidOutB Tryd.prog = true := by kernel_rfl
set_option maxRecDepth 100000 in
theorem lifted (os : Os) (started : os.Started) (H : Type) (enc : TypeId × Value → H) :
  ReturnsInHanded {} Tryd.checked os 7 .any (fun w args => (Rows.fnOneLeafSpec.pre enc Tryd.prog Tryd.f7 [] false w args ∧ laidMetH Tryd.prog Laid.laidL w) ∧ sizedMet enc Tryd.prog Tryd.f7 (OpenSpec.ofChange Rows.fnOneLeafSpec) false w args)
   (Rows.fnOneLeafSpec.post enc Tryd.prog Tryd.f7 false true false false) := by
 refine returnsInHanded_of_change_and (C := Tryd.checked) (X := fun w _ => laidMetH Tryd.prog Laid.laidL w) (fun _ _ _ hh h => h.of_heap hh) own started (by kernel_rfl) Tryd.func7
  (ChangeSpec.witness_shaped (enc := enc) (C := Tryd.checked) (os := os) (X := fun w _ => laidMetH Tryd.prog Laid.laidL w) false (World.doorLaid Tryd.prog 400 os) #[.slice none 0 0] 8 rfl (World.shaped_of_RefB (by kernel_rfl) (by kernel_rfl)) (by kernel_rfl) (by kernel_rfl) (by kernel_rfl) (Laid.door_met os _)) ?_
 intro W base args ds gs before hval0 hW hcnd hsz0 hL _
 have hT := Laid.tab hL
 have hsz : (DataW.weightsEach Tryd.prog (Tryd.f7.params.toList ++ Rows.fnOneLeafSpec.plain.varTypes Tryd.prog) (ds ++ gs)).all (· ≤ reachBytes) = true := hsz0
 have hval : ∀ (j : Nat) t v, Tryd.f7.params[j]? = some t → args[j]? = some v → Value.okWide Tryd.prog W .any base t v := hval0
 have hW' := hW
 obtain ⟨p, q, hA0, hV, rfl, hfz, hnd⟩ := hW
 have hA : DataW.TrodAll enc Tryd.prog W 0 (fun _ => true) true Tryd.f7.params.toList args.toList ds p := hA0
 rw [Tryd.params7] at hA hval hsz
 obtain ⟨v0, vs0, d0, ds0, p0, q0, hargs, rfl, rfl, h0, r0⟩ := trodAll_cons hA
 obtain ⟨rfl, rfl, rfl⟩ := trodAll_nil r0
 obtain rfl : args = #[v0] := by cases args; simp_all
 have hV2 : DataW.TrodVars enc Tryd.prog W (fun _ => true) ["loop.example/g00321/impl.turns", "loop.example/g00321/impl.roundConstants"] gs q := hV
 obtain ⟨_, _, _, _, dv0, _, _, _, _, _, dv1, _, rfl, _⟩ := trodVars_two hV2
 obtain ⟨a0, len0, cap0, rfl⟩ := okWide_slice Tryd.underlying39 (hval 0 39 v0 rfl rfl)
 have k0 := h0
 have lt0 : ∀ x ∈ p0, x.block < W.heap.size := by obtain ⟨m, hm⟩ := k0; exact DataW.trod_lt m _ _ _ hm
 obtain ⟨l0, ⟨A0, c0, e0, hc0, hr0⟩, g0⟩ := (show ∃ a, (Kd.slice 5 (Kd.int .u8)).K W a [.slice a0 len0 cap0] ∧ _ from h0.elim fun fuel hf => (opens_slice Tryd.underlying39 (by kernel_rfl) (opens_int Tryd.underlying5)) enc W 0 (fun _ => true) true fuel [.slice a0 len0 cap0] _ hf)
 obtain ⟨rfl, rfl, rfl⟩ : a0 = A0 ∧ len0 = l0.length ∧ cap0 = c0 := by simpa using e0
 clear hA0 hval0 hsz0 hsz
 obtain ⟨k, h⟩ := Pure.FnOneLeaf l0 g0
 refine (laws_FnOneLeaf.calls k _ _ l0 true W hr0 hc0 hT ⟨rfl⟩ h).mono fun e W' ⟨he, bel0⟩ => ?_
 have bel : Below W.heap.size W W' := bel0
 subst he
 exact ⟨_, rfl, _, _, _, [], _, _, hW', trodAll_mk1 (shut_bool Tryd.underlying4 _), (trodAll_cons_mk (Below.trod laidOut (by kernel_rfl) (of_decide_eq_true (by kernel_rfl)) k0 bel lt0) trodAll_mk0), Below.trodVars laidOut bel (by kernel_rfl) hV2, bel.frame _, fun h => by cases h⟩
theorem over : Rows.fnOneLeafRow.holds Tryd.pinned (OpenSpec.ofChange Rows.fnOneLeafSpec) :=
 OpenClaim.holds_of_wide 7 Tryd.f7 rfl rfl rfl rfl rfl rfl rfl ⟨rfl, rfl, rfl, rfl, rfl⟩ rfl rfl rfl rfl rfl (by kernel_rfl) Tryd.func7 (by kernel_rfl)
  (of_decide_eq_true (by kernel_rfl)) (by unfold Func.isWrapper; first | (rw [if_pos (by decide +kernel)]; kernel_rfl) | (rw [if_neg (by decide +kernel)]; exact ⟨rfl, rfl⟩))
  (fun os started H enc _ => lifted os started H enc)
theorem proved : Rows.FnOneLeafSaid := over
theorem card : Rows.FnOneLeafCardSaid :=
 Claim7.holds_tied_plain_at .later [] [.data, .data] true (true, "e4c3bb3ba08b206a7ab2894f9061ace4b1bc15c35e02d35ce178dd72da8f1b3e") false
  over (fun _ h => by cases h) (by kernel_rfl) (fun _ h => by cases h) fnOneLeaf_row_tie rfl ⟨rfl, rfl⟩ (by kernel_rfl) rfl
  (fun f fn hf hfn => by
   obtain rfl : f = 7 := Option.some.inj ((show Tryd.prog.funcNamed "loop.example/g00321/laws.FnOneLeaf" = some 7 by kernel_rfl).symm.trans hf) |>.symm
   obtain rfl : fn = Tryd.f7 := (Option.some.inj (Tryd.func7.symm.trans hfn)).symm
   exact ⟨by kernel_rfl, fun j t ht => by
    rw [Tryd.params7] at ht
    have hm : t ∈ [39] := by simpa using Array.mem_of_getElem? ht
    have hall : ([39].all fun u => !Tryd.prog.wantsStandIn u) = true := by kernel_rfl
    exact (show Tryd.prog.wantsStandIn t = false by simpa using List.all_eq_true.1 hall t hm)⟩)
  (by kernel_rfl)
#print axioms card
end Go.Proofs.YtmiiknkfhiecgaaDoor.fnOneLeaf
namespace Go.Proofs.YtmiiknkfhiecgaaDoor
/-- The row, under a short name, for the claim. -/
theorem fnOneLeaf_holds : Rows.FnOneLeafCardSaid := fnOneLeaf.card
end Go.Proofs.YtmiiknkfhiecgaaDoor
end
