/- What is proved here: part 2 of 2 of the proof of the given statement FnExactMixed: the contracts of the Go functions that it reaches, the plain facts on lists and numbers, and (in the last part) the statement itself. No conditions beyond the given ones. -/
import Derived.Test.YtcnejiflpioaiaaMFnExactMixeda
import Derived.Test.YtcnejiflpioaiaaMFnExactMixedwMore
import Derived.Deep.Slices
import Derived.ChangeArms
import Derived.DataReads
import Derived.ChangeShapes
import Derived.Test.YtcnejiflpioaiaaMFnExactMixedwSlim
import Derived.Test.YtcnejiflpioaiaaRows
import Derived.WalkKit
import Derived.ProofKit
import Derived.OpenShut
import Derived.ShutString
import Derived.ChangeOld
import Derived.Below
import Derived.SizedLaws

section
set_option linter.unusedVariables false
set_option linter.unusedSimpArgs false
namespace Go.Proofs.Ytcnejiflpioaiaa.Qap
open Go.RowKit Go.Proofs.Ytcnejiflpioaiaa.Pf Go.Proofs.YtcnejiflpioaiaaW.PrintWords Go.Proofs.Ytcnejiflpioaiaa.Ints Go.Proofs.Ytcnejiflpioaiaa.Poly
open Go.Proofs.Ytcnejiflpioaiaa.Sys (RT rdT sysOk rowOk wide inb fitsT)
set_option maxRecDepth 4000
def sdot : List Int → List Int → Int → Int
  | x :: xs, y :: ys, a => sdot xs ys ((a + x * y) % 1009)
  | _, _, a => a
def mix : List (List Int) → List Int → List Int → List Int
  | u :: us, c :: cs, out => mix us cs (padd out (scale u c))
  | _, _, out => out
theorem mix_stop (us : List (List Int)) (cs out : List Int) (h : ¬ (0 < us.length ∧ 0 < cs.length)) : mix us cs out = out := by
  cases us with
  | nil => rfl
  | cons u us => cases cs with
    | nil => rfl
    | cons c cs => exact absurd ⟨by simp, by simp⟩ h
theorem mix_len (n : Nat) (us : List (List Int)) (hu : ∀ u ∈ us, u.length ≤ n) (cs out : List Int) (ho : out.length ≤ n) : (mix us cs out).length ≤ n := by
  induction us generalizing cs out with
  | nil => exact ho
  | cons u us ih => cases cs with
    | nil => exact ho
    | cons c cs =>
      refine ih (fun v hv => hu v (List.mem_cons_of_mem _ hv)) cs _ ?_
      have h1 := padd_length out (scale u c)
      rw [scale_length] at h1
      have h2 := hu u List.mem_cons_self
      omega
theorem rdL {us : List (List Int)} {i : Nat} (h : i < us.length) : rd_L2 us (i : Int) = us[i] := by
  unfold rd_L2
  rw [Int.toNat_natCast, List.getD_eq_getElem?_getD, List.getElem?_eq_getElem h]; rfl
theorem impl_Mixed_l0 (us : List (List Int)) (ws : List Int) (N : Nat) (hN : N ≤ 1048576) (hu : ∀ u ∈ us, u.length ≤ N) (hl : us.length ≤ 1048576) : ∀ (d i : Nat) (out : List Int), out.length ≤ N → i + d = min us.length ws.length →
    Ev (fun k => impl_Mixed.l0 k us ws out (mn (us.length : Int) (ws.length : Int)) (i : Int)) (mix (us.drop i) (ws.drop i) out)
  | 0, i, out, ho, hi => Ev.one fun k => by
    have hm : mn (us.length : Int) (ws.length : Int) = ((min us.length ws.length : Nat) : Int) := by unfold mn; omega
    simp only [impl_Mixed.l0]
    rw [hm, if_neg (by omega), mix_stop _ _ _ (by simp; omega)]
  | d + 1, i, out, ho, hi => by
    have hm : mn (us.length : Int) (ws.length : Int) = ((min us.length ws.length : Nat) : Int) := by unfold mn; omega
    have h1 : i < us.length := by omega
    have h2 : i < ws.length := by omega
    have hul := hu us[i] (List.getElem_mem h1)
    have hp := padd_length out (scale us[i] ws[i])
    rw [scale_length] at hp
    obtain ⟨K1, e1⟩ := impl_scaled_ev us[i] ws[i] (by omega)
    obtain ⟨K2, e2⟩ := impl_PolyAdd_ev out (scale us[i] ws[i]) (by omega) (by rw [scale_length]; omega)
    obtain ⟨K3, e3⟩ := impl_Mixed_l0 us ws N hN hu hl d (i + 1) (padd out (scale us[i] ws[i])) (by omega) (by omega)
    refine ⟨K1 + K2 + K3 + 1, fun k hk => ?_⟩
    obtain ⟨k, rfl⟩ : ∃ m, k = m + 1 := ⟨k - 1, by omega⟩
    have g1 := e1 k (by omega)
    have g2 := e2 k (by omega)
    have g3 := e3 k (by omega)
    dsimp only at g1 g2 g3
    rw [hm] at g3
    simp only [impl_Mixed.l0]
    rw [hm, if_pos (by omega), if_pos (by omega), if_pos (by omega), if_pos (by omega), rdL h1, rd_at, at_lt h2, g1, Option.bind_some, g2, Option.bind_some, wrap_in (by omega) (by omega), List.drop_eq_getElem_cons h1, List.drop_eq_getElem_cons h2]
    exact g3
theorem impl_Mixed_ev (us : List (List Int)) (ws : List Int) (N : Nat) (hN : N ≤ 1048576) (hu : ∀ u ∈ us, u.length ≤ N) (hl : us.length ≤ 1048576) : Ev (fun k => impl_Mixed.f k us ws) (mix us ws []) := by
  have h := impl_Mixed_l0 us ws N hN hu hl (min us.length ws.length) 0 [] (by simp) (by omega)
  rw [List.drop_zero, List.drop_zero] at h
  exact h
end Go.Proofs.Ytcnejiflpioaiaa.Qap
end
section
set_option linter.unusedVariables false
set_option linter.unusedSimpArgs false
namespace Go.Proofs.Ytcnejiflpioaiaa.Qap
open Go.RowKit Go.Proofs.Ytcnejiflpioaiaa.Pf Go.Proofs.YtcnejiflpioaiaaW.PrintWords Go.Proofs.Ytcnejiflpioaiaa.Ints Go.Proofs.Ytcnejiflpioaiaa.Poly
set_option maxRecDepth 4000
def tot : List (List Int) → Nat
  | [] => 0
  | x :: xs => x.length + tot xs
theorem tot_mem {xs : List (List Int)} {x : List Int} (h : x ∈ xs) : x.length ≤ tot xs := by
  induction xs with
  | nil => cases h
  | cons y ys ih =>
    rw [tot]
    rcases List.mem_cons.1 h with rfl | h
    · omega
    · have := ih h; omega
theorem tot_drop (xs : List (List Int)) {i : Nat} (h : i < xs.length) : tot (xs.drop i) = xs[i].length + tot (xs.drop (i + 1)) := by
  rw [List.drop_eq_getElem_cons h, tot]
theorem szIntSS_l0 (xs : List (List Int)) (hx : ∀ y ∈ xs, y.length ≤ 9223372036854775807) (hn : xs.length ≤ 1048576) (d : Nat) : ∀ (i : Nat) (n : Int), i + d = xs.length → 0 ≤ n → n ≤ 1048576 →
    ∃ z, (∀ k, d < k → laws_szIntSS.l0 k xs n (i : Int) = some z) ∧ (z < 0 ∨ (0 ≤ z ∧ z + (tot (xs.drop i) : Int) = n)) := by
  induction d with
  | zero =>
    intro i n hi h0 h1
    refine ⟨n, fun k hk => ?_, Or.inr ⟨h0, ?_⟩⟩
    · obtain ⟨k, rfl⟩ : ∃ m, k = m + 1 := ⟨k - 1, by omega⟩
      simp only [laws_szIntSS.l0]
      rw [if_neg (by omega)]
    · rw [List.drop_of_length_le (by omega)]; simp [tot]
  | succ d ih =>
    intro i n hi h0 h1
    have hlt : i < xs.length := by omega
    have q0 := hx xs[i] (List.getElem_mem hlt)
    have e0 : laws_szIntS.f xs[i] n = some (if n - (xs[i].length : Int) < 0 then -1 else n - (xs[i].length : Int)) := by
      unfold laws_szIntS.f
      rw [wrap_in (by omega) (by omega)]
      split <;> rfl
    have td := tot_drop xs hlt
    by_cases c : n - (xs[i].length : Int) < 0
    · rw [if_pos c] at e0
      refine ⟨-1, fun k hk => ?_, Or.inl (by decide)⟩
      obtain ⟨k, rfl⟩ : ∃ m, k = m + 1 := ⟨k - 1, by omega⟩
      simp only [laws_szIntSS.l0]
      rw [if_pos (by omega), if_pos (by omega), rdL hlt, e0, Option.bind_some, if_pos (by decide)]
    · rw [if_neg c] at e0
      obtain ⟨z, e, g⟩ := ih (i + 1) (n - (xs[i].length : Int)) (by omega) (by omega) (by omega)
      refine ⟨z, fun k hk => ?_, ?_⟩
      · obtain ⟨k, rfl⟩ : ∃ m, k = m + 1 := ⟨k - 1, by omega⟩
        simp only [laws_szIntSS.l0]
        rw [if_pos (by omega), if_pos (by omega), rdL hlt, e0, Option.bind_some, if_neg (by omega), wrap_in (by omega) (by omega), show (i : Int) + 1 = ((i + 1 : Nat) : Int) by omega]
        exact e k (by omega)
      · rcases g with g | ⟨g, g'⟩
        · exact Or.inl g
        · exact Or.inr ⟨g, by omega⟩
theorem szIntSS_f (xs : List (List Int)) (hx : ∀ y ∈ xs, y.length ≤ 9223372036854775807) (hn : xs.length ≤ 9223372036854775807) :
    ∃ z, (∀ k, 1048577 < k → laws_szIntSS.f k xs 1048576 = some z) ∧ (z < 0 ∨ (0 ≤ z ∧ xs.length + tot xs ≤ 1048576)) := by
  unfold laws_szIntSS.f
  rw [wrap_in (by omega) (by omega)]
  by_cases h : (1048576 : Int) - (xs.length : Int) < 0
  · exact ⟨-1, fun k _ => by rw [if_pos h], Or.inl (by decide)⟩
  · obtain ⟨z, e, g⟩ := szIntSS_l0 xs hx (by omega) xs.length 0 (1048576 - (xs.length : Int)) (by omega) (by omega) (by omega)
    refine ⟨z, fun k hk => by rw [if_neg h]; exact e k (by omega), ?_⟩
    rcases g with g | ⟨g, g'⟩
    · exact Or.inl g
    · rw [List.drop_zero] at g'
      exact Or.inr ⟨g, by omega⟩
theorem toIntSS_l0 (xs : List (List Int)) (hx : ∀ y ∈ xs, y.length ≤ 1048576) (hn : xs.length ≤ 1048576) (d : Nat) : ∀ (i k : Nat), i + d = xs.length → d + 1048577 < k →
    laws_toIntSS.l0 k xs (xs.take i ++ List.replicate d []) (i : Int) = some xs := by
  induction d with
  | zero =>
    intro i k hi hk
    obtain ⟨k, rfl⟩ : ∃ m, k = m + 1 := ⟨k - 1, by omega⟩
    simp only [laws_toIntSS.l0]
    rw [if_neg (by omega), List.take_of_length_le (by omega)]
    simp
  | succ d ih =>
    intro i k hi hk
    obtain ⟨k, rfl⟩ : ∃ m, k = m + 1 := ⟨k - 1, by omega⟩
    have hlt : i < xs.length := by omega
    have q := hx xs[i] (List.getElem_mem hlt)
    simp only [laws_toIntSS.l0]
    rw [if_pos (by omega), if_pos (by omega), rdL hlt, toIntS_f _ (by omega) k (by omega), Option.bind_some, if_pos (by simp; omega), Int.toNat_natCast, wrap_in (by omega) (by omega)]
    have hs : (xs.take i ++ List.replicate (d + 1) []).set i xs[i] = xs.take (i + 1) ++ List.replicate d [] := by
      rw [List.set_append_right _ _ (by simp; omega)]
      rw [List.take_succ_eq_append_getElem hlt, List.length_take, Nat.min_eq_left (by omega), Nat.sub_self, List.replicate_succ, List.set_cons_zero, List.append_assoc, List.singleton_append]
    rw [hs, show (i : Int) + 1 = ((i + 1 : Nat) : Int) by omega]
    exact ih (i + 1) k (by omega) (by omega)
theorem toIntSS_f (xs : List (List Int)) (hx : ∀ y ∈ xs, y.length ≤ 1048576) (hn : xs.length ≤ 1048576) (k : Nat) (hk : 2097154 < k) : laws_toIntSS.f k xs = some xs := by
  unfold laws_toIntSS.f
  rw [if_pos (by omega), Int.toNat_natCast, if_pos (by omega)]
  have h := toIntSS_l0 xs hx hn xs.length 0 k (by omega) (by omega)
  rw [List.take_zero, List.nil_append] at h
  exact h
theorem eqIntSS_l0 (xs : List (List Int)) (hx : ∀ y ∈ xs, y.length ≤ 1048576) (hn : xs.length ≤ 1048576) (d : Nat) : ∀ (i k : Nat), i + d = xs.length → d + 1048577 < k → laws_eqIntSS.l0 k xs xs (i : Int) = some true := by
  induction d with
  | zero =>
    intro i k hi hk
    obtain ⟨k, rfl⟩ : ∃ m, k = m + 1 := ⟨k - 1, by omega⟩
    simp only [laws_eqIntSS.l0]
    rw [if_neg (by omega)]
  | succ d ih =>
    intro i k hi hk
    obtain ⟨k, rfl⟩ : ∃ m, k = m + 1 := ⟨k - 1, by omega⟩
    have hlt : i < xs.length := by omega
    have q := hx xs[i] (List.getElem_mem hlt)
    simp only [laws_eqIntSS.l0]
    rw [if_pos (by omega), if_pos (by omega), if_pos (by omega), rdL hlt, eqIntS_same _ (by omega) k (by omega), Option.bind_some, if_pos rfl, wrap_in (by omega) (by omega), show (i : Int) + 1 = ((i + 1 : Nat) : Int) by omega]
    exact ih (i + 1) k (by omega) (by omega)
theorem eqIntSS_same (xs : List (List Int)) (hx : ∀ y ∈ xs, y.length ≤ 1048576) (hn : xs.length ≤ 1048576) (k : Nat) (hk : 2097154 < k) : laws_eqIntSS.f k xs xs = some true := by
  unfold laws_eqIntSS.f
  rw [if_pos rfl]
  exact eqIntSS_l0 xs hx hn xs.length 0 k (by omega) (by omega)
def marked : Int → List (List Int) → List (List Int)
  | _, [] => []
  | m, x :: xs => marks m x.length :: marked (m + (x.length : Int)) xs
theorem markIntSS_l0 (hn : True) : ∀ (rest done : List (List Int)) (m : Int) (k : Nat), 0 ≤ m → m + (tot rest : Int) ≤ 4611686018427387903 → done.length + rest.length ≤ 1048576 → (∀ y ∈ rest, y.length ≤ 1048576) → rest.length + 1048577 < k →
    laws_markIntSS.l0 k (done ++ rest) m (done.length : Int) = some (m + (tot rest : Int), done ++ marked m rest)
  | [], done, m, k, h0, h1, h2, hx, hk => by
    obtain ⟨k, rfl⟩ : ∃ m, k = m + 1 := ⟨k - 1, by omega⟩
    simp only [laws_markIntSS.l0]
    rw [if_neg (by simp), marked, tot]
    simp
  | x :: rest, done, m, k, h0, h1, h2, hx, hk => by
    obtain ⟨k, rfl⟩ : ∃ m, k = m + 1 := ⟨k - 1, by omega⟩
    rw [List.length_cons] at h2 hk
    rw [tot] at h1
    have q := hx x List.mem_cons_self
    have ih := markIntSS_l0 hn rest (done ++ [marks m x.length]) (m + (x.length : Int)) k (by omega) (by omega) (by rw [List.length_append, List.length_singleton]; omega) (fun y hy => hx y (List.mem_cons_of_mem _ hy)) (by omega)
    have e1 : laws_markIntSS.rd (done ++ x :: rest) (done.length : Int) = x := by
      unfold laws_markIntSS.rd
      rw [Int.toNat_natCast, List.getD_eq_getElem?_getD, List.getElem?_append_right (Nat.le_refl _), Nat.sub_self]
      rfl
    simp only [laws_markIntSS.l0]
    rw [if_pos (by rw [List.length_append, List.length_cons]; omega), if_pos (by omega), e1, markIntS_f m h0 (by omega) x (by omega) k (by omega), Option.bind_some, wrap_in (by omega) (by omega), Int.toNat_natCast, List.set_append_right _ _ (Nat.le_refl _), Nat.sub_self, List.set_cons_zero, tot, marked]
    rw [List.length_append, List.length_singleton, List.append_assoc, List.append_assoc, List.singleton_append, List.singleton_append] at ih
    rw [show (done.length : Int) + 1 = ((done.length + 1 : Nat) : Int) by omega, ih]
    congr 2
    omega
theorem markIntSS_g (xs : List (List Int)) (m : Int) (h0 : 0 ≤ m) (h1 : m + (tot xs : Int) ≤ 4611686018427387903) (hn : xs.length ≤ 1048576) (hx : ∀ y ∈ xs, y.length ≤ 1048576) (k : Nat) (hk : 2097154 < k) : laws_markIntSS.g k xs m = some (m + (tot xs : Int), marked m xs) := by
  have h := markIntSS_l0 trivial xs [] m k h0 h1 (by simpa using hn) hx (by omega)
  exact h
theorem markIntSS_f (xs : List (List Int)) (m : Int) (h0 : 0 ≤ m) (h1 : m + (tot xs : Int) ≤ 4611686018427387903) (hn : xs.length ≤ 1048576) (hx : ∀ y ∈ xs, y.length ≤ 1048576) (k : Nat) (hk : 2097154 < k) : laws_markIntSS.f k xs m = some (m + (tot xs : Int)) := by
  unfold laws_markIntSS.f
  rw [markIntSS_g xs m h0 h1 hn hx k hk]; rfl
theorem spec_Mixed_l0 (us : List (List Int)) (ws : List Int) (N : Nat) (hN : N ≤ 1048576) (hu : ∀ u ∈ us, u.length ≤ N) (hl : us.length ≤ 1048576) : ∀ (d i : Nat) (out : List Int), out.length ≤ N → i + d = min us.length ws.length →
    Ev (fun k => spec_Mixed.l0 k us ws out (i : Int)) (mix (us.drop i) (ws.drop i) out)
  | 0, i, out, ho, hi => ⟨2, fun k hk => by
    obtain ⟨k, rfl⟩ : ∃ m, k = m + 2 := ⟨k - 2, by omega⟩
    simp only [spec_Mixed.l0, spec_Mixed.j1]
    rw [mix_stop _ _ _ (by simp; omega)]
    by_cases c : (i : Int) < (us.length : Int)
    · rw [if_pos c, if_neg (by rw [decide_eq_true_eq]; omega)]
    · rw [if_neg c, if_neg (by decide)]⟩
  | d + 1, i, out, ho, hi => by
    have h1 : i < us.length := by omega
    have h2 : i < ws.length := by omega
    have hul := hu us[i] (List.getElem_mem h1)
    have hp := padd_length out (scale us[i] ws[i])
    rw [scale_length] at hp
    obtain ⟨K1, e1⟩ := spec_l14Scale_ev us[i] ws[i] (by omega)
    obtain ⟨K2, e2⟩ := spec_PolyAdd_ev out (scale us[i] ws[i]) (by omega) (by rw [scale_length]; omega)
    obtain ⟨K3, e3⟩ := spec_Mixed_l0 us ws N hN hu hl d (i + 1) (padd out (scale us[i] ws[i])) (by omega) (by omega)
    refine ⟨K1 + K2 + K3 + 2, fun k hk => ?_⟩
    obtain ⟨k, rfl⟩ : ∃ m, k = m + 2 := ⟨k - 2, by omega⟩
    have g1 := e1 k (by omega)
    have g2 := e2 k (by omega)
    have g3 := e3 k (by omega)
    dsimp only at g1 g2 g3
    simp only [spec_Mixed.l0, spec_Mixed.j1]
    rw [if_pos (by omega), if_pos (decide_eq_true (by omega)), if_pos (by omega), if_pos (by omega), if_pos (by omega), rdL h1, rd_at, at_lt h2, g1, Option.bind_some, g2, Option.bind_some, wrap_in (by omega) (by omega), List.drop_eq_getElem_cons h1, List.drop_eq_getElem_cons h2]
    exact g3
theorem spec_Mixed_ev (us : List (List Int)) (ws : List Int) (N : Nat) (hN : N ≤ 1048576) (hu : ∀ u ∈ us, u.length ≤ N) (hl : us.length ≤ 1048576) : Ev (fun k => spec_Mixed.f k us ws) (mix us ws []) := by
  have h := spec_Mixed_l0 us ws N hN hu hl (min us.length ws.length) 0 [] (by simp) (by omega)
  rw [List.drop_zero, List.drop_zero] at h
  exact h
end Go.Proofs.Ytcnejiflpioaiaa.Qap
end
section
set_option linter.unusedVariables false
set_option linter.unusedSimpArgs false
namespace Go.Proofs.Ytcnejiflpioaiaa.Pure
open Go.RowKit Go.Proofs.Ytcnejiflpioaiaa.Pf Go.Proofs.YtcnejiflpioaiaaW.PrintWords Go.Proofs.Ytcnejiflpioaiaa.Ints Go.Proofs.Ytcnejiflpioaiaa.Poly Go.Proofs.Ytcnejiflpioaiaa.Qap
set_option maxRecDepth 4000
theorem FnExactMixed : laws_FnExactMixed.Pure := by
  intro us ws hu hw
  by_cases h : (ws.length : Int) > 1048576
  · exact ⟨0, by simp only [laws_FnExactMixed.f]; rw [if_pos h]⟩
  obtain ⟨z, ez, gz⟩ := szIntSS_f us (fun y hy => (hu.2 y hy).1) hu.1
  rcases gz with gz | ⟨gz, gt⟩
  · refine ⟨1048578, ?_⟩
    simp only [laws_FnExactMixed.f]
    rw [if_neg h, ez _ (by omega), Option.bind_some, if_pos gz]
  have hx : ∀ y ∈ us, y.length ≤ 1048576 := fun y hy => by have := tot_mem hy; omega
  obtain ⟨K1, h1⟩ := spec_Mixed_ev us ws 1048576 (by omega) hx (by omega)
  obtain ⟨K2, h2⟩ := impl_Mixed_ev us ws 1048576 (by omega) hx (by omega)
  have hn := mix_len 1048576 us hx ws [] (by simp)
  generalize mix us ws [] = zs at *
  have hk : ∀ k, K1 + K2 + 2097160 < k → laws_FnExactMixed.f (k + 1) us ws = some true := by
    intro k hk
    have t := toIntSS_f us hx (by omega) (k + 1) (by omega)
    have t' := toIntSS_f us hx (by omega) k (by omega)
    have u := toIntS_f ws (by omega) (k + 1) (by omega)
    have u' := toIntS_f ws (by omega) k (by omega)
    have e := eqIntSS_same us hx (by omega) (k + 1) (by omega)
    have e' := eqIntS_same ws (by omega) (k + 1) (by omega)
    have e1 := eqIntS_same zs (by omega) (k + 1) (by omega)
    have e2 := eqIntS_same zs (by omega) k (by omega)
    have m := markIntSS_f us 1 (by omega) (by omega) (by omega) hx (k + 1) (by omega)
    have m' := markIntS_f (1 + (tot us : Int)) (by omega) (by omega) ws (by omega) (k + 1) (by omega)
    have m1 := markIntS_f 1 (by omega) (by omega) zs (by omega) k (by omega)
    have q := heldIntS_f 1 (by omega) (by omega) zs.length (by omega) k (by omega)
    have g1 := h1 (k + 1) (by omega)
    have g2 := h2 (k + 1) (by omega)
    have g3 := h2 k (by omega)
    dsimp only at g1 g2 g3
    simp only [laws_FnExactMixed.f]
    rw [if_neg h, ez _ (by omega), Option.bind_some, if_neg (by omega)]
    simp only [t, u, Option.bind_some, g1, g2, e, e', e1, if_true, m, m']
    rw [if_neg (by omega)]
    simp only [laws_FnExactMixed.j0, Bool.not_true, m1, q, t', u', g3, e2, Option.bind_some, if_true]
    rw [if_neg (by simp), if_neg (by omega), if_neg (by omega)]
  exact ⟨_, hk (K1 + K2 + 2097161) (by omega)⟩
end Go.Proofs.Ytcnejiflpioaiaa.Pure
end
section
set_option linter.unusedVariables false
set_option linter.unusedSimpArgs false
namespace Go.Proofs.Ytcnejiflpioaiaa.Open
open Go.RowKit Go.Proofs.YtcnejiflpioaiaaW.PrintWords Go.ChangeShapes Go.WideShapes
def Opens (P : Program) (t : TypeId) {α : Type} (d : Kd α) (g : α → Prop) : Prop :=
  ∀ {H : Type} (enc : TypeId × Value → H) (w : World) (base : Nat) (spare : Nat → Bool) (held : Bool) (fuel : Nat) (cs : List Value) (x : DataW H × List MemPlace),
    DataW.trod enc P w base spare held fuel t cs = some x → ∃ a, d.K w a cs ∧ g a
theorem list_of {α : Type} {p : Nat → α → Prop} : ∀ n, (∀ i, i < n → ∃ y, p i y) → ∃ ys : List α, ys.length = n ∧ ∀ i y, ys[i]? = some y → p i y
  | 0, _ => ⟨[], rfl, fun i y h => by simp at h⟩
  | n + 1, h => by
    obtain ⟨ys, hl, hy⟩ := list_of n (fun i hi => h i (by omega))
    obtain ⟨y, hy'⟩ := h n (by omega)
    refine ⟨ys ++ [y], by simp [hl], fun i z hz => ?_⟩
    rcases Nat.lt_or_ge i n with hi | hi
    · rw [List.getElem?_append_left (by omega)] at hz
      exact hy i z hz
    · have h1 := (List.getElem?_eq_some_iff.1 hz).1
      rw [List.length_append, List.length_singleton] at h1
      have h2 : i = n := by omega
      subst h2
      rw [List.getElem?_append_right (by omega), hl, Nat.sub_self] at hz
      simp at hz
      subst hz
      exact hy'
section
variable {P : Program} {t : TypeId}
theorem opens_int {k : IntKind} (h : P.underlying t = some (.int k)) : Opens P t (Kd.int k) (fun n => (Lit.int k n).wf = true) := by
  intro H enc w base spare held fuel cs x hx
  obtain ⟨n, rfl, _, hw⟩ := DataW.trod_int h hx
  exact ⟨n, rfl, hw⟩
theorem opens_slice {e : TypeId} {α : Type} {d : Kd α} {g : α → Prop} (ht : P.underlying t = some (.slice e)) (hc : P.cellsOf e = d.sz) (he : Opens P e d g) :
    Opens P t (Kd.slice e d) (fun xs => xs.length ≤ 9223372036854775807 ∧ ∀ x ∈ xs, g x) := by
  intro H enc w base spare held fuel cs x h
  rcases Go.Deep.open_slice ht h with ⟨rfl, _⟩ | ⟨a, len, cap, m, n, D, Pl, rfl, hb, hl, hm, hmm, _, hx⟩
  · exact ⟨[], ⟨none, 0, rfl, Nat.le_refl _, Kd.C_nil d w⟩, by simp, fun x hx => by cases hx⟩
  · have hlm : len ≤ m := by rw [hmm]; split <;> omega
    obtain ⟨ys, hy1, hy2⟩ := list_of (p := fun i y => ∃ c, w.cells? base (a.add (i * P.cellsOf e)) (P.cellsOf e) = some c ∧ d.K w y c ∧ g y) len (fun i hi => by
      obtain ⟨c, h1, h2⟩ := hx i (by omega)
      obtain ⟨y, h3, h4⟩ := he _ _ _ _ _ _ _ _ h2
      exact ⟨y, c, h1, h3, h4⟩)
    unfold maxLen at hm
    refine ⟨ys, ⟨some a, cap, by rw [hy1], by omega, rfl, by omega, fun _ => ⟨a, rfl, fun j p hp => ?_⟩⟩, by omega, fun y hy => ?_⟩
    · obtain ⟨c, h1, h2, h3⟩ := hy2 j p hp
      obtain ⟨_, hlen, hcell⟩ := World.cells?_some h1
      refine ⟨c, by rw [hlen, hc], h2, fun i u hu => ?_⟩
      have hi := (List.getElem?_eq_some_iff.1 hu).1
      have := hcell i (by omega)
      rw [Go.Deep.add_add, hc] at this
      rw [this, hu]
    · obtain ⟨i, hi⟩ := List.mem_iff_getElem?.1 hy
      obtain ⟨c, h1, h2, h3⟩ := hy2 i y hi
      exact h3
end
end Go.Proofs.Ytcnejiflpioaiaa.Open
end
section
namespace Go.Proofs.Ytcnejiflpioaiaa.fnExactMixed
open Go.ChangeShapes Go.WideShapes Go.ChangeAt Go.RowKit Go.Proofs.YtcnejiflpioaiaaW.PrintWords Go.Proofs.Ytcnejiflpioaiaa.Open Go.Proofs.Ytcnejiflpioaiaa.Pf
open Go.ChangeMaps (open_string shut_string)
set_option linter.unusedVariables false
set_option linter.unusedSimpArgs false
theorem own : ownKnob Try.prog.godebug = none := by kernel_rfl
theorem laidOut : laidOutB Try.prog = true := by kernel_rfl
set_option maxRecDepth 100000 in
theorem lifted (os : Os) (started : os.Started) (H : Type) (enc : TypeId × Value → H) :
  ReturnsInHanded {} Try.checked os 10 .any (Rows.fnExactMixedSpec.pre6 enc Try.prog Try.f10 Rows.fnExactMixedRow.domain false) (Rows.fnExactMixedSpec.post enc Try.prog Try.f10 false true false false) := by
 refine returnsInHanded_of_change_sized (C := Try.checked) own started (by kernel_rfl) Try.func10
  (ChangeSpec.witness6 (enc := enc) (C := Try.checked) false ⟨#[], #[.slice none 0 0, .slice none 0 0], []⟩ 8 (by kernel_rfl) (by kernel_rfl) (by kernel_rfl) (by kernel_rfl)) ?_
 intro W base args ds gs before hval0 hW hcnd hsz0 _
 have hsz : (DataW.weightsEach Try.prog (Try.f10.params.toList ++ Rows.fnExactMixedSpec.plain.varTypes Try.prog) (ds ++ gs)).all (· ≤ reachBytes) = true := hsz0
 have hval : ∀ (j : Nat) t v, Try.f10.params[j]? = some t → args[j]? = some v → Value.okWide Try.prog W .any base t v := hval0
 have hW' := hW
 obtain ⟨p, q, hA0, hV, rfl, hfz, hnd⟩ := hW
 have hA : DataW.TrodAll enc Try.prog W 0 (fun _ => true) true Try.f10.params.toList args.toList ds p := hA0
 rw [Try.params10] at hA hval hsz
 obtain ⟨v0, vs0, d0, ds0, p0, q0, hargs, rfl, rfl, h0, r0⟩ := trodAll_cons hA
 obtain ⟨v1, vs1, d1, ds1, p1, q1, rfl, rfl, rfl, h1, r1⟩ := trodAll_cons r0
 obtain ⟨rfl, rfl, rfl⟩ := trodAll_nil r1
 obtain rfl : args = #[v0, v1] := by cases args; simp_all
 obtain ⟨rfl, rfl⟩ := trodVars_none hV
 obtain ⟨a0, len0, cap0, rfl⟩ := okWide_slice Try.underlying48 (hval 0 48 v0 rfl rfl)
 have k0 := h0
 have lt0 : ∀ x ∈ p0, x.block < W.heap.size := by obtain ⟨m, hm⟩ := k0; exact DataW.trod_lt m _ _ _ hm
 obtain ⟨l0, ⟨A0, c0, e0, hc0, hr0⟩, g0⟩ := (show ∃ a, (Kd.slice 22 (Kd.slice 3 (Kd.int .i64))).K W a [.slice a0 len0 cap0] ∧ _ from h0.elim fun fuel hf => (opens_slice Try.underlying48 (by kernel_rfl) (opens_slice Try.underlying22 (by kernel_rfl) (opens_int Try.underlying3))) enc W 0 (fun _ => true) true fuel [.slice a0 len0 cap0] _ hf)
 obtain ⟨rfl, rfl, rfl⟩ : a0 = A0 ∧ len0 = l0.length ∧ cap0 = c0 := by simpa using e0
 obtain ⟨a1, len1, cap1, rfl⟩ := okWide_slice Try.underlying22 (hval 1 22 v1 rfl rfl)
 have k1 := h1
 have lt1 : ∀ x ∈ p1, x.block < W.heap.size := by obtain ⟨m, hm⟩ := k1; exact DataW.trod_lt m _ _ _ hm
 obtain ⟨l1, ⟨A1, c1, e1, hc1, hr1⟩, g1⟩ := (show ∃ a, (Kd.slice 3 (Kd.int .i64)).K W a [.slice a1 len1 cap1] ∧ _ from h1.elim fun fuel hf => (opens_slice Try.underlying22 (by kernel_rfl) (opens_int Try.underlying3)) enc W 0 (fun _ => true) true fuel [.slice a1 len1 cap1] _ hf)
 obtain ⟨rfl, rfl, rfl⟩ : a1 = A1 ∧ len1 = l1.length ∧ cap1 = c1 := by simpa using e1
 clear hA0 hval0 hsz0 hsz
 obtain ⟨k, h⟩ := Pure.FnExactMixed l0 l1 g0 g1
 refine (laws_FnExactMixed.calls k _ _ l0 _ _ l1 true W hr0 hc0 hr1 hc1 ⟨rfl⟩ h).mono fun e W' ⟨he, bel0⟩ => ?_
 have bel : Below W.heap.size W W' := bel0
 subst he
 exact ⟨_, rfl, _, _, _, [], _, [], hW', trodAll_mk1 (shut_bool Try.underlying4 _), (trodAll_cons_mk (Below.trod laidOut (by kernel_rfl) (of_decide_eq_true (by kernel_rfl)) k0 bel lt0) (trodAll_cons_mk (Below.trod laidOut (by kernel_rfl) (of_decide_eq_true (by kernel_rfl)) k1 bel lt1) trodAll_mk0)), rfl, bel.frame _, fun h => by cases h⟩
theorem over : Rows.fnExactMixedRow.holds Try.pinned (OpenSpec.ofChange Rows.fnExactMixedSpec) :=
 OpenClaim.holds_of_wide 10 Try.f10 rfl rfl rfl rfl rfl rfl rfl ⟨rfl, rfl, rfl, rfl, rfl⟩ rfl rfl rfl rfl rfl (by kernel_rfl) Try.func10 (by kernel_rfl)
  (of_decide_eq_true (by kernel_rfl)) (by unfold Func.isWrapper; first | (rw [if_pos (by decide +kernel)]; kernel_rfl) | (rw [if_neg (by decide +kernel)]; exact ⟨rfl, rfl⟩))
  (fun os started H enc _ => lifted os started H enc)
theorem proved : Rows.FnExactMixedSaid := over
#print axioms proved
end Go.Proofs.Ytcnejiflpioaiaa.fnExactMixed
namespace Go.Proofs.Ytcnejiflpioaiaa
theorem fnExactMixed_holds : Rows.FnExactMixedSaid := fnExactMixed.proved
end Go.Proofs.Ytcnejiflpioaiaa
end
