/- What is proved here: what PolyMul and PolyZero answer, of the program and of the reference alike. No conditions. -/
import Derived.Test.YtcnejiflpioaiaaPfx35
import Derived.Test.YtcnejiflpioaiaaPfx54
import Derived.Test.YtcnejiflpioaiaaPoly2
namespace Go.Proofs.Ytcnejiflpioaiaa.Poly
open Go.RowKit Go.Proofs.Ytcnejiflpioaiaa.Pf Go.Proofs.YtcnejiflpioaiaaW.PrintWords Go.Proofs.Ytcnejiflpioaiaa.Ints

/-- the products whose places come to n, of the first i numbers of xs -/
def conv (xs ys : List Int) : Nat → Nat → Int
  | 0, _ => 0
  | i + 1, n => conv xs ys i n + if i ≤ n then at_ xs i * at_ ys (n - i) else 0
def rowp (xs ys : List Int) (i j n : Nat) : Int := if i ≤ n ∧ n - i < j then at_ xs i * at_ ys (n - i) else 0
theorem row_none (xs ys : List Int) (i n : Nat) : rowp xs ys i 0 n = 0 := by unfold rowp; rw [if_neg (by omega)]
theorem row_all (xs ys : List Int) (i n : Nat) : rowp xs ys i ys.length n = if i ≤ n then at_ xs i * at_ ys (n - i) else 0 := by
  unfold rowp
  by_cases h : i ≤ n
  · by_cases h2 : n - i < ys.length
    · rw [if_pos ⟨h, h2⟩, if_pos h]
    · rw [if_neg (by omega), if_pos h, at_ge (xs := ys) (by omega)]; simp
  · rw [if_neg (by omega), if_neg h]
theorem conv_end (xs ys : List Int) (n : Nat) : ∀ i, i ≤ xs.length → xs.length + ys.length ≤ n + 1 → conv xs ys i n = 0
  | 0, _, _ => rfl
  | i + 1, h, h2 => by
    rw [conv, conv_end xs ys n i (by omega) h2, if_pos (by omega), at_ge (xs := ys) (by omega)]
    simp
def pmul (xs ys : List Int) : List Int := if xs.length > 64 ∨ ys.length > 64 then [] else trim (tab (xs.length + ys.length) (conv xs ys xs.length))
theorem cut_replicate : ∀ n, cut (tab n (fun _ => 0)) = []
  | 0 => rfl
  | n + 1 => by
    have : tab (n + 1) (fun _ => 0) = tab n (fun _ => 0) ++ [0] := by simp [tab, List.range_succ]
    rw [this, cut_zero, cut_replicate n]
theorem tab_succ (n : Nat) (f : Nat → Int) : tab (n + 1) f = tab n f ++ [f n] := by simp [tab, List.range_succ]
theorem trim_idem (n : Nat) (f : Nat → Int) : trim (tab n (fun i => f i % 1009)) = trim (tab n f) := by
  unfold trim
  rw [map_tab, map_tab]
  congr 1
  exact tab_congr (fun i _ => by omega)
theorem trim_short (xs ys : List Int) (h : 0 < xs.length + ys.length) : trim (tab (xs.length + ys.length) (conv xs ys xs.length)) = trim (tab (xs.length + ys.length - 1) (conv xs ys xs.length)) := by
  obtain ⟨N, hN⟩ : ∃ N, xs.length + ys.length = N + 1 := ⟨xs.length + ys.length - 1, by omega⟩
  rw [hN, Nat.add_sub_cancel]
  unfold trim
  rw [tab_succ, conv_end xs ys N xs.length (Nat.le_refl _) (by omega), List.map_append]
  exact cut_zero _
theorem step_row (xs ys : List Int) (N i j : Nat) (h : i + j < N) :
    (tab N (fun n => (conv xs ys i n + rowp xs ys i j n) % 1009)).set (i + j) ((at_ (tab N (fun n => (conv xs ys i n + rowp xs ys i j n) % 1009)) (i + j) + at_ xs i * at_ ys j % 1009) % 1009) = tab N (fun n => (conv xs ys i n + rowp xs ys i (j + 1) n) % 1009) := by
  rw [tab_set _ _ _ _ h, tab_at _ _ _ h]
  refine tab_congr (fun n _ => ?_)
  by_cases e : n = i + j
  · subst e
    rw [if_pos rfl]
    have e1 : rowp xs ys i j (i + j) = 0 := by unfold rowp; rw [if_neg (by omega)]
    have e2 : rowp xs ys i (j + 1) (i + j) = at_ xs i * at_ ys j := by unfold rowp; rw [if_pos (by omega), show i + j - i = j by omega]
    rw [e1, e2]
    omega
  · rw [if_neg e]
    have e1 : rowp xs ys i j n = rowp xs ys i (j + 1) n := by
      unfold rowp
      by_cases h1 : i ≤ n ∧ n - i < j
      · rw [if_pos h1, if_pos (by omega)]
      · rw [if_neg h1, if_neg (by omega)]
    rw [e1]
theorem row_done (xs ys : List Int) (N i : Nat) : tab N (fun n => (conv xs ys i n + rowp xs ys i ys.length n) % 1009) = tab N (fun n => conv xs ys (i + 1) n % 1009) :=
  tab_congr (fun n _ => by rw [row_all, conv])
theorem row_start (xs ys : List Int) (N i : Nat) : tab N (fun n => conv xs ys i n % 1009) = tab N (fun n => (conv xs ys i n + rowp xs ys i 0 n) % 1009) :=
  tab_congr (fun n _ => by rw [row_none, Int.add_zero])

theorem impl_PolyMul_l1 (xs ys : List Int) (hx : xs.length ≤ 64) (hy : ys.length ≤ 64) (N : Nat) (hN : xs.length + ys.length ≤ N + 1) (i : Nat) (hi : i < xs.length) (r : List Int)
    (next : Ev (fun k => impl_PolyMul.l0 k ys (tab N (fun n => conv xs ys (i + 1) n % 1009)) xs (xs.length : Int) ((i + 1 : Nat) : Int)) r) (d : Nat) : ∀ j, j + d = ys.length →
    Ev (fun k => impl_PolyMul.l1 k ys (tab N (fun n => (conv xs ys i n + rowp xs ys i j n) % 1009)) (i : Int) (at_ xs i) xs (xs.length : Int) (i : Int) ys (ys.length : Int) (j : Int)) r := by
  induction d with
  | zero =>
    intro j hj
    obtain rfl : j = ys.length := by omega
    refine Ev.step (fun k => ?_) next
    simp only [impl_PolyMul.l1]
    rw [if_neg (by omega), wrap_in (by omega) (by omega), row_done]
    rfl
  | succ d ih =>
    intro j hj
    refine Ev.step (fun k => ?_) (ih (j + 1) (by omega))
    simp only [impl_PolyMul.l1]
    rw [if_pos (by omega), if_pos (by omega), if_pos (by omega), wrap_in (i := (i : Int) + (j : Int)) (by omega) (by omega), if_pos (by omega), if_pos (by rw [tab_length]; omega), impl_ScMul_eq, Option.bind_some, impl_ScAdd_eq, Option.bind_some, wrap_in (by omega) (by omega),
      show (i : Int) + (j : Int) = ((i + j : Nat) : Int) by omega, Int.toNat_natCast, rd_at, rd_at, step_row xs ys N i j (by omega)]
    rfl
theorem impl_PolyMul_l0 (xs ys : List Int) (hx : xs.length ≤ 64) (hy : ys.length ≤ 64) (N : Nat) (hN : xs.length + ys.length ≤ N + 1) (hN2 : N ≤ 128) (d : Nat) : ∀ i, i + d = xs.length →
    Ev (fun k => impl_PolyMul.l0 k ys (tab N (fun n => conv xs ys i n % 1009)) xs (xs.length : Int) (i : Int)) (trim (tab N (conv xs ys xs.length))) := by
  induction d with
  | zero =>
    intro i hi
    obtain rfl : i = xs.length := by omega
    refine Ev.step (fun k => ?_) (impl_PolyTrim_ev (tab N (fun n => conv xs ys xs.length n % 1009)) (by rw [tab_length]; omega) |> fun h => by rw [trim_idem] at h; exact h)
    simp only [impl_PolyMul.l0]
    rw [if_neg (by omega)]
    cases impl_PolyTrim.f k (tab N fun n => conv xs ys xs.length n % 1009) <;> rfl
  | succ d ih =>
    intro i hi
    refine Ev.step (fun k => ?_) (impl_PolyMul_l1 xs ys hx hy N hN i (by omega) _ (ih (i + 1) (by omega)) ys.length 0 (by omega))
    simp only [impl_PolyMul.l0]
    rw [if_pos (by omega), if_pos (by omega), if_pos (by omega), rd_at, row_start]
    rfl
theorem impl_PolyMul_ev (xs ys : List Int) : Ev (fun k => impl_PolyMul.f k xs ys) (pmul xs ys) := by
  by_cases h1 : xs.length > 64
  · rw [pmul, if_pos (.inl h1)]
    exact Ev.one fun k => by simp only [impl_PolyMul.f, impl_PolyMul.j0]; rw [if_pos (by omega), if_pos trivial]
  · by_cases h2 : ys.length > 64
    · rw [pmul, if_pos (.inr h2)]
      exact Ev.one fun k => by simp only [impl_PolyMul.f, impl_PolyMul.j0]; rw [if_neg (by omega), if_pos (decide_eq_true (by omega))]
    · rw [pmul, if_neg (by omega)]
      refine Ev.step (fun k => ?_) (impl_PolyMul_l0 xs ys (by omega) (by omega) (xs.length + ys.length) (by omega) (by omega) xs.length 0 (by omega))
      simp only [impl_PolyMul.f, impl_PolyMul.j0]
      rw [if_neg (by omega), if_neg (by simp; omega), wrap_in (by omega) (by omega), if_pos (by omega), show (xs.length : Int) + (ys.length : Int) = ((xs.length + ys.length : Nat) : Int) by omega, Int.toNat_natCast, if_pos (by omega), replicate_tab]
      rfl
theorem spec_PolyMul_l1 (xs ys : List Int) (hx : xs.length ≤ 64) (hy : ys.length ≤ 64) (N : Nat) (hN : xs.length + ys.length ≤ N + 1) (i : Nat) (hi : i < xs.length) (r : List Int)
    (next : Ev (fun k => spec_PolyMul.l0 k xs ys (tab N (fun n => conv xs ys (i + 1) n % 1009)) ((i + 1 : Nat) : Int)) r) (d : Nat) : ∀ j, j + d = ys.length →
    Ev (fun k => spec_PolyMul.l1 k xs ys (tab N (fun n => (conv xs ys i n + rowp xs ys i j n) % 1009)) (i : Int) (j : Int)) r := by
  induction d with
  | zero =>
    intro j hj
    obtain rfl : j = ys.length := by omega
    refine Ev.step (fun k => ?_) next
    simp only [spec_PolyMul.l1]
    rw [if_neg (by omega), wrap_in (by omega) (by omega), row_done]
    rfl
  | succ d ih =>
    intro j hj
    refine Ev.step (fun k => ?_) (ih (j + 1) (by omega))
    simp only [spec_PolyMul.l1]
    rw [if_pos (by omega), wrap_in (i := (i : Int) + (j : Int)) (by omega) (by omega), if_pos (by omega), if_pos (by rw [tab_length]; omega), if_pos (by omega), if_pos (by omega), if_pos (by omega), spec_ScMul_eq, Option.bind_some, spec_ScAdd_eq, Option.bind_some, wrap_in (by omega) (by omega),
      show (i : Int) + (j : Int) = ((i + j : Nat) : Int) by omega, Int.toNat_natCast, rd_at, rd_at, rd_at, step_row xs ys N i j (by omega)]
    rfl
theorem spec_PolyMul_l0 (xs ys : List Int) (hx : xs.length ≤ 64) (hy : ys.length ≤ 64) (N : Nat) (hN : xs.length + ys.length ≤ N + 1) (hN2 : N ≤ 128) (d : Nat) : ∀ i, i + d = xs.length →
    Ev (fun k => spec_PolyMul.l0 k xs ys (tab N (fun n => conv xs ys i n % 1009)) (i : Int)) (trim (tab N (conv xs ys xs.length))) := by
  induction d with
  | zero =>
    intro i hi
    obtain rfl : i = xs.length := by omega
    refine Ev.step (fun k => ?_) (spec_PolyTrim_ev (tab N (fun n => conv xs ys xs.length n % 1009)) (by rw [tab_length]; omega) |> fun h => by rw [trim_idem] at h; exact h)
    simp only [spec_PolyMul.l0]
    rw [if_neg (by omega)]
    cases spec_PolyTrim.f k (tab N fun n => conv xs ys xs.length n % 1009) <;> rfl
  | succ d ih =>
    intro i hi
    refine Ev.step (fun k => ?_) (spec_PolyMul_l1 xs ys hx hy N hN i (by omega) _ (ih (i + 1) (by omega)) ys.length 0 (by omega))
    simp only [spec_PolyMul.l0]
    rw [if_pos (by omega), row_start]
    rfl
theorem pmul_nil_l (ys : List Int) : pmul [] ys = [] := by
  unfold pmul
  split
  · rfl
  · unfold trim
    rw [map_tab]
    exact cut_replicate _
theorem conv_nil_r (xs : List Int) (n : Nat) : ∀ i, conv xs [] i n = 0
  | 0 => rfl
  | i + 1 => by rw [conv, conv_nil_r xs n i, at_ge (xs := []) (by simp)]; simp
theorem pmul_nil_r (xs : List Int) : pmul xs [] = [] := by
  unfold pmul
  split
  · rfl
  · unfold trim
    rw [map_tab, tab_congr (g := fun _ => 0) (fun i _ => by rw [conv_nil_r]; rfl)]
    exact cut_replicate _
theorem spec_PolyMul_ev (xs ys : List Int) : Ev (fun k => spec_PolyMul.f k xs ys) (pmul xs ys) := by
  by_cases hx : xs.length = 0
  · obtain rfl := List.eq_nil_of_length_eq_zero hx
    rw [pmul_nil_l]
    exact Ev.one fun k => by simp only [spec_PolyMul.f, spec_PolyMul.j0]; rw [if_pos (by simp), if_pos trivial]
  by_cases hy : ys.length = 0
  · obtain rfl := List.eq_nil_of_length_eq_zero hy
    rw [pmul_nil_r]
    exact Ev.one fun k => by simp only [spec_PolyMul.f, spec_PolyMul.j0]; rw [if_neg (by omega), if_pos (by simp), if_pos trivial]
  by_cases h1 : xs.length > 64
  · rw [pmul, if_pos (.inl h1)]
    exact Ev.one fun k => by simp only [spec_PolyMul.f, spec_PolyMul.j0]; rw [if_neg (by omega), if_neg (by omega), if_pos (by omega), if_pos trivial]
  · by_cases h2 : ys.length > 64
    · rw [pmul, if_pos (.inr h2)]
      exact Ev.one fun k => by simp only [spec_PolyMul.f, spec_PolyMul.j0]; rw [if_neg (by omega), if_neg (by omega), if_neg (by omega), if_pos (decide_eq_true (by omega))]
    · rw [pmul, if_neg (by omega), trim_short xs ys (by omega)]
      refine Ev.step (fun k => ?_) (spec_PolyMul_l0 xs ys (by omega) (by omega) (xs.length + ys.length - 1) (by omega) (by omega) xs.length 0 (by omega))
      simp only [spec_PolyMul.f, spec_PolyMul.j0]
      rw [if_neg (by omega), if_neg (by omega), if_neg (by omega), if_neg (by simp; omega), wrap_in (i := (xs.length : Int) + (ys.length : Int)) (by omega) (by omega), wrap_in (by omega) (by omega), if_pos (by omega), show (xs.length : Int) + (ys.length : Int) - 1 = ((xs.length + ys.length - 1 : Nat) : Int) by omega, Int.toNat_natCast, if_pos (by omega), replicate_tab]
      rfl
theorem pmul_length (xs ys : List Int) : (pmul xs ys).length ≤ 128 := by
  unfold pmul
  split
  · simp
  · have := trim_length (tab (xs.length + ys.length) (conv xs ys xs.length))
    rw [tab_length] at this
    omega
theorem padd_length (xs ys : List Int) : (padd xs ys).length ≤ max xs.length ys.length := by
  have := trim_length (tab (max xs.length ys.length) (fun i => (at_ xs i + at_ ys i) % 1009))
  rwa [tab_length] at this
end Go.Proofs.Ytcnejiflpioaiaa.Poly
