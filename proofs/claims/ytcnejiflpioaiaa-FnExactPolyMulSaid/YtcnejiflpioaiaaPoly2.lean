/- What is proved here: what PolyAdd answers, of the program and of the reference alike: the sums place by place, trimmed. No conditions but that a list fits into memory. -/
import Derived.Test.YtcnejiflpioaiaaPfx34
import Derived.Test.YtcnejiflpioaiaaPfx52
import Derived.Test.YtcnejiflpioaiaaPoly1
namespace Go.Proofs.Ytcnejiflpioaiaa.Poly
open Go.RowKit Go.Proofs.Ytcnejiflpioaiaa.Pf Go.Proofs.YtcnejiflpioaiaaW.PrintWords Go.Proofs.Ytcnejiflpioaiaa.Ints

/-- the number at a place, 0 behind the end -/
def at_ (xs : List Int) (i : Nat) : Int := xs.getD i 0
theorem at_lt {xs : List Int} {i : Nat} (h : i < xs.length) : at_ xs i = xs[i] := by simp [at_, h]
theorem at_ge {xs : List Int} {i : Nat} (h : xs.length ≤ i) : at_ xs i = 0 := by simp [at_, h]
theorem rd_at (xs : List Int) (i : Nat) : rd xs (i : Int) = at_ xs i := by simp [rd, at_]
theorem ext_at {xs ys : List Int} (hl : xs.length = ys.length) (h : ∀ i, i < xs.length → at_ xs i = at_ ys i) : xs = ys := by
  apply List.ext_getElem hl
  intro i h1 h2
  have := h i h1
  rwa [at_lt h1, at_lt h2] at this
theorem at_set (xs : List Int) (i j : Nat) (x : Int) (h : i < xs.length) : at_ (xs.set i x) j = if j = i then x else at_ xs j := by
  unfold at_
  rw [List.getD_eq_getElem?_getD, List.getD_eq_getElem?_getD, List.getElem?_set]
  by_cases hj : i = j
  · subst hj; simp [h]
  · simp [hj, show ¬ j = i from fun e => hj e.symm]
/-- a list by its numbers -/
def tab (n : Nat) (f : Nat → Int) : List Int := (List.range n).map f
theorem tab_length (n : Nat) (f : Nat → Int) : (tab n f).length = n := by simp [tab]
theorem tab_at (n : Nat) (f : Nat → Int) (i : Nat) (h : i < n) : at_ (tab n f) i = f i := by simp [at_, tab, h]
theorem eq_tab {xs : List Int} {n : Nat} {f : Nat → Int} (hl : xs.length = n) (h : ∀ i, i < n → at_ xs i = f i) : xs = tab n f :=
  ext_at (by rw [hl, tab_length]) (fun i hi => by rw [h i (by omega), tab_at n f i (by omega)])
theorem tab_congr {n : Nat} {f g : Nat → Int} (h : ∀ i, i < n → f i = g i) : tab n f = tab n g := eq_tab (tab_length _ _) (fun i hi => by rw [tab_at n f i hi, h i hi])
theorem tab_set (n : Nat) (f : Nat → Int) (i : Nat) (x : Int) (h : i < n) : (tab n f).set i x = tab n (fun j => if j = i then x else f j) :=
  eq_tab (by simp [tab_length]) (fun j hj => by rw [at_set _ _ _ _ (by rw [tab_length]; exact h), tab_at n f j hj])
theorem replicate_tab (n : Nat) : List.replicate n (0 : Int) = tab n (fun _ => 0) := eq_tab (by simp) (fun i hi => by simp [at_, hi])
def padd (xs ys : List Int) : List Int := trim (tab (max xs.length ys.length) (fun i => (at_ xs i + at_ ys i) % 1009))
theorem map_tab (n : Nat) (f : Nat → Int) (g : Int → Int) : (tab n f).map g = tab n (fun i => g (f i)) := by simp [tab, Function.comp_def]
theorem at_emod (xs : List Int) (i : Nat) : at_ (xs.map (· % 1009)) i = at_ xs i % 1009 := by
  by_cases h : i < xs.length
  · rw [at_lt (by simpa using h), at_lt h]; simp
  · rw [at_ge (by simp; omega), at_ge (by omega)]; rfl

theorem impl_PolyAdd_l1 (xs ys : List Int) (n : Nat) (hn : n = max xs.length ys.length) (hl : n ≤ 17592186044416) (d : Nat) : ∀ i, i + d = ys.length →
    Ev (fun k => impl_PolyAdd.l1 k (tab n (fun j => (at_ xs j + if j < i then at_ ys j else 0) % 1009)) ys (ys.length : Int) (i : Int)) (padd xs ys) := by
  induction d with
  | zero =>
    intro i hi
    obtain rfl : i = ys.length := by omega
    have e : tab n (fun j => (at_ xs j + if j < ys.length then at_ ys j else 0) % 1009) = tab n (fun j => (at_ xs j + at_ ys j) % 1009) :=
      tab_congr (fun j _ => by
        by_cases h : j < ys.length
        · rw [if_pos h]
        · rw [if_neg h, at_ge (xs := ys) (by omega)])
    refine Ev.step (fun k => ?_) (impl_PolyTrim_ev (tab n (fun j => (at_ xs j + at_ ys j) % 1009)) (by rw [tab_length]; exact hl) |> fun h => by rw [hn] at h; exact h)
    simp only [impl_PolyAdd.l1]
    rw [if_neg (by omega), e, hn]
    cases impl_PolyTrim.f k (tab (max xs.length ys.length) fun j => (at_ xs j + at_ ys j) % 1009) <;> rfl
  | succ d ih =>
    intro i hi
    have h1 : i < ys.length := by omega
    have h2 : i < n := by omega
    refine Ev.step (fun k => ?_) (ih (i + 1) (by omega))
    simp only [impl_PolyAdd.l1]
    rw [if_pos (by omega), if_pos (by omega), if_pos (by omega), if_pos (by rw [tab_length]; omega), impl_ScAdd_eq, Option.bind_some, Int.toNat_natCast, wrap_in (by omega) (by omega), rd_at, rd_at, tab_at _ _ _ h2, tab_set _ _ _ _ h2, if_neg (Nat.lt_irrefl i)]
    congr 1
    refine tab_congr (fun j hj => ?_)
    by_cases e : j = i
    · subst e; rw [if_pos rfl, if_pos (by omega)]; omega
    · rw [if_neg e]
      by_cases e2 : j < i
      · rw [if_pos e2, if_pos (by omega)]
      · rw [if_neg e2, if_neg (by omega)]
theorem impl_PolyAdd_l0 (xs ys : List Int) (n : Nat) (hn : n = max xs.length ys.length) (hl : n ≤ 17592186044416) (d : Nat) : ∀ i, i + d = xs.length →
    Ev (fun k => impl_PolyAdd.l0 k ys (tab n (fun j => if j < i then at_ xs j % 1009 else 0)) xs (xs.length : Int) (i : Int)) (padd xs ys) := by
  induction d with
  | zero =>
    intro i hi
    obtain rfl : i = xs.length := by omega
    have e : tab n (fun j => if j < xs.length then at_ xs j % 1009 else 0) = tab n (fun j => (at_ xs j + if j < 0 then at_ ys j else 0) % 1009) :=
      tab_congr (fun j _ => by
        by_cases h : j < xs.length
        · rw [if_pos h, if_neg (by omega)]; simp
        · rw [if_neg h, at_ge (by omega)]; rfl)
    refine Ev.step (fun k => ?_) (impl_PolyAdd_l1 xs ys n hn hl ys.length 0 (by omega))
    simp only [impl_PolyAdd.l0]
    rw [if_neg (by omega), e]
    rfl
  | succ d ih =>
    intro i hi
    have h1 : i < xs.length := by omega
    have h2 : i < n := by omega
    refine Ev.step (fun k => ?_) (ih (i + 1) (by omega))
    simp only [impl_PolyAdd.l0]
    rw [if_pos (by omega), if_pos (by omega), if_pos (by omega), impl_ScOf_eq, Option.bind_some, if_pos (by rw [tab_length]; omega), Int.toNat_natCast, wrap_in (by omega) (by omega), rd_at, tab_set _ _ _ _ h2]
    congr 1
    refine tab_congr (fun j hj => ?_)
    by_cases e : j = i
    · subst e; rw [if_pos rfl, if_pos (by omega)]
    · rw [if_neg e]
      by_cases e2 : j < i
      · rw [if_pos e2, if_pos (by omega)]
      · rw [if_neg e2, if_neg (by omega)]
theorem mx_nat (a b : Nat) : mx (a : Int) (b : Int) = ((max a b : Nat) : Int) := by unfold mx; split <;> omega
theorem impl_PolyAdd_ev (xs ys : List Int) (hx : xs.length ≤ 17592186044416) (hy : ys.length ≤ 17592186044416) : Ev (fun k => impl_PolyAdd.f k xs ys) (padd xs ys) := by
  have h := impl_PolyAdd_l0 xs ys _ rfl (by omega) xs.length 0 (by omega)
  refine Ev.congr (fun k => ?_) h
  simp only [impl_PolyAdd.f]
  rw [mx_nat, if_pos (by omega), Int.toNat_natCast, if_pos (by omega), replicate_tab]
  simp

theorem spec_PolyAdd_l0 (xs ys : List Int) (n : Nat) (hn : n = max xs.length ys.length) (hl : n ≤ 17592186044416) (d : Nat) : ∀ i, i + d = n →
    Ev (fun k => spec_PolyAdd.l0 k xs ys (n : Int) (tab n (fun j => if j < i then (at_ xs j + at_ ys j) % 1009 else 0)) (i : Int)) (padd xs ys) := by
  induction d with
  | zero =>
    intro i hi
    obtain rfl : i = n := by omega
    have e : tab i (fun j => if j < i then (at_ xs j + at_ ys j) % 1009 else 0) = tab i (fun j => (at_ xs j + at_ ys j) % 1009) := tab_congr (fun j hj => by rw [if_pos hj])
    refine Ev.step (fun k => ?_) (spec_PolyTrim_ev (tab i (fun j => (at_ xs j + at_ ys j) % 1009)) (by rw [tab_length]; exact hl) |> fun h => by rw [hn] at h; exact h)
    simp only [spec_PolyAdd.l0]
    rw [if_neg (by omega), e, hn]
    cases spec_PolyTrim.f k (tab (max xs.length ys.length) fun j => (at_ xs j + at_ ys j) % 1009) <;> rfl
  | succ d ih =>
    intro i hi
    have h2 : i < n := by omega
    have key : ∀ x, x = (at_ xs i + at_ ys i) % 1009 → (tab n (fun j => if j < i then (at_ xs j + at_ ys j) % 1009 else 0)).set i x = tab n (fun j => if j < i + 1 then (at_ xs j + at_ ys j) % 1009 else 0) := by
      intro x hx
      rw [tab_set _ _ _ _ h2]
      refine tab_congr (fun j hj => ?_)
      by_cases e : j = i
      · subst e; rw [if_pos rfl, if_pos (by omega), hx]
      · rw [if_neg e]
        by_cases e2 : j < i
        · rw [if_pos e2, if_pos (by omega)]
        · rw [if_neg e2, if_neg (by omega)]
    have z : at_ (tab n (fun j => if j < i then (at_ xs j + at_ ys j) % 1009 else 0)) i = 0 := by rw [tab_at _ _ _ h2, if_neg (Nat.lt_irrefl i)]
    have zl : (tab n (fun j => if j < i then (at_ xs j + at_ ys j) % 1009 else 0)).length = n := tab_length _ _
    generalize tab n (fun j => if j < i then (at_ xs j + at_ ys j) % 1009 else 0) = t at *
    refine Ev.step (fun k => ?_) (ih (i + 1) (by omega))
    simp only [spec_PolyAdd.l0]
    rw [if_pos (by omega)]
    by_cases hx : i < xs.length
    · rw [if_pos (by omega), if_pos (by omega), if_pos (by omega), spec_ScAdd_eq, Option.bind_some, Option.bind_some, Int.toNat_natCast]
      simp only [rd_at, z]
      by_cases hy : i < ys.length
      · rw [if_pos (by omega), spec_ScAdd_eq, Option.bind_some, at_set _ _ _ _ (by omega), if_pos rfl, List.set_set, wrap_in (by omega) (by omega), key]
        · rfl
        · omega
      · rw [if_neg (by omega), wrap_in (by omega) (by omega), key]
        · rfl
        · rw [at_ge (xs := ys) (by omega)]; omega
    · rw [if_neg (by omega)]
      have hy : i < ys.length := by omega
      rw [if_pos (by omega), if_pos (by omega), if_pos (by omega), spec_ScAdd_eq, Option.bind_some, Int.toNat_natCast, rd_at, rd_at, z, wrap_in (by omega) (by omega), key]
      · rfl
      · rw [at_ge (xs := xs) (by omega)]
theorem spec_PolyAdd_ev (xs ys : List Int) (hx : xs.length ≤ 17592186044416) (hy : ys.length ≤ 17592186044416) : Ev (fun k => spec_PolyAdd.f k xs ys) (padd xs ys) := by
  have h := spec_PolyAdd_l0 xs ys _ rfl (by omega) (max xs.length ys.length) 0 (by omega)
  have h2 : Ev (fun k => spec_PolyAdd.j0 k xs ys ((max xs.length ys.length : Nat) : Int)) (padd xs ys) := by
    refine Ev.step (fun k => ?_) h
    simp only [spec_PolyAdd.j0]
    rw [if_pos (by omega), Int.toNat_natCast, if_pos (by omega), replicate_tab]
    simp
  refine Ev.congr (fun k => ?_) h2
  simp only [spec_PolyAdd.f]
  by_cases h3 : (ys.length : Int) > (xs.length : Int)
  · rw [if_pos h3, show max xs.length ys.length = ys.length by omega]
  · rw [if_neg h3, show max xs.length ys.length = xs.length by omega]
end Go.Proofs.Ytcnejiflpioaiaa.Poly
