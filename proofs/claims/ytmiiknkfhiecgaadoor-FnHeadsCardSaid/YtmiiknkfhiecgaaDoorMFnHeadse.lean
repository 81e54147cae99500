/- What is proved here: part 5 of 5 of the proof of the given statement FnHeads: the contracts of the Go functions that it reaches, the plain facts on lists and numbers, and (in the last part) the statement itself. No conditions beyond the given ones. -/
import Derived.Test.YtmiiknkfhiecgaaDoorMFnHeadsc
import Derived.Test.YtmiiknkfhiecgaaDoorMFnHeadsd
import Derived.Test.YtmiiknkfhiecgaaDoorMFnHeadsb
import Derived.Test.YtmiiknkfhiecgaaDoorMFnHeadswMore
import Derived.Deep.Slices
import Derived.ChangeArms
import Derived.DataReads
import Derived.ChangeShapes
import Derived.Test.YtmiiknkfhiecgaaDoorRows
import Derived.Test.YtmiiknkfhiecgaaDoorMFnHeadsa
import Derived.ProofKit
import Derived.LaidMore
import Derived.OpenShut
import Derived.Stop.Joined
import Derived.Test.YtmiiknkfhiecgaaDoorMFnHeadswSlim
import Derived.Test.YtmiiknkfhiecgaaDoorTie
import Derived.Test.YtmiiknkfhiecgaaDoorCards
import Derived.WalkKit
import Derived.ShutString
import Derived.ChangeOld
import Derived.Below
import Derived.SizedLaws
import Derived.OpenVars
import Derived.SevenTiedAt

section
/- What is proved here: for every text of 2^20 bytes at most the program's ReadHead and the reference's answer the same. No conditions. -/
set_option linter.unusedVariables false
set_option linter.unusedSimpArgs false
namespace Go.Proofs.YtmiiknkfhiecgaaDoor.Rh
open Go.RowKit Go.Proofs.YtmiiknkfhiecgaaDoor.Pf Go.Proofs.YtmiiknkfhiecgaaDoorW.PrintWords

def digs : Nat → Int → List Int
  | 0, x => [x]
  | n + 1, x => if x ≤ 127 then [x] else (x % 128 + 128) :: digs n (x / 128)

theorem l01Var_l0 (n : Nat) : ∀ (k : Nat) (x : Int) (acc : List Int), n < k → 0 ≤ x → x < 128 ^ (n + 1) → x < 4398046511104 → acc.length + n < 100 →
    spec_l01Var.l0 k x acc = some (strOfNums (acc ++ digs n x)) := by
  induction n with
  | zero =>
    intro k x acc hk h0 h1 h5 ha
    obtain ⟨k, rfl⟩ : ∃ j, k = j + 1 := ⟨k - 1, by omega⟩
    have h1' : x < 128 := by simpa using h1
    simp only [spec_l01Var.l0, digs]
    rw [if_neg (by omega), if_pos (by omega), Int.emod_eq_of_lt h0 (by omega)]
  | succ n ih =>
    intro k x acc hk h0 h1 h5 ha
    obtain ⟨k, rfl⟩ : ∃ j, k = j + 1 := ⟨k - 1, by omega⟩
    simp only [spec_l01Var.l0, digs]
    by_cases h : x ≤ 127
    · rw [if_neg (by omega), if_pos (by omega), if_pos h, Int.emod_eq_of_lt h0 (by omega)]
    · have h2 : Int.tdiv x 128 = x / 128 := Int.tdiv_eq_ediv_of_nonneg h0
      have h3 : Int.tmod x 128 = x % 128 := Int.tmod_eq_emod_of_nonneg h0
      have h4 : wrap64 (x / 128) = x / 128 := by unfold wrap64; omega
      have h6 : wrap64 (x % 128 + 128) % 256 = x % 128 + 128 := by unfold wrap64; omega
      have h7 : x / 128 < 128 ^ (n + 1) := by
        rw [Int.pow_succ] at h1
        generalize (128 : Int) ^ (n + 1) = p at *
        omega
      rw [if_pos (by omega), if_pos (by omega), if_neg h, h2, h3, h4, h6, ih k _ _ (by omega) (by omega) h7 (by omega) (by simp; omega)]
      simp

theorem digs_len (n : Nat) : ∀ (i : Nat) (x : Int), 0 ≤ x → x < 128 ^ (i + 1) → (digs n x).length ≤ i + 1 := by
  induction n with
  | zero => intro i x h0 h1; simp [digs]
  | succ n ih =>
    intro i x h0 h1
    simp only [digs]
    by_cases h : x ≤ 127
    · rw [if_pos h]; simp
    · rw [if_neg h]
      cases i with
      | zero => have h1' : x < 128 := by simpa using h1
                omega
      | succ i =>
        have h7 : x / 128 < 128 ^ (i + 1) := by
          rw [Int.pow_succ] at h1
          generalize (128 : Int) ^ (i + 1) = p at *
          omega
        have := ih i (x / 128) (by omega) h7
        simp only [List.length_cons]
        omega

def bts (b : ByteArray) (i : Nat) : List Int := (List.range i).map fun j : Nat => bt b (j : Int)

theorem strOf_bts (b : ByteArray) (m : Nat) (h : m ≤ b.size) : (strOfNums (bts b m)).toList = (b.extract 0 m).toList := by
  have e : strOfNums (bts b m) = b.extract 0 m := by
    apply ByteArray.ext
    apply Array.ext'
    have e1 : (strOfNums (bts b m)).data.toList = (bts b m).map fun x => UInt8.ofNat x.toNat := by
      unfold strOfNums; rfl
    rw [e1]
    apply List.ext_getElem
    · have e2 : (b.extract 0 m).data.toList.length = (b.extract 0 m).size := Array.length_toList
      rw [List.length_map, e2, ByteArray.size_extract]
      simp only [bts, List.length_map, List.length_range]; omega
    · intro i h1 h2
      rw [List.length_map] at h1
      have h3 : i < m := by simpa only [bts, List.length_map, List.length_range] using h1
      simp only [bts, List.getElem_map, List.getElem_range]
      unfold bt
      rw [dif_pos (by omega)]
      simp
      rfl
  rw [e]

theorem w64 {x : Int} (h0 : -9223372036854775808 ≤ x) (h1 : x ≤ 9223372036854775807) : wrap64 x = x := by
  unfold wrap64; omega

theorem strOf_size (xs : List Int) : (strOfNums xs).size = xs.length := by simp [strOfNums, ByteArray.size]

theorem bts_succ (b : ByteArray) (i : Nat) : bts b (i + 1) = bts b i ++ [bt b (i : Int)] := by simp [bts, List.range_succ]

theorem texts_eq {a b : ByteArray} (h : a.toList = b.toList) : a = b := by
  rw [Go.ByteArray.toList_eq, Go.ByteArray.toList_eq] at h
  cases a; cases b
  congr 1
  exact Array.toList_inj.1 h

def pw : Nat → Int
  | 0 => 1
  | n + 1 => pw n * 128

theorem pw_eq (n : Nat) : pw n = 128 ^ n := by
  induction n with
  | zero => rfl
  | succ n ih => simp only [pw]; rw [ih, Int.pow_succ]

theorem pw_le {i : Nat} (h : i ≤ 4) : 1 ≤ pw i ∧ pw i ≤ 268435456 := by
  have : i = 0 ∨ i = 1 ∨ i = 2 ∨ i = 3 ∨ i = 4 := by omega
  rcases this with rfl | rfl | rfl | rfl | rfl <;> exact ⟨by decide +kernel, by decide +kernel⟩

theorem wi {i : Nat} (h : i ≤ 1048576) : wrap64 ((i : Int) + 1) = ((i + 1 : Nat) : Int) := by rw [w64 (by omega) (by omega)]; omega

theorem spec_step {b : ByteArray} {x7 p v q β : Int} {i K : Nat} (hs : b.size ≤ 1048576) (hi : i < b.size) (h5 : i < 5) (hβ : bt b (i : Int) = β)
    (hv : wrap64 (x7 + wrap64 (Int.tmod (wrap64 β) 128 * p)) = v) (hq : wrap64 (p * 128) = q) :
    spec_ReadVar.l0 (K + 2) b 0 x7 p i = if β < 128 then (if v > 1000000000 then some (0, 0, false) else (spec_l01Var.f K v).bind fun t => if t.toList = (b.extract 0 (i + 1)).toList then some (v, ((i + 1 : Nat) : Int), true) else some (0, 0, false))
      else spec_ReadVar.l0 K b 0 v q ((i + 1 : Nat) : Int) := by
  have e1 : wrap64 (0 + 5) = 5 := w64 (by omega) (by omega)
  have e7 := wi (show i ≤ 1048576 by omega)
  simp only [spec_ReadVar.l0, spec_ReadVar.j1, hβ, hv, hq, e1, e7]
  rw [if_pos (show (i : Int) < (b.size : Int) by omega), if_pos (show decide ((i : Int) < 5) = true from decide_eq_true (by omega)), if_pos (show (0 : Int) ≤ (i : Int) by omega)]
  simp only [show ((i : Int) < (b.size : Int)) = True from eq_true (by omega), if_true, show ((0 : Int) ≤ 0) = True from eq_true (by omega), show ((0 : Int) ≤ ((i + 1 : Nat) : Int)) = True from eq_true (by omega), show (((i + 1 : Nat) : Int) ≤ (b.size : Int)) = True from eq_true (by omega), Int.toNat_natCast, show (0 : Int).toNat = 0 from rfl]

theorem spec_stop {b : ByteArray} {x7 p : Int} {i K : Nat} (h : ¬ (i < b.size ∧ i < 5)) : spec_ReadVar.l0 (K + 2) b 0 x7 p i = some (0, 0, false) := by
  have e1 : wrap64 (0 + 5) = 5 := w64 (by omega) (by omega)
  simp only [spec_ReadVar.l0, spec_ReadVar.j1, e1]
  by_cases hi : (i : Int) < (b.size : Int)
  · rw [if_pos hi, if_neg (by rw [decide_eq_true_eq]; omega)]
  · rw [if_neg hi, if_neg (by decide)]

theorem impl_step {b : ByteArray} {x7 p v q β : Int} {i K : Nat} (hs : b.size ≤ 1048576) (hi : i < b.size) (h5 : i < 5) (hβ : bt b (i : Int) = β) (h0 : 0 ≤ β) (h1 : β ≤ 255)
    (hv : wrap64 (x7 + wrap64 (Int.tmod (wrap64 β) 128 * p)) = v) (hq : wrap64 (p * 128) = q) :
    impl_ReadVar.l0 (K + 2) b 0 x7 p i = if β < 128 then (if (β = 0 ∧ 0 < i) ∨ v > 1000000000 then some (0, 0, false) else some (v, ((i + 1 : Nat) : Int), true))
      else impl_ReadVar.l0 K b 0 v q ((i + 1 : Nat) : Int) := by
  have e7 := wi (show i ≤ 1048576 by omega)
  have e8 : wrap64 (0 + (i : Int)) = i := by rw [w64 (by omega) (by omega)]; omega
  have e2 : wrap64 β = β := w64 (by omega) (by omega)
  rw [e2] at hv
  simp only [impl_ReadVar.l0, impl_ReadVar.j2, e8, hβ, e2, hv, hq, e7]
  rw [if_pos (show (i : Int) < 5 by omega)]
  rw [if_pos (show decide ((i : Int) < (b.size : Int)) = true from decide_eq_true (by omega)), if_pos (show (0 : Int) ≤ (i : Int) by omega), if_pos (show (i : Int) < (b.size : Int) by omega)]
  by_cases hc : β < 128
  · rw [if_neg (by omega : ¬ β ≥ 128), if_pos hc]
    by_cases hz : β = 0
    · rw [if_pos hz]
      by_cases hi0 : 0 < i
      · rw [if_pos (show (i : Int) > 0 by omega), if_pos (Or.inl ⟨hz, hi0⟩)]
      · rw [if_neg (show ¬ (i : Int) > 0 by omega)]
        by_cases hg : v > 1000000000
        · rw [if_pos hg, if_pos (Or.inr hg)]
        · rw [if_neg hg, if_neg (fun h => h.elim (fun h => hi0 h.2) hg)]
    · rw [if_neg hz]
      by_cases hg : v > 1000000000
      · rw [if_pos hg, if_pos (Or.inr hg)]
      · rw [if_neg hg, if_neg (fun h => h.elim (fun h => hz h.1) hg)]
  · rw [if_pos (by omega : β ≥ 128), if_neg hc]

theorem impl_stop {b : ByteArray} {x7 p : Int} {i K : Nat} (hs : b.size ≤ 1048576) (h5 : i ≤ 5) (h : ¬ (i < b.size ∧ i < 5)) : impl_ReadVar.l0 (K + 2) b 0 x7 p i = some (0, 0, false) := by
  have e8 : wrap64 (0 + (i : Int)) = i := by rw [w64 (by omega) (by omega)]; omega
  simp only [impl_ReadVar.l0, impl_ReadVar.j2, e8]
  by_cases hi : (i : Int) < 5
  · rw [if_pos hi, if_neg (by rw [decide_eq_true_eq]; omega)]
  · rw [if_neg hi, if_neg (by decide)]

theorem sim (b : ByteArray) (hb : b.size ≤ 1048576) (n : Nat) : ∀ (i : Nat) (x7 : Int) (K : Nat), i + n = 5 → i ≤ b.size → 0 ≤ x7 → x7 < pw i →
    (∀ v' : Int, (i = 0 ∨ 0 < v') → 0 ≤ v' → digs 5 (x7 + v' * pw i) = bts b i ++ digs n v') → 2 * n + 12 ≤ K →
    ∃ r, spec_ReadVar.l0 K b 0 x7 (pw i) i = some r ∧ impl_ReadVar.l0 K b 0 x7 (pw i) i = some r ∧ (r.2.2 = true → 0 ≤ r.2.1 ∧ r.2.1 ≤ b.size) := by
  induction n with
  | zero =>
    intro i x7 K hi hs h0 h1 hP hK
    obtain ⟨K, rfl⟩ : ∃ j, K = j + 2 := ⟨K - 2, by omega⟩
    exact ⟨(0, 0, false), spec_stop (by omega), impl_stop hb (by omega) (by omega), by simp⟩
  | succ n ih =>
    intro i x7 K hi hs h0 h1 hP hK
    obtain ⟨K, rfl⟩ : ∃ j, K = j + 2 := ⟨K - 2, by omega⟩
    by_cases hsz : i < b.size
    · have hp := pw_le (show i ≤ 4 by omega)
      have hd2 : pw (i + 1) = pw i * 128 := rfl
      have hbt := bt_range b (i : Int)
      generalize hβ : bt b (i : Int) = β at hbt
      generalize hpp : pw i = p at *
      have hd0 : 0 ≤ β % 128 ∧ β % 128 ≤ 127 := by omega
      obtain ⟨m, hm, hm0, hm1⟩ : ∃ m, β % 128 * p = m ∧ 0 ≤ m ∧ m ≤ 127 * p := ⟨_, rfl, Int.mul_nonneg hd0.1 (by omega), Int.mul_le_mul_of_nonneg_right hd0.2 (by omega)⟩
      have e3 : Int.tmod β 128 = β % 128 := Int.tmod_eq_emod_of_nonneg hbt.1
      have e2 : wrap64 β = β := w64 (by omega) (by omega)
      have ev : wrap64 (x7 + wrap64 (Int.tmod (wrap64 β) 128 * p)) = x7 + m := by
        rw [e2, e3, hm, w64 (x := m) (by omega) (by omega), w64 (by omega) (by omega)]
      have eq : wrap64 (p * 128) = p * 128 := w64 (by omega) (by omega)
      rw [spec_step hb hsz (by omega) hβ ev eq, impl_step hb hsz (by omega) hβ hbt.1 (by omega) ev eq]
      by_cases hc : β < 128
      · rw [if_pos hc, if_pos hc]
        have hdβ : β % 128 = β := by omega
        rw [hdβ] at hm
        by_cases hv : x7 + m > 1000000000
        · rw [if_pos hv, if_pos (Or.inr hv)]
          exact ⟨(0, 0, false), rfl, rfl, by simp⟩
        · rw [if_neg hv]
          have henc : spec_l01Var.f K (x7 + m) = some (strOfNums (digs 5 (x7 + m))) := by
            unfold spec_l01Var.f
            rw [l01Var_l0 5 K _ [] (by omega) (by omega) (by simp; omega) (by omega) (by simp)]
            rfl
          rw [henc]
          simp only [Option.bind_some]
          by_cases hg : i = 0 ∨ 0 < β
          · have hd := hP β hg hbt.1
            have hd2 : digs (n + 1) β = [β] := by simp only [digs]; rw [if_pos (by omega)]
            rw [hd2, ← hβ, ← bts_succ, hβ, hm] at hd
            rw [hd, if_pos (strOf_bts b (i + 1) (by omega)), if_neg (by omega)]
            exact ⟨(x7 + m, ((i + 1 : Nat) : Int), true), rfl, rfl, fun _ => ⟨by dsimp only; omega, by dsimp only; omega⟩⟩
          · have hz : β = 0 := by omega
            have hne : ¬ ((strOfNums (digs 5 (x7 + m))).toList = (b.extract 0 (i + 1)).toList) := by
              intro h
              have h2 := congrArg ByteArray.size (texts_eq h)
              rw [strOf_size, ByteArray.size_extract] at h2
              obtain ⟨j, hj⟩ : ∃ j, i = j + 1 := ⟨i - 1, by omega⟩
              have hm3 : m = 0 := by rw [← hm, hz, Int.zero_mul]
              rw [hm3, Int.add_zero] at h2
              have := digs_len 5 j x7 h0 (by rw [← hj, ← pw_eq, hpp]; exact h1)
              omega
            rw [if_neg hne, if_pos (Or.inl ⟨hz, by omega⟩)]
            exact ⟨(0, 0, false), rfl, rfl, by simp⟩
      · rw [if_neg hc, if_neg hc, ← hd2]
        refine ih (i + 1) (x7 + m) K (by omega) (by omega) (by omega) (by omega) ?_ (by omega)
        intro v' hv' hv0
        have hv1 : 0 < v' := by omega
        have h3 := hP (β % 128 + 128 * v') (Or.inr (by omega)) (by omega)
        have h4 : digs (n + 1) (β % 128 + 128 * v') = β :: digs n v' := by
          simp only [digs]
          rw [if_neg (by omega)]
          have a1 : (β % 128 + 128 * v') % 128 + 128 = β := by omega
          have a2 : (β % 128 + 128 * v') / 128 = v' := by omega
          rw [a1, a2]
        rw [h4] at h3
        have h5 : x7 + m + v' * pw (i + 1) = x7 + (β % 128 + 128 * v') * p := by
          rw [hd2, Int.add_mul, hm, Int.mul_comm 128 v', Int.mul_assoc v' 128, Int.mul_comm p 128, Int.add_assoc]
        rw [h5, h3, bts_succ, hβ]
        simp
    · exact ⟨(0, 0, false), spec_stop (by omega), impl_stop hb (by omega) (by omega), by simp⟩

theorem sim0 (b : ByteArray) (hb : b.size ≤ 1048576) : ∃ r, spec_ReadVar.f 30 b 0 = some r ∧ impl_ReadVar.f 30 b 0 = some r ∧ (r.2.2 = true → 0 ≤ r.2.1 ∧ r.2.1 ≤ b.size) := by
  obtain ⟨r, h1, h2, h3⟩ := sim b hb 5 0 0 29 (by omega) (by omega) (by omega) (by decide) (fun v' _ h0 => by simp [pw, bts]) (by omega)
  refine ⟨r, ?_, ?_, h3⟩
  · unfold spec_ReadVar.f spec_l01In.f
    rw [if_pos (by omega)]
    simp only [Option.bind_some]
    rw [if_pos (decide_eq_true (by omega))]
    exact (spec_ReadVar.mono_l 29).1 _ _ _ _ _ _ h1
  · unfold impl_ReadVar.f
    rw [if_neg (by omega)]
    simp only [impl_ReadVar.j0]
    rw [if_neg (by rw [decide_eq_true_eq]; omega)]
    exact h2

theorem take_bad (b : ByteArray) (p : Int) : impl_scanner_take.f b p true 32 = some ((⟨#[]⟩ : ByteArray), b, p, true) := by
  unfold impl_scanner_take.f; rw [if_pos rfl]

theorem take_no {b : ByteArray} {p : Int} (hb : b.size ≤ 1048576) (h0 : 0 ≤ p) (h1 : p ≤ b.size) (h : (b.size : Int) < p + 32) :
    impl_scanner_take.f b p false 32 = some ((⟨#[]⟩ : ByteArray), b, p, true) := by
  unfold impl_scanner_take.f
  rw [if_neg (by decide), if_pos (by rw [w64 (by omega) (by omega)]; omega)]

theorem take_ok {b : ByteArray} {p : Int} (hb : b.size ≤ 1048576) (h0 : 0 ≤ p) (h : p + 32 ≤ b.size) :
    impl_scanner_take.f b p false 32 = some (b.extract p.toNat (p + 32).toNat, b, p + 32, false) := by
  have e1 : wrap64 (p + 32) = p + 32 := w64 (by omega) (by omega)
  have e2 : wrap64 (p + 32 - 32) = p := by rw [w64 (by omega) (by omega)]; omega
  have e3 : wrap64 ((b.size : Int) - p) = b.size - p := w64 (by omega) (by omega)
  unfold impl_scanner_take.f
  rw [e1, e2, e3, if_neg (by decide), if_neg (by omega), if_pos h0, if_pos (by omega), if_pos h]

theorem head_eq (s : Int) (a b c : ByteArray) : ∃ v, spec_HeadOk.f s a b c = some v ∧ impl_HeadOk.f s a b c = some v := by
  unfold spec_HeadOk.f impl_HeadOk.f spec_l01In.f impl_isSlot.f impl_isDigest.f
  by_cases h0 : s ≥ 0 <;> by_cases h1 : s ≤ 10000 <;> by_cases h2 : (a.size : Int) = 32 <;> by_cases h3 : (b.size : Int) = 32 <;> by_cases h4 : (c.size : Int) = 32 <;> simp [h0, h1, h2, h3, h4]

abbrev no : Int × ByteArray × ByteArray × ByteArray × Bool := (0, (⟨#[]⟩ : ByteArray), (⟨#[]⟩ : ByteArray), (⟨#[]⟩ : ByteArray), false)

theorem impl_of {b : ByteArray} {x y z : Int} {q0 q1 q2 : ByteArray} {g : Bool} (h : impl_scanner_head.f 30 b 0 false = some (x, q0, q1, q2, b, z, g)) (hz : g = true ∨ z ≠ b.size) : impl_ReadHead.f 30 b = some no := by
  unfold impl_ReadHead.f
  rw [h]
  simp only [Option.bind_some]
  unfold impl_scanner_done.f
  cases g with
  | true => simp only [if_true, Option.bind_some]; rfl
  | false =>
    rw [if_neg (by decide)]
    simp only [Option.bind_some]
    rw [if_neg (by have := hz.resolve_left (by decide); simpa using this)]

theorem both (b : ByteArray) (hb : b.size ≤ 1048576) : ∃ R, spec_ReadHead.f 30 b = some R ∧ impl_ReadHead.f 30 b = some R := by
  obtain ⟨⟨x, y, g⟩, h1, h2, h3⟩ := sim0 b hb
  cases g with
  | false =>
    refine ⟨no, ?_, ?_⟩
    · unfold spec_ReadHead.f
      rw [h1]
      simp only [Option.bind_some]
      rw [if_neg (by decide)]
      simp only [spec_ReadHead.j0]
      rw [if_pos trivial]
    · refine impl_of (y := 0) (x := 0) (z := 0) (g := true) (q0 := ⟨#[]⟩) (q1 := ⟨#[]⟩) (q2 := ⟨#[]⟩) ?_ (Or.inl rfl)
      unfold impl_scanner_head.f impl_scanner_number.f
      rw [h2]
      simp only [Option.bind_some]
      rw [if_neg (by decide), if_neg (by decide)]
      simp only [Option.bind_some, take_bad]
  | true =>
    obtain ⟨hy0, hy1⟩ := h3 rfl
    dsimp only at hy0 hy1
    have en : impl_scanner_number.f 30 b 0 false = some (x, b, y, false) := by
      unfold impl_scanner_number.f
      rw [h2]
      simp only [Option.bind_some]
      rw [if_neg (by decide), if_pos trivial]
    have w96 : wrap64 (y + 96) = y + 96 := w64 (by omega) (by omega)
    have w32 : wrap64 (y + 32) = y + 32 := w64 (by omega) (by omega)
    have w64' : wrap64 (y + 64) = y + 64 := w64 (by omega) (by omega)
    by_cases hs : (b.size : Int) = y + 96
    · obtain ⟨v, e1, e2⟩ := head_eq x (b.extract y.toNat (y + 32).toNat) (b.extract (y + 32).toNat (y + 64).toNat) (b.extract (y + 64).toNat b.size)
      have eh : impl_scanner_head.f 30 b 0 false = some (x, b.extract y.toNat (y + 32).toNat, b.extract (y + 32).toNat (y + 64).toNat, b.extract (y + 64).toNat b.size, b, y + 96, false) := by
        unfold impl_scanner_head.f
        rw [en]
        simp only [Option.bind_some]
        rw [take_ok hb hy0 (by omega)]
        simp only [Option.bind_some]
        rw [take_ok hb (by omega) (by omega)]
        simp only [Option.bind_some]
        rw [take_ok hb (by omega) (by omega)]
        simp only [Option.bind_some]
        rw [show y + 32 + 32 = y + 64 by omega, show y + 64 + 32 = y + 96 by omega, show (y + 96).toNat = b.size by omega]
      refine ⟨if v = true then (x, b.extract y.toNat (y + 32).toNat, b.extract (y + 32).toNat (y + 64).toNat, b.extract (y + 64).toNat b.size, true) else no, ?_, ?_⟩
      · unfold spec_ReadHead.f
        rw [h1]
        simp only [Option.bind_some, spec_ReadHead.j0, w96, w32, w64']
        rw [if_pos trivial, hs, if_neg (by simp), if_pos hy0, if_pos (by omega), if_pos (by omega), if_pos (by omega), if_pos (by omega), if_pos (by omega), if_pos (by omega), e1]
        simp only [Option.bind_some]
        cases v <;> rfl
      · unfold impl_ReadHead.f
        rw [eh]
        simp only [Option.bind_some]
        unfold impl_scanner_done.f
        rw [if_neg (by decide)]
        simp only [Option.bind_some]
        rw [if_pos (by simp [hs]), e2]
        simp only [Option.bind_some]
        cases v <;> rfl
    · refine ⟨no, ?_, ?_⟩
      · unfold spec_ReadHead.f
        rw [h1]
        simp only [Option.bind_some, spec_ReadHead.j0, w96]
        rw [if_pos trivial, if_pos (by simpa using hs)]
      · have eh : ∃ q0 q1 q2 z g, impl_scanner_head.f 30 b 0 false = some (x, q0, q1, q2, b, z, g) ∧ (g = true ∨ z ≠ b.size) := by
          unfold impl_scanner_head.f
          rw [en]
          simp only [Option.bind_some]
          by_cases c1 : y + 32 ≤ b.size
          · rw [take_ok hb hy0 c1]
            simp only [Option.bind_some]
            by_cases c2 : y + 32 + 32 ≤ b.size
            · rw [take_ok hb (by omega) c2]
              simp only [Option.bind_some]
              by_cases c3 : y + 32 + 32 + 32 ≤ b.size
              · rw [take_ok hb (by omega) c3]
                exact ⟨_, _, _, _, _, rfl, Or.inr (show y + 32 + 32 + 32 ≠ (b.size : Int) by omega)⟩
              · rw [take_no (p := y + 32 + 32) hb (by omega) (by omega) (by omega)]
                exact ⟨_, _, _, _, _, rfl, Or.inl rfl⟩
            · rw [take_no (p := y + 32) hb (by omega) (by omega) (by omega)]
              simp only [Option.bind_some, take_bad]
              exact ⟨_, _, _, _, _, rfl, Or.inl rfl⟩
          · rw [take_no hb hy0 hy1 (by omega)]
            simp only [Option.bind_some, take_bad]
            exact ⟨_, _, _, _, _, rfl, Or.inl rfl⟩
        obtain ⟨q0, q1, q2, z, g, e, hz⟩ := eh
        exact impl_of (y := 0) e hz

end Go.Proofs.YtmiiknkfhiecgaaDoor.Rh
end
section
/- What is proved here: a head comes back from its text, and what is read as a head has that text. No conditions but that a text is no longer than 2^20 bytes. -/
set_option linter.unusedVariables false
set_option linter.unusedSimpArgs false
namespace Go.Proofs.YtmiiknkfhiecgaaDoor.Tree
open Go Go.RowKit Go.Proofs.YtmiiknkfhiecgaaDoor.Pf Go.Proofs.YtmiiknkfhiecgaaDoorW.PrintWords Go.Proofs.YtmiiknkfhiecgaaDoor.Strs
def headText (s : Int) (a b c : BA) : BA := ((vt s ++ a) ++ b) ++ c
theorem headText_size {s : Int} {a b c : BA} (h : HOk s a b c) : (headText s a b c).size = (vt s).size + 96 := by
  obtain ⟨_, h2, h3, h4⟩ := h
  simp only [headText, ByteArray.size_append]
  omega
theorem impl_headText (k : Nat) (hk : 2 ≤ k) (s : Int) (a b c : BA) : impl_HeadText.f k s a b c = some (if HOk s a b c then (headText s a b c, true) else (⟨#[]⟩, false)) := by
  unfold impl_HeadText.f
  rw [impl_ok, Option.bind_some]
  by_cases h : HOk s a b c
  · have hv := vt_size h.1.1 h.1.2
    rw [if_pos h, decide_eq_true h, if_pos rfl, vt_impl h.1.1 h.1.2 hk, Option.bind_some]
    obtain ⟨_, h2, h3, h4⟩ := h
    rw [if_pos (by omega), if_pos (by rw [ByteArray.size_append]; omega), if_pos (by rw [ByteArray.size_append, ByteArray.size_append]; omega)]
    rfl
  · rw [if_neg h, decide_eq_false h, if_neg (by decide)]
theorem spec_headText (k : Nat) (hk : 2 ≤ k) (s : Int) (a b c : BA) : spec_HeadText.f k s a b c = some (if HOk s a b c then (headText s a b c, true) else (⟨#[]⟩, false)) := by
  unfold spec_HeadText.f
  rw [spec_ok, Option.bind_some]
  by_cases h : HOk s a b c
  · have hv := vt_size h.1.1 h.1.2
    rw [if_pos h, decide_eq_true h, if_pos rfl, vt_spec h.1.1 h.1.2 hk, Option.bind_some]
    obtain ⟨_, h2, h3, h4⟩ := h
    rw [if_pos (by omega), if_pos (by rw [ByteArray.size_append]; omega), if_pos (by rw [ByteArray.size_append, ByteArray.size_append]; omega)]
    rfl
  · rw [if_neg h, decide_eq_false h, if_neg (by decide)]
-- what ReadVar tells is read from that number's own text
theorem rv_back (b : BA) (K : Nat) : (∀ (x7 p i v n : Int), spec_ReadVar.l0 K b 0 x7 p i = some (v, n, true) → 0 ≤ n ∧ n ≤ (b.size : Int) ∧ ∃ k t, spec_l01Var.f k v = some t ∧ t.toList = (b.extract 0 n.toNat).toList) ∧
    (∀ (x7 p i : Int) (c : Bool) (v n : Int), spec_ReadVar.j1 K b 0 x7 p i c = some (v, n, true) → 0 ≤ n ∧ n ≤ (b.size : Int) ∧ ∃ k t, spec_l01Var.f k v = some t ∧ t.toList = (b.extract 0 n.toNat).toList) := by
  induction K with
  | zero => exact ⟨fun _ _ _ _ _ h => by simp [spec_ReadVar.l0] at h, fun _ _ _ _ _ _ h => by simp [spec_ReadVar.j1] at h⟩
  | succ K ih =>
    constructor
    · intro x7 p i v n h
      rw [spec_ReadVar.l0] at h
      split at h
      · exact ih.2 _ _ _ _ _ _ h
      · exact ih.2 _ _ _ _ _ _ h
    · intro x7 p i c v n h
      rw [spec_ReadVar.j1] at h
      split at h
      case isFalse => simp at h
      split at h
      case isFalse => cases h
      split at h
      case isFalse => cases h
      split at h
      case isFalse => exact ih.1 _ _ _ _ _ h
      split at h
      · simp at h
      obtain ⟨t, ht, h⟩ := Option.bind_eq_some_iff.mp h
      split at h
      case isFalse => cases h
      split at h
      case isFalse => cases h
      split at h
      case isFalse => cases h
      split at h
      case isFalse => simp at h
      rename_i h5 h6 h7 h8
      simp only [Option.some.injEq, Prod.mk.injEq, and_true] at h
      obtain ⟨rfl, rfl⟩ := h
      exact ⟨h6, h7, K, t, ht, h8⟩
theorem var_of {k : Nat} {v : Int} {t : BA} (h0 : 0 ≤ v) (h1 : v ≤ 10000) (h : spec_l01Var.f k v = some t) : t = vt v := by
  have e1 := at_rounds (g := fun k => spec_l01Var.f k v) (fun k => spec_l01Var.mono v k) (Nat.le_add_right k 2) h
  have e2 := vt_spec h0 h1 (Nat.le_add_left 2 k)
  exact Option.some.inj (e1.symm.trans e2)
theorem read_text {k : Nat} {u a b c : BA} {x : Int} (hu : u.size ≤ 1048576) (h : spec_ReadHead.f k u = some (x, a, b, c, true)) : HOk x a b c ∧ headText x a b c = u := by
  unfold spec_ReadHead.f at h
  obtain ⟨⟨v, n, g⟩, hv, h⟩ := Option.bind_eq_some_iff.mp h
  have no : ∀ k v n, spec_ReadHead.j0 k u v n true ≠ some (x, a, b, c, true) := by
    intro k v n e
    cases k with
    | zero => simp [spec_ReadHead.j0] at e
    | succ k => simp [spec_ReadHead.j0] at e
  cases g with
  | false => exact absurd h (no _ _ _)
  | true =>
    simp only [if_true] at h
    have hb : 0 ≤ n ∧ n ≤ (u.size : Int) ∧ ∃ k t, spec_l01Var.f k v = some t ∧ t.toList = (u.extract 0 n.toNat).toList := by
      unfold spec_ReadVar.f at hv
      rw [l01In_f, Option.bind_some, decide_eq_true (by omega), if_pos rfl] at hv
      exact (rv_back u k).1 _ _ _ _ _ hv
    obtain ⟨n0, n1, k2, t, ht, htl⟩ := hb
    by_cases hs : (u.size : Int) = n + 96
    case neg =>
      rw [Strs.wrap_in (by omega) (by omega), show ((u.size : Int) != n + 96) = true by simpa using hs] at h
      exact absurd h (no _ _ _)
    rw [Strs.wrap_in (by omega) (by omega), show ((u.size : Int) != n + 96) = false by simpa using hs] at h
    cases k with
    | zero => simp [spec_ReadHead.j0] at h
    | succ k =>
      simp only [spec_ReadHead.j0] at h
      rw [Strs.wrap_in (i := n + 32) (by omega) (by omega), Strs.wrap_in (i := n + 64) (by omega) (by omega), if_neg (by decide), if_pos n0, if_pos (by omega), if_pos (by omega), if_pos (by omega), if_pos (by omega), if_pos (by omega), if_pos (by omega), spec_ok, Option.bind_some] at h
      split at h
      case isFalse => simp at h
      rename_i hok
      have hok := of_decide_eq_true hok
      simp only [Option.some.injEq, Prod.mk.injEq, and_true] at h
      obtain ⟨rfl, rfl, rfl, rfl⟩ := h
      refine ⟨hok, ?_⟩
      have ev := var_of hok.1.1 hok.1.2 ht
      subst ev
      have e : vt v = u.extract 0 n.toNat := by
        rw [ByteArray.toList_eq, ByteArray.toList_eq] at htl
        generalize vt v = q at *
        generalize u.extract 0 n.toNat = r at *
        cases q; cases r
        congr 1
        exact Array.toList_inj.1 htl
      unfold headText
      rw [e, ← ByteArray.extract_eq_extract_append_extract _ (by omega) (by omega), ← ByteArray.extract_eq_extract_append_extract _ (by omega) (by omega), ← ByteArray.extract_eq_extract_append_extract _ (by omega) (by omega)]
      exact ByteArray.extract_zero_size
theorem bt_left {a b : BA} {i : Nat} (h : i < a.size) : bt (a ++ b) (i : Int) = bt a (i : Int) := by
  unfold bt
  rw [dif_pos (by rw [ByteArray.size_append]; omega), dif_pos (by omega)]
  congr 2
  exact ByteArray.getElem_append_left h
theorem bt_nums {xs : List Int} {i : Nat} (h : i < xs.length) (h0 : 0 ≤ xs[i]) (h1 : xs[i] ≤ 255) : bt (strOfNums xs) (i : Int) = xs[i] := by
  unfold bt
  rw [dif_pos (by rw [strOfNums_size]; omega)]
  have e : (strOfNums xs)[i]'(by rw [strOfNums_size]; exact h) = UInt8.ofNat (xs[i]).toNat := by
    simp [strOfNums, ByteArray.getElem_eq_getElem_data]
  have e2 : ((strOfNums xs)[((i : Nat) : Int).toNat]'(by rw [strOfNums_size]; exact h)) = UInt8.ofNat (xs[i]).toNat := e
  rw [e2]
  have h3 : (xs[i]).toNat < 256 := by omega
  simp [UInt8.toNat_ofNat, Nat.mod_eq_of_lt h3]
  omega
theorem vt_form {s : Int} (h0 : 0 ≤ s) (h1 : s ≤ 10000) : vt s = if s ≤ 127 then strOfNums [s] else strOfNums [s % 128 + 128, s / 128] := by
  refine (var_of (k := 2) h0 h1 ?_).symm
  unfold spec_l01Var.f
  by_cases h : s ≤ 127
  · simp only [spec_l01Var.l0]
    rw [if_neg (by omega), if_pos (by simp), if_pos h, Int.emod_eq_of_lt h0 (by omega)]
    rfl
  · have h2 : Int.tdiv s 128 = s / 128 := Int.tdiv_eq_ediv_of_nonneg h0
    have h3 : Int.tmod s 128 = s % 128 := Int.tmod_eq_emod_of_nonneg h0
    simp only [spec_l01Var.l0]
    rw [if_pos (by omega), if_pos (by simp), h2, h3, Strs.wrap_in (i := s / 128) (by omega) (by omega), if_neg (by omega), if_pos (by simp), if_neg h, Strs.wrap_in (by omega) (by omega), Int.emod_eq_of_lt (a := s % 128 + 128) (by omega) (by omega), Int.emod_eq_of_lt (a := s / 128) (by omega) (by omega)]
    rfl
theorem rv_text {s : Int} (h0 : 0 ≤ s) (h1 : s ≤ 10000) (r : BA) (hr : r.size ≤ 1000) : spec_ReadVar.f 30 (vt s ++ r) 0 = some (s, ((vt s).size : Int), true) := by
  have hz := vt_size h0 h1
  have hf := vt_form h0 h1
  have hl : spec_ReadVar.f 30 (vt s ++ r) 0 = spec_ReadVar.l0 30 (vt s ++ r) 0 0 1 ((0 : Nat) : Int) := by
    unfold spec_ReadVar.f
    rw [l01In_f, Option.bind_some, decide_eq_true (by omega), if_pos rfl]
    rfl
  have hall : (vt s ++ r).size ≤ 1048576 := by rw [ByteArray.size_append]; omega
  rw [hl]
  by_cases h : s ≤ 127
  · rw [if_pos h] at hf
    have hsz : (vt s).size = 1 := by rw [hf, strOfNums_size]; rfl
    have hb : bt (vt s ++ r) ((0 : Nat) : Int) = s := by rw [bt_left (by omega), hf]; exact bt_nums (xs := [s]) (i := 0) (by simp) h0 (by simp; omega)
    rw [Rh.spec_step (K := 28) (v := s) (q := 128) hall (by rw [ByteArray.size_append]; omega) (by decide) hb (by rw [Strs.wrap_in (i := s) (by omega) (by omega), Int.tmod_eq_emod_of_nonneg h0, Int.emod_eq_of_lt h0 (by omega), Int.mul_one, Strs.wrap_in (i := s) (by omega) (by omega), Int.zero_add, Strs.wrap_in (by omega) (by omega)]) (by unfold wrap64; omega), if_pos (by omega), if_neg (by omega), vt_spec h0 h1 (by decide), Option.bind_some,
      ByteArray.extract_append_eq_left (by omega), if_pos rfl, hsz]
  · rw [if_neg h] at hf
    have hsz : (vt s).size = 2 := by rw [hf, strOfNums_size]; rfl
    have hb : bt (vt s ++ r) ((0 : Nat) : Int) = s % 128 + 128 := by rw [bt_left (by omega), hf]; exact bt_nums (xs := [s % 128 + 128, s / 128]) (i := 0) (by simp) (by simp; omega) (by simp; omega)
    have hb1 : bt (vt s ++ r) ((1 : Nat) : Int) = s / 128 := by rw [bt_left (by omega), hf]; exact bt_nums (xs := [s % 128 + 128, s / 128]) (i := 1) (by simp) (by simp; omega) (by simp; omega)
    have m1 : Int.tmod (s % 128 + 128) 128 = s % 128 := by rw [Int.tmod_eq_emod_of_nonneg (by omega)]; omega
    have m2 : Int.tmod (s / 128) 128 = s / 128 := by rw [Int.tmod_eq_emod_of_nonneg (by omega)]; omega
    rw [Rh.spec_step (K := 28) (v := s % 128) (q := 128) hall (by rw [ByteArray.size_append]; omega) (by decide) hb (by rw [Strs.wrap_in (i := s % 128 + 128) (by omega) (by omega), m1, Int.mul_one, Strs.wrap_in (i := s % 128) (by omega) (by omega), Int.zero_add, Strs.wrap_in (by omega) (by omega)]) (by unfold wrap64; omega), if_neg (by omega)]
    rw [Rh.spec_step (K := 26) (v := s) (q := 16384) hall (by rw [ByteArray.size_append]; omega) (by decide) hb1 (by rw [Strs.wrap_in (i := s / 128) (by omega) (by omega), m2, Strs.wrap_in (i := s / 128 * 128) (by omega) (by omega), Strs.wrap_in (by omega) (by omega)]; omega) (by unfold wrap64; omega), if_pos (by omega), if_neg (by omega), vt_spec h0 h1 (by decide), Option.bind_some,
      ByteArray.extract_append_eq_left (by omega), if_pos rfl, hsz]
theorem read_back {s : Int} {a b c : BA} (h : HOk s a b c) : spec_ReadHead.f 30 (headText s a b c) = some (s, a, b, c, true) := by
  have hz := headText_size h
  obtain ⟨⟨h0, h1⟩, h2, h3, h4⟩ := h
  have hv := vt_size h0 h1
  have e0 : headText s a b c = vt s ++ (a ++ (b ++ c)) := by simp only [headText, ByteArray.append_assoc]
  have e1 : (headText s a b c).extract (vt s).size ((vt s).size + 32) = a := by
    rw [e0]
    have := ByteArray.extract_append_size_add (a := vt s) (b := a ++ (b ++ c)) (i := 0) (j := 32)
    rw [Nat.add_zero] at this
    rw [this, ByteArray.extract_append_eq_left (by omega)]
  have e2 : (headText s a b c).extract ((vt s).size + 32) ((vt s).size + 64) = b := by
    rw [e0, ByteArray.extract_append_size_add]
    have := ByteArray.extract_append_size_add (a := a) (b := b ++ c) (i := 0) (j := 32)
    rw [show a.size = 32 by omega] at this
    rw [show (32 : Nat) = 32 + 0 from rfl, show (64 : Nat) = 32 + 32 from rfl, this, ByteArray.extract_append_eq_left (by omega)]
  have e3 : (headText s a b c).extract ((vt s).size + 64) (headText s a b c).size = c := by
    unfold headText
    refine ByteArray.extract_append_eq_right ?_ ?_
    · simp only [ByteArray.size_append]; omega
    · simp only [ByteArray.size_append]
  unfold spec_ReadHead.f
  have hr : spec_ReadVar.f 30 (headText s a b c) 0 = some (s, ((vt s).size : Int), true) := by rw [e0]; exact rv_text h0 h1 _ (by simp only [ByteArray.size_append]; omega)
  rw [hr, Option.bind_some, if_pos rfl]
  simp only [spec_ReadHead.j0]
  rw [Strs.wrap_in (i := ((vt s).size : Int) + 96) (by omega) (by omega), Strs.wrap_in (i := ((vt s).size : Int) + 32) (by omega) (by omega), Strs.wrap_in (i := ((vt s).size : Int) + 64) (by omega) (by omega), show (((headText s a b c).size : Int) != ((vt s).size : Int) + 96) = false by simp; omega, if_neg (by decide), if_pos (by omega), if_pos (by omega), if_pos (by omega), if_pos (by omega), if_pos (by omega), if_pos (by omega), if_pos (by omega),
    Int.toNat_natCast, show (((vt s).size : Int) + 32).toNat = (vt s).size + 32 by omega, show (((vt s).size : Int) + 64).toNat = (vt s).size + 64 by omega, e1, e2, e3, spec_ok, Option.bind_some, decide_eq_true ⟨⟨h0, h1⟩, h2, h3, h4⟩, if_pos rfl]
end Go.Proofs.YtmiiknkfhiecgaaDoor.Tree
end
section
/- What is proved here: what BranchOf answers, by the program and by the reference. No conditions but that the leaves are no longer than 2^20 bytes. -/
set_option linter.unusedVariables false
set_option linter.unusedSimpArgs false
namespace Go.Proofs.YtmiiknkfhiecgaaDoor.Tree
open Go.RowKit Go.Proofs.YtmiiknkfhiecgaaDoor.Pf Go.Proofs.YtmiiknkfhiecgaaDoorW.PrintWords Go.Proofs.YtmiiknkfhiecgaaDoor.Strs
/-- The place beside i. -/
def bes (i : Nat) : Nat := if i % 2 = 0 then i + 1 else i - 1
theorem xor_dec : ∀ i : Nat, i < 32 → Go.bits .xor .i64 (i : Int) 1 = ((bes i : Nat) : Int) ∧ wrap64 (Int.tdiv (i : Int) 2) = ((i / 2 : Nat) : Int) := by decide +kernel
theorem bes_lt {i n : Nat} (h : i < 2 * n) : bes i < 2 * n := by unfold bes; split <;> omega
def sides : Nat → Nat → List BA → List BA
  | 0, _, _ => []
  | j + 1, i, x => rdOf ByteArray.empty x (bes i : Int) :: sides j (i / 2) (up1 x)
theorem sides_length (j : Nat) : ∀ i x, (sides j i x).length = j := by
  induction j with
  | zero => intro i x; rfl
  | succ j ih => intro i x; simp only [sides, List.length_cons, ih]
theorem sides_size (j : Nat) : ∀ (i : Nat) (x : List BA), x.length = 2 ^ j → i < 2 ^ j → (∀ y ∈ x, y.size = 32) → ∀ y ∈ sides j i x, y.size = 32 := by
  induction j with
  | zero => intro i x _ _ _ y hy; simp [sides] at hy
  | succ j ih =>
    intro i x hx hi hs y hy
    have hx2 : x.length = 2 * 2 ^ j := by rw [hx, Nat.pow_succ]; omega
    have hi2 : i < 2 * 2 ^ j := by rw [Nat.pow_succ] at hi; omega
    simp only [sides, List.mem_cons] at hy
    rcases hy with rfl | hy
    · rw [rdOf_get (by rw [hx2]; exact bes_lt hi2)]
      exact hs _ (List.getElem_mem _)
    · exact ih (i / 2) (up1 x) (up1_length _ _ hx2) (by omega) (up1_size _ _ hx2) y hy
theorem spec_branch_l0 (j : Nat) : ∀ (i : Nat) (acc x : List BA) (k : Nat), j ≤ 5 → x.length = 2 ^ j → i < 2 ^ j → (∀ y ∈ x, y.size = 32) → acc.length + j ≤ 1000 → 100 + j ≤ k → spec_BranchOf.l0 k (i : Int) acc x = some (acc ++ sides j i x) := by
  induction j with
  | zero =>
    intro i acc x k hj hx hi hs ha hk
    obtain ⟨k, rfl⟩ : ∃ m, k = m + 1 := ⟨k - 1, by omega⟩
    simp only [spec_BranchOf.l0]
    rw [if_neg (by rw [hx]; decide), sides, List.append_nil]
  | succ j ih =>
    intro i acc x k hj hx hi hs ha hk
    obtain ⟨k, rfl⟩ : ∃ m, k = m + 1 := ⟨k - 1, by omega⟩
    have hpj := pow_small (show j ≤ 5 by omega)
    have hp := pow_small hj
    have hx2 : x.length = 2 * 2 ^ j := by rw [hx, Nat.pow_succ]; omega
    have hi2 : i < 2 * 2 ^ j := by rw [Nat.pow_succ] at hi; omega
    obtain ⟨e1, e2⟩ := xor_dec i (by omega)
    have hb := bes_lt hi2
    simp only [spec_BranchOf.l0]
    rw [if_pos (by omega), e1, e2, if_pos (by omega), if_pos (by omega), if_pos (by omega), spec_up_f k x (2 ^ j) hx2 (by omega) hs (by omega), Option.bind_some,
      ih (i / 2) (acc ++ [rdOf ByteArray.empty x (bes i : Int)]) (up1 x) k (by omega) (up1_length _ _ hx2) (by omega) (up1_size _ _ hx2) (by simp; omega) (by omega), List.append_assoc, List.singleton_append]
    rfl
def branch (l : List BA) (i : Int) : List BA := if l.length ≤ 32 ∧ 0 ≤ i ∧ i < (l.length : Int) then sides (lg l.length) i.toNat (hashes l) else []
theorem lg_lt {n i : Nat} (h : n ≤ 32) (hi : i < n) : i < 2 ^ lg n := Nat.lt_of_lt_of_le hi (np_facts n (by omega)).1
theorem branch_length {l : List BA} {i : Int} (h : l.length ≤ 32 ∧ 0 ≤ i ∧ i < (l.length : Int)) : (branch l i).length = lg l.length := by
  unfold branch
  rw [if_pos h, sides_length]
theorem branch_le (l : List BA) (i : Int) : (branch l i).length ≤ 5 := by
  by_cases h : l.length ≤ 32 ∧ 0 ≤ i ∧ i < (l.length : Int)
  · rw [branch_length h]; exact (np_facts l.length (by omega)).2.1
  · unfold branch; rw [if_neg h]; decide
theorem branch_size (l : List BA) (i : Int) : ∀ y ∈ branch l i, y.size = 32 := by
  unfold branch
  split
  next h => exact sides_size _ _ _ (hashes_length h.1) (lg_lt h.1 (by omega)) (hashes_size l)
  next => intro y hy; simp at hy
theorem spec_branch (k : Nat) (hk : 400 ≤ k) (l : List BA) (i : Int) (hn : l.length ≤ 1048576) (hs : ∀ y ∈ l, y.size ≤ 1048576) : spec_BranchOf.f k l i = some (branch l i) := by
  obtain ⟨k, rfl⟩ : ∃ m, k = m + 1 := ⟨k - 1, by omega⟩
  have fj : spec_BranchOf.j0 (k + 1) l i [] true = some [] := by simp only [spec_BranchOf.j0, if_true]
  unfold spec_BranchOf.f branch
  rw [Option.bind_some]
  by_cases c : l.length ≤ 32
  case neg => rw [if_pos (by omega), fj, if_neg (by omega)]
  rw [if_neg (by omega), wrap_in (by omega) (by omega), l01In_f, Option.bind_some]
  by_cases c2 : 0 ≤ i ∧ i ≤ (l.length : Int) - 1
  case neg => rw [decide_eq_false c2, Bool.not_false, fj, if_neg (by omega)]
  rw [decide_eq_true c2, Bool.not_true, if_pos ⟨c, by omega, by omega⟩]
  simp only [spec_BranchOf.j0]
  rw [if_neg (by decide), spec_hashes k (by omega) l c hs, Option.bind_some]
  obtain ⟨n, rfl⟩ : ∃ n : Nat, i = (n : Int) := ⟨i.toNat, by omega⟩
  have h5 := (np_facts l.length (by omega)).2.1
  have h := spec_branch_l0 (lg l.length) n [] (hashes l) k h5 (hashes_length c) (lg_lt c (by omega)) (hashes_size l) (by simp; omega) (by omega)
  simpa using h
end Go.Proofs.YtmiiknkfhiecgaaDoor.Tree
end
section
/- What is proved here: the reference's reader of draws always answers, and its numbers lie where they should. No conditions but that the bytes are no longer than a Go slice can be. -/
set_option linter.unusedVariables false
set_option linter.unusedSimpArgs false
namespace Go.Proofs.YtmiiknkfhiecgaaDoor.Draw
open Go.RowKit Go.Proofs.YtmiiknkfhiecgaaDoor.Pf Go.Proofs.YtmiiknkfhiecgaaDoorW.PrintWords

theorem wrapd {i : Int} (h0 : -9223372036854775808 ≤ i) (h : i ≤ 9223372036854775807) : wrap64 i = i := by
  unfold wrap64; omega
theorem Ev.one {α : Type} {g : Nat → Option α} {r : α} (h : ∀ k, g (k + 1) = some r) : Ev g r :=
  ⟨1, fun k hk => by obtain ⟨k, rfl⟩ : ∃ m, k = m + 1 := ⟨k - 1, by omega⟩; exact h k⟩
theorem and_255 (x : Int) : 0 ≤ Go.bits .and .i64 x 255 ∧ Go.bits .and .i64 x 255 ≤ 255 := by
  have h : (BitVec.ofInt (IntKind.bits .i64) 255).toNat = 255 := by decide
  simp only [Go.bits, BitVec.toNat_and, h]
  generalize (BitVec.ofInt _ x).toNat = a
  have : a &&& 255 ≤ 255 := Nat.and_le_right
  rw [IntKind.wrap_i64]
  omega
/-- a reader's state: its place lies in the bytes -/
def Okc (b : List Int) (i : Int) : Prop := 0 ≤ i ∧ i ≤ 9223372036854775807 ∧ b.length ≤ 9223372036854775807
theorem byte_some (b : List Int) (i h : Int) (ho : Okc b i) : ∃ x i' h', spec_l01Byte.f b i h = some (x, i', h') ∧ 0 ≤ x ∧ x ≤ 255 ∧ Okc b i' := by
  obtain ⟨h0, h1, h2⟩ := ho
  unfold spec_l01Byte.f
  by_cases c : i < (b.length : Int)
  · rw [if_pos c, if_pos h0, wrapd (i := i + 1) (by omega) (by omega)]
    exact ⟨_, _, _, rfl, (and_255 _).1, (and_255 _).2, by omega, by omega, h2⟩
  · rw [if_neg c]
    exact ⟨_, _, _, rfl, (and_255 _).1, (and_255 _).2, h0, h1, h2⟩
theorem below_some (b : List Int) (i h n : Int) (ho : Okc b i) (hn : 0 < n) (hn2 : n ≤ 4294967296) : ∃ x i' h', spec_l01Below.f b i h n = some (x, i', h') ∧ 0 ≤ x ∧ x < n ∧ Okc b i' := by
  unfold spec_l01Below.f
  rw [if_neg (by omega)]
  by_cases c : n ≤ 256
  · obtain ⟨x, i1, h1, e1, x0, x1, o1⟩ := byte_some b i h ho
    rw [if_pos c, e1]
    simp only [Option.bind_some]
    rw [if_neg (by omega)]
    exact ⟨_, _, _, rfl, Int.tmod_nonneg _ x0, Int.tmod_lt_of_pos _ hn, o1⟩
  · obtain ⟨x, i1, h1, e1, x0, x1, o1⟩ := byte_some b i h ho
    obtain ⟨y, i2, h2, e2, y0, y1, o2⟩ := byte_some b i1 h1 o1
    obtain ⟨z, i3, h3, e3, z0, z1, o3⟩ := byte_some b i2 h2 o2
    obtain ⟨u, i4, h4, e4, u0, u1, o4⟩ := byte_some b i3 h3 o3
    rw [if_neg c]
    simp only [e1, e2, e3, e4, Option.bind_some]
    rw [if_neg (by omega), wrapd (i := x * 16777216) (by omega) (by omega), wrapd (i := y * 65536) (by omega) (by omega), wrapd (i := z * 256) (by omega) (by omega), wrapd (i := x * 16777216 + y * 65536) (by omega) (by omega), wrapd (i := x * 16777216 + y * 65536 + z * 256) (by omega) (by omega), wrapd (by omega) (by omega)]
    exact ⟨_, _, _, rfl, Int.tmod_nonneg _ (by omega), Int.tmod_lt_of_pos _ hn, o4⟩
theorem new_l0 (b : List Int) (hb : b.length ≤ 9223372036854775807) : ∀ (d i : Nat) (h : Int), i + d = b.length → ∃ h', Ev (fun k => spec_l01New.l0 k b h (i : Int)) (b, 0, h')
  | 0, i, h, hi => ⟨h, Ev.one fun k => by
      simp only [spec_l01New.l0]
      rw [if_neg (by omega)]⟩
  | d + 1, i, h, hi => by
    by_cases c : (i : Int) < 4000
    · obtain ⟨h', he⟩ := new_l0 b hb d (i + 1) (Go.bits .and .i64 (wrap64 ((wrap64 ((wrap64 (h * 131)) + (wrap64 (rd b (i : Int))))) + 7)) 1073741823) (by omega)
      refine ⟨h', Ev.step (fun k => ?_) he⟩
      simp only [spec_l01New.l0]
      rw [if_pos (by omega), if_pos c, if_pos (by omega), wrapd (i := (i : Int) + 1) (by omega) (by omega)]
      rfl
    · refine ⟨h, Ev.one fun k => ?_⟩
      simp only [spec_l01New.l0]
      rw [if_pos (by omega), if_neg c]
theorem new_ev (b : List Int) (hb : b.length ≤ 9223372036854775807) : ∃ h, Ev (fun k => spec_l01New.f k b) (b, 0, h) := by
  obtain ⟨h, he⟩ := new_l0 b hb b.length 0 (wrap64 (76801 + (b.length : Int))) (by omega)
  exact ⟨h, he⟩
theorem ok0 (b : List Int) (hb : b.length ≤ 9223372036854775807) : Okc b 0 := ⟨by omega, by omega, hb⟩
theorem pick_some (b : List Int) (i h : Int) (l : List Int) (ho : Okc b i) (hl : 0 < l.length) (hl2 : l.length ≤ 1000) : ∃ x i' h', spec_l01PickInt.f b i h l = some (x, i', h') ∧ x ∈ l ∧ Okc b i' := by
  obtain ⟨x, i1, h1, e1, x0, x1, o1⟩ := below_some b i h (l.length : Int) ho (by omega) (by omega)
  have hx : x.toNat < l.length := by omega
  refine ⟨rd l x, i1, h1, ?_, ?_, o1⟩
  · simp only [spec_l01PickInt.f, e1, Option.bind_some]
    rw [if_pos x0, if_pos x1]
  · unfold rd
    rw [List.getD_eq_getElem?_getD, List.getElem?_eq_getElem hx, Option.getD_some]
    exact List.getElem_mem hx
end Go.Proofs.YtmiiknkfhiecgaaDoor.Draw
end
section
/- What is proved here: drawn texts, places and leaves always answer, and none is long. No conditions but that the bytes are no longer than a Go slice can be. -/
set_option linter.unusedVariables false
set_option linter.unusedSimpArgs false
namespace Go.Proofs.YtmiiknkfhiecgaaDoor.Draw
open Go.RowKit Go.Proofs.YtmiiknkfhiecgaaDoor.Pf Go.Proofs.YtmiiknkfhiecgaaDoorW.PrintWords
theorem text_l0 (b : List Int) (n : Nat) (hn : n ≤ 5000) : ∀ (d j : Nat) (xs : List Int) (i h : Int), j + d = n → xs.length = j → Okc b i →
    ∃ t i' h', (∀ k, d < k → spec_l01Text.l0 k (n : Int) xs (j : Int) b i h = some (t, i', h')) ∧ t.size = n ∧ Okc b i'
  | 0, j, xs, i, h, hj, hl, ho => by
    refine ⟨strOfNums xs, i, h, fun k hk => ?_, by rw [strOfNums_size]; omega, ho⟩
    obtain ⟨k, rfl⟩ : ∃ m, k = m + 1 := ⟨k - 1, by omega⟩
    simp only [spec_l01Text.l0]
    rw [if_neg (by omega)]
  | d + 1, j, xs, i, h, hj, hl, ho => by
    obtain ⟨x, i1, h1, e1, _, _, o1⟩ := byte_some b i h ho
    obtain ⟨t, i2, h2, e2, s2, o2⟩ := text_l0 b n hn d (j + 1) (xs ++ [x % 256]) i1 h1 (by omega) (by simp [hl]) o1
    refine ⟨t, i2, h2, fun k hk => ?_, s2, o2⟩
    obtain ⟨k, rfl⟩ : ∃ m, k = m + 1 := ⟨k - 1, by omega⟩
    simp only [spec_l01Text.l0]
    rw [if_pos (by omega), e1, Option.bind_some, if_pos (by omega), wrapd (by omega) (by omega), show (j : Int) + 1 = ((j + 1 : Nat) : Int) by omega]
    exact e2 k (by omega)
theorem text_some (b : List Int) (i h n : Int) (h0 : 0 ≤ n) (hn : n ≤ 5000) (ho : Okc b i) :
    ∃ t i' h', (∀ k, 6000 ≤ k → spec_l01Text.f k b i h n = some (t, i', h')) ∧ (t.size : Int) = n ∧ Okc b i' := by
  obtain ⟨t, i1, h1, e1, s1, o1⟩ := text_l0 b n.toNat (by omega) n.toNat 0 [] i h (by omega) rfl ho
  refine ⟨t, i1, h1, fun k hk => ?_, by omega, o1⟩
  obtain ⟨k, rfl⟩ : ∃ m, k = m + 1 := ⟨k - 1, by omega⟩
  unfold spec_l01Text.f
  rw [if_neg (by omega)]
  simp only [spec_l01Text.j0]
  have h3 := e1 k (by omega)
  rw [show ((n.toNat : Nat) : Int) = n by omega] at h3
  exact h3
theorem spoilt_some (b : List Int) (i h : Int) (s : ByteArray) (hs : s.size ≤ 1000) (ho : Okc b i) :
    ∃ r i' h', (∀ k, 7000 ≤ k → spec_l02Spoilt.f k b i h s = some (r, i', h')) ∧ r.size ≤ 1001 ∧ Okc b i' := by
  obtain ⟨n, i1, h1, e1, n0, n1, o1⟩ := below_some b i h 12 ho (by decide) (by decide)
  by_cases c0 : n = 0
  · obtain ⟨t, i2, h2, e2, s2, o2⟩ := text_some b i1 h1 1 (by decide) (by decide) o1
    refine ⟨s ++ t, i2, h2, fun k hk => ?_, by rw [ByteArray.size_append]; omega, o2⟩
    unfold spec_l02Spoilt.f
    rw [e1, Option.bind_some, if_pos c0, e2 k (by omega), Option.bind_some, if_pos (show s.size + t.size ≤ 9223372036854775807 by omega)]
  by_cases c1 : n = 1
  · obtain ⟨m, i2, h2, e2, m0, m1, o2⟩ := below_some b i1 h1 ((s.size : Int) + 1) o1 (by omega) (by omega)
    refine ⟨s.extract 0 m.toNat, i2, h2, fun k hk => ?_, by rw [ByteArray.size_extract]; omega, o2⟩
    unfold spec_l02Spoilt.f
    rw [e1, Option.bind_some, if_neg c0, if_pos c1, wrapd (by omega) (by omega), e2, Option.bind_some, if_pos m0, if_pos (by omega)]
  have main : ∀ c : Bool, ∃ r i' h', (∀ k, 6999 ≤ k → spec_l02Spoilt.j0 k s c b i1 h1 = some (r, i', h')) ∧ r.size ≤ 1001 ∧ Okc b i' := by
    intro c
    by_cases hc : c = true
    · by_cases hz : (s.size : Int) > 0
      · obtain ⟨m, i2, h2, e2, m0, m1, o2⟩ := below_some b i1 h1 (s.size : Int) o1 (by omega) (by omega)
        obtain ⟨t, i3, h3, e3, s3, o3⟩ := text_some b i2 h2 1 (by decide) (by decide) o2
        refine ⟨(s.extract 0 m.toNat ++ t) ++ s.extract (m + 1).toNat s.size, i3, h3, fun k hk => ?_, ?_, o3⟩
        · obtain ⟨k, rfl⟩ : ∃ m, k = m + 1 := ⟨k - 1, by omega⟩
          rw [spec_l02Spoilt.j0, if_pos hc, if_pos hz, e2, Option.bind_some, if_pos m0, if_pos (by omega), e3 k (by omega), Option.bind_some, if_pos (show (s.extract 0 m.toNat).size + t.size ≤ 9223372036854775807 by rw [ByteArray.size_extract]; omega), wrapd (i := m + 1) (by omega) (by omega), if_pos (show (0 : Int) ≤ m + 1 by omega), if_pos (show m + 1 ≤ (s.size : Int) by omega), if_pos (show (s.extract 0 m.toNat ++ t).size + (s.extract (m + 1).toNat s.size).size ≤ 9223372036854775807 by rw [ByteArray.size_append, ByteArray.size_extract, ByteArray.size_extract]; omega)]
        · rw [ByteArray.size_append, ByteArray.size_append, ByteArray.size_extract, ByteArray.size_extract]; omega
      · refine ⟨s, i1, h1, fun k hk => ?_, by omega, o1⟩
        obtain ⟨k, rfl⟩ : ∃ m, k = m + 1 := ⟨k - 1, by omega⟩
        rw [spec_l02Spoilt.j0, if_pos hc, if_neg hz]
    · refine ⟨s, i1, h1, fun k hk => ?_, by omega, o1⟩
      obtain ⟨k, rfl⟩ : ∃ m, k = m + 1 := ⟨k - 1, by omega⟩
      rw [spec_l02Spoilt.j0, if_neg hc]
  by_cases c2 : n = 2
  · obtain ⟨r, i2, h2, e2, s2, o2⟩ := main (n == 2)
    refine ⟨r, i2, h2, fun k hk => ?_, s2, o2⟩
    unfold spec_l02Spoilt.f
    rw [e1, Option.bind_some, if_neg c0, if_neg c1, if_pos c2]
    exact e2 k (by omega)
  · obtain ⟨r, i2, h2, e2, s2, o2⟩ := main (n == 3)
    refine ⟨r, i2, h2, fun k hk => ?_, s2, o2⟩
    unfold spec_l02Spoilt.f
    rw [e1, Option.bind_some, if_neg c0, if_neg c1, if_neg c2]
    exact e2 k (by omega)
end Go.Proofs.YtmiiknkfhiecgaaDoor.Draw
end
section
/- What is proved here: drawn heads come back from their texts; their root is that of their four parts; what is drawn of the rest, the program answers as the reference. No conditions. -/
set_option linter.unusedVariables false
set_option linter.unusedSimpArgs false
namespace Go.Proofs.YtmiiknkfhiecgaaDoor.Pure
open Go Go.RowKit Go.Proofs.YtmiiknkfhiecgaaDoor.Pf Go.Proofs.YtmiiknkfhiecgaaDoorW.PrintWords Go.Proofs.YtmiiknkfhiecgaaDoor.Strs Go.Proofs.YtmiiknkfhiecgaaDoor.Tree Go.Proofs.YtmiiknkfhiecgaaDoor.Draw
theorem hash_some (b : List Int) (i h : Int) (ho : Okc b i) : ∃ t i' h', (∀ k, 6000 ≤ k → spec_l11Hash.f k b i h = some (t, i', h')) ∧ t.size = 32 ∧ Okc b i' := by
  obtain ⟨t, i1, h1, e1, s1, o1⟩ := text_some b i h 2 (by decide) (by decide) ho
  refine ⟨D t, i1, h1, fun k hk => ?_, D_size t, o1⟩
  unfold spec_l11Hash.f
  rw [e1 k hk, Option.bind_some, spec_D (show t.size ≤ 100000000 by omega), Option.bind_some]
theorem head_some (b : List Int) (i h : Int) (ho : Okc b i) : ∃ s x y z i' h', (∀ k, 6000 ≤ k → spec_l11Head.f k b i h = some (s, x, y, z, i', h')) ∧ HOk s x y z ∧ Okc b i' := by
  obtain ⟨n, i1, h1, e1, n0, n1, o1⟩ := below_some b i h 90 ho (by decide) (by decide)
  obtain ⟨x, i2, h2, e2, s2, o2⟩ := hash_some b i1 h1 o1
  obtain ⟨y, i3, h3, e3, s3, o3⟩ := hash_some b i2 h2 o2
  obtain ⟨z, i4, h4, e4, s4, o4⟩ := hash_some b i3 h3 o3
  refine ⟨n, x, y, z, i4, h4, fun k hk => ?_, ⟨⟨n0, by omega⟩, by omega, by omega, by omega⟩, o4⟩
  unfold spec_l11Head.f
  rw [e1, Option.bind_some, e2 k hk, Option.bind_some, e3 k hk, Option.bind_some, e4 k hk, Option.bind_some]
theorem any_head (b : List Int) (i h : Int) (ho : Okc b i) : ∃ s x y z i' h', (∀ k, 6000 ≤ k → spec_l11Any.f k b i h = some (s, x, y, z, i', h')) ∧ x.size ≤ 40 ∧ y.size ≤ 40 ∧ z.size ≤ 40 ∧ Okc b i' := by
  obtain ⟨n, i1, h1, e1, n0, n1, o1⟩ := below_some b i h 10 ho (by decide) (by decide)
  obtain ⟨m, i2, h2, e2, m0, m1, o2⟩ := below_some b i1 h1 60 o1 (by decide) (by decide)
  obtain ⟨s, x, y, z, i3, h3, e3, hok, o3⟩ := head_some b i2 h2 o2
  obtain ⟨_, x1, y1, z1⟩ := hok
  by_cases c0 : n = 0
  · have hm : 0 ≤ Int.tmod m 4 ∧ Int.tmod m 4 < 4 := by rw [Int.tmod_eq_emod_of_nonneg m0]; omega
    refine ⟨rd [(-1), 0, 10000, 10001] (Int.tmod m 4), x, y, z, i3, h3, fun k hk => ?_, by omega, by omega, by omega, o3⟩
    unfold spec_l11Any.f
    rw [e1, Option.bind_some, e2, Option.bind_some, e3 k hk, Option.bind_some, if_pos c0, Option.bind_some, if_pos hm.1, if_pos (show Int.tmod m 4 < ((([(-1), 0, 10000, 10001] : List Int).length : Nat) : Int) from hm.2)]
  by_cases c1 : n = 1
  · refine ⟨s, x.extract 1 x.size, y, z, i3, h3, fun k hk => ?_, by rw [ByteArray.size_extract]; omega, by omega, by omega, o3⟩
    unfold spec_l11Any.f
    rw [e1, Option.bind_some, e2, Option.bind_some, e3 k hk, Option.bind_some, if_neg c0, if_pos c1, if_pos (show 1 ≤ (x.size : Int) by omega)]
  by_cases c2 : n = 2
  · refine ⟨s, x, (⟨#[]⟩ : ByteArray), z, i3, h3, fun k hk => ?_, by omega, by decide, by omega, o3⟩
    unfold spec_l11Any.f
    rw [e1, Option.bind_some, e2, Option.bind_some, e3 k hk, Option.bind_some, if_neg c0, if_neg c1, if_pos c2]
  by_cases c3 : n = 3
  · refine ⟨s, x, y, z ++ (⟨#[120]⟩ : ByteArray), i3, h3, fun k hk => ?_, by omega, by omega, by rw [ByteArray.size_append]; show z.size + 1 ≤ 40; omega, o3⟩
    unfold spec_l11Any.f
    rw [e1, Option.bind_some, e2, Option.bind_some, e3 k hk, Option.bind_some, if_neg c0, if_neg c1, if_neg c2, if_pos c3, if_pos (show z.size + 1 ≤ 9223372036854775807 by omega)]
  · refine ⟨s, x, y, z, i3, h3, fun k hk => ?_, by omega, by omega, by omega, o3⟩
    unfold spec_l11Any.f
    rw [e1, Option.bind_some, e2, Option.bind_some, e3 k hk, Option.bind_some, if_neg c0, if_neg c1, if_neg c2, if_neg c3]
theorem headText_small (s : Int) (x y z : ByteArray) : (if HOk s x y z then (headText s x y z, true) else ((⟨#[]⟩ : ByteArray), false)).1.size ≤ 98 := by
  by_cases c : HOk s x y z
  · rw [if_pos c]
    have h1 := headText_size c
    have h2 := vt_size c.1.1 c.1.2
    show (headText s x y z).size ≤ 98
    omega
  · rw [if_neg c]
    decide
theorem drawread_ev (b : List Int) (hb : b.length ≤ 9223372036854775807) : ∃ u, Ev (fun k => spec_DrawReadHead.f k b) u ∧ u.size ≤ 1048576 := by
  obtain ⟨h, K, hK⟩ := new_ev b hb
  obtain ⟨n, i1, h1, e1, _, _, o1⟩ := below_some b 0 h 4 (ok0 b hb) (by decide) (by decide)
  obtain ⟨s, x, y, z, i2, h2, e2, _, _, _, o2⟩ := any_head b i1 h1 o1
  have hz := headText_small s x y z
  obtain ⟨T, hT⟩ : ∃ T, (if HOk s x y z then (headText s x y z, true) else ((⟨#[]⟩ : ByteArray), false)) = T := ⟨_, rfl⟩
  have ht : ∀ k, 2 ≤ k → spec_HeadText.f k s x y z = some T := fun k hk => by rw [spec_headText k hk, hT]
  rw [hT] at hz
  by_cases c0 : n = 0
  · refine ⟨T.1 ++ (⟨#[120]⟩ : ByteArray), ⟨K + 7000, fun k hk => ?_⟩, by rw [ByteArray.size_append]; show T.1.size + 1 ≤ 1048576; omega⟩
    have g := hK k (by omega)
    dsimp only at g ⊢
    unfold spec_DrawReadHead.f
    rw [g, Option.bind_some, e1, Option.bind_some, e2 k (by omega), Option.bind_some, ht k (by omega), Option.bind_some, if_pos c0, if_pos (by omega)]
  by_cases c1 : n = 1
  · by_cases c2 : (T.1.size : Int) > 0
    · obtain ⟨r, i3, h3, e3, s3, _⟩ := spoilt_some b i2 h2 T.1 (by omega) o2
      refine ⟨r, ⟨K + 7000, fun k hk => ?_⟩, by omega⟩
      have g := hK k (by omega)
      dsimp only at g ⊢
      unfold spec_DrawReadHead.f
      rw [g, Option.bind_some, e1, Option.bind_some, e2 k (by omega), Option.bind_some, ht k (by omega), Option.bind_some, if_neg c0, if_pos c1, if_pos c2, e3 k (by omega), Option.bind_some]
    · refine ⟨T.1, ⟨K + 7000, fun k hk => ?_⟩, by omega⟩
      have g := hK k (by omega)
      dsimp only at g ⊢
      unfold spec_DrawReadHead.f
      rw [g, Option.bind_some, e1, Option.bind_some, e2 k (by omega), Option.bind_some, ht k (by omega), Option.bind_some, if_neg c0, if_pos c1, if_neg c2]
  · refine ⟨T.1, ⟨K + 7000, fun k hk => ?_⟩, by omega⟩
    have g := hK k (by omega)
    dsimp only at g ⊢
    unfold spec_DrawReadHead.f
    rw [g, Option.bind_some, e1, Option.bind_some, e2 k (by omega), Option.bind_some, ht k (by omega), Option.bind_some, if_neg c0, if_neg c1]
theorem read_both (u : ByteArray) (hu : u.size ≤ 1048576) (k : Nat) (hk : 30 ≤ k) : ∃ R, spec_ReadHead.f k u = some R ∧ impl_ReadHead.f k u = some R := by
  obtain ⟨R, e1, e2⟩ := Rh.both u hu
  exact ⟨R, at_rounds (g := fun k => spec_ReadHead.f k u) (fun k => spec_ReadHead.mono u k) hk e1, at_rounds (g := fun k => impl_ReadHead.f k u) (fun k => impl_ReadHead.mono u k) hk e2⟩
theorem FnHeads : laws_FnHeads.Pure := by
  intro b hb
  by_cases hbig : (b.length : Int) > 1048576
  · exact ⟨0, by simp only [laws_FnHeads.f, laws_big.f, Option.bind_some]; rw [if_pos (decide_eq_true hbig)]⟩
  obtain ⟨h, K, hK⟩ := new_ev b (by omega)
  obtain ⟨s, x, y, z, i1, h1, e1, x1, y1, z1, o1⟩ := any_head b 0 h (ok0 b (by omega))
  obtain ⟨u, ⟨K2, d2⟩, hu⟩ := drawread_ev b (by omega)
  obtain ⟨s3, x3, y3, z3, i3, h3, e3, hok3, o3⟩ := head_some b 0 h (ok0 b (by omega))
  obtain ⟨d, i4, h4, e4, _, o4⟩ := pick_some b 0 h [0, 7, 255, 256, (-1)] (ok0 b (by omega)) (by simp) (by simp)
  obtain ⟨s5, x5, y5, z5, i5, h5, e5, _, _, _, o5⟩ := any_head b i4 h4 o4
  dsimp only at hK d2
  obtain ⟨k, hk⟩ : ∃ k, k = K + K2 + 10000 := ⟨_, rfl⟩
  refine ⟨k, ?_⟩
  have f1 : spec_DrawHeadText.f k b = some (s, x, y, z) := by unfold spec_DrawHeadText.f; rw [hK k (by omega), Option.bind_some, e1 k (by omega), Option.bind_some]
  have f2 : spec_DrawHead.f k b = some (s3, x3, y3, z3) := by unfold spec_DrawHead.f; rw [hK k (by omega), Option.bind_some, e3 k (by omega), Option.bind_some]
  have f3 : spec_DrawSigText.f k b = some (s5, x5, y5, z5, d) := by unfold spec_DrawSigText.f; rw [hK k (by omega), Option.bind_some, e4, Option.bind_some, e5 k (by omega), Option.bind_some]
  have hsmall := headText_small s x y z
  have hbr : spec_BranchOf.f k [(⟨#[]⟩ : ByteArray), x3, y3, z3] 2 = some (branch [(⟨#[]⟩ : ByteArray), x3, y3, z3] 2) := spec_branch k (by omega) _ 2 (by simp) (fun w hw => by
    obtain ⟨_, q1, q2, q3⟩ := hok3
    simp only [List.mem_cons, List.not_mem_nil, or_false] at hw
    rcases hw with rfl | rfl | rfl | rfl
    · decide
    · omega
    · omega
    · omega)
  have hbl : (branch [(⟨#[]⟩ : ByteArray), x3, y3, z3] 2).length = 2 := by rw [branch_length ⟨by simp, by decide, by simp⟩]; rfl
  obtain ⟨T, hT⟩ : ∃ T, (if HOk s x y z then (headText s x y z, true) else ((⟨#[]⟩ : ByteArray), false)) = T := ⟨_, rfl⟩
  have ht : impl_HeadText.f k s x y z = some T := by rw [impl_headText k (by omega), hT]
  rw [hT] at hsmall
  obtain ⟨R, r1, r2⟩ := read_both T.1 (by omega) k (by omega)
  obtain ⟨Q, q1, q2⟩ := read_both u hu k (by omega)
  have hback : T.2 = true → R.2.2.2.2 = true ∧ (R.1 == s && (R.2.1.toList == x.toList && (R.2.2.1.toList == y.toList && (R.2.2.2.1.toList == z.toList)))) = true := by
    intro hT2
    by_cases c : HOk s x y z
    · rw [if_pos c] at hT
      have e := at_rounds (g := fun k => spec_ReadHead.f k (headText s x y z)) (fun k => spec_ReadHead.mono (headText s x y z) k) (show 30 ≤ k by omega) (read_back c)
      rw [← hT] at r1
      have e2 : R = (s, x, y, z, true) := Option.some.inj (r1.symm.trans e)
      rw [e2]
      simp
    · rw [if_neg c] at hT
      rw [← hT] at hT2
      cases hT2
  have hT2 : T.2 = decide (HOk s x y z) := by
    rw [← hT]
    by_cases c : HOk s x y z
    · rw [if_pos c, decide_eq_true c]
    · rw [if_neg c, decide_eq_false c]
  have hagain : ∃ G, impl_HeadText.f k Q.1 Q.2.1 Q.2.2.1 Q.2.2.2.1 = some G ∧ (Q.2.2.2.2 = true → G.1.toList = u.toList) := by
    refine ⟨_, impl_headText k (by omega) _ _ _ _, fun hq => ?_⟩
    have e : spec_ReadHead.f k u = some (Q.1, Q.2.1, Q.2.2.1, Q.2.2.2.1, true) := by rw [q1, ← hq]
    obtain ⟨c, hc⟩ := read_text hu e
    rw [if_pos c, hc]
  obtain ⟨G, g1, g2⟩ := hagain
  have tail : (if ((branch [(⟨#[]⟩ : ByteArray), x3, y3, z3] 2).length : Int) = 2 then (if ((headRoot s3 x3 y3 z3).size : Int) = 32 then ((spec_HeadRoot.f k s3 x3 y3 z3).bind fun t768 => (if (headRoot s3 x3 y3 z3).toList = t768.toList then ((impl_SigText.f k s5 x5 y5 z5 d).bind fun t769 => ((spec_SigText.f k s5 x5 y5 z5 d).bind fun t770 => (if t769.toList = t770.toList then ((impl_SigText.f k s3 x3 y3 z3 7).bind fun t771 => (some ((t771.size : Int) == 33))) else (some false)))) else (some false))) else (some false)) else (some false)) = some true := by
    rw [hbl, if_pos (by decide), headRoot_size hok3, if_pos (by decide), spec_headRoot k (by omega), Option.bind_some, if_pos rfl, impl_sigText k (by omega), Option.bind_some, spec_sigText k (by omega), Option.bind_some, if_pos rfl, impl_sigText k (by omega), Option.bind_some, sigText_size hok3 (by decide) (by decide)]
    rfl
  unfold laws_FnHeads.f
  simp only [laws_big.f, Option.bind_some]
  rw [decide_eq_false hbig, if_neg (by decide), f1, Option.bind_some, ht, Option.bind_some, r2, Option.bind_some, d2 k (by omega), Option.bind_some, q2, Option.bind_some, q1, Option.bind_some, g1, Option.bind_some, f2, Option.bind_some, impl_headRoot k (by omega), Option.bind_some, hbr, Option.bind_some, f3, Option.bind_some, spec_ok, Option.bind_some, hT2, if_pos (beq_self_eq_true _), impl_ok, Option.bind_some, if_pos (beq_self_eq_true _)]
  rw [hT2] at hback
  by_cases c : decide (HOk s x y z) = true
  · obtain ⟨b1, b2⟩ := hback c
    rw [if_pos c, if_pos b1, if_pos b2, if_pos (beq_self_eq_true _)]
    by_cases c2 : Q.2.2.2.2 = true
    · rw [if_pos c2, if_pos (g2 c2)]
      exact tail
    · rw [if_neg c2]
      exact tail
  · rw [if_neg c, if_pos (beq_self_eq_true _)]
    by_cases c2 : Q.2.2.2.2 = true
    · rw [if_pos c2, if_pos (g2 c2)]
      exact tail
    · rw [if_neg c2]
      exact tail
end Go.Proofs.YtmiiknkfhiecgaaDoor.Pure
end
section
/- What is proved here: a value of a Go type that reads as data opens into the print's own kinds (Kd), for whole numbers, bools, strings, slices and structs. No conditions. -/
set_option linter.unusedVariables false
set_option linter.unusedSimpArgs false
namespace Go.Proofs.YtmiiknkfhiecgaaDoor.Open
open Go.RowKit Go.Proofs.YtmiiknkfhiecgaaDoorW.PrintWords Go.ChangeShapes Go.WideShapes

def Opens (P : Program) (t : TypeId) {α : Type} (d : Kd α) (g : α → Prop) : Prop :=
  ∀ {H : Type} (enc : TypeId × Value → H) (w : World) (base : Nat) (spare : Nat → Bool) (held : Bool) (fuel : Nat) (cs : List Value) (x : DataW H × List MemPlace),
    DataW.trod enc P w base spare held fuel t cs = some x → ∃ a, d.K w a cs ∧ g a

theorem list_of {α : Type} {p : Nat → α → Prop} : ∀ n, (∀ i, i < n → ∃ y, p i y) → ∃ ys : List α, ys.length = n ∧ ∀ i y, ys[i]? = some y → p i y
  | 0, _ => ⟨[], rfl, fun i y h => by simp at h⟩
  | n + 1, h => by
    obtain ⟨ys, hl, hy⟩ := list_of n (fun i hi => h i (by omega))
    obtain ⟨y, hy'⟩ := h n (by omega)
    refine ⟨ys ++ [y], by simp [hl], fun i z hz => ?_⟩
    rcases Nat.lt_or_ge i n with hi | hi
    · rw [List.getElem?_append_left (by omega)] at hz
      exact hy i z hz
    · have h1 := (List.getElem?_eq_some_iff.1 hz).1
      rw [List.length_append, List.length_singleton] at h1
      have h2 : i = n := by omega
      subst h2
      rw [List.getElem?_append_right (by omega), hl, Nat.sub_self] at hz
      simp at hz
      subst hz
      exact hy'

section
variable {P : Program} {t : TypeId}
theorem opens_int {k : IntKind} (h : P.underlying t = some (.int k)) : Opens P t (Kd.int k) (fun n => (Lit.int k n).wf = true) := by
  intro H enc w base spare held fuel cs x hx
  obtain ⟨n, rfl, _, hw⟩ := DataW.trod_int h hx
  exact ⟨n, rfl, hw⟩
theorem opens_bool (h : P.underlying t = some .bool) : Opens P t Kd.bool (fun _ => True) := by
  intro H enc w base spare held fuel cs x hx
  obtain ⟨b, hb⟩ : ∃ b, cs = [.bool b] := by
    cases fuel with
    | zero => simp [DataW.trod] at hx
    | succ n =>
      unfold DataW.trod at hx
      rw [h] at hx
      split at hx <;> simp_all
  exact ⟨b, hb, trivial⟩
theorem opens_string (h : P.underlying t = some .string) : Opens P t Kd.string (fun s => s.size ≤ maxLen) := by
  intro H enc w base spare held fuel cs x hx
  obtain ⟨n, rfl, _, hw⟩ := DataW.trod_string h hx
  exact ⟨n, rfl, hw⟩
theorem opens_slice {e : TypeId} {α : Type} {d : Kd α} {g : α → Prop} (ht : P.underlying t = some (.slice e)) (hc : P.cellsOf e = d.sz) (he : Opens P e d g) :
    Opens P t (Kd.slice e d) (fun xs => xs.length ≤ 9223372036854775807 ∧ ∀ x ∈ xs, g x) := by
  intro H enc w base spare held fuel cs x h
  rcases Go.Deep.open_slice ht h with ⟨rfl, _⟩ | ⟨a, len, cap, m, n, D, Pl, rfl, hb, hl, hm, hmm, _, hx⟩
  · exact ⟨[], ⟨none, 0, rfl, Nat.le_refl _, Kd.C_nil d w⟩, by simp, fun x hx => by cases hx⟩
  · have hlm : len ≤ m := by rw [hmm]; split <;> omega
    obtain ⟨ys, hy1, hy2⟩ := list_of (p := fun i y => ∃ c, w.cells? base (a.add (i * P.cellsOf e)) (P.cellsOf e) = some c ∧ d.K w y c ∧ g y) len (fun i hi => by
      obtain ⟨c, h1, h2⟩ := hx i (by omega)
      obtain ⟨y, h3, h4⟩ := he _ _ _ _ _ _ _ _ h2
      exact ⟨y, c, h1, h3, h4⟩)
    unfold maxLen at hm
    refine ⟨ys, ⟨some a, cap, by rw [hy1], by omega, rfl, by omega, fun _ => ⟨a, rfl, fun j p hp => ?_⟩⟩, by omega, fun y hy => ?_⟩
    · obtain ⟨c, h1, h2, h3⟩ := hy2 j p hp
      obtain ⟨_, hlen, hcell⟩ := World.cells?_some h1
      refine ⟨c, by rw [hlen, hc], h2, fun i u hu => ?_⟩
      have hi := (List.getElem?_eq_some_iff.1 hu).1
      have := hcell i (by omega)
      rw [Go.Deep.add_add, hc] at this
      rw [this, hu]
    · obtain ⟨i, hi⟩ := List.mem_iff_getElem?.1 hy
      obtain ⟨c, h1, h2, h3⟩ := hy2 i y hi
      exact h3
theorem opens_iso {α β : Type} {d : Kd α} {g : α → Prop} (f : β → α) (mk : α → β) (hf : ∀ a, f (mk a) = a) (h : Opens P t d g) : Opens P t (Kd.iso d f) (fun x => g (f x)) := by
  intro H enc w base spare held fuel cs x hx
  obtain ⟨a, h1, h2⟩ := h enc w base spare held fuel cs x hx
  exact ⟨mk a, by show d.K w (f (mk a)) cs; rw [hf]; exact h1, by show g (f (mk a)); rw [hf]; exact h2⟩
theorem struct_field {fs : Array Field} {H : Type} {enc : TypeId × Value → H} {w : World} {base : Nat} {spare : Nat → Bool} {held : Bool} {n : Nat} {cs : List Value} {xs : List (DataW H × List MemPlace)} (hl : xs.length = fs.size)
    (hf : ∀ (i : Nat) (f : Field), fs[i]? = some f → DataW.trod enc P w base spare held n f.type ((cs.drop f.offset).take (P.cellsOf f.type)) = xs[i]?) {i : Nat} {f : Field} (hi : fs[i]? = some f) {α : Type} {d : Kd α} {g : α → Prop} (ho : Opens P f.type d g) :
    ∃ a, d.K w a ((cs.drop f.offset).take (P.cellsOf f.type)) ∧ g a := by
  have h1 := hf i f hi
  have h2 : i < xs.length := by rw [hl]; exact (Array.getElem?_eq_some_iff.1 hi).1
  rw [List.getElem?_eq_getElem h2] at h1
  exact ho _ _ _ _ _ _ _ _ h1
theorem opens_struct1 {f0 : Field} {α : Type} {d0 : Kd α} {g0 : α → Prop} (ht : P.underlying t = some (.struct #[f0])) (h0 : Opens P f0.type d0 g0)
    (s0 : P.cellsOf f0.type = d0.sz) (o0 : f0.offset = 0) (st : P.cellsOf t = d0.sz) : Opens P t d0 g0 := by
  intro H enc w base spare held fuel cs x hx
  obtain ⟨xs, n, _, _, hlen, hl, hf⟩ := DataW.trod_struct ht hx
  obtain ⟨a, ha, hg⟩ := struct_field hl hf (i := 0) (f := f0) rfl h0
  rw [o0, s0, List.drop_zero, List.take_of_length_le (by omega)] at ha
  exact ⟨a, ha, hg⟩
theorem opens_struct2 {f0 f1 : Field} {α β : Type} {d0 : Kd α} {d1 : Kd β} {g0 : α → Prop} {g1 : β → Prop} (ht : P.underlying t = some (.struct #[f0, f1])) (h0 : Opens P f0.type d0 g0) (h1 : Opens P f1.type d1 g1)
    (s0 : P.cellsOf f0.type = d0.sz) (s1 : P.cellsOf f1.type = d1.sz) (o0 : f0.offset = 0) (o1 : f1.offset = d0.sz) (st : P.cellsOf t = d0.sz + d1.sz) : Opens P t (Kd.pair d0 d1) (fun x => g0 x.1 ∧ g1 x.2) := by
  intro H enc w base spare held fuel cs x hx
  obtain ⟨xs, n, _, _, hlen, hl, hf⟩ := DataW.trod_struct ht hx
  obtain ⟨a, ha, ga⟩ := struct_field hl hf (i := 0) (f := f0) rfl h0
  obtain ⟨b, hb, gb⟩ := struct_field hl hf (i := 1) (f := f1) rfl h1
  rw [o0, s0, List.drop_zero] at ha
  rw [o1, s1, List.take_of_length_le (by rw [List.length_drop]; omega)] at hb
  exact ⟨(a, b), ⟨_, _, (List.take_append_drop d0.sz cs).symm, ha, hb⟩, ga, gb⟩
theorem opens_struct3 {f0 f1 f2 : Field} {α β γ : Type} {d0 : Kd α} {d1 : Kd β} {d2 : Kd γ} {g0 : α → Prop} {g1 : β → Prop} {g2 : γ → Prop} (ht : P.underlying t = some (.struct #[f0, f1, f2])) (h0 : Opens P f0.type d0 g0) (h1 : Opens P f1.type d1 g1) (h2 : Opens P f2.type d2 g2)
    (s0 : P.cellsOf f0.type = d0.sz) (s1 : P.cellsOf f1.type = d1.sz) (s2 : P.cellsOf f2.type = d2.sz) (o0 : f0.offset = 0) (o1 : f1.offset = d0.sz) (o2 : f2.offset = d0.sz + d1.sz) (st : P.cellsOf t = d0.sz + d1.sz + d2.sz) :
    Opens P t (Kd.pair d0 (Kd.pair d1 d2)) (fun x => g0 x.1 ∧ g1 x.2.1 ∧ g2 x.2.2) := by
  intro H enc w base spare held fuel cs x hx
  obtain ⟨xs, n, _, _, hlen, hl, hf⟩ := DataW.trod_struct ht hx
  obtain ⟨a, ha, ga⟩ := struct_field hl hf (i := 0) (f := f0) rfl h0
  obtain ⟨b, hb, gb⟩ := struct_field hl hf (i := 1) (f := f1) rfl h1
  obtain ⟨c, hc, gc⟩ := struct_field hl hf (i := 2) (f := f2) rfl h2
  rw [o0, s0, List.drop_zero] at ha
  rw [o1, s1] at hb
  rw [o2, s2, List.take_of_length_le (by rw [List.length_drop]; omega)] at hc
  refine ⟨(a, b, c), ⟨_, _, (List.take_append_drop d0.sz cs).symm, ha, _, _, (List.take_append_drop d1.sz _).symm, hb, ?_⟩, ga, gb, gc⟩
  rw [List.drop_drop]
  exact hc
theorem opens_struct4 {f0 f1 f2 f3 : Field} {α β γ δ : Type} {d0 : Kd α} {d1 : Kd β} {d2 : Kd γ} {d3 : Kd δ} {g0 : α → Prop} {g1 : β → Prop} {g2 : γ → Prop} {g3 : δ → Prop} (ht : P.underlying t = some (.struct #[f0, f1, f2, f3]))
    (h0 : Opens P f0.type d0 g0) (h1 : Opens P f1.type d1 g1) (h2 : Opens P f2.type d2 g2) (h3 : Opens P f3.type d3 g3)
    (s0 : P.cellsOf f0.type = d0.sz) (s1 : P.cellsOf f1.type = d1.sz) (s2 : P.cellsOf f2.type = d2.sz) (s3 : P.cellsOf f3.type = d3.sz) (o0 : f0.offset = 0) (o1 : f1.offset = d0.sz) (o2 : f2.offset = d0.sz + d1.sz) (o3 : f3.offset = d0.sz + d1.sz + d2.sz)
    (st : P.cellsOf t = d0.sz + d1.sz + d2.sz + d3.sz) :
    Opens P t (Kd.pair d0 (Kd.pair d1 (Kd.pair d2 d3))) (fun x => g0 x.1 ∧ g1 x.2.1 ∧ g2 x.2.2.1 ∧ g3 x.2.2.2) := by
  intro H enc w base spare held fuel cs x hx
  obtain ⟨xs, n, _, _, hlen, hl, hf⟩ := DataW.trod_struct ht hx
  obtain ⟨a, ha, ga⟩ := struct_field hl hf (i := 0) (f := f0) rfl h0
  obtain ⟨b, hb, gb⟩ := struct_field hl hf (i := 1) (f := f1) rfl h1
  obtain ⟨c, hc, gc⟩ := struct_field hl hf (i := 2) (f := f2) rfl h2
  obtain ⟨d, hd, gd⟩ := struct_field hl hf (i := 3) (f := f3) rfl h3
  rw [o0, s0, List.drop_zero] at ha
  rw [o1, s1] at hb
  rw [o2, s2] at hc
  rw [o3, s3, List.take_of_length_le (by rw [List.length_drop]; omega)] at hd
  refine ⟨(a, b, c, d), ⟨_, _, (List.take_append_drop d0.sz cs).symm, ha, _, _, (List.take_append_drop d1.sz _).symm, hb, _, _, (List.take_append_drop d2.sz _).symm, ?_, ?_⟩, ga, gb, gc, gd⟩
  · rw [List.drop_drop]
    exact hc
  · rw [List.drop_drop, List.drop_drop, ← Nat.add_assoc]
    exact hd
end
end Go.Proofs.YtmiiknkfhiecgaaDoor.Open
end
section
/- What is proved here: the listed tables, as the row's condition lays them, stand in memory; the door's own heap meets the condition. No conditions but those that each theorem names. -/
namespace Go.Proofs.YtmiiknkfhiecgaaDoor.Laid
open Go.ChangeShapes Go.WideShapes Go.ChangeAt Go.RowKit
set_option maxRecDepth 100000
theorem arr_cells {P : Program} {H : Type} {enc : TypeId × Value → H} {w : World} {spare : Nat → Bool} {held : Bool} {fuel : Nat} {t e : TypeId} {n : Nat} {k : IntKind} {cs : List Value} {L : List Int} {p : List MemPlace}
    (ht : P.underlying t = some (.array n e)) (he : P.underlying e = some (.int k)) (c1 : P.cellsOf e = 1)
    (hd : DataW.trod enc P w 0 spare held fuel t cs = some (.agg (L.map fun z => .lit (.int k z)), p)) :
    ∀ i : Nat, i < n → cs[i]? = some (.int k (Kp.ga L i)) := by
  intro i hi
  obtain ⟨xs, m, rfl, hx, hlen, hn, hel⟩ := DataW.trod_array ht hd
  have h1 := hel i hi
  rw [c1, Nat.mul_one] at h1
  have hi' : i < xs.length := hn.symm ▸ hi
  rw [List.getElem?_eq_getElem hi'] at h1
  obtain ⟨z, hz, hz2, _⟩ := DataW.trod_int he h1
  simp only [Prod.mk.injEq, DataW.agg.injEq] at hx
  have hL : (L.map fun z => (DataW.lit (.int k z) : DataW H))[i]? = (xs.map (·.1))[i]? := by rw [hx.1]
  rw [List.getElem?_map, List.getElem?_map, List.getElem?_eq_getElem hi', hz2] at hL
  have hLz : Kp.ga L i = z := by
    unfold Kp.ga
    rw [List.getD_eq_getElem?_getD]
    cases hq : L[i]? with
    | none => rw [hq] at hL; simp at hL
    | some y => rw [hq] at hL; simpa using hL
  rw [hLz]
  have h2 : ((cs.drop i).take 1)[0]? = some (.int k z) := by rw [hz]; rfl
  simpa using h2
theorem gR : Tryd.prog.globalNamed "loop.example/g00321/impl.roundConstants" = some 1 := by kernel_rfl
theorem gT : Tryd.prog.globalNamed "loop.example/g00321/impl.turns" = some 0 := by kernel_rfl
theorem tR : (Tryd.prog.globals[1]?).map (·.type) = some 96 := by kernel_rfl
theorem tT : (Tryd.prog.globals[0]?).map (·.type) = some 120 := by kernel_rfl
abbrev laidL : List (String × DataW Unit) := [("loop.example/g00321/impl.roundConstants", Rows.laid_loop_example_g00321_impl_roundConstants), ("loop.example/g00321/impl.turns", Rows.laid_loop_example_g00321_impl_turns)]
theorem cell_lt {W : World} {g i : Nat} {v : Value} (h : W.cell? ⟨g, i, none⟩ = some v) : g < W.heap.size := by
  unfold World.cell? at h
  by_cases hg : g < W.heap.size
  · exact hg
  · simp [hg] at h
theorem tab {W : World} (h : laidMetH Tryd.prog laidL W) : Kp.Tab W := by
  rw [MakeChecks.laidMetH_plain _ _ _ (by kernel_rfl)] at h
  obtain ⟨ps, ⟨g0, t0, cs0, f0, p0, q0, hg0, ht0, hv0, hd0, ⟨g1, t1, cs1, f1, p1, q1, hg1, ht1, hv1, hd1, _, _⟩, _⟩, _, _⟩ := h
  obtain rfl := Option.some.inj (gR.symm.trans hg0)
  obtain rfl := Option.some.inj (gT.symm.trans hg1)
  obtain rfl := Option.some.inj (tR.symm.trans ht0)
  obtain rfl := Option.some.inj (tT.symm.trans ht1)
  have r : ∀ i : Nat, i < 24 → W.cell? ⟨1, i, none⟩ = some (.int .u64 (Kp.ga Kp.rcL i)) := fun i hi => by
    rw [World.var?_cell hg0 hv0 i, ← Array.getElem?_toList]
    exact arr_cells (L := Kp.rcL) Tryd.underlying96 Tryd.underlying73 (by kernel_rfl) hd0 i hi
  have t : ∀ i : Nat, i < 25 → W.cell? ⟨0, i, none⟩ = some (.int .i64 (Kp.ga Kp.turnsL i)) := fun i hi => by
    rw [World.var?_cell hg1 hv1 i, ← Array.getElem?_toList]
    exact arr_cells (L := Kp.turnsL) Tryd.underlying120 Tryd.underlying3 (by kernel_rfl) hd1 i hi
  exact ⟨t, r, cell_lt (t 0 (by decide)), cell_lt (r 0 (by decide))⟩
/-- The door's own heap meets the condition. -/
theorem door_met (os : Os) (args : Array Value) : laidMetH Tryd.prog laidL ((World.doorLaid Tryd.prog 400 os).forCall (fun _ _ => 0) ⟨#[], args, []⟩).memory :=
  laidMetH_of_parts3 (fuel := 8) (laidMet_of_run' 8 (by kernel_rfl) (by kernel_rfl)) (by kernel_rfl) (by kernel_rfl)
#print axioms door_met
#print axioms tab
end Go.Proofs.YtmiiknkfhiecgaaDoor.Laid
end
section
namespace Go.Proofs.YtmiiknkfhiecgaaDoor.fnHeads
open Go.ChangeShapes Go.WideShapes Go.ChangeAt Go.RowKit Go.Proofs.YtmiiknkfhiecgaaDoorW.PrintWords Go.Proofs.YtmiiknkfhiecgaaDoor.Open Go.Proofs.YtmiiknkfhiecgaaDoor.Pf
open Go.ChangeMaps (open_string shut_string)
set_option linter.unusedVariables false
set_option linter.unusedSimpArgs false
theorem own : ownKnob Tryd.prog.godebug = none := by kernel_rfl
theorem laidOut : laidOutB Tryd.prog = true := by kernel_rfl
set_option maxRecDepth 100000 in
theorem lifted (os : Os) (started : os.Started) (H : Type) (enc : TypeId × Value → H) :
  ReturnsInHanded {} Tryd.checked os 10 .any (fun w args => (Rows.fnHeadsSpec.pre enc Tryd.prog Tryd.f10 [] false w args ∧ laidMetH Tryd.prog Laid.laidL w) ∧ sizedMet enc Tryd.prog Tryd.f10 (OpenSpec.ofChange Rows.fnHeadsSpec) false w args)
   (Rows.fnHeadsSpec.post enc Tryd.prog Tryd.f10 false true false false) := by
 refine returnsInHanded_of_change_and (C := Tryd.checked) (X := fun w _ => laidMetH Tryd.prog Laid.laidL w) (fun _ _ _ hh h => h.of_heap hh) own started (by kernel_rfl) Tryd.func10
  (ChangeSpec.witness_shaped (enc := enc) (C := Tryd.checked) (os := os) (X := fun w _ => laidMetH Tryd.prog Laid.laidL w) false (World.doorLaid Tryd.prog 400 os) #[.slice none 0 0] 8 rfl (World.shaped_of_RefB (by kernel_rfl) (by kernel_rfl)) (by kernel_rfl) (by kernel_rfl) (by kernel_rfl) (Laid.door_met os _)) ?_
 intro W base args ds gs before hval0 hW hcnd hsz0 hL _
 have hT := Laid.tab hL
 have hsz : (DataW.weightsEach Tryd.prog (Tryd.f10.params.toList ++ Rows.fnHeadsSpec.plain.varTypes Tryd.prog) (ds ++ gs)).all (· ≤ reachBytes) = true := hsz0
 have hval : ∀ (j : Nat) t v, Tryd.f10.params[j]? = some t → args[j]? = some v → Value.okWide Tryd.prog W .any base t v := hval0
 have hW' := hW
 obtain ⟨p, q, hA0, hV, rfl, hfz, hnd⟩ := hW
 have hA : DataW.TrodAll enc Tryd.prog W 0 (fun _ => true) true Tryd.f10.params.toList args.toList ds p := hA0
 rw [Tryd.params10] at hA hval hsz
 obtain ⟨v0, vs0, d0, ds0, p0, q0, hargs, rfl, rfl, h0, r0⟩ := trodAll_cons hA
 obtain ⟨rfl, rfl, rfl⟩ := trodAll_nil r0
 obtain rfl : args = #[v0] := by cases args; simp_all
 have hV2 : DataW.TrodVars enc Tryd.prog W (fun _ => true) ["loop.example/g00321/impl.turns", "loop.example/g00321/impl.roundConstants"] gs q := hV
 obtain ⟨_, _, _, _, dv0, _, _, _, _, _, dv1, _, rfl, _⟩ := trodVars_two hV2
 obtain ⟨a0, len0, cap0, rfl⟩ := okWide_slice Tryd.underlying39 (hval 0 39 v0 rfl rfl)
 have k0 := h0
 have lt0 : ∀ x ∈ p0, x.block < W.heap.size := by obtain ⟨m, hm⟩ := k0; exact DataW.trod_lt m _ _ _ hm
 obtain ⟨l0, ⟨A0, c0, e0, hc0, hr0⟩, g0⟩ := (show ∃ a, (Kd.slice 5 (Kd.int .u8)).K W a [.slice a0 len0 cap0] ∧ _ from h0.elim fun fuel hf => (opens_slice Tryd.underlying39 (by kernel_rfl) (opens_int Tryd.underlying5)) enc W 0 (fun _ => true) true fuel [.slice a0 len0 cap0] _ hf)
 obtain ⟨rfl, rfl, rfl⟩ : a0 = A0 ∧ len0 = l0.length ∧ cap0 = c0 := by simpa using e0
 clear hA0 hval0 hsz0 hsz
 obtain ⟨k, h⟩ := Pure.FnHeads l0 g0
 refine (laws_FnHeads.calls k _ _ l0 true W hr0 hc0 hT ⟨rfl⟩ h).mono fun e W' ⟨he, bel0⟩ => ?_
 have bel : Below W.heap.size W W' := bel0
 subst he
 exact ⟨_, rfl, _, _, _, [], _, _, hW', trodAll_mk1 (shut_bool Tryd.underlying4 _), (trodAll_cons_mk (Below.trod laidOut (by kernel_rfl) (of_decide_eq_true (by kernel_rfl)) k0 bel lt0) trodAll_mk0), Below.trodVars laidOut bel (by kernel_rfl) hV2, bel.frame _, fun h => by cases h⟩
theorem over : Rows.fnHeadsRow.holds Tryd.pinned (OpenSpec.ofChange Rows.fnHeadsSpec) :=
 OpenClaim.holds_of_wide 10 Tryd.f10 rfl rfl rfl rfl rfl rfl rfl ⟨rfl, rfl, rfl, rfl, rfl⟩ rfl rfl rfl rfl rfl (by kernel_rfl) Tryd.func10 (by kernel_rfl)
  (of_decide_eq_true (by kernel_rfl)) (by unfold Func.isWrapper; first | (rw [if_pos (by decide +kernel)]; kernel_rfl) | (rw [if_neg (by decide +kernel)]; exact ⟨rfl, rfl⟩))
  (fun os started H enc _ => lifted os started H enc)
theorem proved : Rows.FnHeadsSaid := over
theorem card : Rows.FnHeadsCardSaid :=
 Claim7.holds_tied_plain_at .later [] [.data, .data] true (true, "e4c3bb3ba08b206a7ab2894f9061ace4b1bc15c35e02d35ce178dd72da8f1b3e") false
  over (fun _ h => by cases h) (by kernel_rfl) (fun _ h => by cases h) fnHeads_row_tie rfl ⟨rfl, rfl⟩ (by kernel_rfl) rfl
  (fun f fn hf hfn => by
   obtain rfl : f = 10 := Option.some.inj ((show Tryd.prog.funcNamed "loop.example/g00321/laws.FnHeads" = some 10 by kernel_rfl).symm.trans hf) |>.symm
   obtain rfl : fn = Tryd.f10 := (Option.some.inj (Tryd.func10.symm.trans hfn)).symm
   exact ⟨by kernel_rfl, fun j t ht => by
    rw [Tryd.params10] at ht
    have hm : t ∈ [39] := by simpa using Array.mem_of_getElem? ht
    have hall : ([39].all fun u => !Tryd.prog.wantsStandIn u) = true := by kernel_rfl
    exact (show Tryd.prog.wantsStandIn t = false by simpa using List.all_eq_true.1 hall t hm)⟩)
  (by kernel_rfl)
#print axioms card
end Go.Proofs.YtmiiknkfhiecgaaDoor.fnHeads
namespace Go.Proofs.YtmiiknkfhiecgaaDoor
/-- The row, under a short name, for the claim. -/
theorem fnHeads_holds : Rows.FnHeadsCardSaid := fnHeads.card
end Go.Proofs.YtmiiknkfhiecgaaDoor
end
