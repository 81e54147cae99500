/- What is proved here: part 4 of 4 of the proof of the given statement FnExactSigText: the contracts of the Go functions that it reaches, the plain facts on lists and numbers, and (in the last part) the statement itself. No conditions beyond the given ones. -/
import Derived.Test.YtmiiknkfhiecgaaDoorMFnExactSigTextc
import Derived.Test.YtmiiknkfhiecgaaDoorMFnExactSigTextwMore
import Derived.Deep.Slices
import Derived.ChangeArms
import Derived.DataReads
import Derived.ChangeShapes
import Derived.Test.YtmiiknkfhiecgaaDoorRows
import Derived.Test.YtmiiknkfhiecgaaDoorMFnExactSigTexta
import Derived.ProofKit
import Derived.LaidMore
import Derived.OpenShut
import Derived.Stop.Joined
import Derived.Test.YtmiiknkfhiecgaaDoorMFnExactSigTextwSlim
import Derived.Test.YtmiiknkfhiecgaaDoorTie
import Derived.Test.YtmiiknkfhiecgaaDoorCards
import Derived.WalkKit
import Derived.ShutString
import Derived.ChangeOld
import Derived.Below
import Derived.SizedLaws
import Derived.OpenVars
import Derived.SevenTiedAt

section
/- What is proved here: what HeadOk, HeadRoot and SigText answer, by the program and by the reference. No conditions but that the texts are no longer than 2^20 bytes. -/
set_option linter.unusedVariables false
set_option linter.unusedSimpArgs false
namespace Go.Proofs.YtmiiknkfhiecgaaDoor.Tree
open Go.RowKit Go.Proofs.YtmiiknkfhiecgaaDoor.Pf Go.Proofs.YtmiiknkfhiecgaaDoorW.PrintWords Go.Proofs.YtmiiknkfhiecgaaDoor.Strs
abbrev HOk (s : Int) (a b c : BA) : Prop := (0 ≤ s ∧ s ≤ 10000) ∧ (a.size : Int) = 32 ∧ (b.size : Int) = 32 ∧ (c.size : Int) = 32
theorem spec_ok (s : Int) (a b c : BA) : spec_HeadOk.f s a b c = some (decide (HOk s a b c)) := by
  by_cases h : HOk s a b c
  · rw [decide_eq_true h]
    obtain ⟨⟨h0, h1⟩, h2, h3, h4⟩ := h
    simp [spec_HeadOk.f, spec_l01In.f, h0, h1, h2, h3, h4]
  · rw [decide_eq_false h]
    unfold spec_HeadOk.f spec_l01In.f
    by_cases h0 : s ≥ 0 <;> by_cases h1 : s ≤ 10000 <;> by_cases h2 : (a.size : Int) = 32 <;> by_cases h3 : (b.size : Int) = 32 <;> by_cases h4 : (c.size : Int) = 32 <;> simp [h0, h1, h2, h3, h4] <;> exact h ⟨⟨h0, h1⟩, h2, h3, h4⟩
theorem impl_ok (s : Int) (a b c : BA) : impl_HeadOk.f s a b c = some (decide (HOk s a b c)) := by
  by_cases h : HOk s a b c
  · rw [decide_eq_true h]
    obtain ⟨⟨h0, h1⟩, h2, h3, h4⟩ := h
    simp [impl_HeadOk.f, impl_isSlot.f, impl_isDigest.f, h0, h1, h2, h3, h4]
  · rw [decide_eq_false h]
    unfold impl_HeadOk.f impl_isSlot.f impl_isDigest.f
    by_cases h0 : s ≥ 0 <;> by_cases h1 : s ≤ 10000 <;> by_cases h2 : (a.size : Int) = 32 <;> by_cases h3 : (b.size : Int) = 32 <;> by_cases h4 : (c.size : Int) = 32 <;> simp [h0, h1, h2, h3, h4] <;> exact h ⟨⟨h0, h1⟩, h2, h3, h4⟩
theorem var_loop (k : Nat) : ∀ n xs, impl_varText.l0 k n xs = spec_l01Var.l0 k n xs := by
  induction k with
  | zero => intros; rfl
  | succ k ih => intro n xs; simp only [spec_l01Var.l0, impl_varText.l0, ih, Int.add_comm 128]
theorem var_some (n : Int) (h0 : 0 ≤ n) (h1 : n ≤ 10000) : ∃ v, v.size ≤ 2 ∧ spec_l01Var.f 2 n = some v := by
  unfold spec_l01Var.f
  by_cases h : n > 127
  · refine ⟨strOfNums ([] ++ [wrap64 (Int.tmod n 128 + 128) % 256] ++ [wrap64 (Int.tdiv n 128) % 256]), ?_, ?_⟩
    · simp [strOfNums, ByteArray.size]
    · have h2 : Int.tdiv n 128 = n / 128 := Int.tdiv_eq_ediv_of_nonneg h0
      have h3 : ¬ (wrap64 (Int.tdiv n 128) > 127) := by rw [h2]; unfold wrap64; omega
      simp only [spec_l01Var.l0]
      rw [if_pos h, if_pos (by simp), if_neg h3, if_pos (by simp)]
  · refine ⟨strOfNums ([] ++ [n % 256]), ?_, ?_⟩
    · simp [strOfNums, ByteArray.size]
    · simp only [spec_l01Var.l0]
      rw [if_neg h, if_pos (by simp)]
def vt (n : Int) : BA := (spec_l01Var.f 2 n).getD ByteArray.empty
theorem vt_spec {n : Int} (h0 : 0 ≤ n) (h1 : n ≤ 10000) {k : Nat} (hk : 2 ≤ k) : spec_l01Var.f k n = some (vt n) := by
  obtain ⟨v, _, hv⟩ := var_some n h0 h1
  exact at_rounds (g := fun k => spec_l01Var.f k n) (fun k => spec_l01Var.mono n k) hk (by unfold vt; rw [hv]; rfl)
theorem vt_impl {n : Int} (h0 : 0 ≤ n) (h1 : n ≤ 10000) {k : Nat} (hk : 2 ≤ k) : impl_varText.f k n = some (vt n) := by
  rw [← vt_spec h0 h1 hk]
  unfold impl_varText.f spec_l01Var.f
  exact var_loop k n []
theorem vt_size {n : Int} (h0 : 0 ≤ n) (h1 : n ≤ 10000) : (vt n).size ≤ 2 := by
  obtain ⟨v, h, hv⟩ := var_some n h0 h1
  unfold vt
  rw [hv]
  exact h
def parts (s : Int) (a b c : BA) : List BA := [vt s, a, b, c]
theorem parts_small {s : Int} {a b c : BA} (h : HOk s a b c) : ∀ y ∈ parts s a b c, y.size ≤ 1048576 := by
  obtain ⟨⟨h0, h1⟩, h2, h3, h4⟩ := h
  have hv := vt_size h0 h1
  intro y hy
  simp only [parts, List.mem_cons, List.not_mem_nil, or_false] at hy
  rcases hy with rfl | rfl | rfl | rfl <;> omega
def headRoot (s : Int) (a b c : BA) : BA := if HOk s a b c then root (parts s a b c) else ByteArray.empty
theorem spec_headRoot (k : Nat) (hk : 400 ≤ k) (s : Int) (a b c : BA) : spec_HeadRoot.f k s a b c = some (headRoot s a b c) := by
  unfold spec_HeadRoot.f headRoot
  rw [spec_ok, Option.bind_some]
  by_cases h : HOk s a b c
  · rw [if_pos h, decide_eq_true h, if_pos rfl, vt_spec h.1.1 h.1.2 (by omega), Option.bind_some, show [vt s, a, b, c] = parts s a b c from rfl, spec_root k hk _ (parts_small h), Option.bind_some]
  · rw [if_neg h, decide_eq_false h, if_neg (by decide)]
    rfl
theorem impl_headRoot (k : Nat) (hk : 400 ≤ k) (s : Int) (a b c : BA) : impl_HeadRoot.f k s a b c = some (headRoot s a b c) := by
  unfold impl_HeadRoot.f headRoot
  rw [impl_ok, Option.bind_some]
  by_cases h : HOk s a b c
  · rw [if_pos h, decide_eq_true h, if_pos rfl, vt_impl h.1.1 h.1.2 (by omega), Option.bind_some, show [vt s, a, b, c] = parts s a b c from rfl, impl_root k hk _ (parts_small h), Option.bind_some]
  · rw [if_neg h, decide_eq_false h, if_neg (by decide)]
    rfl
theorem headRoot_size {s : Int} {a b c : BA} (h : HOk s a b c) : (headRoot s a b c).size = 32 := by
  unfold headRoot
  rw [if_pos h]
  exact root_size (by simp [parts])
def sigText (s : Int) (a b c : BA) (d : Int) : BA := if HOk s a b c ∧ 0 ≤ d ∧ d ≤ 255 then strOfNums [d % 256] ++ headRoot s a b c else ByteArray.empty
theorem one_size (d : Int) : (strOfNums [d]).size = 1 := by simp [strOfNums, ByteArray.size]
theorem sig_step {s : Int} {a b c : BA} (h : HOk s a b c) (d : Int) : (strOfNums [d]).size + (headRoot s a b c).size ≤ 9223372036854775807 := by
  rw [one_size, headRoot_size h]
  decide
theorem spec_sigText (k : Nat) (hk : 400 ≤ k) (s : Int) (a b c : BA) (d : Int) : spec_SigText.f k s a b c d = some (sigText s a b c d) := by
  unfold spec_SigText.f sigText
  rw [spec_ok, Option.bind_some]
  by_cases h : HOk s a b c
  case neg =>
    rw [decide_eq_false h, if_neg (by decide), if_neg (fun e => h e.1)]
    rfl
  rw [decide_eq_true h, if_pos rfl, l01In_f, Option.bind_some]
  by_cases h2 : 0 ≤ d ∧ d ≤ 255
  · rw [decide_eq_true h2, if_pos rfl, Option.bind_some, spec_headRoot k hk, Option.bind_some, if_pos (sig_step h _), if_pos ⟨h, h2⟩]
  · rw [decide_eq_false h2, if_neg (by decide), if_neg (fun e => h2 e.2)]
    rfl
theorem impl_sigText (k : Nat) (hk : 400 ≤ k) (s : Int) (a b c : BA) (d : Int) : impl_SigText.f k s a b c d = some (sigText s a b c d) := by
  unfold impl_SigText.f sigText
  rw [impl_ok, Option.bind_some]
  by_cases h : HOk s a b c
  case neg =>
    rw [decide_eq_false h, if_neg (by decide), if_neg (fun e => h e.1)]
    rfl
  rw [decide_eq_true h, if_pos rfl]
  by_cases h2 : d < 0
  · rw [if_pos h2, if_neg (by omega)]
    rfl
  rw [if_neg h2]
  by_cases h3 : d > 255
  · rw [if_pos h3, if_neg (by omega)]
    rfl
  rw [if_neg h3, Option.bind_some, impl_headRoot k hk, Option.bind_some, if_pos (sig_step h _), if_pos ⟨h, by omega, by omega⟩]
theorem sigText_size {s : Int} {a b c : BA} (h : HOk s a b c) {d : Int} (h0 : 0 ≤ d) (h1 : d ≤ 255) : (sigText s a b c d).size = 33 := by
  unfold sigText
  rw [if_pos ⟨h, h0, h1⟩, ByteArray.size_append, one_size, headRoot_size h]
end Go.Proofs.YtmiiknkfhiecgaaDoor.Tree
end
section
/- What is proved here: for every head and domain the program's SigText and the reference's answer the same text. No conditions. -/
set_option linter.unusedVariables false
set_option linter.unusedSimpArgs false
namespace Go.Proofs.YtmiiknkfhiecgaaDoor.Pure
open Go.RowKit Go.Proofs.YtmiiknkfhiecgaaDoor.Pf Go.Proofs.YtmiiknkfhiecgaaDoorW.PrintWords Go.Proofs.YtmiiknkfhiecgaaDoor.Strs Go.Proofs.YtmiiknkfhiecgaaDoor.Tree
theorem FnExactSigText : laws_FnExactSigText.Pure := by
  intro s a b c d hs ha hb hc hd
  have hz : ∃ z, laws_szHead.f s a b c 1048576 = some z := by
    unfold laws_szHead.f
    repeat' split
    all_goals exact ⟨_, rfl⟩
  obtain ⟨z, hz⟩ := hz
  refine ⟨400, ?_⟩
  simp only [laws_FnExactSigText.f, hz, laws_toHead.f, Option.bind_some, spec_sigText 400 (Nat.le_refl _), impl_sigText 400 (Nat.le_refl _), if_true, ite_self]
end Go.Proofs.YtmiiknkfhiecgaaDoor.Pure
end
section
/- What is proved here: a value of a Go type that reads as data opens into the print's own kinds (Kd), for whole numbers, bools, strings, slices and structs. No conditions. -/
set_option linter.unusedVariables false
set_option linter.unusedSimpArgs false
namespace Go.Proofs.YtmiiknkfhiecgaaDoor.Open
open Go.RowKit Go.Proofs.YtmiiknkfhiecgaaDoorW.PrintWords Go.ChangeShapes Go.WideShapes

def Opens (P : Program) (t : TypeId) {α : Type} (d : Kd α) (g : α → Prop) : Prop :=
  ∀ {H : Type} (enc : TypeId × Value → H) (w : World) (base : Nat) (spare : Nat → Bool) (held : Bool) (fuel : Nat) (cs : List Value) (x : DataW H × List MemPlace),
    DataW.trod enc P w base spare held fuel t cs = some x → ∃ a, d.K w a cs ∧ g a

theorem list_of {α : Type} {p : Nat → α → Prop} : ∀ n, (∀ i, i < n → ∃ y, p i y) → ∃ ys : List α, ys.length = n ∧ ∀ i y, ys[i]? = some y → p i y
  | 0, _ => ⟨[], rfl, fun i y h => by simp at h⟩
  | n + 1, h => by
    obtain ⟨ys, hl, hy⟩ := list_of n (fun i hi => h i (by omega))
    obtain ⟨y, hy'⟩ := h n (by omega)
    refine ⟨ys ++ [y], by simp [hl], fun i z hz => ?_⟩
    rcases Nat.lt_or_ge i n with hi | hi
    · rw [List.getElem?_append_left (by omega)] at hz
      exact hy i z hz
    · have h1 := (List.getElem?_eq_some_iff.1 hz).1
      rw [List.length_append, List.length_singleton] at h1
      have h2 : i = n := by omega
      subst h2
      rw [List.getElem?_append_right (by omega), hl, Nat.sub_self] at hz
      simp at hz
      subst hz
      exact hy'

section
variable {P : Program} {t : TypeId}
theorem opens_int {k : IntKind} (h : P.underlying t = some (.int k)) : Opens P t (Kd.int k) (fun n => (Lit.int k n).wf = true) := by
  intro H enc w base spare held fuel cs x hx
  obtain ⟨n, rfl, _, hw⟩ := DataW.trod_int h hx
  exact ⟨n, rfl, hw⟩
theorem opens_bool (h : P.underlying t = some .bool) : Opens P t Kd.bool (fun _ => True) := by
  intro H enc w base spare held fuel cs x hx
  obtain ⟨b, hb⟩ : ∃ b, cs = [.bool b] := by
    cases fuel with
    | zero => simp [DataW.trod] at hx
    | succ n =>
      unfold DataW.trod at hx
      rw [h] at hx
      split at hx <;> simp_all
  exact ⟨b, hb, trivial⟩
theorem opens_string (h : P.underlying t = some .string) : Opens P t Kd.string (fun s => s.size ≤ maxLen) := by
  intro H enc w base spare held fuel cs x hx
  obtain ⟨n, rfl, _, hw⟩ := DataW.trod_string h hx
  exact ⟨n, rfl, hw⟩
theorem opens_slice {e : TypeId} {α : Type} {d : Kd α} {g : α → Prop} (ht : P.underlying t = some (.slice e)) (hc : P.cellsOf e = d.sz) (he : Opens P e d g) :
    Opens P t (Kd.slice e d) (fun xs => xs.length ≤ 9223372036854775807 ∧ ∀ x ∈ xs, g x) := by
  intro H enc w base spare held fuel cs x h
  rcases Go.Deep.open_slice ht h with ⟨rfl, _⟩ | ⟨a, len, cap, m, n, D, Pl, rfl, hb, hl, hm, hmm, _, hx⟩
  · exact ⟨[], ⟨none, 0, rfl, Nat.le_refl _, Kd.C_nil d w⟩, by simp, fun x hx => by cases hx⟩
  · have hlm : len ≤ m := by rw [hmm]; split <;> omega
    obtain ⟨ys, hy1, hy2⟩ := list_of (p := fun i y => ∃ c, w.cells? base (a.add (i * P.cellsOf e)) (P.cellsOf e) = some c ∧ d.K w y c ∧ g y) len (fun i hi => by
      obtain ⟨c, h1, h2⟩ := hx i (by omega)
      obtain ⟨y, h3, h4⟩ := he _ _ _ _ _ _ _ _ h2
      exact ⟨y, c, h1, h3, h4⟩)
    unfold maxLen at hm
    refine ⟨ys, ⟨some a, cap, by rw [hy1], by omega, rfl, by omega, fun _ => ⟨a, rfl, fun j p hp => ?_⟩⟩, by omega, fun y hy => ?_⟩
    · obtain ⟨c, h1, h2, h3⟩ := hy2 j p hp
      obtain ⟨_, hlen, hcell⟩ := World.cells?_some h1
      refine ⟨c, by rw [hlen, hc], h2, fun i u hu => ?_⟩
      have hi := (List.getElem?_eq_some_iff.1 hu).1
      have := hcell i (by omega)
      rw [Go.Deep.add_add, hc] at this
      rw [this, hu]
    · obtain ⟨i, hi⟩ := List.mem_iff_getElem?.1 hy
      obtain ⟨c, h1, h2, h3⟩ := hy2 i y hi
      exact h3
theorem opens_iso {α β : Type} {d : Kd α} {g : α → Prop} (f : β → α) (mk : α → β) (hf : ∀ a, f (mk a) = a) (h : Opens P t d g) : Opens P t (Kd.iso d f) (fun x => g (f x)) := by
  intro H enc w base spare held fuel cs x hx
  obtain ⟨a, h1, h2⟩ := h enc w base spare held fuel cs x hx
  exact ⟨mk a, by show d.K w (f (mk a)) cs; rw [hf]; exact h1, by show g (f (mk a)); rw [hf]; exact h2⟩
theorem struct_field {fs : Array Field} {H : Type} {enc : TypeId × Value → H} {w : World} {base : Nat} {spare : Nat → Bool} {held : Bool} {n : Nat} {cs : List Value} {xs : List (DataW H × List MemPlace)} (hl : xs.length = fs.size)
    (hf : ∀ (i : Nat) (f : Field), fs[i]? = some f → DataW.trod enc P w base spare held n f.type ((cs.drop f.offset).take (P.cellsOf f.type)) = xs[i]?) {i : Nat} {f : Field} (hi : fs[i]? = some f) {α : Type} {d : Kd α} {g : α → Prop} (ho : Opens P f.type d g) :
    ∃ a, d.K w a ((cs.drop f.offset).take (P.cellsOf f.type)) ∧ g a := by
  have h1 := hf i f hi
  have h2 : i < xs.length := by rw [hl]; exact (Array.getElem?_eq_some_iff.1 hi).1
  rw [List.getElem?_eq_getElem h2] at h1
  exact ho _ _ _ _ _ _ _ _ h1
theorem opens_struct1 {f0 : Field} {α : Type} {d0 : Kd α} {g0 : α → Prop} (ht : P.underlying t = some (.struct #[f0])) (h0 : Opens P f0.type d0 g0)
    (s0 : P.cellsOf f0.type = d0.sz) (o0 : f0.offset = 0) (st : P.cellsOf t = d0.sz) : Opens P t d0 g0 := by
  intro H enc w base spare held fuel cs x hx
  obtain ⟨xs, n, _, _, hlen, hl, hf⟩ := DataW.trod_struct ht hx
  obtain ⟨a, ha, hg⟩ := struct_field hl hf (i := 0) (f := f0) rfl h0
  rw [o0, s0, List.drop_zero, List.take_of_length_le (by omega)] at ha
  exact ⟨a, ha, hg⟩
theorem opens_struct2 {f0 f1 : Field} {α β : Type} {d0 : Kd α} {d1 : Kd β} {g0 : α → Prop} {g1 : β → Prop} (ht : P.underlying t = some (.struct #[f0, f1])) (h0 : Opens P f0.type d0 g0) (h1 : Opens P f1.type d1 g1)
    (s0 : P.cellsOf f0.type = d0.sz) (s1 : P.cellsOf f1.type = d1.sz) (o0 : f0.offset = 0) (o1 : f1.offset = d0.sz) (st : P.cellsOf t = d0.sz + d1.sz) : Opens P t (Kd.pair d0 d1) (fun x => g0 x.1 ∧ g1 x.2) := by
  intro H enc w base spare held fuel cs x hx
  obtain ⟨xs, n, _, _, hlen, hl, hf⟩ := DataW.trod_struct ht hx
  obtain ⟨a, ha, ga⟩ := struct_field hl hf (i := 0) (f := f0) rfl h0
  obtain ⟨b, hb, gb⟩ := struct_field hl hf (i := 1) (f := f1) rfl h1
  rw [o0, s0, List.drop_zero] at ha
  rw [o1, s1, List.take_of_length_le (by rw [List.length_drop]; omega)] at hb
  exact ⟨(a, b), ⟨_, _, (List.take_append_drop d0.sz cs).symm, ha, hb⟩, ga, gb⟩
theorem opens_struct3 {f0 f1 f2 : Field} {α β γ : Type} {d0 : Kd α} {d1 : Kd β} {d2 : Kd γ} {g0 : α → Prop} {g1 : β → Prop} {g2 : γ → Prop} (ht : P.underlying t = some (.struct #[f0, f1, f2])) (h0 : Opens P f0.type d0 g0) (h1 : Opens P f1.type d1 g1) (h2 : Opens P f2.type d2 g2)
    (s0 : P.cellsOf f0.type = d0.sz) (s1 : P.cellsOf f1.type = d1.sz) (s2 : P.cellsOf f2.type = d2.sz) (o0 : f0.offset = 0) (o1 : f1.offset = d0.sz) (o2 : f2.offset = d0.sz + d1.sz) (st : P.cellsOf t = d0.sz + d1.sz + d2.sz) :
    Opens P t (Kd.pair d0 (Kd.pair d1 d2)) (fun x => g0 x.1 ∧ g1 x.2.1 ∧ g2 x.2.2) := by
  intro H enc w base spare held fuel cs x hx
  obtain ⟨xs, n, _, _, hlen, hl, hf⟩ := DataW.trod_struct ht hx
  obtain ⟨a, ha, ga⟩ := struct_field hl hf (i := 0) (f := f0) rfl h0
  obtain ⟨b, hb, gb⟩ := struct_field hl hf (i := 1) (f := f1) rfl h1
  obtain ⟨c, hc, gc⟩ := struct_field hl hf (i := 2) (f := f2) rfl h2
  rw [o0, s0, List.drop_zero] at ha
  rw [o1, s1] at hb
  rw [o2, s2, List.take_of_length_le (by rw [List.length_drop]; omega)] at hc
  refine ⟨(a, b, c), ⟨_, _, (List.take_append_drop d0.sz cs).symm, ha, _, _, (List.take_append_drop d1.sz _).symm, hb, ?_⟩, ga, gb, gc⟩
  rw [List.drop_drop]
  exact hc
theorem opens_struct4 {f0 f1 f2 f3 : Field} {α β γ δ : Type} {d0 : Kd α} {d1 : Kd β} {d2 : Kd γ} {d3 : Kd δ} {g0 : α → Prop} {g1 : β → Prop} {g2 : γ → Prop} {g3 : δ → Prop} (ht : P.underlying t = some (.struct #[f0, f1, f2, f3]))
    (h0 : Opens P f0.type d0 g0) (h1 : Opens P f1.type d1 g1) (h2 : Opens P f2.type d2 g2) (h3 : Opens P f3.type d3 g3)
    (s0 : P.cellsOf f0.type = d0.sz) (s1 : P.cellsOf f1.type = d1.sz) (s2 : P.cellsOf f2.type = d2.sz) (s3 : P.cellsOf f3.type = d3.sz) (o0 : f0.offset = 0) (o1 : f1.offset = d0.sz) (o2 : f2.offset = d0.sz + d1.sz) (o3 : f3.offset = d0.sz + d1.sz + d2.sz)
    (st : P.cellsOf t = d0.sz + d1.sz + d2.sz + d3.sz) :
    Opens P t (Kd.pair d0 (Kd.pair d1 (Kd.pair d2 d3))) (fun x => g0 x.1 ∧ g1 x.2.1 ∧ g2 x.2.2.1 ∧ g3 x.2.2.2) := by
  intro H enc w base spare held fuel cs x hx
  obtain ⟨xs, n, _, _, hlen, hl, hf⟩ := DataW.trod_struct ht hx
  obtain ⟨a, ha, ga⟩ := struct_field hl hf (i := 0) (f := f0) rfl h0
  obtain ⟨b, hb, gb⟩ := struct_field hl hf (i := 1) (f := f1) rfl h1
  obtain ⟨c, hc, gc⟩ := struct_field hl hf (i := 2) (f := f2) rfl h2
  obtain ⟨d, hd, gd⟩ := struct_field hl hf (i := 3) (f := f3) rfl h3
  rw [o0, s0, List.drop_zero] at ha
  rw [o1, s1] at hb
  rw [o2, s2] at hc
  rw [o3, s3, List.take_of_length_le (by rw [List.length_drop]; omega)] at hd
  refine ⟨(a, b, c, d), ⟨_, _, (List.take_append_drop d0.sz cs).symm, ha, _, _, (List.take_append_drop d1.sz _).symm, hb, _, _, (List.take_append_drop d2.sz _).symm, ?_, ?_⟩, ga, gb, gc, gd⟩
  · rw [List.drop_drop]
    exact hc
  · rw [List.drop_drop, List.drop_drop, ← Nat.add_assoc]
    exact hd
end
end Go.Proofs.YtmiiknkfhiecgaaDoor.Open
end
section
/- What is proved here: the listed tables, as the row's condition lays them, stand in memory; the door's own heap meets the condition. No conditions but those that each theorem names. -/
namespace Go.Proofs.YtmiiknkfhiecgaaDoor.Laid
open Go.ChangeShapes Go.WideShapes Go.ChangeAt Go.RowKit
set_option maxRecDepth 100000
theorem arr_cells {P : Program} {H : Type} {enc : TypeId × Value → H} {w : World} {spare : Nat → Bool} {held : Bool} {fuel : Nat} {t e : TypeId} {n : Nat} {k : IntKind} {cs : List Value} {L : List Int} {p : List MemPlace}
    (ht : P.underlying t = some (.array n e)) (he : P.underlying e = some (.int k)) (c1 : P.cellsOf e = 1)
    (hd : DataW.trod enc P w 0 spare held fuel t cs = some (.agg (L.map fun z => .lit (.int k z)), p)) :
    ∀ i : Nat, i < n → cs[i]? = some (.int k (Kp.ga L i)) := by
  intro i hi
  obtain ⟨xs, m, rfl, hx, hlen, hn, hel⟩ := DataW.trod_array ht hd
  have h1 := hel i hi
  rw [c1, Nat.mul_one] at h1
  have hi' : i < xs.length := hn.symm ▸ hi
  rw [List.getElem?_eq_getElem hi'] at h1
  obtain ⟨z, hz, hz2, _⟩ := DataW.trod_int he h1
  simp only [Prod.mk.injEq, DataW.agg.injEq] at hx
  have hL : (L.map fun z => (DataW.lit (.int k z) : DataW H))[i]? = (xs.map (·.1))[i]? := by rw [hx.1]
  rw [List.getElem?_map, List.getElem?_map, List.getElem?_eq_getElem hi', hz2] at hL
  have hLz : Kp.ga L i = z := by
    unfold Kp.ga
    rw [List.getD_eq_getElem?_getD]
    cases hq : L[i]? with
    | none => rw [hq] at hL; simp at hL
    | some y => rw [hq] at hL; simpa using hL
  rw [hLz]
  have h2 : ((cs.drop i).take 1)[0]? = some (.int k z) := by rw [hz]; rfl
  simpa using h2
theorem gR : Tryd.prog.globalNamed "loop.example/g00321/impl.roundConstants" = some 1 := by kernel_rfl
theorem gT : Tryd.prog.globalNamed "loop.example/g00321/impl.turns" = some 0 := by kernel_rfl
theorem tR : (Tryd.prog.globals[1]?).map (·.type) = some 96 := by kernel_rfl
theorem tT : (Tryd.prog.globals[0]?).map (·.type) = some 120 := by kernel_rfl
abbrev laidL : List (String × DataW Unit) := [("loop.example/g00321/impl.roundConstants", Rows.laid_loop_example_g00321_impl_roundConstants), ("loop.example/g00321/impl.turns", Rows.laid_loop_example_g00321_impl_turns)]
theorem cell_lt {W : World} {g i : Nat} {v : Value} (h : W.cell? ⟨g, i, none⟩ = some v) : g < W.heap.size := by
  unfold World.cell? at h
  by_cases hg : g < W.heap.size
  · exact hg
  · simp [hg] at h
theorem tab {W : World} (h : laidMetH Tryd.prog laidL W) : Kp.Tab W := by
  rw [MakeChecks.laidMetH_plain _ _ _ (by kernel_rfl)] at h
  obtain ⟨ps, ⟨g0, t0, cs0, f0, p0, q0, hg0, ht0, hv0, hd0, ⟨g1, t1, cs1, f1, p1, q1, hg1, ht1, hv1, hd1, _, _⟩, _⟩, _, _⟩ := h
  obtain rfl := Option.some.inj (gR.symm.trans hg0)
  obtain rfl := Option.some.inj (gT.symm.trans hg1)
  obtain rfl := Option.some.inj (tR.symm.trans ht0)
  obtain rfl := Option.some.inj (tT.symm.trans ht1)
  have r : ∀ i : Nat, i < 24 → W.cell? ⟨1, i, none⟩ = some (.int .u64 (Kp.ga Kp.rcL i)) := fun i hi => by
    rw [World.var?_cell hg0 hv0 i, ← Array.getElem?_toList]
    exact arr_cells (L := Kp.rcL) Tryd.underlying96 Tryd.underlying73 (by kernel_rfl) hd0 i hi
  have t : ∀ i : Nat, i < 25 → W.cell? ⟨0, i, none⟩ = some (.int .i64 (Kp.ga Kp.turnsL i)) := fun i hi => by
    rw [World.var?_cell hg1 hv1 i, ← Array.getElem?_toList]
    exact arr_cells (L := Kp.turnsL) Tryd.underlying120 Tryd.underlying3 (by kernel_rfl) hd1 i hi
  exact ⟨t, r, cell_lt (t 0 (by decide)), cell_lt (r 0 (by decide))⟩
/-- The door's own heap meets the condition. -/
theorem door_met (os : Os) (args : Array Value) : laidMetH Tryd.prog laidL ((World.doorLaid Tryd.prog 400 os).forCall (fun _ _ => 0) ⟨#[], args, []⟩).memory :=
  laidMetH_of_parts3 (fuel := 8) (laidMet_of_run' 8 (by kernel_rfl) (by kernel_rfl)) (by kernel_rfl) (by kernel_rfl)
#print axioms door_met
#print axioms tab
end Go.Proofs.YtmiiknkfhiecgaaDoor.Laid
end
section
namespace Go.Proofs.YtmiiknkfhiecgaaDoor.fnExactSigText
open Go.ChangeShapes Go.WideShapes Go.ChangeAt Go.RowKit Go.Proofs.YtmiiknkfhiecgaaDoorW.PrintWords Go.Proofs.YtmiiknkfhiecgaaDoor.Open Go.Proofs.YtmiiknkfhiecgaaDoor.Pf
open Go.ChangeMaps (open_string shut_string)
set_option linter.unusedVariables false
set_option linter.unusedSimpArgs false
theorem own : ownKnob Tryd.prog.godebug = none := by kernel_rfl
theorem laidOut : laidOutB Tryd.prog = true := by kernel_rfl
set_option maxRecDepth 100000 in
theorem lifted (os : Os) (started : os.Started) (H : Type) (enc : TypeId × Value → H) :
  ReturnsInHanded {} Tryd.checked os 8 .any (fun w args => (Rows.fnExactSigTextSpec.pre enc Tryd.prog Tryd.f8 [] false w args ∧ laidMetH Tryd.prog Laid.laidL w) ∧ sizedMet enc Tryd.prog Tryd.f8 (OpenSpec.ofChange Rows.fnExactSigTextSpec) false w args)
   (Rows.fnExactSigTextSpec.post enc Tryd.prog Tryd.f8 false true false false) := by
 refine returnsInHanded_of_change_and (C := Tryd.checked) (X := fun w _ => laidMetH Tryd.prog Laid.laidL w) (fun _ _ _ hh h => h.of_heap hh) own started (by kernel_rfl) Tryd.func8
  (ChangeSpec.witness_shaped (enc := enc) (C := Tryd.checked) (os := os) (X := fun w _ => laidMetH Tryd.prog Laid.laidL w) false (World.doorLaid Tryd.prog 400 os) #[.agg #[.int .i64 0, .string ByteArray.empty, .string ByteArray.empty, .string ByteArray.empty], .int .i64 0] 8 rfl (World.shaped_of_RefB (by kernel_rfl) (by kernel_rfl)) (by kernel_rfl) (by kernel_rfl) (by kernel_rfl) (Laid.door_met os _)) ?_
 intro W base args ds gs before hval0 hW hcnd hsz0 hL _
 have hT := Laid.tab hL
 have hsz : (DataW.weightsEach Tryd.prog (Tryd.f8.params.toList ++ Rows.fnExactSigTextSpec.plain.varTypes Tryd.prog) (ds ++ gs)).all (· ≤ reachBytes) = true := hsz0
 have hval : ∀ (j : Nat) t v, Tryd.f8.params[j]? = some t → args[j]? = some v → Value.okWide Tryd.prog W .any base t v := hval0
 have hW' := hW
 obtain ⟨p, q, hA0, hV, rfl, hfz, hnd⟩ := hW
 have hA : DataW.TrodAll enc Tryd.prog W 0 (fun _ => true) true Tryd.f8.params.toList args.toList ds p := hA0
 rw [Tryd.params8] at hA hval hsz
 obtain ⟨v0, vs0, d0, ds0, p0, q0, hargs, rfl, rfl, h0, r0⟩ := trodAll_cons hA
 obtain ⟨v1, vs1, d1, ds1, p1, q1, rfl, rfl, rfl, h1, r1⟩ := trodAll_cons r0
 obtain ⟨rfl, rfl, rfl⟩ := trodAll_nil r1
 obtain rfl : args = #[v0, v1] := by cases args; simp_all
 have hV2 : DataW.TrodVars enc Tryd.prog W (fun _ => true) ["loop.example/g00321/impl.turns", "loop.example/g00321/impl.roundConstants"] gs q := hV
 obtain ⟨_, _, _, _, dv0, _, _, _, _, _, dv1, _, rfl, _⟩ := trodVars_two hV2
 obtain ⟨cs0, rfl, hz0⟩ := okWide_struct Tryd.underlying31 (hval 0 31 v0 rfl rfl)
 have k0 := h0
 have lt0 : ∀ x ∈ p0, x.block < W.heap.size := by obtain ⟨m, hm⟩ := k0; exact DataW.trod_lt m _ _ _ hm
 obtain ⟨x0, hK0, g0⟩ := (show ∃ a, (Kd.pair (Kd.int .i64) (Kd.pair Kd.string (Kd.pair Kd.string Kd.string))).K W a cs0.toList ∧ _ from h0.elim fun fuel hf => (opens_struct4 Tryd.underlying31 (opens_int Tryd.underlying3) (opens_string Tryd.underlying9) (opens_string Tryd.underlying9) (opens_string Tryd.underlying9) (by kernel_rfl) (by kernel_rfl) (by kernel_rfl) (by kernel_rfl) (by kernel_rfl) (by kernel_rfl) (by kernel_rfl) (by kernel_rfl) (by kernel_rfl)) enc W 0 (fun _ => true) true fuel cs0.toList _ hf)
 obtain ⟨a0_0, a0_1, a0_2, a0_3⟩ := x0
 obtain ⟨g0_0, g0_1, g0_2, g0_3⟩ := g0
 obtain ⟨_, _, E0, rfl, _, _, rfl, rfl, _, _, rfl, rfl, rfl⟩ := hK0
 obtain rfl : cs0 = #[.int .i64 a0_0, .string a0_1, .string a0_2, .string a0_3] := Array.toList_inj.1 E0
 obtain ⟨a1, rfl, rfl, rfl, g1⟩ := open_int Tryd.underlying3 (hval 1 3 v1 rfl rfl) h1
 clear hA0 hval0 hsz0 hsz
 obtain ⟨k, h⟩ := Pure.FnExactSigText a0_0 a0_1 a0_2 a0_3 a1 g0_0 g0_1 g0_2 g0_3 g1
 refine (laws_FnExactSigText.calls k a0_0 a0_1 a0_2 a0_3 a1 true W hT ⟨rfl⟩ h).mono fun e W' ⟨he, bel0⟩ => ?_
 have bel : Below W.heap.size W W' := bel0
 subst he
 exact ⟨_, rfl, _, _, _, [], _, _, hW', trodAll_mk1 (shut_bool Tryd.underlying4 _), (trodAll_cons_mk (Below.trod laidOut (by kernel_rfl) (of_decide_eq_true (by kernel_rfl)) k0 bel lt0) (trodAll_cons_mk (shut_int Tryd.underlying3 g1) trodAll_mk0)), Below.trodVars laidOut bel (by kernel_rfl) hV2, bel.frame _, fun h => by cases h⟩
theorem over : Rows.fnExactSigTextRow.holds Tryd.pinned (OpenSpec.ofChange Rows.fnExactSigTextSpec) :=
 OpenClaim.holds_of_wide 8 Tryd.f8 rfl rfl rfl rfl rfl rfl rfl ⟨rfl, rfl, rfl, rfl, rfl⟩ rfl rfl rfl rfl rfl (by kernel_rfl) Tryd.func8 (by kernel_rfl)
  (of_decide_eq_true (by kernel_rfl)) (by unfold Func.isWrapper; first | (rw [if_pos (by decide +kernel)]; kernel_rfl) | (rw [if_neg (by decide +kernel)]; exact ⟨rfl, rfl⟩))
  (fun os started H enc _ => lifted os started H enc)
theorem proved : Rows.FnExactSigTextSaid := over
theorem card : Rows.FnExactSigTextCardSaid :=
 Claim7.holds_tied_plain_at .later [] [.data, .data] true (true, "e4c3bb3ba08b206a7ab2894f9061ace4b1bc15c35e02d35ce178dd72da8f1b3e") false
  over (fun _ h => by cases h) (by kernel_rfl) (fun _ h => by cases h) fnExactSigText_row_tie rfl ⟨rfl, rfl⟩ (by kernel_rfl) rfl
  (fun f fn hf hfn => by
   obtain rfl : f = 8 := Option.some.inj ((show Tryd.prog.funcNamed "loop.example/g00321/laws.FnExactSigText" = some 8 by kernel_rfl).symm.trans hf) |>.symm
   obtain rfl : fn = Tryd.f8 := (Option.some.inj (Tryd.func8.symm.trans hfn)).symm
   exact ⟨by kernel_rfl, fun j t ht => by
    rw [Tryd.params8] at ht
    have hm : t ∈ [31, 3] := by simpa using Array.mem_of_getElem? ht
    have hall : ([31, 3].all fun u => !Tryd.prog.wantsStandIn u) = true := by kernel_rfl
    exact (show Tryd.prog.wantsStandIn t = false by simpa using List.all_eq_true.1 hall t hm)⟩)
  (by kernel_rfl)
#print axioms card
end Go.Proofs.YtmiiknkfhiecgaaDoor.fnExactSigText
namespace Go.Proofs.YtmiiknkfhiecgaaDoor
/-- The row, under a short name, for the claim. -/
theorem fnExactSigText_holds : Rows.FnExactSigTextCardSaid := fnExactSigText.card
end Go.Proofs.YtmiiknkfhiecgaaDoor
end
