/- Small words for contracts of our own beside the printed ones. -/
import Derived.Test.YtehlmkgldcfciaaGreatWMore
import Derived.Test.YtehlmkgldcfciaaGreatWApart
import Derived.Test.YtehlmkgldcfciaaGreatWKept
import Derived.Test.YtehlmkgldcfciaaGreatWNEv
import Derived.Test.YtehlmkgldcfciaaGreatWShare
import Derived.Lib.SliceRun
import Derived.Shelf.Abstract
set_option linter.unusedVariables false
set_option linter.unusedSimpArgs false
namespace Go.Proofs.YtehlmkgldcfciaaGreat.Common
open Go.RowKit Go.Proofs.YtehlmkgldcfciaaGreatW.PrintWords Go.Proofs.YtehlmkgldcfciaaGreatW.PrintLast Go.Proofs.YtehlmkgldcfciaaGreatW.PrintMore
def idxP {α : Type} (p : α → Bool) : List α → Int
  | [] => -1
  | x :: xs => if p x then 0 else if idxP p xs < 0 then -1 else idxP p xs + 1
theorem idxP_miss {α : Type} (p : α → Bool) (l : List α) (h : ∀ x ∈ l, p x = false) : idxP p l = -1 := by
  induction l with
  | nil => rfl
  | cons x xs ih =>
    rw [idxP, if_neg (by simp [h x (by simp)]), ih (fun y hy => h y (by simp [hy])), if_pos (by decide)]
theorem idxP_hit {α : Type} (p : α → Bool) (d : α) (l : List α) (i : Nat) (hi : i < l.length) (hp : p (l.getD i d) = true) (h : ∀ j, j < i → p (l.getD j d) = false) : idxP p l = i := by
  induction l generalizing i with
  | nil => simp at hi
  | cons x xs ih =>
    cases i with
    | zero => simp at hp; simp [idxP, hp]
    | succ i =>
      have h0 : p x = false := by simpa using h 0 (by omega)
      have := ih i (by simpa using hi) (by simpa using hp) (fun j hj => by simpa using h (j + 1) (by omega))
      rw [idxP, if_neg (by simp [h0]), this, if_neg (by omega)]
      omega
theorem idxP_all {α : Type} (p : α → Bool) (d : α) (l : List α) (n : Nat) (hn : l.length ≤ n) (h : ∀ j, j < n → p (l.getD j d) = false) : idxP p l = -1 :=
  idxP_miss p l (fun x hx => by
    obtain ⟨j, hj, rfl⟩ := List.getElem_of_mem hx
    have := h j (by omega)
    simpa [List.getD_eq_getElem?_getD, List.getElem?_eq_getElem hj] using this)
theorem idxP_range {α : Type} (p : α → Bool) (l : List α) : -1 ≤ idxP p l ∧ idxP p l < l.length := by
  induction l with
  | nil => simp [idxP]
  | cons x xs ih =>
    rw [idxP]
    simp only [List.length_cons]
    split
    · omega
    · split <;> omega
theorem idxP_any {α : Type} (p : α → Bool) (l : List α) : decide (idxP p l ≥ 0) = l.any p := by
  induction l with
  | nil => simp [idxP]
  | cons x xs ih =>
    rw [idxP, List.any_cons, ← ih]
    have := idxP_range p xs
    cases p x
    · simp only [Bool.false_eq_true, if_false, Bool.false_or]
      split
      · rw [Bool.eq_iff_iff]; simp; omega
      · rw [Bool.eq_iff_iff]; simp; omega
    · simp
def idxM {α : Type} (p : α → Option Bool) : List α → Option Int
  | [] => some (-1)
  | x :: xs => (p x).bind fun b => if b then some 0 else (idxM p xs).bind fun i => some (if i < 0 then -1 else i + 1)
theorem idxM_range {α : Type} {p : α → Option Bool} {l : List α} {r : Int} (h : idxM p l = some r) : r = -1 ∨ 0 ≤ r ∧ r < l.length := by
  induction l generalizing r with
  | nil => simp [idxM] at h; omega
  | cons x xs ih =>
    rw [idxM] at h
    obtain ⟨b, _, h⟩ := Option.bind_eq_some_iff.1 h
    cases b with
    | true => simp at h; simp; omega
    | false =>
      simp only [Bool.false_eq_true, if_false] at h
      obtain ⟨i, hi, h⟩ := Option.bind_eq_some_iff.1 h
      have := ih hi
      injection h with h
      simp only [List.length_cons]
      split at h <;> omega
def idxAt {α : Type} (p : α → Option Bool) (l : List α) (k : Nat) (r : Int) : Prop := ∃ q, idxM p (l.drop k) = some q ∧ r = if q < 0 then -1 else q + k
theorem idxAt_start {α : Type} {p : α → Option Bool} {l : List α} {r : Int} (h : idxM p l = some r) : idxAt p l 0 r := by
  refine ⟨r, by simpa using h, ?_⟩
  rcases idxM_range h with rfl | h <;> simp
  omega
theorem idxAt_step {α : Type} {p : α → Option Bool} {d : α} {l : List α} {k : Nat} {r : Int} (h : idxAt p l k r) (hk : k < l.length) : ∃ b, p (l.getD k d) = some b ∧ (b = true → r = k) ∧ (b = false → idxAt p l (k + 1) r) := by
  obtain ⟨q, hq, hr⟩ := h
  rw [List.drop_eq_getElem_cons hk, idxM] at hq
  obtain ⟨b, hb, hq⟩ := Option.bind_eq_some_iff.1 hq
  refine ⟨b, by rw [List.getD_eq_getElem?_getD, List.getElem?_eq_getElem hk]; exact hb, ?_, ?_⟩
  · rintro rfl
    simp at hq
    subst hq
    simpa using hr
  · rintro rfl
    simp only [Bool.false_eq_true, if_false] at hq
    obtain ⟨i, hi, hq⟩ := Option.bind_eq_some_iff.1 hq
    refine ⟨i, hi, ?_⟩
    injection hq with hq
    rw [hr, ← hq]
    rcases idxM_range hi with h | h
    · subst h; simp
    · rw [if_neg (show ¬ i < 0 by omega), if_neg (show ¬ (i + 1) < 0 by omega), if_neg (by omega)]
      omega
theorem idxAt_end {α : Type} {p : α → Option Bool} {l : List α} {k : Nat} {r : Int} (h : idxAt p l k r) (hk : l.length ≤ k) : r = -1 := by
  obtain ⟨q, hq, hr⟩ := h
  rw [List.drop_eq_nil_of_le hk, idxM] at hq
  injection hq with hq
  subst hq
  exact hr
theorem at_int_nat {w : World} {A : Option Addr} {n : Nat} {k : IntKind} {xs : List Int} (h : (Kd.int k).C w A n xs) (i : Nat) (h1 : i < n) : ∃ ad, A = some ad ∧ w.cell? (ad.add i) = some (.int k (xs.getD i 0)) := by
  obtain ⟨ad, e, hx⟩ := Kd.at_int h (i : Int) (by omega) (by omega)
  rw [Int.toNat_natCast] at hx
  exact ⟨ad, e, by rw [hx]; simp [rd]⟩
theorem C_raw {α : Type} {d : Kd α} {w : World} {A : Option Addr} {n : Nat} {xs : List α} (h : d.C w A n xs) :
    ∃ css : List (List Value), css.length = n ∧ (Kd.raw d.sz).C w A n css ∧ ∀ (j : Nat) (x : α), xs[j]? = some x → ∃ c, css[j]? = some c ∧ d.K w x c := by
  obtain ⟨h1, h2, h3⟩ := h
  rcases Nat.eq_zero_or_pos n with h0 | h0
  · subst h0
    obtain rfl : xs = [] := List.eq_nil_of_length_eq_zero h1
    exact ⟨[], rfl, ⟨rfl, by omega, fun hp => absurd hp (by omega)⟩, fun j x hj => by simp at hj⟩
  · obtain ⟨ad, rfl, hc⟩ := h3 h0
    have hch : ∀ j : Fin n, ∃ c : List Value, ∃ x : α, xs[j.val]? = some x ∧ c.length = d.sz ∧ d.K w x c ∧ ∀ i u, c[i]? = some u → w.cell? (ad.add (j.val * d.sz + i)) = some u := fun j => by
      have hj : j.val < xs.length := by omega
      obtain ⟨c, hcl, hk, hu⟩ := hc j.val _ (List.getElem?_eq_getElem hj)
      exact ⟨c, _, List.getElem?_eq_getElem hj, hcl, hk, hu⟩
    have hf := fun j : Fin n => Classical.choose_spec (hch j)
    have hat : ∀ j (hj : j < n), (List.ofFn fun j : Fin n => Classical.choose (hch j))[j]? = some (Classical.choose (hch ⟨j, hj⟩)) := fun j hj => by
      rw [List.getElem?_ofFn, dif_pos hj]
    refine ⟨List.ofFn fun j : Fin n => Classical.choose (hch j), by simp, ⟨by simp, h2, fun _ => ⟨ad, rfl, fun j c hj => ?_⟩⟩, fun j x hj => ?_⟩
    · have hjn : j < n := by
        have := (List.getElem?_eq_some_iff.1 hj).1
        simpa using this
      rw [hat j hjn] at hj
      injection hj with hj
      subst hj
      obtain ⟨x, _, hcl, hk, hu⟩ := hf ⟨j, hjn⟩
      exact ⟨_, hcl, ⟨rfl, hcl, fun u hu => d.K_one hk u hu⟩, hu⟩
    · have hjn : j < n := by
        have := (List.getElem?_eq_some_iff.1 hj).1
        omega
      obtain ⟨x', hx', _, hk, _⟩ := hf ⟨j, hjn⟩
      rw [hj] at hx'
      injection hx' with hx'
      subst hx'
      exact ⟨_, hat j hjn, hk⟩
theorem R_of_raw {α : Type} {d : Kd α} {e : Nat} {w : World} {base : Nat} {ok : Nat → Prop} {v : Value} {css : List (List Value)} {xs : List α} (h : (Kd.raw d.sz).R e w base ok v css) (hl : css.length = xs.length)
    (hk : ∀ (j : Nat) (x : α) (c : List Value), xs[j]? = some x → css[j]? = some c → d.M w base (fun k => ok k ∧ some k ≠ v.ownBlock) x c) : d.R e w base ok v xs := by
  obtain ⟨h0, inner, ho, hr⟩ := h
  refine ⟨h0, inner, by rw [← hl]; exact ho, ⟨by rw [hr.1, hl]; rfl, fun j x hj => ?_⟩⟩
  have hjl : j < css.length := by rw [hl]; exact (List.getElem?_eq_some_iff.1 hj).1
  have h2 := hr.2 j _ (List.getElem?_eq_getElem hjl)
  obtain ⟨h3, h4, h5⟩ := h2
  have h6 := hk j x _ hj (List.getElem?_eq_getElem hjl)
  rw [← h3] at h6
  exact h6
end Go.Proofs.YtehlmkgldcfciaaGreat.Common
