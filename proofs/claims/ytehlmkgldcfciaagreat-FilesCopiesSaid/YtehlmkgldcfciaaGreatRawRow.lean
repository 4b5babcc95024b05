/- Rows of the call's own as plain cells: several cells stored at once, an element taken out. -/
import Derived.Test.YtehlmkgldcfciaaGreatCommon
import Derived.Laws.IdiomCopy
import Derived.Laws.OwnMore
import Derived.Deep.RegionLaw
import Derived.Lib.SliceRun
import Derived.Lib.Hide
set_option linter.unusedVariables false
set_option linter.unusedSimpArgs false
namespace Go.Proofs.YtehlmkgldcfciaaGreat.Common
open Go.RowKit Go.Proofs.YtehlmkgldcfciaaGreatW.PrintWords Go.Proofs.YtehlmkgldcfciaaGreatW.PrintLast Go.Proofs.YtehlmkgldcfciaaGreatW.PrintMore
def layV (xs : List Value) (o : Nat) : List Value → List Value
  | [] => xs
  | v :: r => layV (xs.set o v) (o + 1) r
theorem layV_eq : ∀ (vs xs : List Value) (o : Nat), o + vs.length ≤ xs.length → layV xs o vs = xs.take o ++ vs ++ xs.drop (o + vs.length)
  | [], xs, o, h => by simp [layV]
  | v :: r, xs, o, h => by
    simp only [List.length_cons] at h
    rw [layV, layV_eq r (xs.set o v) (o + 1) (by rw [List.length_set]; omega)]
    rw [List.take_set, List.drop_set_of_lt (by omega), List.take_succ_eq_append_getElem (show o < xs.length by omega), List.set_append_right _ _ (by simp; omega)]
    simp [Nat.min_eq_left (show o ≤ xs.length by omega)]
    omega
theorem own_setCells {base e size g n cap : Nat} : ∀ (vs : List Value) (o : Nat) (W : World) (xs : List Value), W.ownsRow base e size (.slice (some ⟨g, 0, none⟩) n cap) n xs →
    (W.setCells g o vs).ownsRow base e size (.slice (some ⟨g, 0, none⟩) n cap) n (layV xs o vs) ∧ W.grownBy (W.setCells g o vs) (some g)
  | [], o, W, xs, h => ⟨h, World.grownBy.refl _ _⟩
  | v :: r, o, W, xs, h => by
    obtain ⟨h1, h2⟩ := h.stored o v
    obtain ⟨h3, h4⟩ := own_setCells r (o + 1) _ _ h1
    exact ⟨h3, h2.trans h4⟩
theorem flat_length {css : List (List Value)} {sz : Nat} (h : ∀ c ∈ css, c.length = sz) : css.flatten.length = css.length * sz := by
  induction css with
  | nil => simp
  | cons c r ih =>
    rw [List.flatten_cons, List.length_append, h c (by simp), ih (fun x hx => h x (by simp [hx])), List.length_cons, Nat.add_mul, Nat.one_mul, Nat.add_comm]
theorem raw_flat {sz e : Nat} {w : World} {base : Nat} {ok : Nat → Prop} {v : Value} {css : List (List Value)} (h : (Kd.raw sz).R e w base ok v css) :
    (∀ k, v.ownBlock = some k → ok k) ∧ w.ownsRow base e sz v css.length css.flatten ∧ ∀ c ∈ css, c.length = sz ∧ ∀ u ∈ c, u.oneCell' = true := by
  obtain ⟨h0, inner, ho, hl, hr⟩ := h
  have hc : ∀ c ∈ css, c.length = sz ∧ ∀ u ∈ c, u.oneCell' = true := fun c hc => by
    obtain ⟨j, hj, rfl⟩ := List.getElem_of_mem hc
    obtain ⟨_, h2, h3⟩ := hr j _ (List.getElem?_eq_getElem hj)
    obtain ⟨e1, e2, e3⟩ := hr j _ (List.getElem?_eq_getElem hj)
    rw [e1] at e2 e3
    exact ⟨e2, e3⟩
  have hf : inner = css.flatten := by
    clear ho h0
    have hl' : inner.length = css.length * sz := hl
    have hr' : ∀ (j : Nat) (c : List Value), css[j]? = some c → (inner.drop (j * sz)).take sz = c := fun j c hj => (hr j c hj).1
    clear hl hr hc
    induction css generalizing inner with
    | nil => simp at hl'; rw [hl']; rfl
    | cons c r ih =>
      have h1 := hr' 0 c rfl
      rw [Nat.zero_mul, List.drop_zero] at h1
      rw [List.flatten_cons, ← h1, ← ih (inner := inner.drop sz) (by rw [List.length_drop, hl', List.length_cons, Nat.add_mul]; omega) (fun j x hj => by
        have := hr' (j + 1) x (by simpa using hj)
        rw [List.drop_drop]
        rw [Nat.add_mul, Nat.one_mul, Nat.add_comm] at this
        exact this)]
      exact (List.take_append_drop sz inner).symm
  exact ⟨h0, hf ▸ ho, hc⟩
theorem flat_at {css : List (List Value)} {sz : Nat} (h : ∀ c ∈ css, c.length = sz) {j : Nat} {c : List Value} (hj : css[j]? = some c) : (css.flatten.drop (j * sz)).take sz = c := by
  induction css generalizing j with
  | nil => simp at hj
  | cons x r ih =>
    cases j with
    | zero =>
      obtain rfl : x = c := by simpa using hj
      rw [Nat.zero_mul, List.drop_zero, List.flatten_cons, ← h x (by simp)]
      simp
    | succ j =>
      rw [List.flatten_cons, Nat.add_mul, Nat.one_mul, Nat.add_comm, ← List.drop_drop]
      have h1 : (x ++ r.flatten).drop sz = r.flatten := by rw [← h x (by simp)]; simp
      rw [h1]
      exact ih (fun y hy => h y (by simp [hy])) (by simpa using hj)
theorem flat_raw {sz e : Nat} {w : World} {base : Nat} {ok : Nat → Prop} {v : Value} {css : List (List Value)} (h0 : ∀ k, v.ownBlock = some k → ok k) (ho : w.ownsRow base e sz v css.length css.flatten)
    (hc : ∀ c ∈ css, c.length = sz ∧ ∀ u ∈ c, u.oneCell' = true) : (Kd.raw sz).R e w base ok v css :=
  ⟨h0, css.flatten, ho, flat_length (fun c hx => (hc c hx).1), fun j c hj => by
    have hm := List.mem_of_getElem? hj
    have he := flat_at (fun c hx => (hc c hx).1) hj
    have h1 := hc c hm
    show (css.flatten.drop (j * sz)).take sz = c ∧ ((css.flatten.drop (j * sz)).take sz).length = sz ∧ ∀ u ∈ (css.flatten.drop (j * sz)).take sz, u.oneCell' = true
    rw [he]
    exact ⟨rfl, h1⟩⟩
theorem own_cut {W : World} {base e size g n m cap : Nat} {xs : List Value} (h : W.ownsRow base e size (.slice (some ⟨g, 0, none⟩) n cap) n xs) (hm : m ≤ n) : W.ownsRow base e size (.slice (some ⟨g, 0, none⟩) m cap) m (xs.take (m * size)) := by
  obtain ⟨h1, h2⟩ := h
  have hle : m * size ≤ n * size := Nat.mul_le_mul_right _ hm
  refine ⟨by rw [List.length_take, h1, Nat.min_eq_left hle], ?_⟩
  rcases h2 with ⟨h', _⟩ | ⟨g', cap', cur, hv, hb, hh, hnc, hcm, hcs, htk⟩
  · cases h'
  · injection hv with hv1 _ hv3
    injection hv1 with hv1
    injection hv1 with hv1
    subst hv1 hv3
    refine .inr ⟨g, cap, cur, rfl, hb, hh, by omega, hcm, hcs, ?_⟩
    rw [← htk, List.take_take, Nat.min_eq_left hle]
end Go.Proofs.YtehlmkgldcfciaaGreat.Common
