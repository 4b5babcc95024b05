/- Rows of the call's own as plain cells: several cells stored at once, an element taken out. -/
import Derived.Test.YtehlmkgldcfciaaDoorCommon
import Derived.Laws.IdiomCopy
import Derived.Laws.OwnMore
import Derived.Deep.RegionLaw
import Derived.Lib.SliceRun
import Derived.Lib.Hide
set_option linter.unusedVariables false
set_option linter.unusedSimpArgs false
namespace Go.Proofs.YtehlmkgldcfciaaDoor.Common
open Go.RowKit Go.Proofs.YtehlmkgldcfciaaDoorW.PrintWords Go.Proofs.YtehlmkgldcfciaaDoorW.PrintLast Go.Proofs.YtehlmkgldcfciaaDoorW.PrintMore

/-- Values laid from place o on. -/
def layV (xs : List Value) (o : Nat) : List Value → List Value
  | [] => xs
  | v :: r => layV (xs.set o v) (o + 1) r
theorem layV_eq : ∀ (vs xs : List Value) (o : Nat), o + vs.length ≤ xs.length → layV xs o vs = xs.take o ++ vs ++ xs.drop (o + vs.length)
  | [], xs, o, h => by simp [layV]
  | v :: r, xs, o, h => by
    simp only [List.length_cons] at h
    rw [layV, layV_eq r (xs.set o v) (o + 1) (by rw [List.length_set]; omega)]
    rw [List.take_set, List.drop_set_of_lt (by omega), List.take_succ_eq_append_getElem (show o < xs.length by omega), List.set_append_right _ _ (by simp; omega)]
    simp [Nat.min_eq_left (show o ≤ xs.length by omega)]
    omega
theorem own_setCells {base e size g n cap : Nat} : ∀ (vs : List Value) (o : Nat) (W : World) (xs : List Value), W.ownsRow base e size (.slice (some ⟨g, 0, none⟩) n cap) n xs →
    (W.setCells g o vs).ownsRow base e size (.slice (some ⟨g, 0, none⟩) n cap) n (layV xs o vs) ∧ W.grownBy (W.setCells g o vs) (some g)
  | [], o, W, xs, h => ⟨h, World.grownBy.refl _ _⟩
  | v :: r, o, W, xs, h => by
    obtain ⟨h1, h2⟩ := h.stored o v
    obtain ⟨h3, h4⟩ := own_setCells r (o + 1) _ _ h1
    exact ⟨h3, h2.trans h4⟩
theorem flat_length {css : List (List Value)} {sz : Nat} (h : ∀ c ∈ css, c.length = sz) : css.flatten.length = css.length * sz := by
  induction css with
  | nil => simp
  | cons c r ih =>
    rw [List.flatten_cons, List.length_append, h c (by simp), ih (fun x hx => h x (by simp [hx])), List.length_cons, Nat.add_mul, Nat.one_mul, Nat.add_comm]
/-- A raw row: its cells are the elements' in line. -/
theorem raw_flat {sz e : Nat} {w : World} {base : Nat} {ok : Nat → Prop} {v : Value} {css : List (List Value)} (h : (Kd.raw sz).R e w base ok v css) :
    (∀ k, v.ownBlock = some k → ok k) ∧ w.ownsRow base e sz v css.length css.flatten ∧ ∀ c ∈ css, c.length = sz ∧ ∀ u ∈ c, u.oneCell' = true := by
  obtain ⟨h0, inner, ho, hl, hr⟩ := h
  have hc : ∀ c ∈ css, c.length = sz ∧ ∀ u ∈ c, u.oneCell' = true := fun c hc => by
    obtain ⟨j, hj, rfl⟩ := List.getElem_of_mem hc
    obtain ⟨_, h2, h3⟩ := hr j _ (List.getElem?_eq_getElem hj)
    obtain ⟨e1, e2, e3⟩ := hr j _ (List.getElem?_eq_getElem hj)
    rw [e1] at e2 e3
    exact ⟨e2, e3⟩
  have hf : inner = css.flatten := by
    clear ho h0
    have hl' : inner.length = css.length * sz := hl
    have hr' : ∀ (j : Nat) (c : List Value), css[j]? = some c → (inner.drop (j * sz)).take sz = c := fun j c hj => (hr j c hj).1
    clear hl hr hc
    induction css generalizing inner with
    | nil => simp at hl'; rw [hl']; rfl
    | cons c r ih =>
      have h1 := hr' 0 c rfl
      rw [Nat.zero_mul, List.drop_zero] at h1
      rw [List.flatten_cons, ← h1, ← ih (inner := inner.drop sz) (by rw [List.length_drop, hl', List.length_cons, Nat.add_mul]; omega) (fun j x hj => by
        have := hr' (j + 1) x (by simpa using hj)
        rw [List.drop_drop]
        rw [Nat.add_mul, Nat.one_mul, Nat.add_comm] at this
        exact this)]
      exact (List.take_append_drop sz inner).symm
  exact ⟨h0, hf ▸ ho, hc⟩
theorem flat_at {css : List (List Value)} {sz : Nat} (h : ∀ c ∈ css, c.length = sz) {j : Nat} {c : List Value} (hj : css[j]? = some c) : (css.flatten.drop (j * sz)).take sz = c := by
  induction css generalizing j with
  | nil => simp at hj
  | cons x r ih =>
    cases j with
    | zero =>
      obtain rfl : x = c := by simpa using hj
      rw [Nat.zero_mul, List.drop_zero, List.flatten_cons, ← h x (by simp)]
      simp
    | succ j =>
      rw [List.flatten_cons, Nat.add_mul, Nat.one_mul, Nat.add_comm, ← List.drop_drop]
      have h1 : (x ++ r.flatten).drop sz = r.flatten := by rw [← h x (by simp)]; simp
      rw [h1]
      exact ih (fun y hy => h y (by simp [hy])) (by simpa using hj)
theorem flat_raw {sz e : Nat} {w : World} {base : Nat} {ok : Nat → Prop} {v : Value} {css : List (List Value)} (h0 : ∀ k, v.ownBlock = some k → ok k) (ho : w.ownsRow base e sz v css.length css.flatten)
    (hc : ∀ c ∈ css, c.length = sz ∧ ∀ u ∈ c, u.oneCell' = true) : (Kd.raw sz).R e w base ok v css :=
  ⟨h0, css.flatten, ho, flat_length (fun c hx => (hc c hx).1), fun j c hj => by
    have hm := List.mem_of_getElem? hj
    have he := flat_at (fun c hx => (hc c hx).1) hj
    have h1 := hc c hm
    show (css.flatten.drop (j * sz)).take sz = c ∧ ((css.flatten.drop (j * sz)).take sz).length = sz ∧ ∀ u ∈ (css.flatten.drop (j * sz)).take sz, u.oneCell' = true
    rw [he]
    exact ⟨rfl, h1⟩⟩
/-- One element taken out: what stood behind it laid over it, z over the last. -/
theorem delete_flat {css : List (List Value)} {sz i : Nat} (h : ∀ c ∈ css, c.length = sz) (hi : i < css.length) (z : List Value) (hz : z.length = sz) :
    (layV (layV css.flatten (i * sz) (css.drop (i + 1)).flatten) ((css.length - 1) * sz) z).take ((css.length - 1) * sz) = (css.eraseIdx i).flatten := by
  have hT : (css.take i).flatten.length = i * sz := by rw [flat_length (fun c hc => h c (List.mem_of_mem_take hc)), List.length_take, Nat.min_eq_left (by omega)]
  have hD : (css.drop (i + 1)).flatten.length = (css.length - (i + 1)) * sz := by rw [flat_length (fun c hc => h c (List.mem_of_mem_drop hc)), List.length_drop]
  have hL := flat_length h
  have hm : css.length * sz = i * sz + (sz + (css.length - (i + 1)) * sz) := by
    rw [show sz + (css.length - (i + 1)) * sz = (css.length - (i + 1) + 1) * sz by rw [Nat.add_mul, Nat.one_mul, Nat.add_comm], ← Nat.add_mul]
    congr 1
    omega
  have hm1 : (css.length - 1) * sz = i * sz + (css.length - (i + 1)) * sz := by rw [← Nat.add_mul]; congr 1; omega
  have hsplit : css.flatten = (css.take i).flatten ++ (css.drop i).flatten := by rw [← List.flatten_append, List.take_append_drop]
  have ht : css.flatten.take (i * sz) = (css.take i).flatten := by rw [hsplit, ← hT]; simp
  have hl1 : layV css.flatten (i * sz) (css.drop (i + 1)).flatten = (css.take i).flatten ++ (css.drop (i + 1)).flatten ++ css.flatten.drop (i * sz + (css.drop (i + 1)).flatten.length) := by
    rw [layV_eq _ _ _ (by rw [hD, hL]; omega), ht]
  have hAB : ((css.take i).flatten ++ (css.drop (i + 1)).flatten).length = (css.length - 1) * sz := by rw [List.length_append, hT, hD, hm1]
  rw [hl1, layV_eq _ _ _ (by rw [List.length_append, hAB, List.length_drop, hL, hD, hz]; omega)]
  rw [List.take_append_of_le_length (by simp only [List.length_append, List.length_take, hAB, List.length_drop, hL, hz, hD]; omega), List.take_append_of_le_length (by rw [List.length_take, List.length_append, hAB]; omega), List.take_take, Nat.min_self, List.take_append_of_le_length (by omega), ← hAB, List.take_length,
    List.eraseIdx_eq_take_drop_succ, List.flatten_append]
/-- A row cut shorter, within its block. -/
theorem own_cut {W : World} {base e size g n m cap : Nat} {xs : List Value} (h : W.ownsRow base e size (.slice (some ⟨g, 0, none⟩) n cap) n xs) (hm : m ≤ n) : W.ownsRow base e size (.slice (some ⟨g, 0, none⟩) m cap) m (xs.take (m * size)) := by
  obtain ⟨h1, h2⟩ := h
  have hle : m * size ≤ n * size := Nat.mul_le_mul_right _ hm
  refine ⟨by rw [List.length_take, h1, Nat.min_eq_left hle], ?_⟩
  rcases h2 with ⟨h', _⟩ | ⟨g', cap', cur, hv, hb, hh, hnc, hcm, hcs, htk⟩
  · cases h'
  · injection hv with hv1 _ hv3
    injection hv1 with hv1
    injection hv1 with hv1
    subst hv1 hv3
    refine .inr ⟨g, cap, cur, rfl, hb, hh, by omega, hcm, hcs, ?_⟩
    rw [← htk, List.take_take, Nat.min_eq_left hle]
/-- 'clear(s)', s one element of k cells. -/
theorem run_clear_one {P : Program} (w : World) (t e ty : TypeId) (z : Value) (ht : P.underlying t = some (.slice e)) (hv : ∀ w, (zeroValue e).run P w = .ok z w) (h1 : ∀ u ∈ z.cells.toList, u.oneCell' = true) (b o c : Nat) (hz0 : 0 < z.cells.size)
    (hc : ∀ j, j < z.cells.size → (w.cell? ⟨b, o + j, none⟩).isSome = true) (hf : ∀ j, j < z.cells.size → w.frozen? ⟨b, o + j, none⟩ = false) :
    (Builtin.clear_ #[t] ty #[.slice (some ⟨b, o, none⟩) 1 c]).run P w = .ok (.tuple #[]) (w.setCells b o z.cells.toList) := by
  have hzc : (Builtin.zeroCells z.cells 1).toList = z.cells.toList := by
    apply List.ext_getElem
    · simp [Builtin.zeroCells]
    · intro i h1 h2
      simp only [Array.length_toList] at h2
      simp [Builtin.zeroCells, Nat.mod_eq_of_lt h2, getElem!_pos z.cells i h2]
  have hst := run_storeCells_cells (P := P) b o z.cells.toList 0 w (by simpa using hc) (by simpa using hf) h1
  simp only [Nat.add_zero] at hst
  simp [Builtin.clear_, run_underlying ht, hv, hzc, hst]
/-- A row of the call's own, as its cells. -/
theorem raw_of_R {α : Type} {d : Kd α} {e : Nat} {w : World} {base : Nat} {ok : Nat → Prop} {v : Value} {xs : List α} (h : d.R e w base ok v xs) :
    ∃ css : List (List Value), css.length = xs.length ∧ (Kd.raw d.sz).R e w base ok v css ∧ ∀ (j : Nat) (x : α) (c : List Value), xs[j]? = some x → css[j]? = some c → d.M w base (fun k => ok k ∧ some k ≠ v.ownBlock) x c := by
  obtain ⟨h0, inner, ho, hl, hr⟩ := h
  have hch : ∀ j : Nat, j < xs.length → ((inner.drop (j * d.sz)).take d.sz).length = d.sz ∧ ∀ u ∈ (inner.drop (j * d.sz)).take d.sz, u.oneCell' = true := fun j hj => by
    have hk := d.K_of_M (hr j _ (List.getElem?_eq_getElem hj))
    exact ⟨d.K_len hk, d.K_one hk⟩
  have hat : ∀ (j : Nat) (c : List Value), (List.ofFn fun j : Fin xs.length => (inner.drop (j.val * d.sz)).take d.sz)[j]? = some c → j < xs.length ∧ c = (inner.drop (j * d.sz)).take d.sz := fun j c hj => by
    rw [List.getElem?_ofFn] at hj
    split at hj
    · rename_i h
      injection hj with hj
      exact ⟨h, hj.symm⟩
    · cases hj
  refine ⟨List.ofFn fun j : Fin xs.length => (inner.drop (j.val * d.sz)).take d.sz, by simp, ⟨h0, inner, by rw [List.length_ofFn]; exact ho, by rw [List.length_ofFn]; exact hl, fun j c hj => ?_⟩, fun j x c hj hc => ?_⟩
  · obtain ⟨hjl, rfl⟩ := hat j c hj
    exact ⟨rfl, (hch j hjl).1, (hch j hjl).2⟩
  · obtain ⟨hjl, rfl⟩ := hat j c hc
    exact hr j x hj
/-- One element taken out of such a row. -/
theorem R_erased {α : Type} {d : Kd α} {e : Nat} {w w' : World} {base g n cap i : Nat} {ok : Nat → Prop} {xs : List α} {css : List (List Value)} (hl : css.length = xs.length)
    (hM : ∀ (j : Nat) (x : α) (c : List Value), xs[j]? = some x → css[j]? = some c → d.M w base (fun k => ok k ∧ some k ≠ (Value.slice (some ⟨g, 0, none⟩) n cap).ownBlock) x c)
    (hr : (Kd.raw d.sz).R e w' base ok (.slice (some ⟨g, 0, none⟩) (n - 1) cap) (css.eraseIdx i)) (hg : w.grownBy w' (some g)) : d.R e w' base ok (.slice (some ⟨g, 0, none⟩) (n - 1) cap) (xs.eraseIdx i) := by
  refine R_of_raw (d := d) hr (by rw [List.length_eraseIdx, List.length_eraseIdx, hl]) (fun j x c hj hc => ?_)
  rw [List.getElem?_eraseIdx] at hj hc
  have key : ∀ j : Nat, xs[j]? = some x → css[j]? = some c → d.M w' base (fun k => ok k ∧ some k ≠ (Value.slice (some ⟨g, 0, none⟩) (n - 1) cap).ownBlock) x c := fun j hj hc => by
    refine Kd.M_grown (hM j x c hj hc) hg (fun k hk => ?_)
    have := hk.2
    simpa [Value.ownBlock] using this
  by_cases h : j < i
  · rw [if_pos h] at hj hc
    exact key j hj hc
  · rw [if_neg h] at hj hc
    exact key (j + 1) hj hc
theorem idxM_mono {α : Type} {p q : α → Option Bool} (h : ∀ x, LeO (p x) (q x)) : ∀ l : List α, LeO (idxM p l) (idxM q l)
  | [] => LeO.refl _
  | x :: xs => by
    rw [idxM, idxM]
    exact LeO.bind (h x) (fun b => LeO.ite (LeO.refl _) (LeO.bind (idxM_mono h xs) (fun _ => LeO.refl _)))
end Go.Proofs.YtehlmkgldcfciaaDoor.Common
