/- Rules for 'from some number of rounds on, the printed function answers r'. -/
import Derived.Test.YtchkhnhmpgkpeaaDoorCommon
set_option linter.unusedVariables false
set_option linter.unusedSimpArgs false
namespace Go.Proofs.YtchkhnhmpgkpeaaDoor.EvLib
open Go.RowKit Go.Proofs.YtchkhnhmpgkpeaaDoorW.PrintWords

section
variable {α β : Type}
theorem ev_some (r : α) : Ev (fun _ => some r) r := ⟨0, fun _ _ => rfl⟩
theorem ev_some_eq {r r' : α} (h : r = r') : Ev (fun _ => some r) r' := h ▸ ev_some r
theorem ev_pos {c : Prop} [Decidable c] {f g : Nat → Option α} {r : α} (hc : c) (h : Ev f r) : Ev (fun k => if c then f k else g k) r := by
  obtain ⟨K, h⟩ := h
  exact ⟨K, fun k hk => by simp only [if_pos hc]; exact h k hk⟩
theorem ev_neg {c : Prop} [Decidable c] {f g : Nat → Option α} {r : α} (hc : ¬ c) (h : Ev g r) : Ev (fun k => if c then f k else g k) r := by
  obtain ⟨K, h⟩ := h
  exact ⟨K, fun k hk => by simp only [if_neg hc]; exact h k hk⟩
theorem ev_ite {c : Prop} [Decidable c] {f g : Nat → Option α} {r : α} (h1 : c → Ev f r) (h2 : ¬ c → Ev g r) : Ev (fun k => if c then f k else g k) r := by
  by_cases hc : c
  · exact ev_pos hc (h1 hc)
  · exact ev_neg hc (h2 hc)
theorem ev_bind {g : Nat → Option α} {f : Nat → α → Option β} {a : α} {r : β} (h : Ev g a) (k : Ev (fun n => f n a) r) : Ev (fun n => (g n).bind (f n)) r := Ev.bind h k
theorem ev_bind0 {x : Option α} {f : Nat → α → Option β} {a : α} {r : β} (h : x = some a) (k : Ev (fun n => f n a) r) : Ev (fun n => x.bind (f n)) r := by
  obtain ⟨K, k⟩ := k
  subst h
  exact ⟨K, fun n hn => k n hn⟩
theorem ev_step {g f : Nat → Option α} {r : α} (h : ∀ k, g (k + 1) = f k) (k : Ev f r) : Ev g r := Ev.step h k
theorem ev_eq {g f : Nat → Option α} {r : α} (h : ∀ k, g k = f k) (k : Ev f r) : Ev g r := by
  obtain ⟨K, k⟩ := k
  exact ⟨K, fun n hn => by rw [h]; exact k n hn⟩
theorem ev_at {g : Nat → Option α} {r : α} (h : Ev g r) : ∃ k, g k = some r := by
  obtain ⟨K, h⟩ := h
  exact ⟨K, h K (Nat.le_refl _)⟩
theorem ev_of {g : Nat → Option α} {r : α} (hm : ∀ k, LeO (g k) (g (k + 1))) {k : Nat} (h : g k = some r) : Ev g r := Ev.of hm h
theorem ev_cast {g : Nat → Option α} {r r' : α} (h : Ev g r) (e : r = r') : Ev g r' := e ▸ h
end

theorem wrap_in {i : Int} (h0 : -9223372036854775808 ≤ i) (h1 : i ≤ 9223372036854775807) : wrap64 i = i := by unfold wrap64; omega
theorem wrap_succ {i n : Nat} (h : i < n) (hn : n ≤ 9223372036854775807) : wrap64 ((i : Int) + 1) = ((i + 1 : Nat) : Int) := by rw [wrap_in (by omega) (by omega)]; omega
theorem wrap_pred {i n : Nat} (h : i < n) (hn : n ≤ 9223372036854775807) (h0 : 0 < i) : wrap64 ((i : Int) - 1) = ((i - 1 : Nat) : Int) := by rw [wrap_in (by omega) (by omega)]; omega
theorem rd_nat (xs : List Int) (i : Nat) : rd xs (i : Int) = xs.getD i 0 := by simp [rd]
theorem getD_mem {α : Type} {xs : List α} {i : Nat} {d : α} (h : i < xs.length) : xs.getD i d ∈ xs := by
  rw [List.getD_eq_getElem?_getD, List.getElem?_eq_getElem h]; exact List.getElem_mem h
theorem getD_lt {α : Type} {xs : List α} {i : Nat} {d : α} (h : i < xs.length) : xs.getD i d = xs[i] := by
  rw [List.getD_eq_getElem?_getD, List.getElem?_eq_getElem h]; rfl
theorem mem_getD {α : Type} {xs : List α} {x : α} (d : α) (h : x ∈ xs) : ∃ i, i < xs.length ∧ xs.getD i d = x := by
  obtain ⟨i, hi, rfl⟩ := List.getElem_of_mem h
  exact ⟨i, hi, getD_lt hi⟩
/-- A loop over the places from i on: what is left goes down by one a round. -/
theorem up_ind {n : Nat} {P : Nat → Prop} (h0 : P n) (h1 : ∀ i, i < n → P (i + 1) → P i) : ∀ i, i ≤ n → P i := by
  intro i hi
  obtain ⟨d, hd⟩ : ∃ d, n - i = d := ⟨_, rfl⟩
  induction d generalizing i with
  | zero => obtain rfl : i = n := by omega
            exact h0
  | succ d ih => exact h1 i (by omega) (ih (i + 1) (by omega) (by omega))

/-! Lists of numbers in order: number by number, a beginning is less. -/
def cmpL : List Int → List Int → Int
  | [], [] => 0
  | [], _ :: _ => -1
  | _ :: _, [] => 1
  | x :: xs, y :: ys => if x < y then -1 else if y < x then 1 else cmpL xs ys
theorem cmpL_zero : ∀ {p q : List Int}, cmpL p q = 0 ↔ p = q
  | [], [] => by simp [cmpL]
  | [], _ :: _ => by simp [cmpL]
  | _ :: _, [] => by simp [cmpL]
  | x :: xs, y :: ys => by
    rw [cmpL]
    split
    · simp; omega
    · split
      · simp; omega
      · rw [cmpL_zero, List.cons.injEq]
        exact ⟨fun h => ⟨by omega, h⟩, fun h => h.2⟩
theorem cmpL_range : ∀ (p q : List Int), cmpL p q = -1 ∨ cmpL p q = 0 ∨ cmpL p q = 1
  | [], [] => by simp [cmpL]
  | [], _ :: _ => by simp [cmpL]
  | _ :: _, [] => by simp [cmpL]
  | x :: xs, y :: ys => by
    rw [cmpL]
    split
    · simp
    · split
      · simp
      · exact cmpL_range xs ys
theorem cmpL_swap : ∀ (p q : List Int), cmpL q p = - cmpL p q
  | [], [] => by simp [cmpL]
  | [], _ :: _ => by simp [cmpL]
  | _ :: _, [] => by simp [cmpL]
  | x :: xs, y :: ys => by
    rw [cmpL, cmpL]
    by_cases h : x < y
    · rw [if_neg (by omega), if_pos h, if_pos h]; rfl
    · by_cases h2 : y < x
      · rw [if_pos h2, if_neg h, if_pos h2]
      · rw [if_neg h2, if_neg h, if_neg h, if_neg h2]; exact cmpL_swap xs ys
theorem cmpL_trans : ∀ {p q r : List Int}, cmpL p q < 0 → cmpL q r < 0 → cmpL p r < 0
  | [], [], _, h, _ => by simp [cmpL] at h
  | [], _ :: _, [], _, h => by simp [cmpL] at h
  | [], _ :: _, _ :: _, _, _ => by simp [cmpL]
  | _ :: _, [], _, h, _ => by simp [cmpL] at h
  | _ :: _, _ :: _, [], _, h => by simp [cmpL] at h
  | x :: xs, y :: ys, z :: zs, h, k => by
    rw [cmpL] at h k ⊢
    split at h
    · split at k
      · rw [if_pos (by omega)]; decide
      · split at k
        · simp at k
        · rw [if_pos (by omega)]; decide
    · split at h
      · simp at h
      · split at k
        · rw [if_pos (by omega)]; decide
        · split at k
          · simp at k
          · rw [if_neg (by omega), if_neg (by omega)]
            exact cmpL_trans h k
theorem cmpL_drop {p q : List Int} {i : Nat} (hp : i < p.length) (hq : i < q.length) : cmpL (p.drop i) (q.drop i) = if p.getD i 0 < q.getD i 0 then -1 else if q.getD i 0 < p.getD i 0 then 1 else cmpL (p.drop (i + 1)) (q.drop (i + 1)) := by
  rw [List.drop_eq_getElem_cons hp, List.drop_eq_getElem_cons hq, cmpL, getD_lt hp, getD_lt hq]
theorem cmpL_end {p q : List Int} {i : Nat} (h : p.length ≤ i ∨ q.length ≤ i) (hi : i ≤ p.length) (hj : i ≤ q.length) : cmpL (p.drop i) (q.drop i) = if p.length < q.length then -1 else if q.length < p.length then 1 else 0 := by
  rcases Nat.lt_or_ge i p.length with h1 | h1
  · have h2 : q.drop i = [] := List.drop_eq_nil_of_le (by omega)
    rw [h2, List.drop_eq_getElem_cons h1, cmpL, if_neg (by omega), if_pos (by omega)]
  · rw [List.drop_eq_nil_of_le h1]
    rcases Nat.lt_or_ge i q.length with h2 | h2
    · rw [List.drop_eq_getElem_cons h2, cmpL, if_pos (by omega)]
    · rw [List.drop_eq_nil_of_le h2, cmpL, if_neg (by omega), if_neg (by omega)]

theorem lt_succ_elim {n j : Nat} {P : Prop} (hj : j < n + 1) (h1 : j < n → P) (h2 : j = n → P) : P := by
  rcases Nat.lt_or_ge j n with h | h
  · exact h1 h
  · exact h2 (by omega)
theorem idxP_spec {α : Type} (p : α → Bool) : ∀ (l : List α), (Common.idxP p l < 0 → ∀ x ∈ l, p x = false) ∧ ∀ m : Nat, Common.idxP p l = m → ∀ x, l[m]? = some x → p x = true
  | [] => ⟨fun _ x hx => by simp at hx, fun m _ x hx => by simp at hx⟩
  | y :: ys => by
    obtain ⟨h1, h2⟩ := idxP_spec p ys
    have hr := Common.idxP_range p ys
    rw [Common.idxP]
    cases hy : p y with
    | true =>
      refine ⟨fun h => by simp at h, fun m hm x hx => ?_⟩
      simp at hm
      obtain rfl : m = 0 := by omega
      simp at hx
      rw [← hx]; exact hy
    | false =>
      simp only [Bool.false_eq_true, if_false]
      by_cases hn : Common.idxP p ys < 0
      · rw [if_pos hn]
        refine ⟨fun _ x hx => ?_, fun m hm => by omega⟩
        rcases List.mem_cons.1 hx with rfl | hx
        · exact hy
        · exact h1 hn x hx
      · rw [if_neg hn]
        refine ⟨fun h => by omega, fun m hm x hx => ?_⟩
        cases m with
        | zero => omega
        | succ m => exact h2 m (by omega) x (by simpa using hx)
/-- The first of the longest candidates among the first n, or -1. -/
def IsBest (cand : Nat → Prop) (len : Nat → Nat) (n : Nat) (r : Int) : Prop :=
  (r = -1 ∧ ∀ j, j < n → ¬ cand j) ∨ ∃ m : Nat, r = m ∧ m < n ∧ cand m ∧ (∀ j, j < m → cand j → len j < len m) ∧ ∀ j, j < n → cand j → len j ≤ len m
theorem IsBest.start (cand : Nat → Prop) (len : Nat → Nat) : IsBest cand len 0 (-1) := .inl ⟨rfl, fun j hj => by omega⟩
theorem IsBest.skip {cand : Nat → Prop} {len : Nat → Nat} {n : Nat} {r : Int} (h : IsBest cand len n r) (hn : ¬ cand n) : IsBest cand len (n + 1) r := by
  rcases h with ⟨h1, h2⟩ | ⟨m, h1, h2, h3, h4, h5⟩
  · exact .inl ⟨h1, fun j hj => lt_succ_elim hj (fun h => h2 j h) (fun e => e ▸ hn)⟩
  · exact .inr ⟨m, h1, by omega, h3, h4, fun j hj hc => lt_succ_elim hj (fun h => h5 j h hc) (fun e => absurd (e ▸ hc) hn)⟩
theorem IsBest.first {cand : Nat → Prop} {len : Nat → Nat} {n : Nat} {r : Int} (h : IsBest cand len n r) (hr : r < 0) (hn : cand n) : IsBest cand len (n + 1) n := by
  rcases h with ⟨h1, h2⟩ | ⟨m, h1, _⟩
  · exact .inr ⟨n, rfl, by omega, hn, fun j hj hc => absurd hc (h2 j hj), fun j hj hc => lt_succ_elim hj (fun h => absurd hc (h2 j h)) (fun e => e ▸ Nat.le_refl _)⟩
  · omega
theorem IsBest.more {cand : Nat → Prop} {len : Nat → Nat} {n m : Nat} (h : IsBest cand len n m) (hn : cand n) (hl : len m < len n) : IsBest cand len (n + 1) n := by
  rcases h with ⟨h1, h2⟩ | ⟨m', h1, h2, h3, h4, h5⟩
  · omega
  · obtain rfl : m = m' := by omega
    exact .inr ⟨n, rfl, by omega, hn, fun j hj hc => by have := h5 j hj hc; omega, fun j hj hc => lt_succ_elim hj (fun h => by have := h5 j h hc; omega) (fun e => e ▸ Nat.le_refl _)⟩
theorem IsBest.less {cand : Nat → Prop} {len : Nat → Nat} {n m : Nat} (h : IsBest cand len n m) (hl : len n ≤ len m) : IsBest cand len (n + 1) m := by
  rcases h with ⟨h1, h2⟩ | ⟨m', h1, h2, h3, h4, h5⟩
  · omega
  · obtain rfl : m = m' := by omega
    exact .inr ⟨m, rfl, by omega, h3, h4, fun j hj hc => lt_succ_elim hj (fun h => h5 j h hc) (fun e => e ▸ hl)⟩
theorem IsBest.one {cand : Nat → Prop} {len : Nat → Nat} {n : Nat} {r r' : Int} (h : IsBest cand len n r) (h' : IsBest cand len n r') : r = r' := by
  rcases h with ⟨h1, h2⟩ | ⟨m, h1, h2, h3, h4, h5⟩ <;> rcases h' with ⟨g1, g2⟩ | ⟨m', g1, g2, g3, g4, g5⟩
  · omega
  · exact absurd g3 (h2 m' g2)
  · exact absurd h3 (g2 m h2)
  · have a := h5 m' g2 g3
    have b := g5 m h2 h3
    rcases Nat.lt_trichotomy m m' with h | h | h
    · have := g4 m h h3; omega
    · omega
    · have := h4 m' h g3; omega
end Go.Proofs.YtchkhnhmpgkpeaaDoor.EvLib
