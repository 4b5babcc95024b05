/- Tables of addresses: what is found, and what Brief leaves. Plain lists. -/
import Derived.Test.YtchkhnhmpgkpeaaLib11
import Derived.Test.YtchkhnhmpgkpeaaPx0
import Derived.Test.YtchkhnhmpgkpeaaPx18
import Derived.Test.YtchkhnhmpgkpeaaPx21
set_option linter.unusedVariables false
set_option linter.unusedSimpArgs false
namespace Go.Proofs.Ytchkhnhmpgkpeaa.P
open Go.RowKit Go.Proofs.YtchkhnhmpgkpeaaW.PrintWords Go.Proofs.Ytchkhnhmpgkpeaa.EvLib Go.Proofs.Ytchkhnhmpgkpeaa.Common

theorem beg_iff {p a : List Int} : beg p a = true ↔ p.length ≤ a.length ∧ a.take p.length = p := by simp [beg]
theorem beg_len_eq {p q a : List Int} (h : beg p a = true) (k : beg q a = true) (hl : p.length = q.length) : p = q := by
 rw [beg_iff] at *
 rw [← h.2, ← k.2, hl]

/-- A table. -/
def Tab (t : List S35) : Prop := t.length ≤ 100 ∧ (∀ x ∈ t, okE x.f0 x.f1 = true) ∧ t.Pairwise fun x y => cmpL x.f0 y.f0 < 0
theorem tab_of {t : List S35} (h : isTab t = true) : Tab t := by
 simp only [isTab, Bool.and_eq_true, decide_eq_true_eq] at h
 obtain ⟨h1, h2⟩ := h
 refine ⟨h1, fun x hx => ?_, ?_⟩
 ·obtain ⟨i, hi, rfl⟩ := mem_getD z35 hx
  have := h2 i hi
  simp only [okAt, Bool.and_eq_true] at this
  exact this.1
 ·have adj : ∀ j, j + 1 < t.length → cmpL (t.getD j z35).f0 (t.getD (j + 1) z35).f0 < 0 := fun j hj => by
   have := h2 (j + 1) hj
   simp only [okAt, Bool.and_eq_true, Bool.or_eq_true, decide_eq_true_eq] at this
   rcases this.2 with h | h
   ·omega
   ·exact h
  have far : ∀ d i, i + d + 1 < t.length → cmpL (t.getD i z35).f0 (t.getD (i + d + 1) z35).f0 < 0 := by
   intro d
   induction d with
   | zero => exact fun i hi => adj i hi
   | succ d ih => exact fun i hi => cmpL_trans (ih i (by omega)) (adj (i + d + 1) (by omega))
  rw [List.pairwise_iff_getElem]
  intro i j hi hj hij
  have := far (j - i - 1) i (by omega)
  rw [show i + (j - i - 1) + 1 = j by omega, getD_lt hi, getD_lt hj] at this
  exact this
theorem Tab.erase {t : List S35} (h : Tab t) (i : Nat) : Tab (t.eraseIdx i) :=
 ⟨Nat.le_trans (List.length_eraseIdx_le _ _) h.1, fun x hx => h.2.1 x (List.mem_of_mem_eraseIdx hx), h.2.2.sublist (List.eraseIdx_sublist _ _)⟩
theorem Tab.pre {t : List S35} (h : Tab t) {x : S35} (hx : x ∈ t) : x.f0.length ≤ 10 := by
 have := h.2.1 x hx
 simp only [okE, Bool.and_eq_true] at this
 exact isPre_len this.1
theorem Tab.place {t : List S35} (h : Tab t) {i j : Nat} (hi : i < t.length) (hj : j < t.length) (he : t[i].f0 = t[j].f0) : i = j := by
 have hp := List.pairwise_iff_getElem.1 h.2.2
 rcases Nat.lt_trichotomy i j with hl | hl | hl
 ·have := hp i j hi hj hl
  rw [he, cmpL_zero.2 rfl] at this
  omega
 ·exact hl
 ·have := hp j i hj hi hl
  rw [he, cmpL_zero.2 rfl] at this
  omega
theorem Tab.inj {t : List S35} (h : Tab t) {x y : S35} (hx : x ∈ t) (hy : y ∈ t) (he : x.f0 = y.f0) : x = y := by
 obtain ⟨i, hi, rfl⟩ := List.getElem_of_mem hx
 obtain ⟨j, hj, rfl⟩ := List.getElem_of_mem hy
 obtain rfl := h.place hi hj he
 rfl
/-- An entry changes nothing: the longest of those that are proper beginnings of it leads where it leads. -/
def Rem (t : List S35) (x : S35) : Prop := ∃ y, y ∈ t ∧ beg y.f0 x.f0 = true ∧ y.f0.length < x.f0.length ∧ (∀ z ∈ t, beg z.f0 x.f0 = true → z.f0.length < x.f0.length → z.f0.length ≤ y.f0.length) ∧ y.f1 = x.f1
/-- A search's best place, as an entry. -/
theorem best_entry {t : List S35} {a : List Int} {most : Int} {m : Nat} (h : IsBest (candAt t a most) (lenAt t) t.length m) : ∃ hm : m < t.length, beg t[m].f0 a = true ∧ (t[m].f0.length : Int) ≤ most ∧
  ∀ y ∈ t, beg y.f0 a = true → (y.f0.length : Int) ≤ most → y.f0.length ≤ t[m].f0.length := by
 rcases h with ⟨h1, _⟩ | ⟨m', h1, h2, h3, _, h5⟩
 ·omega
 ·obtain rfl : m = m' := by omega
  simp only [candAt, lenAt, getD_lt h2] at h3
  refine ⟨h2, h3.2, h3.1, fun y hy hb hl => ?_⟩
  obtain ⟨j, hj, rfl⟩ := List.getElem_of_mem hy
  have := h5 j hj ⟨by rw [getD_lt hj]; exact hl, by rw [getD_lt hj]; exact hb⟩
  simp only [lenAt, getD_lt hj, getD_lt h2] at this
  exact this
theorem best_none {t : List S35} {a : List Int} {most : Int} {r : Int} (h : IsBest (candAt t a most) (lenAt t) t.length r) (hr : r < 0) : ∀ y ∈ t, beg y.f0 a = true → ¬ (y.f0.length : Int) ≤ most := by
 rcases h with ⟨_, h2⟩ | ⟨m, h1, _⟩
 ·intro y hy hb hl
  obtain ⟨j, hj, rfl⟩ := List.getElem_of_mem hy
  exact h2 j hj ⟨by rw [getD_lt hj]; exact hl, by rw [getD_lt hj]; exact hb⟩
 ·omega
/-- A search by a question that answers from some rounds on. -/
theorem ev_idxM {α : Type} {p : Nat → α → Option Bool} {b : α → Bool} : ∀ {l : List α}, (∀ x ∈ l, Ev (fun k => p k x) (b x)) → Ev (fun k => idxM (p k) l) (idxP b l)
 | [], _ => ev_some _
 | x :: xs, h => by
  have ih := ev_idxM (l := xs) (fun y hy => h y (List.mem_cons_of_mem _ hy))
  refine ev_eq (fun k => by rw [idxM]) (ev_bind (h x List.mem_cons_self) ?_)
  rw [idxP]
  cases b x with
  | true => exact ev_pos rfl (ev_some _)
  | false => exact ev_neg (by simp) (ev_bind ih (ev_some_eq (by simp)))
open Classical in
theorem lit_ev (t : List S35) (ht : Tab t) (x : S35) (hx : x ∈ t) : Ev (fun k => address_Brief_1.f k (t.map e28) x.f0 x.f1) (decide (Rem t x)) := by
 have hxl := ht.pre hx
 obtain ⟨r, hr, hb⟩ := find_ev t x.f0 ((x.f0.length : Int) - 1) (by have := ht.1; omega) (by omega)
 unfold address_Brief_1.f
 refine ev_bind hr ?_
 by_cases h0 : 0 ≤ r
 ·obtain ⟨m, rfl, hm⟩ := best_nat hb (by omega)
  obtain ⟨_, h1, h2, h3⟩ := best_entry hb
  refine ev_pos h0 (ev_pos (by simp; omega) (ev_some_eq ?_))
  rw [rd28, map28, getD_lt hm, Bool.eq_iff_iff, beq_iff_eq, decide_eq_true_iff]
  show t[m].f1 = x.f1 ↔ _
  constructor
  ·exact fun e => ⟨t[m], List.getElem_mem hm, h1, by omega, fun z hz hbz hl => h3 z hz hbz (by omega), e⟩
  ·rintro ⟨y, y1, y2, y3, y4, y5⟩
   have a1 := y4 t[m] (List.getElem_mem hm) h1 (by omega)
   have a2 := h3 y y1 y2 (by omega)
   rw [ht.inj (List.getElem_mem hm) y1 (beg_len_eq h1 y2 (by omega)), y5]
 ·refine ev_neg h0 (ev_some_eq ?_)
  symm
  rw [decide_eq_false_iff_not]
  rintro ⟨y, y1, y2, y3, _⟩
  exact best_none hb (by omega) y y1 y2 (by omega)
theorem erase_map (t : List S35) (i : Nat) : (t.map e28).eraseIdx i = (t.eraseIdx i).map e28 := by
 rw [List.eraseIdx_eq_take_drop_succ, List.eraseIdx_eq_take_drop_succ, List.map_append, List.map_take, List.map_drop]
theorem back_ev (t : List S35) (ht : t.length < 4398046511104) : Ev (fun k => heptadlaw11_back.f k (t.map e28)) t := by
 have loop : ∀ i, i ≤ t.length → Ev (fun k => heptadlaw11_back.l0 k (t.map e28) (t.take i) (i : Int)) t := by
  refine up_ind ?_ ?_
  ·exact ev_step (fun k => heptadlaw11_back.l0.eq_2 _ _ _ k) (ev_neg (by simp) (ev_some_eq (by rw [List.take_of_length_le (Nat.le_refl _)])))
  ·intro i hi ih
   refine ev_step (fun k => heptadlaw11_back.l0.eq_2 _ _ _ k) (ev_pos (by simp; omega) (ev_pos (by omega) (ev_pos (by simp; omega) ?_)))
   rw [rd28, map28, wrap_succ hi (by omega)]
   have e : t.take i ++ [(⟨(e28 (t.getD i z35)).f0, (e28 (t.getD i z35)).f1⟩ : S35)] = t.take (i + 1) := by
    rw [List.take_succ_eq_append_getElem hi, getD_lt hi]
    rfl
   rw [e]
   exact ih
 exact loop 0 (by omega)
end Go.Proofs.Ytchkhnhmpgkpeaa.P
