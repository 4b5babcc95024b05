/- What the printed functions of the reference's searches answer: Find, Same, without, Brief. -/
import Derived.Test.YtchkhnhmpgkpeaaLib11d
import Derived.Test.YtchkhnhmpgkpeaaPx0
import Derived.Test.YtchkhnhmpgkpeaaPx9
import Derived.Test.YtchkhnhmpgkpeaaPx14
import Derived.Test.YtchkhnhmpgkpeaaPx15
import Derived.Test.YtchkhnhmpgkpeaaPx16
import Derived.Test.YtchkhnhmpgkpeaaPx17
import Derived.Test.YtchkhnhmpgkpeaaPx18
import Derived.Test.YtchkhnhmpgkpeaaPx19
import Derived.Test.YtchkhnhmpgkpeaaPx20
set_option linter.unusedVariables false
set_option linter.unusedSimpArgs false
namespace Go.Proofs.Ytchkhnhmpgkpeaa.P
open Go.RowKit Go.Proofs.YtchkhnhmpgkpeaaW.PrintWords Go.Proofs.Ytchkhnhmpgkpeaa.EvLib Go.Proofs.Ytchkhnhmpgkpeaa.Common

theorem refFind_ev (t : List S35) (a : List Int) (most : Int) (ht : t.length ≤ 9223372036854775807) (hin : ∀ j, j < t.length → (t.getD j z35).f0.length ≤ 9223372036854775807) :
  ∃ r, Ev (fun k => heptadref11_find.f k t a most) r ∧ IsBest (candAt t a (most - 1)) (lenAt t) t.length r := by
 have loop : ∀ i, i ≤ t.length → ∀ b : Int, IsBest (candAt t a (most - 1)) (lenAt t) i b → ∃ r, Ev (fun k => heptadref11_find.l0 k t a most b (i : Int)) r ∧ IsBest (candAt t a (most - 1)) (lenAt t) t.length r := by
  refine up_ind (P := fun i => ∀ b : Int, IsBest (candAt t a (most - 1)) (lenAt t) i b → ∃ r, Ev (fun k => heptadref11_find.l0 k t a most b (i : Int)) r ∧ IsBest (candAt t a (most - 1)) (lenAt t) t.length r) ?_ ?_
  ·intro b hb
   exact ⟨b, ev_step (fun k => heptadref11_find.l0.eq_2 _ _ _ _ _ k) (ev_neg (by omega) (ev_some _)), hb⟩
  ·intro i hi ih b hb
   have hbeg := refBegins_ev (t.getD i z35).f0 a (hin i hi)
   have next : ∃ b', IsBest (candAt t a (most - 1)) (lenAt t) (i + 1) b' ∧ ∀ r, Ev (fun k => heptadref11_find.l0 k t a most b' ((i + 1 : Nat) : Int)) r →
     Ev (fun k => heptadref11_find.l0 k t a most b (i : Int)) r := by
    by_cases h1 : ((t.getD i z35).f0.length : Int) < most
    ·by_cases h2 : beg (t.getD i z35).f0 a = true
     ·have hc : candAt t a (most - 1) i := ⟨by omega, h2⟩
      by_cases h3 : b < 0
      ·refine ⟨i, hb.first h3 hc, fun r hr => ?_⟩
       refine ev_step (fun k => heptadref11_find.l0.eq_2 _ _ _ _ _ k) (ev_pos (by omega) (ev_pos (by omega) ?_))
       rw [rd35, wrap_succ hi ht]
       exact ev_pos h1 (ev_bind hbeg (ev_pos h2 (ev_pos h3 hr)))
      ·obtain ⟨m, rfl, hm⟩ := best_nat hb h3
       by_cases h4 : lenAt t m < lenAt t i
       ·refine ⟨i, hb.more hc h4, fun r hr => ?_⟩
        refine ev_step (fun k => heptadref11_find.l0.eq_2 _ _ _ _ _ k) (ev_pos (by omega) (ev_pos (by omega) ?_))
        rw [rd35, wrap_succ hi ht]
        refine ev_pos h1 (ev_bind hbeg (ev_pos h2 (ev_neg h3 (ev_pos (by omega) (ev_pos (by omega) ?_)))))
        rw [rd35]
        exact ev_pos (by simp only [lenAt] at h4; omega) hr
       ·refine ⟨m, hb.less (by omega), fun r hr => ?_⟩
        refine ev_step (fun k => heptadref11_find.l0.eq_2 _ _ _ _ _ k) (ev_pos (by omega) (ev_pos (by omega) ?_))
        rw [rd35, wrap_succ hi ht]
        refine ev_pos h1 (ev_bind hbeg (ev_pos h2 (ev_neg h3 (ev_pos (by omega) (ev_pos (by omega) ?_)))))
        rw [rd35]
        exact ev_neg (by simp only [lenAt] at h4; omega) hr
     ·refine ⟨b, hb.skip (fun hc => h2 hc.2), fun r hr => ?_⟩
      refine ev_step (fun k => heptadref11_find.l0.eq_2 _ _ _ _ _ k) (ev_pos (by omega) (ev_pos (by omega) ?_))
      rw [rd35, wrap_succ hi ht]
      exact ev_pos h1 (ev_bind hbeg (ev_neg h2 hr))
    ·refine ⟨b, hb.skip (fun hc => h1 (by have := hc.1; omega)), fun r hr => ?_⟩
     refine ev_step (fun k => heptadref11_find.l0.eq_2 _ _ _ _ _ k) (ev_pos (by omega) (ev_pos (by omega) ?_))
     rw [rd35, wrap_succ hi ht]
     exact ev_neg h1 hr
   obtain ⟨b', hb', hn⟩ := next
   obtain ⟨r, hr, hbest⟩ := ih b' hb'
   exact ⟨r, hn r hr, hbest⟩
 obtain ⟨r, hr, hb⟩ := loop 0 (by omega) (-1) (IsBest.start _ _)
 exact ⟨r, hr, hb⟩

theorem refOwn (p : List Int) (n : Int) (h : p.length < 17592186044416) : heptadref11_own.f p n = some (p, n) := by
 unfold heptadref11_own.f
 simp [h]

/-- What the reference's Find answers, of a table and an address. -/
theorem RefFind_ev (t : List S35) (a : List Int) (ht : isTab t = true) (ha : isPre a = true) (ha0 : 0 < a.length) :
  ∃ r, IsBest (candAt t a 10) (lenAt t) t.length r ∧ Ev (fun k => heptadref11_Find.f k t a) (if r < 0 then (([] : List Int), 0, 3) else ((t.getD r.toNat z35).f0, (t.getD r.toNat z35).f1, 0)) := by
 have hTab := tab_of ht
 have hin : ∀ x ∈ t, x.f0.length ≤ 10 := fun x hx => hTab.pre hx
 have hal := isPre_len ha
 obtain ⟨r, hr, hb⟩ := refFind_ev t a 100 (by have := hTab.1; omega) (fun j hj => by have := hin _ (getD_mem (d := z35) hj); omega)
 have hc : candAt t a (100 - 1) = candAt t a 10 := by
  funext j
  have hj : (t.getD j z35).f0.length ≤ 10 := by
   by_cases h : j < t.length
   ·exact hin _ (getD_mem h)
   ·simp [List.getElem?_eq_none (Nat.le_of_not_lt h), z35]
  exact propext ⟨fun h => ⟨by omega, h.2⟩, fun h => ⟨by omega, h.2⟩⟩
 rw [hc] at hb
 refine ⟨r, hb, ?_⟩
 unfold heptadref11_Find.f
 refine ev_bind (refTable_ev t (by have := hTab.1; omega) (fun x hx => by have := hin x hx; omega)) ?_
 rw [ht]
 refine ev_pos rfl (ev_bind (refValid_ev a (by omega)) ?_)
 rw [show (decide (0 < a.length) && isPre a) = true from by simp [ha, ha0]]
 refine ev_step (fun k => heptadref11_Find.j0.eq_2 _ _ _ k) (ev_neg (by simp) (ev_bind hr ?_))
 by_cases h3 : r < 0
 ·refine ev_pos h3 (ev_some_eq ?_)
  rw [if_pos h3]
 ·obtain ⟨m, rfl, hm⟩ := best_nat hb h3
  refine ev_neg h3 (ev_pos (by omega) (ev_pos (by omega) ?_))
  rw [rd35]
  refine ev_bind0 (refOwn _ _ (by have := hin _ (getD_mem (d := z35) hm); omega)) (ev_some_eq ?_)
  rw [if_neg h3, Int.toNat_natCast]
theorem RefFind_not (t : List S35) (a : List Int) (ht : t.length ≤ 9223372036854775807) (hin : ∀ x ∈ t, x.f0.length ≤ 9223372036854775807) (ha : a.length ≤ 9223372036854775807) (h : ¬ (isTab t = true ∧ (decide (0 < a.length) && isPre a) = true)) :
  Ev (fun k => heptadref11_Find.f k t a) ([], 0, 1) := by
 unfold heptadref11_Find.f
 have hj : Ev (fun k => heptadref11_Find.j0 k t a true) ([], 0, 1) := ev_step (fun k => heptadref11_Find.j0.eq_2 _ _ _ k) (ev_pos rfl (ev_some _))
 refine ev_bind (refTable_ev t ht hin) (ev_ite (fun h1 => ev_bind (refValid_ev a ha) ?_) (fun _ => hj))
 rw [show (!(decide (0 < a.length) && isPre a)) = true from by cases hv : (decide (0 < a.length) && isPre a) with
  | true => exact absurd ⟨h1, hv⟩ h
  | false => rfl]
 exact hj
theorem Find_not (t : List S35) (a : List Int) (ht : t.length ≤ 9223372036854775807) (hin : ∀ x ∈ t, x.f0.length ≤ 9223372036854775807) (h : ¬ (isTab t = true ∧ (decide (0 < a.length) && isPre a) = true)) :
  Ev (fun k => address_Find.f k (t.map e28) a) ([], 0, 1) := by
 unfold address_Find.f
 refine ev_bind0 (Valid_ev a) (ev_ite (fun h1 => ev_bind (entries_ev t ht hin) ?_) (fun _ => ev_some _))
 rw [if_neg (fun h2 => h ⟨h2, h1⟩)]
 exact ev_neg (by decide) (ev_some _)

theorem refSame_ev (t : List S35) (ht : t.length ≤ 9223372036854775807) (hin : ∀ x ∈ t, x.f0.length ≤ 9223372036854775807) : Ev (fun k => heptadref11_Same.f k t t) true := by
 have loop : ∀ i, i ≤ t.length → Ev (fun k => heptadref11_Same.l0 k t t (i : Int)) true := by
  refine up_ind ?_ ?_
  ·exact ev_step (fun k => heptadref11_Same.l0.eq_2 _ _ _ k) (ev_neg (by omega) (ev_some _))
  ·intro i hi ih
   refine ev_step (fun k => heptadref11_Same.l0.eq_2 _ _ _ k) (ev_pos (by omega) (ev_pos (by omega) (ev_pos (by omega) (ev_pos rfl ?_))))
   rw [rd35, wrap_succ hi ht]
   refine ev_bind (compare2_ev _ _ (hin _ (getD_mem hi))) (ev_pos (cmpL_zero.2 rfl) ih)
 unfold heptadref11_Same.f
 exact ev_pos rfl (loop 0 (by omega))

theorem without_ev (t : List S35) (x1 : Int) (m : Nat) (hm : ∀ i, i < t.length → ((i : Int) = x1 ↔ i = m)) (ht : t.length < 4398046511104) (hin : ∀ x ∈ t, x.f0.length < 17592186044416) :
  Ev (fun k => heptadref11_without.f k t x1) (t.eraseIdx m) := by
 have loop : ∀ i, i ≤ t.length → Ev (fun k => heptadref11_without.l0 k t x1 ((t.take i).eraseIdx m) (i : Int)) (t.eraseIdx m) := by
  refine up_ind ?_ ?_
  ·exact ev_step (fun k => heptadref11_without.l0.eq_2 _ _ _ _ k) (ev_neg (by omega) (ev_some_eq (by rw [List.take_of_length_le (Nat.le_refl _)])))
  ·intro i hi ih
   have hlen : (t.take i).length = i := by simp; omega
   refine ev_step (fun k => heptadref11_without.l0.eq_2 _ _ _ _ k) (ev_pos (by omega) ?_)
   rw [rd35, wrap_succ hi (by omega)]
   rw [List.take_succ_eq_append_getElem hi] at ih
   by_cases e : i = m
   ·subst e
    refine ev_pos ((hm i hi).2 rfl) ?_
    rw [List.eraseIdx_append_of_length_le (by omega), hlen, Nat.sub_self] at ih
    rw [List.eraseIdx_of_length_le (by omega)]
    simpa using ih
   ·refine ev_neg (fun h => e ((hm i hi).1 h)) (ev_pos (by omega) (ev_bind0 (refOwn _ _ (hin _ (getD_mem hi))) (ev_pos ?_ ?_)))
    ·have := List.length_eraseIdx_le (t.take i) m
     omega
    ·have e2 : (t.take i).eraseIdx m ++ [(⟨(t.getD i z35).f0, (t.getD i z35).f1⟩ : S35)] = (t.take i ++ [t[i]]).eraseIdx m := by
      rw [getD_lt hi]
      rcases Nat.lt_or_ge m i with h | h
      ·rw [List.eraseIdx_append_of_lt_length (by omega)]
      ·rw [List.eraseIdx_of_length_le (by omega), List.eraseIdx_of_length_le (by simp; omega)]
     show Ev (fun k => heptadref11_without.l0 k t x1 ((t.take i).eraseIdx m ++ [(⟨(t.getD i z35).f0, (t.getD i z35).f1⟩ : S35)]) ((i + 1 : Nat) : Int)) _
     rw [e2]
     exact ih
 unfold heptadref11_without.f
 simpa using loop 0 (by omega)

/-- What a search among an entry's beginnings tells of it. -/
theorem best_rem {t : List S35} (ht : Tab t) {x : S35} (hx : x ∈ t) {r : Int} (hb : IsBest (candAt t x.f0 ((x.f0.length : Int) - 1)) (lenAt t) t.length r) :
  (0 ≤ r → ∃ m : Nat, r = m ∧ m < t.length ∧ ((t.getD m z35).f1 = x.f1 ↔ Rem t x)) ∧ (¬ 0 ≤ r → ¬ Rem t x) := by
 constructor
 ·intro h0
  obtain ⟨m, rfl, hm⟩ := best_nat hb (by omega)
  obtain ⟨_, h1, h2, h3⟩ := best_entry hb
  refine ⟨m, rfl, hm, ?_⟩
  rw [getD_lt hm]
  constructor
  ·exact fun e => ⟨t[m], List.getElem_mem hm, h1, by omega, fun z hz hbz hl => h3 z hz hbz (by omega), e⟩
  ·rintro ⟨y, y1, y2, y3, y4, y5⟩
   have a1 := y4 t[m] (List.getElem_mem hm) h1 (by omega)
   have a2 := h3 y y1 y2 (by omega)
   rw [ht.inj (List.getElem_mem hm) y1 (beg_len_eq h1 y2 (by omega)), y5]
 ·rintro h0 ⟨y, y1, y2, y3, _⟩
  exact best_none hb (by omega) y y1 y2 (by omega)

theorem idxP_first {α : Type} (p : α → Bool) : ∀ (l : List α) (m j : Nat) (x : α), idxP p l = m → j < m → l[j]? = some x → p x = false
 | [], m, j, x, h, hj, hx => by simp at hx
 | y :: ys, m, j, x, h, hj, hx => by
  rw [idxP] at h
  cases hy : p y with
  | true => rw [hy, if_pos rfl] at h; omega
  | false =>
   rw [hy, if_neg (by simp)] at h
   cases j with
   | zero => simp at hx; subst hx; exact hy
   | succ j =>
    have hr := idxP_range p ys
    refine idxP_first p ys (m - 1) j x ?_ (by omega) (by simpa using hx)
    split at h <;> omega

open Classical in
/-- The reference's Brief leaves what the program's leaves. -/
theorem both_ev : ∀ (n : Nat) (t : List S35), t.length = n → Tab t → ∃ l, Ev (fun k => address_Brief.l0 k (t.map e28)) (l.map e28) ∧ Ev (fun k => heptadref11_Brief.l0 k t 0) (l, 0) ∧ Tab l
 | n, t, hn, ht => by
  have hp : Ev (fun k => idxM (fun x : S28 => address_Brief_1.f k (t.map e28) x.f0 x.f1) (t.map e28)) (idxP (fun x : S28 => decide (Rem t ⟨x.f0, x.f1⟩)) (t.map e28)) :=
   ev_idxM (p := fun (k : Nat) (x : S28) => address_Brief_1.f k (t.map e28) x.f0 x.f1) (b := fun x : S28 => decide (Rem t ⟨x.f0, x.f1⟩)) (fun x hx => by
    obtain ⟨y, hy, rfl⟩ := List.mem_map.1 hx
    exact lit_ev t ht y hy)
  have hrange := idxP_range (fun x : S28 => decide (Rem t ⟨x.f0, x.f1⟩)) (t.map e28)
  have hhit := idxP_spec (fun x : S28 => decide (Rem t ⟨x.f0, x.f1⟩)) (t.map e28)
  have hfirst := idxP_first (fun x : S28 => decide (Rem t ⟨x.f0, x.f1⟩)) (t.map e28)
  generalize idxP (fun x : S28 => decide (Rem t ⟨x.f0, x.f1⟩)) (t.map e28) = i at hp hrange hhit hfirst
  rw [List.length_map] at hrange
  have hsmall := ht.1
  have hl0 : ∀ x ∈ t, x.f0.length ≤ 10 := fun x hx => ht.pre hx
  -- one entry that is not removable is passed by
  have pass : ∀ j, (hj : j < t.length) → ¬ Rem t t[j] → ∀ r, Ev (fun k => heptadref11_Brief.l0 k t ((j + 1 : Nat) : Int)) r → Ev (fun k => heptadref11_Brief.l0 k t (j : Int)) r := by
   intro j hj hno r hr
   obtain ⟨q, hq, hb⟩ := refFind_ev t t[j].f0 (t[j].f0.length : Int) (by omega) (fun i hi => by have := hl0 _ (getD_mem (d := z35) hi); omega)
   obtain ⟨b1, b2⟩ := best_rem ht (List.getElem_mem hj) hb
   refine ev_step (fun k => heptadref11_Brief.l0.eq_2 _ _ k) (ev_pos (by omega) (ev_pos (by omega) ?_))
   rw [rd35, getD_lt hj, wrap_succ hj (by omega)]
   refine ev_bind hq ?_
   by_cases h0 : 0 ≤ q
   ·obtain ⟨m, rfl, hm, he⟩ := b1 h0
    refine ev_pos h0 (ev_pos h0 (ev_pos (by omega) ?_))
    rw [rd35]
    exact ev_neg (fun e => hno (he.1 e)) hr
   ·exact ev_neg h0 hr
  by_cases hneg : i < 0
  ·have hno : ∀ x ∈ t, ¬ Rem t x := fun x hx => by
    have := hhit.1 hneg (e28 x) (List.mem_map.2 ⟨x, hx, rfl⟩)
    exact of_decide_eq_false (p := Rem t x) this
   refine ⟨t, ev_step (fun k => address_Brief.l0.eq_2 _ k) (ev_bind hp (ev_pos hneg (ev_some _))), ?_, ht⟩
   have loop : ∀ j, j ≤ t.length → Ev (fun k => heptadref11_Brief.l0 k t (j : Int)) (t, 0) := by
    refine up_ind ?_ ?_
    ·exact ev_step (fun k => heptadref11_Brief.l0.eq_2 _ _ k) (ev_neg (by omega) (ev_some _))
    ·exact fun j hj ih => pass j hj (hno _ (List.getElem_mem hj)) _ ih
   exact loop 0 (by omega)
  ·obtain ⟨m, rfl⟩ : ∃ m : Nat, i = m := ⟨i.toNat, by omega⟩
   have hm : m < t.length := by omega
   have hrem : Rem t t[m] := by
    have := hhit.2 m rfl (e28 t[m]) (by rw [List.getElem?_map, List.getElem?_eq_getElem hm]; rfl)
    exact of_decide_eq_true (p := Rem t t[m]) this
   have hno : ∀ j, j < m → (hj : j < t.length) → ¬ Rem t t[j] := fun j hjm hj => by
    have := hfirst m j (e28 t[j]) rfl hjm (by rw [List.getElem?_map, List.getElem?_eq_getElem hj]; rfl)
    exact of_decide_eq_false (p := Rem t t[j]) this
   have hlen : (t.eraseIdx m).length = n - 1 := by rw [List.length_eraseIdx_of_lt hm, hn]
   obtain ⟨l, h1, h2, h3⟩ := both_ev (n - 1) (t.eraseIdx m) hlen (ht.erase m)
   refine ⟨l, ?_, ?_, h3⟩
   ·refine ev_step (fun k => address_Brief.l0.eq_2 _ k) (ev_bind hp (ev_neg hneg ?_))
    rw [Int.toNat_natCast, erase_map]
    exact h1
   ·have at_m : Ev (fun k => heptadref11_Brief.l0 k t (m : Int)) (l, 0) := by
     obtain ⟨q, hq, hb⟩ := refFind_ev t t[m].f0 (t[m].f0.length : Int) (by omega) (fun i hi => by have := hl0 _ (getD_mem (d := z35) hi); omega)
     obtain ⟨b1, b2⟩ := best_rem ht (List.getElem_mem hm) hb
     refine ev_step (fun k => heptadref11_Brief.l0.eq_2 _ _ k) (ev_pos (by omega) (ev_pos (by omega) ?_))
     rw [rd35, getD_lt hm]
     refine ev_bind hq ?_
     by_cases h0 : 0 ≤ q
     ·obtain ⟨v, rfl, hv, he⟩ := b1 h0
      refine ev_pos h0 (ev_pos h0 (ev_pos (by omega) ?_))
      rw [rd35]
      refine ev_pos (he.2 hrem) (ev_bind (without_ev t m m (fun i _ => by omega) (by omega) (fun x hx => by have := hl0 x hx; omega)) ?_)
      exact h2
     ·exact absurd hrem (b2 h0)
    have loop : ∀ j, j ≤ m → Ev (fun k => heptadref11_Brief.l0 k t (j : Int)) (l, 0) := by
     refine up_ind at_m ?_
     exact fun j hj ih => pass j (by omega) (hno j hj (by omega)) _ ih
    exact loop 0 (by omega)
 termination_by n => n
 decreasing_by omega
theorem briefs_ev (t : List S35) (ht : t.length ≤ 4000) (hin : ∀ x ∈ t, x.f0.length ≤ 4000) :
  ∃ l e, Ev (fun k => address_Brief.f k (t.map e28)) (l.map e28, e) ∧ Ev (fun k => heptadref11_Brief.f k t) (l, e) ∧ l.length ≤ 4000 ∧ ∀ x ∈ l, x.f0.length ≤ 4000 := by
 by_cases hT : isTab t = true
 ·have hTab := tab_of hT
  obtain ⟨l, h1, h2, h3⟩ := both_ev t.length t rfl hTab
  refine ⟨l, 0, ?_, ?_, by have := h3.1; omega, fun x hx => by have := h3.pre hx; omega⟩
  ·unfold address_Brief.f
   refine ev_bind (entries_ev t (by omega) (fun x hx => by have := hin x hx; omega)) ?_
   rw [if_pos hT]
   refine ev_pos rfl (ev_bind0 (a := t.map e28) ?_ (ev_bind h1 (ev_some _)))
   unfold address_own.f
   rw [if_pos]
   refine ⟨by rw [List.length_map]; omega, fun x hx => ?_⟩
   obtain ⟨y, hy, rfl⟩ := List.mem_map.1 hx
   have := hin y hy
   show y.f0.length * 8 ≤ _
   omega
  ·unfold heptadref11_Brief.f
   refine ev_bind (refTable_ev t (by omega) (fun x hx => by have := hin x hx; omega)) ?_
   rw [hT]
   have hw := without_ev t (-1) t.length (fun i hi => by omega) (by omega) (fun x hx => by have := hin x hx; omega)
   rw [List.eraseIdx_of_length_le (Nat.le_refl _)] at hw
   exact ev_pos rfl (ev_bind hw h2)
 ·refine ⟨[], 1, ?_, ?_, by simp, by simp⟩
  ·unfold address_Brief.f
   refine ev_bind (entries_ev t (by omega) (fun x hx => by have := hin x hx; omega)) ?_
   rw [if_neg hT]
   exact ev_neg (by decide) (ev_some _)
  ·unfold heptadref11_Brief.f
   exact ev_bind (refTable_ev t (by omega) (fun x hx => by have := hin x hx; omega)) (ev_neg hT (ev_some _))
end Go.Proofs.Ytchkhnhmpgkpeaa.P
