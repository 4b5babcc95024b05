/- What the printed functions of the addresses (layer 11) answer: plain lists, no Go. -/
import Derived.Test.YtchkhnhmpgkpeaaPx0
import Derived.Test.YtchkhnhmpgkpeaaPx1
import Derived.Test.YtchkhnhmpgkpeaaPx2
import Derived.Test.YtchkhnhmpgkpeaaPx3
import Derived.Test.YtchkhnhmpgkpeaaPx4
import Derived.Test.YtchkhnhmpgkpeaaPx5
import Derived.Test.YtchkhnhmpgkpeaaPx8
import Derived.Test.YtchkhnhmpgkpeaaPx9
import Derived.Test.YtchkhnhmpgkpeaaPx10
import Derived.Test.YtchkhnhmpgkpeaaPx12
import Derived.Test.YtchkhnhmpgkpeaaPx17
import Derived.Test.YtchkhnhmpgkpeaaPx18
import Derived.Test.YtchkhnhmpgkpeaaPx19
import Derived.Test.YtchkhnhmpgkpeaaPx22
import Derived.Test.YtchkhnhmpgkpeaaEvLib
set_option linter.unusedVariables false
set_option linter.unusedSimpArgs false
namespace Go.Proofs.Ytchkhnhmpgkpeaa.P
open Go.RowKit Go.Proofs.YtchkhnhmpgkpeaaW.PrintWords Go.Proofs.Ytchkhnhmpgkpeaa.EvLib Go.Proofs.Ytchkhnhmpgkpeaa.Common

def badN (n : Int) : Bool := decide (n < 0) || decide (n > 999)
def isPre (p : List Int) : Bool := decide (p.length ≤ 10) && !p.any badN
theorem any_drop {f : Int → Bool} {p : List Int} {i : Nat} (h : i < p.length) : (p.drop i).any f = (f (p.getD i 0) || (p.drop (i + 1)).any f) := by
 rw [List.drop_eq_getElem_cons h, List.any_cons, getD_lt h]
theorem isPre_len {p : List Int} (h : isPre p = true) : p.length ≤ 10 := by simp [isPre] at h; exact h.1
theorem prefix_ev (p : List Int) : address_prefix.f p = some (isPre p) := rfl
theorem refPrefix_ev (p : List Int) (hp : p.length ≤ 9223372036854775807) : Ev (fun k => heptadref11_IsPrefix.f k p) (isPre p) := by
 have loop : ∀ i, i ≤ p.length → Ev (fun k => heptadref11_IsPrefix.l0 k p (i : Int)) (!(p.drop i).any badN) := by
  refine up_ind ?_ ?_
  ·refine ev_step (fun k => heptadref11_IsPrefix.l0.eq_2 _ _ k) (ev_neg (by omega) (ev_some_eq (by simp)))
  ·intro i hi ih
   refine ev_step (fun k => heptadref11_IsPrefix.l0.eq_2 _ _ k) (ev_pos (by omega) (ev_pos (by omega) ?_))
   rw [any_drop hi, rd_nat]
   refine ev_ite (fun h => ev_some_eq (by simp [-List.getD_eq_getElem?_getD, badN, h])) (fun h => ev_ite (fun h2 => ev_some_eq (by simp [-List.getD_eq_getElem?_getD, badN, h2])) (fun h2 => ?_))
   rw [wrap_succ hi hp]
   refine ev_cast ih ?_
   have h3 : decide (p.getD i 0 < 0) = false := decide_eq_false h
   have h4 : decide (p.getD i 0 > 999) = false := decide_eq_false h2
   rw [badN, h3, h4]
   rfl
 unfold heptadref11_IsPrefix.f
 refine ev_ite (fun h => ev_some_eq (by unfold isPre; simp; omega)) (fun h => ?_)
 refine ev_cast (loop 0 (by omega)) ?_
 unfold isPre
 simp
 intro _
 omega
theorem compare2_ev (p q : List Int) (hp : p.length ≤ 9223372036854775807) : Ev (fun k => heptadref11_Compare2.f k p q) (cmpL p q) := by
 have stop : ∀ i : Nat, (p.length ≤ i ∨ q.length ≤ i) → i ≤ p.length → i ≤ q.length → Ev (fun k => heptadref11_Compare2.j1 k p q (i : Int) false) (cmpL (p.drop i) (q.drop i)) := by
  intro i h h1 h2
  refine ev_step (fun k => heptadref11_Compare2.j1.eq_2 _ _ _ _ k) (ev_neg (by simp) ?_)
  rw [cmpL_end h h1 h2]
  refine ev_ite (fun h => ev_some_eq (by rw [if_pos (by omega)])) (fun h => ev_ite (fun h2 => ev_some_eq (by rw [if_neg (by omega), if_pos (by omega)])) (fun h2 => ev_some_eq (by rw [if_neg (by omega), if_neg (by omega)])))
 have loop : ∀ i, i ≤ p.length → i ≤ q.length → Ev (fun k => heptadref11_Compare2.l0 k p q (i : Int)) (cmpL (p.drop i) (q.drop i)) := by
  refine up_ind (n := p.length) (P := fun i => i ≤ q.length → Ev (fun k => heptadref11_Compare2.l0 k p q (i : Int)) (cmpL (p.drop i) (q.drop i))) ?_ ?_
  ·intro hq
   exact ev_step (fun k => heptadref11_Compare2.l0.eq_2 _ _ _ k) (ev_neg (by omega) (stop _ (.inl (by omega)) (by omega) (by omega)))
  ·intro i hi ih hq
   refine ev_step (fun k => heptadref11_Compare2.l0.eq_2 _ _ _ k) (ev_pos (by omega) ?_)
   by_cases h : i < q.length
   ·rw [show decide ((i : Int) < (q.length : Int)) = true from decide_eq_true (by omega)]
    refine ev_step (fun k => heptadref11_Compare2.j1.eq_2 _ _ _ _ k) (ev_pos rfl (ev_pos (by omega) (ev_pos (by omega) (ev_pos (by omega) ?_))))
    rw [cmpL_drop hi h, rd_nat, rd_nat]
    refine ev_ite (fun h => ev_some_eq (by rw [if_pos h])) (fun h => ev_ite (fun h2 => ev_some_eq (by rw [if_neg h, if_pos (by omega)])) (fun h2 => ?_))
    rw [wrap_succ hi hp, if_neg h, if_neg (by omega)]
    exact ih (by omega)
   ·rw [show decide ((i : Int) < (q.length : Int)) = false from decide_eq_false (by omega)]
    exact stop i (.inr (by omega)) (by omega) hq
 exact loop 0 (by omega) (by omega)
theorem cmp_one (x y : Int) : cmp_Compare_int.f x y = some (if x < y then -1 else if y < x then 1 else 0) := by
 unfold cmp_Compare_int.f cmp_isNaN_int.f
 simp
 split
 ·rfl
 ·split <;> rfl
theorem compare_ev (p q : List Int) (hp : p.length ≤ 9223372036854775807) : Ev (fun k => slices_Compare_int_int.f k p q) (cmpL p q) := by
 have loop : ∀ i, i ≤ p.length → i ≤ q.length → Ev (fun k => slices_Compare_int_int.l0 k p q p (p.length : Int) (i : Int)) (cmpL (p.drop i) (q.drop i)) := by
  refine up_ind (n := p.length) (P := fun i => i ≤ q.length → Ev (fun k => slices_Compare_int_int.l0 k p q p (p.length : Int) (i : Int)) (cmpL (p.drop i) (q.drop i))) ?_ ?_
  ·intro hq
   refine ev_step (fun k => slices_Compare_int_int.l0.eq_2 _ _ _ _ _ k) (ev_neg (by omega) ?_)
   rw [cmpL_end (.inl (Nat.le_refl _)) (Nat.le_refl _) hq]
   exact ev_ite (fun h => ev_some_eq (by rw [if_pos (by omega)])) (fun h => ev_some_eq (by rw [if_neg (by omega), if_neg (by omega)]))
  ·intro i hi ih hq
   refine ev_step (fun k => slices_Compare_int_int.l0.eq_2 _ _ _ _ _ k) (ev_pos (by omega) (ev_pos (by omega) (ev_pos (by omega) ?_)))
   by_cases h : i < q.length
   ·refine ev_neg (by omega) (ev_pos (by omega) (ev_bind0 (cmp_one _ _) ?_))
    rw [cmpL_drop hi h, rd_nat, rd_nat]
    by_cases h1 : p.getD i 0 < q.getD i 0
    ·rw [if_pos h1, if_pos h1]; exact ev_neg (by decide) (ev_some _)
    ·by_cases h2 : q.getD i 0 < p.getD i 0
     ·rw [if_neg h1, if_pos h2, if_neg h1, if_pos h2]; exact ev_neg (by decide) (ev_some _)
     ·rw [if_neg h1, if_neg h2, if_neg h1, if_neg h2]
      refine ev_pos rfl ?_
      rw [wrap_succ hi hp]
      exact ih (by omega)
   ·refine ev_pos (by omega) (ev_some_eq ?_)
    rw [cmpL_end (.inr (by omega)) (by omega) hq, if_neg (by omega), if_pos (by omega)]
 exact loop 0 (by omega) (by omega)
theorem equal_ev (p q : List Int) (hp : p.length ≤ 9223372036854775807) : Ev (fun k => slices_Equal_int_int.f k p q) (decide (p = q)) := by
 unfold slices_Equal_int_int.f
 refine ev_ite (fun hl => ?_) (fun h => ev_some_eq (by symm; rw [decide_eq_false_iff_not]; rintro rfl; exact h rfl))
 have loop : ∀ i, i ≤ p.length → Ev (fun k => slices_Equal_int_int.l0 k p q (p.length : Int) (i : Int)) (decide (p.drop i = q.drop i)) := by
  refine up_ind ?_ ?_
  ·refine ev_step (fun k => slices_Equal_int_int.l0.eq_2 _ _ _ _ k) (ev_neg (by omega) (ev_some_eq ?_))
   rw [List.drop_eq_nil_of_le (Nat.le_refl _), List.drop_eq_nil_of_le (by omega)]
   rfl
  ·intro i hi ih
   refine ev_step (fun k => slices_Equal_int_int.l0.eq_2 _ _ _ _ k) (ev_pos (by omega) (ev_pos (by omega) (ev_pos (by omega) (ev_pos (by omega) ?_))))
   have hq : i < q.length := by omega
   rw [List.drop_eq_getElem_cons hi, List.drop_eq_getElem_cons hq, rd_nat, rd_nat, getD_lt hi, getD_lt hq]
   refine ev_ite (fun h => ?_) (fun h => ev_some_eq (by symm; rw [decide_eq_false_iff_not]; intro e; injection e with e1 _; exact h e1))
   rw [wrap_succ hi hp]
   refine ev_cast ih ?_
   rw [h, Bool.eq_iff_iff, decide_eq_true_iff, decide_eq_true_iff, List.cons.injEq]
   exact ⟨fun e => ⟨rfl, e⟩, fun e => e.2⟩
 exact loop 0 (by omega)
def okTo (n : Int) : Bool := decide (0 ≤ n ∧ n ≤ 999)
def okE (p : List Int) (n : Int) : Bool := isPre p && okTo n
theorem refEntry_ev (p : List Int) (n : Int) (hp : p.length ≤ 9223372036854775807) : Ev (fun k => heptadref11_IsEntry.f k p n) (okE p n) := by
 unfold heptadref11_IsEntry.f okE okTo
 refine ev_bind (refPrefix_ev p hp) (ev_ite (fun h => ?_) (fun h => ev_some_eq (by simp [h])))
 rw [h]
 exact ev_ite (fun h => ev_some_eq (by simp; omega)) (fun h => ev_some_eq (by simp; omega))
theorem valid_ev (p : List Int) (n : Int) : address_valid.f p n = some (okE p n) := by
 unfold address_valid.f okE okTo
 rw [prefix_ev, Option.bind_some]
 cases isPre p
 ·simp
 ·simp
  by_cases h : 0 ≤ n
  ·rw [if_pos h]; simp [h]
  ·rw [if_neg h]; simp; omega
/-! Tables -/
def e28 (x : S35) : S28 := ⟨x.f0, x.f1⟩
/-- Place j of a table is right: an entry, and behind the one ahead of it. -/
def okAt (t : List S35) (j : Nat) : Bool := okE (t.getD j z35).f0 (t.getD j z35).f1 && (decide (j = 0) || decide (cmpL (t.getD (j - 1) z35).f0 (t.getD j z35).f0 < 0))
def isTab (t : List S35) : Bool := decide (t.length ≤ 100) && decide (∀ j, j < t.length → okAt t j = true)
theorem all_from {n i : Nat} {P : Nat → Bool} (hi : i < n) : decide (∀ j, j < n → i ≤ j → P j = true) = (P i && decide (∀ j, j < n → i + 1 ≤ j → P j = true)) := by
 rw [Bool.eq_iff_iff]
 simp only [decide_eq_true_eq, Bool.and_eq_true]
 constructor
 ·intro h; exact ⟨h i hi (Nat.le_refl _), fun j hj hij => h j hj (by omega)⟩
 ·rintro ⟨h1, h2⟩ j hj hij
  rcases Nat.lt_or_ge i j with h | h
  ·exact h2 j hj h
  ·obtain rfl : j = i := by omega
   exact h1
theorem all_end {n : Nat} {P : Nat → Bool} : decide (∀ j, j < n → n ≤ j → P j = true) = true := by simp; intro j h1 h2; omega
theorem rd35 (t : List S35) (i : Nat) : rd_T35 t (i : Int) = t.getD i z35 := by simp [rd_T35]
theorem rd28 (t : List S28) (i : Nat) : rd_T28 t (i : Int) = t.getD i z28 := by simp [rd_T28]
theorem map28 (t : List S35) (i : Nat) : (t.map e28).getD i z28 = e28 (t.getD i z35) := by
 simp only [List.getD_eq_getElem?_getD, List.getElem?_map]
 cases t[i]? <;> rfl
theorem refTable_ev (t : List S35) (ht : t.length ≤ 9223372036854775807) (hin : ∀ x ∈ t, x.f0.length ≤ 9223372036854775807) : Ev (fun k => heptadref11_IsTable.f k t) (isTab t) := by
 have hlen : ∀ j, j < t.length → (t.getD j z35).f0.length ≤ 9223372036854775807 := fun j hj => hin _ (getD_mem hj)
 have loop : ∀ i, i ≤ t.length → Ev (fun k => heptadref11_IsTable.l0 k t (i : Int)) (decide (∀ j, j < t.length → i ≤ j → okAt t j = true)) := by
  refine up_ind ?_ ?_
  ·exact ev_step (fun k => heptadref11_IsTable.l0.eq_2 _ _ k) (ev_neg (by omega) (ev_some_eq all_end.symm))
  ·intro i hi ih
   refine ev_step (fun k => heptadref11_IsTable.l0.eq_2 _ _ k) (ev_pos (by omega) (ev_pos (by omega) ?_))
   rw [all_from hi, rd35, okAt]
   refine ev_bind (refEntry_ev _ _ (hlen i hi)) ?_
   refine ev_ite (fun h => ?_) (fun h => ev_some_eq (by rw [Bool.not_eq_true] at h; rw [h]; rfl))
   rw [h]
   by_cases h0 : i = 0
   ·subst h0
    refine ev_neg (by omega) ?_
    rw [wrap_succ hi ht]
    exact ev_cast ih (by simp)
   ·refine ev_pos (by omega) ?_
    rw [wrap_pred hi ht (by omega), rd35]
    refine ev_pos (by omega) (ev_pos (by omega) (ev_bind (compare2_ev _ _ (hlen (i - 1) (by omega))) ?_))
    refine ev_ite (fun h => ev_some_eq (by rw [decide_eq_false h0, decide_eq_false (by omega)]; rfl)) (fun h => ?_)
    rw [wrap_succ hi ht]
    refine ev_cast ih ?_
    rw [decide_eq_false h0, show decide (cmpL (t.getD (i - 1) z35).f0 (t.getD i z35).f0 < 0) = true from decide_eq_true (by omega)]
    simp
 unfold heptadref11_IsTable.f isTab
 refine ev_ite (fun h => ev_some_eq (by symm; simp; omega)) (fun h => ev_cast (loop 0 (by omega)) ?_)
 simp
 intro _
 omega
theorem entries_ev (t : List S35) (ht : t.length ≤ 9223372036854775807) (hin : ∀ x ∈ t, x.f0.length ≤ 9223372036854775807) : Ev (fun k => address_entries.f k (t.map e28)) (if isTab t = true then 0 else 1) := by
 have hlen : ∀ j, j < t.length → (t.getD j z35).f0.length ≤ 9223372036854775807 := fun j hj => hin _ (getD_mem hj)
 have hl : (t.map e28).length = t.length := by simp
 have loop : ∀ i, i ≤ t.length → Ev (fun k => address_entries.l0 k (t.map e28) (t.map e28) (t.length : Int) (i : Int)) (if decide (∀ j, j < t.length → i ≤ j → okAt t j = true) = true then 0 else 1) := by
  refine up_ind ?_ ?_
  ·refine ev_step (fun k => address_entries.l0.eq_2 _ _ _ _ k) (ev_neg (by omega) (ev_some_eq ?_))
   rw [if_pos all_end]
  ·intro i hi ih
   refine ev_step (fun k => address_entries.l0.eq_2 _ _ _ _ k) (ev_pos (by omega) (ev_pos (by omega) (ev_pos (by rw [hl]; omega) ?_)))
   rw [all_from hi, rd28, map28, okAt]
   show Ev (fun k => (address_valid.f (t.getD i z35).f0 (t.getD i z35).f1).bind _) _
   refine ev_bind0 (valid_ev _ _) ?_
   refine ev_ite (fun h => ?_) (fun h => ev_some_eq (by rw [Bool.not_eq_true] at h; rw [h]; rfl))
   rw [h]
   by_cases h0 : i = 0
   ·subst h0
    refine ev_neg (by omega) ?_
    rw [wrap_succ hi ht]
    exact ev_cast ih (by simp)
   ·refine ev_pos (by omega) ?_
    rw [wrap_pred hi ht (by omega), rd28, map28, hl]
    refine ev_pos (by omega) (ev_pos (by omega) (ev_bind (compare_ev (t.getD (i - 1) z35).f0 (t.getD i z35).f0 (hlen (i - 1) (by omega))) ?_))
    refine ev_ite (fun h => ev_some_eq ?_) (fun h => ?_)
    ·rw [decide_eq_false h0, show decide (cmpL (t.getD (i - 1) z35).f0 (t.getD i z35).f0 < 0) = false from decide_eq_false (by omega), if_neg (by simp)]
    ·rw [wrap_succ hi ht]
     refine ev_cast ih ?_
     have h2 : cmpL (t.getD (i - 1) z35).f0 (t.getD i z35).f0 < 0 := by omega
     rw [decide_eq_false h0, decide_eq_true h2]
     simp
 unfold address_entries.f isTab
 rw [hl]
 refine ev_ite (fun h => ev_some_eq ?_) (fun h => ev_cast (loop 0 (by omega)) ?_)
 ·rw [if_neg]
  simp
  omega
 ·have h1 : t.length ≤ 100 := by omega
  simp [h1]
theorem table_ev (t : List S35) (ht : t.length * 32 ≤ 140737488351232) (hin : ∀ x ∈ t, x.f0.length * 8 ≤ 140737488351232) : Ev (fun k => heptadlaw11_table.f k t) (t.map e28) := by
 have loop : ∀ i, i ≤ t.length → Ev (fun k => heptadlaw11_table.l0 k t ((t.take i).map e28) (i : Int)) (t.map e28) := by
  refine up_ind ?_ ?_
  ·exact ev_step (fun k => heptadlaw11_table.l0.eq_2 _ _ _ k) (ev_neg (by omega) (ev_some_eq (by rw [List.take_of_length_le (Nat.le_refl _)])))
  ·intro i hi ih
   refine ev_step (fun k => heptadlaw11_table.l0.eq_2 _ _ _ k) (ev_pos (by omega) (ev_pos (by omega) ?_))
   rw [rd35]
   have hc : heptadref01_Copy.f (t.getD i z35).f0 = some (t.getD i z35).f0 := by
    unfold heptadref01_Copy.f
    have := hin _ (getD_mem (d := z35) hi)
    rw [Option.bind_some, if_pos (by simp only [List.length_nil]; omega)]
    rfl
   refine ev_bind0 hc (ev_pos (by simp; omega) ?_)
   rw [wrap_succ hi (by omega)]
   have e : (t.take i).map e28 ++ [(⟨(t.getD i z35).f0, (t.getD i z35).f1⟩ : S28)] = (t.take (i + 1)).map e28 := by
    rw [List.take_succ_eq_append_getElem hi, List.map_append, getD_lt hi]
    rfl
   rw [e]
   exact ih
 exact loop 0 (by omega)
theorem sane_ev : Ev (fun k => heptadlaw11_sane.f k) true := ev_of (fun k => heptadlaw11_sane.mono k) (k := 12) (by decide +kernel)
/-- 'large' answers, and where it says no the table is small. -/
theorem large_ev (t : List S35) (ht : t.length * 32 ≤ 140737488351232) (hin : ∀ x ∈ t, x.f0.length * 8 ≤ 140737488351232) : ∃ b, Ev (fun k => heptadlaw11_large.f k t) b ∧ (b = false → t.length < 4000 ∧ ∀ x ∈ t, x.f0.length < 4000) := by
 have loop : ∀ i, i ≤ t.length → ∀ n : Int, (t.length : Int) ≤ n → n ≤ 17592186048416 → (∀ j, j < i → ((t.getD j z35).f0.length : Int) ≤ n) →
   ∃ b, Ev (fun k => heptadlaw11_large.l0 k t n (i : Int)) b ∧ (b = false → (t.length : Int) < 4000 ∧ ∀ j, j < t.length → ((t.getD j z35).f0.length : Int) < 4000) := by
  refine up_ind (P := fun i => ∀ n : Int, (t.length : Int) ≤ n → n ≤ 17592186048416 → (∀ j, j < i → ((t.getD j z35).f0.length : Int) ≤ n) →
   ∃ b, Ev (fun k => heptadlaw11_large.l0 k t n (i : Int)) b ∧ (b = false → (t.length : Int) < 4000 ∧ ∀ j, j < t.length → ((t.getD j z35).f0.length : Int) < 4000)) ?_ ?_
  ·intro n h1 h2 h3
   refine ⟨decide (n ≥ 4000), ev_step (fun k => heptadlaw11_large.l0.eq_2 _ _ _ k) (ev_neg (by omega) (ev_some _)), fun h => ?_⟩
   rw [decide_eq_false_iff_not] at h
   exact ⟨by omega, fun j hj => by have := h3 j hj; omega⟩
  ·intro i hi ih n h1 h2 h3
   by_cases h4 : n < 4000
   ·have h5 := hin _ (getD_mem (d := z35) hi)
    obtain ⟨b, hb, hs⟩ := ih (n + ((t.getD i z35).f0.length : Int)) (by omega) (by omega) (fun j hj => by
     rcases Nat.lt_or_ge j i with h | h
     ·have := h3 j h; omega
     ·obtain rfl : j = i := by omega
      omega)
    refine ⟨b, ev_step (fun k => heptadlaw11_large.l0.eq_2 _ _ _ k) (ev_pos (by omega) (ev_pos h4 (ev_pos (by omega) ?_))), hs⟩
    rw [rd35, wrap_succ hi (by omega), wrap_in (by omega) (by omega)]
    exact hb
   ·exact ⟨true, ev_step (fun k => heptadlaw11_large.l0.eq_2 _ _ _ k) (ev_pos (by omega) (ev_neg h4 (ev_some_eq (by simp; omega)))), fun h => by cases h⟩
 obtain ⟨b, hb, hs⟩ := loop 0 (by omega) (t.length : Int) (by omega) (by omega) (fun j hj => by omega)
 refine ⟨b, hb, fun h => ?_⟩
 obtain ⟨h1, h2⟩ := hs h
 refine ⟨by omega, fun x hx => ?_⟩
 obtain ⟨i, hi, rfl⟩ := mem_getD z35 hx
 have := h2 i hi
 omega
/-- A table. -/
def Tab (t : List S35) : Prop := t.length ≤ 100 ∧ (∀ x ∈ t, okE x.f0 x.f1 = true) ∧ t.Pairwise fun x y => cmpL x.f0 y.f0 < 0
theorem tab_of {t : List S35} (h : isTab t = true) : Tab t := by
 simp only [isTab, Bool.and_eq_true, decide_eq_true_eq] at h
 obtain ⟨h1, h2⟩ := h
 refine ⟨h1, fun x hx => ?_, ?_⟩
 ·obtain ⟨i, hi, rfl⟩ := mem_getD z35 hx
  have := h2 i hi
  simp only [okAt, Bool.and_eq_true] at this
  exact this.1
 ·have adj : ∀ j, j + 1 < t.length → cmpL (t.getD j z35).f0 (t.getD (j + 1) z35).f0 < 0 := fun j hj => by
   have := h2 (j + 1) hj
   simp only [okAt, Bool.and_eq_true, Bool.or_eq_true, decide_eq_true_eq] at this
   rcases this.2 with h | h
   ·omega
   ·exact h
  have far : ∀ d i, i + d + 1 < t.length → cmpL (t.getD i z35).f0 (t.getD (i + d + 1) z35).f0 < 0 := by
   intro d
   induction d with
   | zero => exact fun i hi => adj i hi
   | succ d ih => exact fun i hi => cmpL_trans (ih i (by omega)) (adj (i + d + 1) (by omega))
  rw [List.pairwise_iff_getElem]
  intro i j hi hj hij
  have := far (j - i - 1) i (by omega)
  rw [show i + (j - i - 1) + 1 = j by omega, getD_lt hi, getD_lt hj] at this
  exact this
theorem of_tab {t : List S35} (h : Tab t) : isTab t = true := by
 obtain ⟨h1, h2, h3⟩ := h
 simp only [isTab, Bool.and_eq_true, decide_eq_true_eq]
 refine ⟨h1, fun j hj => ?_⟩
 simp only [okAt, Bool.and_eq_true, Bool.or_eq_true, decide_eq_true_eq]
 refine ⟨h2 _ (getD_mem hj), ?_⟩
 by_cases h0 : j = 0
 ·exact .inl h0
 ·right
  have := List.pairwise_iff_getElem.1 h3 (j - 1) j (by omega) hj (by omega)
  rw [getD_lt (show j - 1 < t.length by omega), getD_lt hj]
  exact this
theorem Tab.pre {t : List S35} (h : Tab t) {x : S35} (hx : x ∈ t) : x.f0.length ≤ 10 := by
 have := h.2.1 x hx
 simp only [okE, Bool.and_eq_true] at this
 exact isPre_len this.1
theorem Tab.place {t : List S35} (h : Tab t) {i j : Nat} (hi : i < t.length) (hj : j < t.length) (he : t[i].f0 = t[j].f0) : i = j := by
 have hp := List.pairwise_iff_getElem.1 h.2.2
 rcases Nat.lt_trichotomy i j with hl | hl | hl
 ·have := hp i j hi hj hl
  rw [he, cmpL_zero.2 rfl] at this
  omega
 ·exact hl
 ·have := hp j i hj hi hl
  rw [he, cmpL_zero.2 rfl] at this
  omega
/-- A search by a question that answers from some rounds on. -/
theorem ev_idxM {α : Type} {p : Nat → α → Option Bool} {b : α → Bool} : ∀ {l : List α}, (∀ x ∈ l, Ev (fun k => p k x) (b x)) → Ev (fun k => idxM (p k) l) (idxP b l)
 | [], _ => ev_some _
 | x :: xs, h => by
  have ih := ev_idxM (l := xs) (fun y hy => h y (List.mem_cons_of_mem _ hy))
  refine ev_eq (fun k => by rw [idxM]) (ev_bind (h x List.mem_cons_self) ?_)
  rw [idxP]
  cases b x with
  | true => exact ev_pos rfl (ev_some _)
  | false => exact ev_neg (by simp) (ev_bind ih (ev_some_eq (by simp)))
theorem erase_map (t : List S35) (i : Nat) : (t.map e28).eraseIdx i = (t.eraseIdx i).map e28 := by
 rw [List.eraseIdx_eq_take_drop_succ, List.eraseIdx_eq_take_drop_succ, List.map_append, List.map_take, List.map_drop]
theorem back_ev (t : List S35) (ht : t.length < 4398046511104) : Ev (fun k => heptadlaw11_back.f k (t.map e28)) t := by
 have loop : ∀ i, i ≤ t.length → Ev (fun k => heptadlaw11_back.l0 k (t.map e28) (t.take i) (i : Int)) t := by
  refine up_ind ?_ ?_
  ·exact ev_step (fun k => heptadlaw11_back.l0.eq_2 _ _ _ k) (ev_neg (by simp) (ev_some_eq (by rw [List.take_of_length_le (Nat.le_refl _)])))
  ·intro i hi ih
   refine ev_step (fun k => heptadlaw11_back.l0.eq_2 _ _ _ k) (ev_pos (by simp; omega) (ev_pos (by omega) (ev_pos (by simp; omega) ?_)))
   rw [rd28, map28, wrap_succ hi (by omega)]
   have e : t.take i ++ [(⟨(e28 (t.getD i z35)).f0, (e28 (t.getD i z35)).f1⟩ : S35)] = t.take (i + 1) := by
    rw [List.take_succ_eq_append_getElem hi, getD_lt hi]
    rfl
   rw [e]
   exact ih
 exact loop 0 (by omega)
theorem refOwn (p : List Int) (n : Int) (h : p.length < 17592186044416) : heptadref11_own.f p n = some (p, n) := by
 unfold heptadref11_own.f
 simp [h]
theorem without_ev (t : List S35) (x1 : Int) (m : Nat) (hm : ∀ i, i < t.length → ((i : Int) = x1 ↔ i = m)) (ht : t.length < 4398046511104) (hin : ∀ x ∈ t, x.f0.length < 17592186044416) :
  Ev (fun k => heptadref11_without.f k t x1) (t.eraseIdx m) := by
 have loop : ∀ i, i ≤ t.length → Ev (fun k => heptadref11_without.l0 k t x1 ((t.take i).eraseIdx m) (i : Int)) (t.eraseIdx m) := by
  refine up_ind ?_ ?_
  ·exact ev_step (fun k => heptadref11_without.l0.eq_2 _ _ _ _ k) (ev_neg (by omega) (ev_some_eq (by rw [List.take_of_length_le (Nat.le_refl _)])))
  ·intro i hi ih
   have hlen : (t.take i).length = i := by simp; omega
   refine ev_step (fun k => heptadref11_without.l0.eq_2 _ _ _ _ k) (ev_pos (by omega) ?_)
   rw [rd35, wrap_succ hi (by omega)]
   rw [List.take_succ_eq_append_getElem hi] at ih
   by_cases e : i = m
   ·subst e
    refine ev_pos ((hm i hi).2 rfl) ?_
    rw [List.eraseIdx_append_of_length_le (by omega), hlen, Nat.sub_self] at ih
    rw [List.eraseIdx_of_length_le (by omega)]
    simpa using ih
   ·refine ev_neg (fun h => e ((hm i hi).1 h)) (ev_pos (by omega) (ev_bind0 (refOwn _ _ (hin _ (getD_mem hi))) (ev_pos ?_ ?_)))
    ·have := List.length_eraseIdx_le (t.take i) m
     omega
    ·have e2 : (t.take i).eraseIdx m ++ [(⟨(t.getD i z35).f0, (t.getD i z35).f1⟩ : S35)] = (t.take i ++ [t[i]]).eraseIdx m := by
      rw [getD_lt hi]
      rcases Nat.lt_or_ge m i with h | h
      ·rw [List.eraseIdx_append_of_lt_length (by omega)]
      ·rw [List.eraseIdx_of_length_le (by omega), List.eraseIdx_of_length_le (by simp; omega)]
     show Ev (fun k => heptadref11_without.l0 k t x1 ((t.take i).eraseIdx m ++ [(⟨(t.getD i z35).f0, (t.getD i z35).f1⟩ : S35)]) ((i + 1 : Nat) : Int)) _
     rw [e2]
     exact ih
 unfold heptadref11_without.f
 simpa using loop 0 (by omega)
end Go.Proofs.Ytchkhnhmpgkpeaa.P
