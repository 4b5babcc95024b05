/- What the printed functions of the addresses (layer 11) answer: plain lists, no Go. -/
import Derived.Test.YtchkhnhmpgkpeaaPx0
import Derived.Test.YtchkhnhmpgkpeaaPx1
import Derived.Test.YtchkhnhmpgkpeaaPx2
import Derived.Test.YtchkhnhmpgkpeaaPx3
import Derived.Test.YtchkhnhmpgkpeaaPx4
import Derived.Test.YtchkhnhmpgkpeaaPx5
import Derived.Test.YtchkhnhmpgkpeaaPx6
import Derived.Test.YtchkhnhmpgkpeaaPx7
import Derived.Test.YtchkhnhmpgkpeaaPx8
import Derived.Test.YtchkhnhmpgkpeaaPx9
import Derived.Test.YtchkhnhmpgkpeaaPx10
import Derived.Test.YtchkhnhmpgkpeaaPx11
import Derived.Test.YtchkhnhmpgkpeaaPx12
import Derived.Test.YtchkhnhmpgkpeaaEvLib
set_option linter.unusedVariables false
set_option linter.unusedSimpArgs false
namespace Go.Proofs.Ytchkhnhmpgkpeaa.P
open Go.RowKit Go.Proofs.YtchkhnhmpgkpeaaW.PrintWords Go.Proofs.Ytchkhnhmpgkpeaa.EvLib

def badN (n : Int) : Bool := decide (n < 0) || decide (n > 999)
def isPre (p : List Int) : Bool := decide (p.length ≤ 10) && !p.any badN
theorem any_drop {f : Int → Bool} {p : List Int} {i : Nat} (h : i < p.length) : (p.drop i).any f = (f (p.getD i 0) || (p.drop (i + 1)).any f) := by
 rw [List.drop_eq_getElem_cons h, List.any_cons, getD_lt h]
theorem isPre_len {p : List Int} (h : isPre p = true) : p.length ≤ 10 := by simp [isPre] at h; exact h.1
theorem prefix_ev (p : List Int) : address_prefix.f p = some (isPre p) := rfl

theorem refPrefix_ev (p : List Int) (hp : p.length ≤ 9223372036854775807) : Ev (fun k => heptadref11_IsPrefix.f k p) (isPre p) := by
 have loop : ∀ i, i ≤ p.length → Ev (fun k => heptadref11_IsPrefix.l0 k p (i : Int)) (!(p.drop i).any badN) := by
  refine up_ind ?_ ?_
  ·refine ev_step (fun k => heptadref11_IsPrefix.l0.eq_2 _ _ k) (ev_neg (by omega) (ev_some_eq (by simp)))
  ·intro i hi ih
   refine ev_step (fun k => heptadref11_IsPrefix.l0.eq_2 _ _ k) (ev_pos (by omega) (ev_pos (by omega) ?_))
   rw [any_drop hi, rd_nat]
   refine ev_ite (fun h => ev_some_eq (by simp [-List.getD_eq_getElem?_getD, badN, h])) (fun h => ev_ite (fun h2 => ev_some_eq (by simp [-List.getD_eq_getElem?_getD, badN, h2])) (fun h2 => ?_))
   rw [wrap_succ hi hp]
   refine ev_cast ih ?_
   have h3 : decide (p.getD i 0 < 0) = false := decide_eq_false h
   have h4 : decide (p.getD i 0 > 999) = false := decide_eq_false h2
   rw [badN, h3, h4]
   rfl
 unfold heptadref11_IsPrefix.f
 refine ev_ite (fun h => ev_some_eq (by unfold isPre; simp; omega)) (fun h => ?_)
 refine ev_cast (loop 0 (by omega)) ?_
 unfold isPre
 simp
 intro _
 omega

theorem compare2_ev (p q : List Int) (hp : p.length ≤ 9223372036854775807) : Ev (fun k => heptadref11_Compare2.f k p q) (cmpL p q) := by
 have stop : ∀ i : Nat, (p.length ≤ i ∨ q.length ≤ i) → i ≤ p.length → i ≤ q.length → Ev (fun k => heptadref11_Compare2.j1 k p q (i : Int) false) (cmpL (p.drop i) (q.drop i)) := by
  intro i h h1 h2
  refine ev_step (fun k => heptadref11_Compare2.j1.eq_2 _ _ _ _ k) (ev_neg (by simp) ?_)
  rw [cmpL_end h h1 h2]
  refine ev_ite (fun h => ev_some_eq (by rw [if_pos (by omega)])) (fun h => ev_ite (fun h2 => ev_some_eq (by rw [if_neg (by omega), if_pos (by omega)])) (fun h2 => ev_some_eq (by rw [if_neg (by omega), if_neg (by omega)])))
 have loop : ∀ i, i ≤ p.length → i ≤ q.length → Ev (fun k => heptadref11_Compare2.l0 k p q (i : Int)) (cmpL (p.drop i) (q.drop i)) := by
  refine up_ind (n := p.length) (P := fun i => i ≤ q.length → Ev (fun k => heptadref11_Compare2.l0 k p q (i : Int)) (cmpL (p.drop i) (q.drop i))) ?_ ?_
  ·intro hq
   exact ev_step (fun k => heptadref11_Compare2.l0.eq_2 _ _ _ k) (ev_neg (by omega) (stop _ (.inl (by omega)) (by omega) (by omega)))
  ·intro i hi ih hq
   refine ev_step (fun k => heptadref11_Compare2.l0.eq_2 _ _ _ k) (ev_pos (by omega) ?_)
   by_cases h : i < q.length
   ·rw [show decide ((i : Int) < (q.length : Int)) = true from decide_eq_true (by omega)]
    refine ev_step (fun k => heptadref11_Compare2.j1.eq_2 _ _ _ _ k) (ev_pos rfl (ev_pos (by omega) (ev_pos (by omega) (ev_pos (by omega) ?_))))
    rw [cmpL_drop hi h, rd_nat, rd_nat]
    refine ev_ite (fun h => ev_some_eq (by rw [if_pos h])) (fun h => ev_ite (fun h2 => ev_some_eq (by rw [if_neg h, if_pos (by omega)])) (fun h2 => ?_))
    rw [wrap_succ hi hp, if_neg h, if_neg (by omega)]
    exact ih (by omega)
   ·rw [show decide ((i : Int) < (q.length : Int)) = false from decide_eq_false (by omega)]
    exact stop i (.inr (by omega)) (by omega) hq
 exact loop 0 (by omega) (by omega)

theorem cmp_one (x y : Int) : cmp_Compare_int.f x y = some (if x < y then -1 else if y < x then 1 else 0) := by
 unfold cmp_Compare_int.f cmp_isNaN_int.f
 simp
 split
 ·rfl
 ·split <;> rfl
theorem compare_ev (p q : List Int) (hp : p.length ≤ 9223372036854775807) : Ev (fun k => slices_Compare_int_int.f k p q) (cmpL p q) := by
 have loop : ∀ i, i ≤ p.length → i ≤ q.length → Ev (fun k => slices_Compare_int_int.l0 k p q p (p.length : Int) (i : Int)) (cmpL (p.drop i) (q.drop i)) := by
  refine up_ind (n := p.length) (P := fun i => i ≤ q.length → Ev (fun k => slices_Compare_int_int.l0 k p q p (p.length : Int) (i : Int)) (cmpL (p.drop i) (q.drop i))) ?_ ?_
  ·intro hq
   refine ev_step (fun k => slices_Compare_int_int.l0.eq_2 _ _ _ _ _ k) (ev_neg (by omega) ?_)
   rw [cmpL_end (.inl (Nat.le_refl _)) (Nat.le_refl _) hq]
   exact ev_ite (fun h => ev_some_eq (by rw [if_pos (by omega)])) (fun h => ev_some_eq (by rw [if_neg (by omega), if_neg (by omega)]))
  ·intro i hi ih hq
   refine ev_step (fun k => slices_Compare_int_int.l0.eq_2 _ _ _ _ _ k) (ev_pos (by omega) (ev_pos (by omega) (ev_pos (by omega) ?_)))
   by_cases h : i < q.length
   ·refine ev_neg (by omega) (ev_pos (by omega) (ev_bind0 (cmp_one _ _) ?_))
    rw [cmpL_drop hi h, rd_nat, rd_nat]
    by_cases h1 : p.getD i 0 < q.getD i 0
    ·rw [if_pos h1, if_pos h1]; exact ev_neg (by decide) (ev_some _)
    ·by_cases h2 : q.getD i 0 < p.getD i 0
     ·rw [if_neg h1, if_pos h2, if_neg h1, if_pos h2]; exact ev_neg (by decide) (ev_some _)
     ·rw [if_neg h1, if_neg h2, if_neg h1, if_neg h2]
      refine ev_pos rfl ?_
      rw [wrap_succ hi hp]
      exact ih (by omega)
   ·refine ev_pos (by omega) (ev_some_eq ?_)
    rw [cmpL_end (.inr (by omega)) (by omega) hq, if_neg (by omega), if_pos (by omega)]
 exact loop 0 (by omega) (by omega)

theorem equal_ev (p q : List Int) (hp : p.length ≤ 9223372036854775807) : Ev (fun k => slices_Equal_int_int.f k p q) (decide (p = q)) := by
 unfold slices_Equal_int_int.f
 refine ev_ite (fun hl => ?_) (fun h => ev_some_eq (by symm; rw [decide_eq_false_iff_not]; rintro rfl; exact h rfl))
 have loop : ∀ i, i ≤ p.length → Ev (fun k => slices_Equal_int_int.l0 k p q (p.length : Int) (i : Int)) (decide (p.drop i = q.drop i)) := by
  refine up_ind ?_ ?_
  ·refine ev_step (fun k => slices_Equal_int_int.l0.eq_2 _ _ _ _ k) (ev_neg (by omega) (ev_some_eq ?_))
   rw [List.drop_eq_nil_of_le (Nat.le_refl _), List.drop_eq_nil_of_le (by omega)]
   rfl
  ·intro i hi ih
   refine ev_step (fun k => slices_Equal_int_int.l0.eq_2 _ _ _ _ k) (ev_pos (by omega) (ev_pos (by omega) (ev_pos (by omega) (ev_pos (by omega) ?_))))
   have hq : i < q.length := by omega
   rw [List.drop_eq_getElem_cons hi, List.drop_eq_getElem_cons hq, rd_nat, rd_nat, getD_lt hi, getD_lt hq]
   refine ev_ite (fun h => ?_) (fun h => ev_some_eq (by symm; rw [decide_eq_false_iff_not]; intro e; injection e with e1 _; exact h e1))
   rw [wrap_succ hi hp]
   refine ev_cast ih ?_
   rw [h, Bool.eq_iff_iff, decide_eq_true_iff, decide_eq_true_iff, List.cons.injEq]
   exact ⟨fun e => ⟨rfl, e⟩, fun e => e.2⟩
 exact loop 0 (by omega)

/-- p is a beginning of a. -/
def beg (p a : List Int) : Bool := decide (p.length ≤ a.length ∧ a.take p.length = p)
theorem begins_ev (a p : List Int) (ha : a.length ≤ 9223372036854775807) : Ev (fun k => address_begins.f k a p) (beg p a) := by
 unfold address_begins.f beg
 refine ev_ite (fun h => ev_pos (by omega) (ev_bind (equal_ev _ _ (by simp; omega)) (ev_some_eq ?_))) (fun h => ev_some_eq ?_)
 ·simp
  omega
 ·simp
  omega
theorem refBegins_ev (p a : List Int) (hp : p.length ≤ 9223372036854775807) : Ev (fun k => heptadref11_Begins.f k p a) (beg p a) := by
 unfold heptadref11_Begins.f beg
 refine ev_ite (fun h => ev_pos (by omega) (ev_bind (compare2_ev _ _ hp) (ev_some_eq ?_))) (fun h => ev_some_eq ?_)
 ·rw [Bool.eq_iff_iff]
  simp [cmpL_zero]
  constructor
  ·intro e; exact ⟨by omega, e.symm⟩
  ·intro e; exact e.2.symm
 ·simp
  omega

def okTo (n : Int) : Bool := decide (0 ≤ n ∧ n ≤ 999)
def okE (p : List Int) (n : Int) : Bool := isPre p && okTo n
theorem refEntry_ev (p : List Int) (n : Int) (hp : p.length ≤ 9223372036854775807) : Ev (fun k => heptadref11_IsEntry.f k p n) (okE p n) := by
 unfold heptadref11_IsEntry.f okE okTo
 refine ev_bind (refPrefix_ev p hp) (ev_ite (fun h => ?_) (fun h => ev_some_eq (by simp [h])))
 rw [h]
 exact ev_ite (fun h => ev_some_eq (by simp; omega)) (fun h => ev_some_eq (by simp; omega))
theorem valid_ev (p : List Int) (n : Int) : address_valid.f p n = some (okE p n) := by
 unfold address_valid.f okE okTo
 rw [prefix_ev, Option.bind_some]
 cases isPre p
 ·simp
 ·simp
  by_cases h : 0 ≤ n
  ·rw [if_pos h]; simp [h]
  ·rw [if_neg h]; simp; omega
theorem refValid_ev (p : List Int) (hp : p.length ≤ 9223372036854775807) : Ev (fun k => heptadref11_Valid.f k p) (decide (0 < p.length) && isPre p) := by
 unfold heptadref11_Valid.f
 exact ev_ite (fun h => ev_bind (refPrefix_ev p hp) (ev_some_eq (by simp; intro _; omega))) (fun h => ev_some_eq (by simp; omega))
theorem Valid_ev (p : List Int) : address_Valid.f p = some (decide (0 < p.length) && isPre p) := by
 unfold address_Valid.f
 rw [prefix_ev]
 split
 ·simp; intro _; omega
 ·simp; omega

/-! Tables -/
def e28 (x : S35) : S28 := ⟨x.f0, x.f1⟩
/-- Place j of a table is right: an entry, and behind the one ahead of it. -/
def okAt (t : List S35) (j : Nat) : Bool := okE (t.getD j z35).f0 (t.getD j z35).f1 && (decide (j = 0) || decide (cmpL (t.getD (j - 1) z35).f0 (t.getD j z35).f0 < 0))
def isTab (t : List S35) : Bool := decide (t.length ≤ 100) && decide (∀ j, j < t.length → okAt t j = true)
theorem all_from {n i : Nat} {P : Nat → Bool} (hi : i < n) : decide (∀ j, j < n → i ≤ j → P j = true) = (P i && decide (∀ j, j < n → i + 1 ≤ j → P j = true)) := by
 rw [Bool.eq_iff_iff]
 simp only [decide_eq_true_eq, Bool.and_eq_true]
 constructor
 ·intro h; exact ⟨h i hi (Nat.le_refl _), fun j hj hij => h j hj (by omega)⟩
 ·rintro ⟨h1, h2⟩ j hj hij
  rcases Nat.lt_or_ge i j with h | h
  ·exact h2 j hj h
  ·obtain rfl : j = i := by omega
   exact h1
theorem all_end {n : Nat} {P : Nat → Bool} : decide (∀ j, j < n → n ≤ j → P j = true) = true := by simp; intro j h1 h2; omega
theorem rd35 (t : List S35) (i : Nat) : rd_T35 t (i : Int) = t.getD i z35 := by simp [rd_T35]
theorem rd28 (t : List S28) (i : Nat) : rd_T28 t (i : Int) = t.getD i z28 := by simp [rd_T28]
theorem map28 (t : List S35) (i : Nat) : (t.map e28).getD i z28 = e28 (t.getD i z35) := by
 simp only [List.getD_eq_getElem?_getD, List.getElem?_map]
 cases t[i]? <;> rfl

theorem refTable_ev (t : List S35) (ht : t.length ≤ 9223372036854775807) (hin : ∀ x ∈ t, x.f0.length ≤ 9223372036854775807) : Ev (fun k => heptadref11_IsTable.f k t) (isTab t) := by
 have hlen : ∀ j, j < t.length → (t.getD j z35).f0.length ≤ 9223372036854775807 := fun j hj => hin _ (getD_mem hj)
 have loop : ∀ i, i ≤ t.length → Ev (fun k => heptadref11_IsTable.l0 k t (i : Int)) (decide (∀ j, j < t.length → i ≤ j → okAt t j = true)) := by
  refine up_ind ?_ ?_
  ·exact ev_step (fun k => heptadref11_IsTable.l0.eq_2 _ _ k) (ev_neg (by omega) (ev_some_eq all_end.symm))
  ·intro i hi ih
   refine ev_step (fun k => heptadref11_IsTable.l0.eq_2 _ _ k) (ev_pos (by omega) (ev_pos (by omega) ?_))
   rw [all_from hi, rd35, okAt]
   refine ev_bind (refEntry_ev _ _ (hlen i hi)) ?_
   refine ev_ite (fun h => ?_) (fun h => ev_some_eq (by rw [Bool.not_eq_true] at h; rw [h]; rfl))
   rw [h]
   by_cases h0 : i = 0
   ·subst h0
    refine ev_neg (by omega) ?_
    rw [wrap_succ hi ht]
    exact ev_cast ih (by simp)
   ·refine ev_pos (by omega) ?_
    rw [wrap_pred hi ht (by omega), rd35]
    refine ev_pos (by omega) (ev_pos (by omega) (ev_bind (compare2_ev _ _ (hlen (i - 1) (by omega))) ?_))
    refine ev_ite (fun h => ev_some_eq (by rw [decide_eq_false h0, decide_eq_false (by omega)]; rfl)) (fun h => ?_)
    rw [wrap_succ hi ht]
    refine ev_cast ih ?_
    rw [decide_eq_false h0, show decide (cmpL (t.getD (i - 1) z35).f0 (t.getD i z35).f0 < 0) = true from decide_eq_true (by omega)]
    simp
 unfold heptadref11_IsTable.f isTab
 refine ev_ite (fun h => ev_some_eq (by symm; simp; omega)) (fun h => ev_cast (loop 0 (by omega)) ?_)
 simp
 intro _
 omega

theorem entries_ev (t : List S35) (ht : t.length ≤ 9223372036854775807) (hin : ∀ x ∈ t, x.f0.length ≤ 9223372036854775807) : Ev (fun k => address_entries.f k (t.map e28)) (if isTab t = true then 0 else 1) := by
 have hlen : ∀ j, j < t.length → (t.getD j z35).f0.length ≤ 9223372036854775807 := fun j hj => hin _ (getD_mem hj)
 have hl : (t.map e28).length = t.length := by simp
 have loop : ∀ i, i ≤ t.length → Ev (fun k => address_entries.l0 k (t.map e28) (t.map e28) (t.length : Int) (i : Int)) (if decide (∀ j, j < t.length → i ≤ j → okAt t j = true) = true then 0 else 1) := by
  refine up_ind ?_ ?_
  ·refine ev_step (fun k => address_entries.l0.eq_2 _ _ _ _ k) (ev_neg (by omega) (ev_some_eq ?_))
   rw [if_pos all_end]
  ·intro i hi ih
   refine ev_step (fun k => address_entries.l0.eq_2 _ _ _ _ k) (ev_pos (by omega) (ev_pos (by omega) (ev_pos (by rw [hl]; omega) ?_)))
   rw [all_from hi, rd28, map28, okAt]
   show Ev (fun k => (address_valid.f (t.getD i z35).f0 (t.getD i z35).f1).bind _) _
   refine ev_bind0 (valid_ev _ _) ?_
   refine ev_ite (fun h => ?_) (fun h => ev_some_eq (by rw [Bool.not_eq_true] at h; rw [h]; rfl))
   rw [h]
   by_cases h0 : i = 0
   ·subst h0
    refine ev_neg (by omega) ?_
    rw [wrap_succ hi ht]
    exact ev_cast ih (by simp)
   ·refine ev_pos (by omega) ?_
    rw [wrap_pred hi ht (by omega), rd28, map28, hl]
    refine ev_pos (by omega) (ev_pos (by omega) (ev_bind (compare_ev (t.getD (i - 1) z35).f0 (t.getD i z35).f0 (hlen (i - 1) (by omega))) ?_))
    refine ev_ite (fun h => ev_some_eq ?_) (fun h => ?_)
    ·rw [decide_eq_false h0, show decide (cmpL (t.getD (i - 1) z35).f0 (t.getD i z35).f0 < 0) = false from decide_eq_false (by omega), if_neg (by simp)]
    ·rw [wrap_succ hi ht]
     refine ev_cast ih ?_
     have h2 : cmpL (t.getD (i - 1) z35).f0 (t.getD i z35).f0 < 0 := by omega
     rw [decide_eq_false h0, decide_eq_true h2]
     simp
 unfold address_entries.f isTab
 rw [hl]
 refine ev_ite (fun h => ev_some_eq ?_) (fun h => ev_cast (loop 0 (by omega)) ?_)
 ·rw [if_neg]
  simp
  omega
 ·have h1 : t.length ≤ 100 := by omega
  simp [h1]

theorem table_ev (t : List S35) (ht : t.length * 32 ≤ 140737488351232) (hin : ∀ x ∈ t, x.f0.length * 8 ≤ 140737488351232) : Ev (fun k => heptadlaw11_table.f k t) (t.map e28) := by
 have loop : ∀ i, i ≤ t.length → Ev (fun k => heptadlaw11_table.l0 k t ((t.take i).map e28) (i : Int)) (t.map e28) := by
  refine up_ind ?_ ?_
  ·exact ev_step (fun k => heptadlaw11_table.l0.eq_2 _ _ _ k) (ev_neg (by omega) (ev_some_eq (by rw [List.take_of_length_le (Nat.le_refl _)])))
  ·intro i hi ih
   refine ev_step (fun k => heptadlaw11_table.l0.eq_2 _ _ _ k) (ev_pos (by omega) (ev_pos (by omega) ?_))
   rw [rd35]
   have hc : heptadref01_Copy.f (t.getD i z35).f0 = some (t.getD i z35).f0 := by
    unfold heptadref01_Copy.f
    have := hin _ (getD_mem (d := z35) hi)
    rw [Option.bind_some, if_pos (by simp only [List.length_nil]; omega)]
    rfl
   refine ev_bind0 hc (ev_pos (by simp; omega) ?_)
   rw [wrap_succ hi (by omega)]
   have e : (t.take i).map e28 ++ [(⟨(t.getD i z35).f0, (t.getD i z35).f1⟩ : S28)] = (t.take (i + 1)).map e28 := by
    rw [List.take_succ_eq_append_getElem hi, List.map_append, getD_lt hi]
    rfl
   rw [e]
   exact ih
 exact loop 0 (by omega)

/-- The places whose list is a beginning of a, no longer than most. -/
def candAt (t : List S35) (a : List Int) (most : Int) (j : Nat) : Prop := ((t.getD j z35).f0.length : Int) ≤ most ∧ beg (t.getD j z35).f0 a = true
def lenAt (t : List S35) (j : Nat) : Nat := (t.getD j z35).f0.length
theorem best_nat {cand : Nat → Prop} {len : Nat → Nat} {n : Nat} {r : Int} (h : IsBest cand len n r) (hr : ¬ r < 0) : ∃ m : Nat, r = m ∧ m < n := by
 rcases h with ⟨h1, _⟩ | ⟨m, h1, h2, _⟩
 ·omega
 ·exact ⟨m, h1, h2⟩
theorem find_ev (t : List S35) (a : List Int) (most : Int) (ht : t.length ≤ 9223372036854775807) (ha : a.length ≤ 9223372036854775807) :
  ∃ r, Ev (fun k => address_find.f k (t.map e28) a most) r ∧ IsBest (candAt t a most) (lenAt t) t.length r := by
 have hl : (t.map e28).length = t.length := by simp
 have loop : ∀ i, i ≤ t.length → ∀ b : Int, IsBest (candAt t a most) (lenAt t) i b → ∃ r, Ev (fun k => address_find.l0 k (t.map e28) a most b (t.map e28) (t.length : Int) (i : Int)) r ∧ IsBest (candAt t a most) (lenAt t) t.length r := by
  refine up_ind (P := fun i => ∀ b : Int, IsBest (candAt t a most) (lenAt t) i b → ∃ r, Ev (fun k => address_find.l0 k (t.map e28) a most b (t.map e28) (t.length : Int) (i : Int)) r ∧ IsBest (candAt t a most) (lenAt t) t.length r) ?_ ?_
  ·intro b hb
   exact ⟨b, ev_step (fun k => address_find.l0.eq_2 _ _ _ _ _ _ _ k) (ev_neg (by omega) (ev_some _)), hb⟩
  ·intro i hi ih b hb
   have hbeg := begins_ev a (t.getD i z35).f0 ha
   -- what becomes of the best
   have next : ∃ b', IsBest (candAt t a most) (lenAt t) (i + 1) b' ∧ ∀ r, Ev (fun k => address_find.l0 k (t.map e28) a most b' (t.map e28) (t.length : Int) ((i + 1 : Nat) : Int)) r →
     Ev (fun k => address_find.l0 k (t.map e28) a most b (t.map e28) (t.length : Int) (i : Int)) r := by
    by_cases h1 : ((t.getD i z35).f0.length : Int) ≤ most
    ·by_cases h2 : beg (t.getD i z35).f0 a = true
     ·have hc : candAt t a most i := ⟨h1, h2⟩
      by_cases h3 : b < 0
      ·refine ⟨i, hb.first h3 hc, fun r hr => ?_⟩
       refine ev_step (fun k => address_find.l0.eq_2 _ _ _ _ _ _ _ k) (ev_pos (by omega) (ev_pos (by omega) (ev_pos (by rw [hl]; omega) ?_)))
       rw [rd28, map28, wrap_succ hi ht]
       exact ev_pos h1 (ev_bind hbeg (ev_pos h2 (ev_pos h3 hr)))
      ·obtain ⟨m, rfl, hm⟩ := best_nat hb h3
       by_cases h4 : lenAt t m < lenAt t i
       ·refine ⟨i, hb.more hc h4, fun r hr => ?_⟩
        refine ev_step (fun k => address_find.l0.eq_2 _ _ _ _ _ _ _ k) (ev_pos (by omega) (ev_pos (by omega) (ev_pos (by rw [hl]; omega) ?_)))
        rw [rd28, map28, wrap_succ hi ht]
        refine ev_pos h1 (ev_bind hbeg (ev_pos h2 (ev_neg h3 (ev_pos (by omega) (ev_pos (by rw [hl]; omega) ?_)))))
        rw [rd28, map28]
        exact ev_pos (by simp only [lenAt] at h4; show ((t.getD i z35).f0.length : Int) > ((t.getD m z35).f0.length : Int); omega) hr
       ·refine ⟨m, hb.less (by omega), fun r hr => ?_⟩
        refine ev_step (fun k => address_find.l0.eq_2 _ _ _ _ _ _ _ k) (ev_pos (by omega) (ev_pos (by omega) (ev_pos (by rw [hl]; omega) ?_)))
        rw [rd28, map28, wrap_succ hi ht]
        refine ev_pos h1 (ev_bind hbeg (ev_pos h2 (ev_neg h3 (ev_pos (by omega) (ev_pos (by rw [hl]; omega) ?_)))))
        rw [rd28, map28]
        exact ev_neg (by simp only [lenAt] at h4; show ¬ ((t.getD i z35).f0.length : Int) > ((t.getD m z35).f0.length : Int); omega) hr
     ·refine ⟨b, hb.skip (fun hc => h2 hc.2), fun r hr => ?_⟩
      refine ev_step (fun k => address_find.l0.eq_2 _ _ _ _ _ _ _ k) (ev_pos (by omega) (ev_pos (by omega) (ev_pos (by rw [hl]; omega) ?_)))
      rw [rd28, map28, wrap_succ hi ht]
      exact ev_pos h1 (ev_bind hbeg (ev_neg h2 hr))
    ·refine ⟨b, hb.skip (fun hc => h1 hc.1), fun r hr => ?_⟩
     refine ev_step (fun k => address_find.l0.eq_2 _ _ _ _ _ _ _ k) (ev_pos (by omega) (ev_pos (by omega) (ev_pos (by rw [hl]; omega) ?_)))
     rw [rd28, map28, wrap_succ hi ht]
     exact ev_neg h1 hr
   obtain ⟨b', hb', hn⟩ := next
   obtain ⟨r, hr, hbest⟩ := ih b' hb'
   exact ⟨r, hn r hr, hbest⟩
 obtain ⟨r, hr, hb⟩ := loop 0 (by omega) (-1) (IsBest.start _ _)
 refine ⟨r, ?_, hb⟩
 unfold address_find.f
 rw [hl]
 exact hr

/-- What Find answers: of a table and an address. -/
theorem Find_ev (t : List S35) (a : List Int) (ht : isTab t = true) (ha : isPre a = true) (ha0 : 0 < a.length) :
  ∃ r, IsBest (candAt t a 10) (lenAt t) t.length r ∧ Ev (fun k => address_Find.f k (t.map e28) a) (if r < 0 then (([] : List Int), 0, 3) else ((t.getD r.toNat z35).f0, (t.getD r.toNat z35).f1, 0)) := by
 have hl : (t.map e28).length = t.length := by simp
 have h1 := ht
 simp only [isTab, Bool.and_eq_true, decide_eq_true_eq] at h1
 have hin : ∀ j, j < t.length → (t.getD j z35).f0.length ≤ 10 := fun j hj => by
  have := h1.2 j hj
  simp only [okAt, okE, Bool.and_eq_true] at this
  exact isPre_len this.1.1
 have hin2 : ∀ x ∈ t, x.f0.length ≤ 9223372036854775807 := fun x hx => by
  obtain ⟨i, hi, rfl⟩ := mem_getD z35 hx
  have := hin i hi
  omega
 have hal := isPre_len ha
 obtain ⟨r, hr, hb⟩ := find_ev t a 10 (by omega) (by omega)
 refine ⟨r, hb, ?_⟩
 unfold address_Find.f
 refine ev_bind0 (Valid_ev a) (ev_pos (by simp [ha, ha0]) (ev_bind (entries_ev t (by omega) hin2) ?_))
 rw [if_pos ht]
 refine ev_pos rfl (ev_bind hr ?_)
 by_cases h3 : r < 0
 ·rw [if_pos h3]
  exact ev_some_eq (by rw [if_pos h3])
 ·rw [if_neg h3]
  obtain ⟨m, rfl, hm⟩ := best_nat hb h3
  refine ev_pos (by omega) ?_
  rw [wrap_succ hm (by omega), hl]
  refine ev_pos (by omega) (ev_pos (by omega) ?_)
  have e : (((t.map e28).take ((m + 1 : Nat) : Int).toNat).drop (m : Int).toNat) = [e28 (t.getD m z35)] := by
   simp only [Int.toNat_natCast]
   rw [← List.map_take, ← List.map_drop, List.take_succ_eq_append_getElem hm, List.drop_append_of_le_length (by simp; omega), List.drop_eq_nil_of_le (by simp; omega), getD_lt hm]
   rfl
  have ho : address_own.f [e28 (t.getD m z35)] = some [e28 (t.getD m z35)] := by
   unfold address_own.f
   rw [if_pos]
   refine ⟨by simp, fun x hx => ?_⟩
   rw [List.mem_singleton.1 hx]
   have := hin m hm
   show (t.getD m z35).f0.length * 8 ≤ _
   omega
  rw [e]
  refine ev_bind0 ho (ev_pos (by simp) (ev_some_eq ?_))
  simp [rd_T28, e28]

theorem sane_ev : Ev (fun k => heptadlaw11_sane.f k) true := ev_of (fun k => heptadlaw11_sane.mono k) (k := 12) (by decide +kernel)

/-- 'large' answers, and where it says no the table is small. -/
theorem large_ev (t : List S35) (ht : t.length * 32 ≤ 140737488351232) (hin : ∀ x ∈ t, x.f0.length * 8 ≤ 140737488351232) : ∃ b, Ev (fun k => heptadlaw11_large.f k t) b ∧ (b = false → t.length < 4000 ∧ ∀ x ∈ t, x.f0.length < 4000) := by
 have loop : ∀ i, i ≤ t.length → ∀ n : Int, (t.length : Int) ≤ n → n ≤ 17592186048416 → (∀ j, j < i → ((t.getD j z35).f0.length : Int) ≤ n) →
   ∃ b, Ev (fun k => heptadlaw11_large.l0 k t n (i : Int)) b ∧ (b = false → (t.length : Int) < 4000 ∧ ∀ j, j < t.length → ((t.getD j z35).f0.length : Int) < 4000) := by
  refine up_ind (P := fun i => ∀ n : Int, (t.length : Int) ≤ n → n ≤ 17592186048416 → (∀ j, j < i → ((t.getD j z35).f0.length : Int) ≤ n) →
   ∃ b, Ev (fun k => heptadlaw11_large.l0 k t n (i : Int)) b ∧ (b = false → (t.length : Int) < 4000 ∧ ∀ j, j < t.length → ((t.getD j z35).f0.length : Int) < 4000)) ?_ ?_
  ·intro n h1 h2 h3
   refine ⟨decide (n ≥ 4000), ev_step (fun k => heptadlaw11_large.l0.eq_2 _ _ _ k) (ev_neg (by omega) (ev_some _)), fun h => ?_⟩
   rw [decide_eq_false_iff_not] at h
   exact ⟨by omega, fun j hj => by have := h3 j hj; omega⟩
  ·intro i hi ih n h1 h2 h3
   by_cases h4 : n < 4000
   ·have h5 := hin _ (getD_mem (d := z35) hi)
    obtain ⟨b, hb, hs⟩ := ih (n + ((t.getD i z35).f0.length : Int)) (by omega) (by omega) (fun j hj => by
     rcases Nat.lt_or_ge j i with h | h
     ·have := h3 j h; omega
     ·obtain rfl : j = i := by omega
      omega)
    refine ⟨b, ev_step (fun k => heptadlaw11_large.l0.eq_2 _ _ _ k) (ev_pos (by omega) (ev_pos h4 (ev_pos (by omega) ?_))), hs⟩
    rw [rd35, wrap_succ hi (by omega), wrap_in (by omega) (by omega)]
    exact hb
   ·exact ⟨true, ev_step (fun k => heptadlaw11_large.l0.eq_2 _ _ _ k) (ev_pos (by omega) (ev_neg h4 (ev_some_eq (by simp; omega)))), fun h => by cases h⟩
 obtain ⟨b, hb, hs⟩ := loop 0 (by omega) (t.length : Int) (by omega) (by omega) (fun j hj => by omega)
 refine ⟨b, hb, fun h => ?_⟩
 obtain ⟨h1, h2⟩ := hs h
 refine ⟨by omega, fun x hx => ?_⟩
 obtain ⟨i, hi, rfl⟩ := mem_getD z35 hx
 have := h2 i hi
 omega
end Go.Proofs.Ytchkhnhmpgkpeaa.P
