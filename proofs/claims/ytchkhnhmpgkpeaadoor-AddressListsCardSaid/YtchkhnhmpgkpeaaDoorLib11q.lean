/- What the printed functions of the addresses (layer 11) answer: plain lists, no Go. -/
import Derived.Test.YtchkhnhmpgkpeaaDoorQx0
import Derived.Test.YtchkhnhmpgkpeaaDoorQx1
import Derived.Test.YtchkhnhmpgkpeaaDoorQx2
import Derived.Test.YtchkhnhmpgkpeaaDoorQx4
import Derived.Test.YtchkhnhmpgkpeaaDoorQx7
import Derived.Test.YtchkhnhmpgkpeaaDoorQx8
import Derived.Test.YtchkhnhmpgkpeaaDoorQx9
import Derived.Test.YtchkhnhmpgkpeaaDoorQx10
import Derived.Test.YtchkhnhmpgkpeaaDoorQx11
import Derived.Test.YtchkhnhmpgkpeaaDoorEvLib
set_option linter.unusedVariables false
set_option linter.unusedSimpArgs false
namespace Go.Proofs.YtchkhnhmpgkpeaaDoor.Q
open Go.RowKit Go.Proofs.YtchkhnhmpgkpeaaDoorW.PrintWords Go.Proofs.YtchkhnhmpgkpeaaDoor.EvLib Go.Proofs.YtchkhnhmpgkpeaaDoor.Common

def badN (n : Int) : Bool := decide (n < 0) || decide (n > 999)
def isPre (p : List Int) : Bool := decide (p.length ≤ 10) && !p.any badN
theorem any_drop {f : Int → Bool} {p : List Int} {i : Nat} (h : i < p.length) : (p.drop i).any f = (f (p.getD i 0) || (p.drop (i + 1)).any f) := by
  rw [List.drop_eq_getElem_cons h, List.any_cons, getD_lt h]
theorem isPre_len {p : List Int} (h : isPre p = true) : p.length ≤ 10 := by simp [isPre] at h; exact h.1
theorem prefix_ev (p : List Int) : address_prefix.f p = some (isPre p) := rfl
theorem refPrefix_ev (p : List Int) (hp : p.length ≤ 9223372036854775807) : Ev (fun k => heptadref11_IsPrefix.f k p) (isPre p) := by
  have loop : ∀ i, i ≤ p.length → Ev (fun k => heptadref11_IsPrefix.l0 k p (i : Int)) (!(p.drop i).any badN) := by
    refine up_ind ?_ ?_
    · refine ev_step (fun k => heptadref11_IsPrefix.l0.eq_2 _ _ k) (ev_neg (by omega) (ev_some_eq (by simp)))
    · intro i hi ih
      refine ev_step (fun k => heptadref11_IsPrefix.l0.eq_2 _ _ k) (ev_pos (by omega) (ev_pos (by omega) ?_))
      rw [any_drop hi, rd_nat]
      refine ev_ite (fun h => ev_some_eq (by simp [-List.getD_eq_getElem?_getD, badN, h])) (fun h => ev_ite (fun h2 => ev_some_eq (by simp [-List.getD_eq_getElem?_getD, badN, h2])) (fun h2 => ?_))
      rw [wrap_succ hi hp]
      refine ev_cast ih ?_
      have h3 : decide (p.getD i 0 < 0) = false := decide_eq_false h
      have h4 : decide (p.getD i 0 > 999) = false := decide_eq_false h2
      rw [badN, h3, h4]
      rfl
  unfold heptadref11_IsPrefix.f
  refine ev_ite (fun h => ev_some_eq (by unfold isPre; simp; omega)) (fun h => ?_)
  refine ev_cast (loop 0 (by omega)) ?_
  unfold isPre
  simp
  intro _
  omega
theorem compare2_ev (p q : List Int) (hp : p.length ≤ 9223372036854775807) : Ev (fun k => heptadref11_Compare2.f k p q) (cmpL p q) := by
  have stop : ∀ i : Nat, (p.length ≤ i ∨ q.length ≤ i) → i ≤ p.length → i ≤ q.length → Ev (fun k => heptadref11_Compare2.j1 k p q (i : Int) false) (cmpL (p.drop i) (q.drop i)) := by
    intro i h h1 h2
    refine ev_step (fun k => heptadref11_Compare2.j1.eq_2 _ _ _ _ k) (ev_neg (by simp) ?_)
    rw [cmpL_end h h1 h2]
    refine ev_ite (fun h => ev_some_eq (by rw [if_pos (by omega)])) (fun h => ev_ite (fun h2 => ev_some_eq (by rw [if_neg (by omega), if_pos (by omega)])) (fun h2 => ev_some_eq (by rw [if_neg (by omega), if_neg (by omega)])))
  have loop : ∀ i, i ≤ p.length → i ≤ q.length → Ev (fun k => heptadref11_Compare2.l0 k p q (i : Int)) (cmpL (p.drop i) (q.drop i)) := by
    refine up_ind (n := p.length) (P := fun i => i ≤ q.length → Ev (fun k => heptadref11_Compare2.l0 k p q (i : Int)) (cmpL (p.drop i) (q.drop i))) ?_ ?_
    · intro hq
      exact ev_step (fun k => heptadref11_Compare2.l0.eq_2 _ _ _ k) (ev_neg (by omega) (stop _ (.inl (by omega)) (by omega) (by omega)))
    · intro i hi ih hq
      refine ev_step (fun k => heptadref11_Compare2.l0.eq_2 _ _ _ k) (ev_pos (by omega) ?_)
      by_cases h : i < q.length
      · rw [show decide ((i : Int) < (q.length : Int)) = true from decide_eq_true (by omega)]
        refine ev_step (fun k => heptadref11_Compare2.j1.eq_2 _ _ _ _ k) (ev_pos rfl (ev_pos (by omega) (ev_pos (by omega) (ev_pos (by omega) ?_))))
        rw [cmpL_drop hi h, rd_nat, rd_nat]
        refine ev_ite (fun h => ev_some_eq (by rw [if_pos h])) (fun h => ev_ite (fun h2 => ev_some_eq (by rw [if_neg h, if_pos (by omega)])) (fun h2 => ?_))
        rw [wrap_succ hi hp, if_neg h, if_neg (by omega)]
        exact ih (by omega)
      · rw [show decide ((i : Int) < (q.length : Int)) = false from decide_eq_false (by omega)]
        exact stop i (.inr (by omega)) (by omega) hq
  exact loop 0 (by omega) (by omega)
theorem cmp_one (x y : Int) : cmp_Compare_int.f x y = some (if x < y then -1 else if y < x then 1 else 0) := by
  unfold cmp_Compare_int.f cmp_isNaN_int.f
  simp
  split
  · rfl
  · split <;> rfl
theorem compare_ev (p q : List Int) (hp : p.length ≤ 9223372036854775807) : Ev (fun k => slices_Compare_int_int.f k p q) (cmpL p q) := by
  have loop : ∀ i, i ≤ p.length → i ≤ q.length → Ev (fun k => slices_Compare_int_int.l0 k p q p (p.length : Int) (i : Int)) (cmpL (p.drop i) (q.drop i)) := by
    refine up_ind (n := p.length) (P := fun i => i ≤ q.length → Ev (fun k => slices_Compare_int_int.l0 k p q p (p.length : Int) (i : Int)) (cmpL (p.drop i) (q.drop i))) ?_ ?_
    · intro hq
      refine ev_step (fun k => slices_Compare_int_int.l0.eq_2 _ _ _ _ _ k) (ev_neg (by omega) ?_)
      rw [cmpL_end (.inl (Nat.le_refl _)) (Nat.le_refl _) hq]
      exact ev_ite (fun h => ev_some_eq (by rw [if_pos (by omega)])) (fun h => ev_some_eq (by rw [if_neg (by omega), if_neg (by omega)]))
    · intro i hi ih hq
      refine ev_step (fun k => slices_Compare_int_int.l0.eq_2 _ _ _ _ _ k) (ev_pos (by omega) (ev_pos (by omega) (ev_pos (by omega) ?_)))
      by_cases h : i < q.length
      · refine ev_neg (by omega) (ev_pos (by omega) (ev_bind0 (cmp_one _ _) ?_))
        rw [cmpL_drop hi h, rd_nat, rd_nat]
        by_cases h1 : p.getD i 0 < q.getD i 0
        · rw [if_pos h1, if_pos h1]; exact ev_neg (by decide) (ev_some _)
        · by_cases h2 : q.getD i 0 < p.getD i 0
          · rw [if_neg h1, if_pos h2, if_neg h1, if_pos h2]; exact ev_neg (by decide) (ev_some _)
          · rw [if_neg h1, if_neg h2, if_neg h1, if_neg h2]
            refine ev_pos rfl ?_
            rw [wrap_succ hi hp]
            exact ih (by omega)
      · refine ev_pos (by omega) (ev_some_eq ?_)
        rw [cmpL_end (.inr (by omega)) (by omega) hq, if_neg (by omega), if_pos (by omega)]
  exact loop 0 (by omega) (by omega)
theorem equal_ev (p q : List Int) (hp : p.length ≤ 9223372036854775807) : Ev (fun k => slices_Equal_int_int.f k p q) (decide (p = q)) := by
  unfold slices_Equal_int_int.f
  refine ev_ite (fun hl => ?_) (fun h => ev_some_eq (by symm; rw [decide_eq_false_iff_not]; rintro rfl; exact h rfl))
  have loop : ∀ i, i ≤ p.length → Ev (fun k => slices_Equal_int_int.l0 k p q (p.length : Int) (i : Int)) (decide (p.drop i = q.drop i)) := by
    refine up_ind ?_ ?_
    · refine ev_step (fun k => slices_Equal_int_int.l0.eq_2 _ _ _ _ k) (ev_neg (by omega) (ev_some_eq ?_))
      rw [List.drop_eq_nil_of_le (Nat.le_refl _), List.drop_eq_nil_of_le (by omega)]
      rfl
    · intro i hi ih
      refine ev_step (fun k => slices_Equal_int_int.l0.eq_2 _ _ _ _ k) (ev_pos (by omega) (ev_pos (by omega) (ev_pos (by omega) (ev_pos (by omega) ?_))))
      have hq : i < q.length := by omega
      rw [List.drop_eq_getElem_cons hi, List.drop_eq_getElem_cons hq, rd_nat, rd_nat, getD_lt hi, getD_lt hq]
      refine ev_ite (fun h => ?_) (fun h => ev_some_eq (by symm; rw [decide_eq_false_iff_not]; intro e; injection e with e1 _; exact h e1))
      rw [wrap_succ hi hp]
      refine ev_cast ih ?_
      rw [h, Bool.eq_iff_iff, decide_eq_true_iff, decide_eq_true_iff, List.cons.injEq]
      exact ⟨fun e => ⟨rfl, e⟩, fun e => e.2⟩
  exact loop 0 (by omega)
/-- p is a beginning of a. -/
def beg (p a : List Int) : Bool := decide (p.length ≤ a.length ∧ a.take p.length = p)
theorem begins_ev (a p : List Int) (ha : a.length ≤ 9223372036854775807) : Ev (fun k => address_begins.f k a p) (beg p a) := by
  unfold address_begins.f beg
  refine ev_ite (fun h => ev_pos (by omega) (ev_bind (equal_ev _ _ (by simp; omega)) (ev_some_eq ?_))) (fun h => ev_some_eq ?_)
  · simp
    omega
  · simp
    omega
theorem refBegins_ev (p a : List Int) (hp : p.length ≤ 9223372036854775807) : Ev (fun k => heptadref11_Begins.f k p a) (beg p a) := by
  unfold heptadref11_Begins.f beg
  refine ev_ite (fun h => ev_pos (by omega) (ev_bind (compare2_ev _ _ hp) (ev_some_eq ?_))) (fun h => ev_some_eq ?_)
  · rw [Bool.eq_iff_iff]
    simp [cmpL_zero]
    constructor
    · intro e; exact ⟨by omega, e.symm⟩
    · intro e; exact e.2.symm
  · simp
    omega
theorem refValid_ev (p : List Int) (hp : p.length ≤ 9223372036854775807) : Ev (fun k => heptadref11_Valid.f k p) (decide (0 < p.length) && isPre p) := by
  unfold heptadref11_Valid.f
  exact ev_ite (fun h => ev_bind (refPrefix_ev p hp) (ev_some_eq (by simp; intro _; omega))) (fun h => ev_some_eq (by simp; omega))
theorem Valid_ev (p : List Int) : address_Valid.f p = some (decide (0 < p.length) && isPre p) := by
  unfold address_Valid.f
  rw [prefix_ev]
  split
  · simp; intro _; omega
  · simp; omega
theorem sane_ev : Ev (fun k => heptadlaw11_sane.f k) true := ev_of (fun k => heptadlaw11_sane.mono k) (k := 12) (by decide +kernel)
end Go.Proofs.YtchkhnhmpgkpeaaDoor.Q
