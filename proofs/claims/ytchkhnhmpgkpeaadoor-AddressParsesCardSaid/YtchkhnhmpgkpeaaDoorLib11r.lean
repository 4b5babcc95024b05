/- What the printed functions of the addresses (layer 11) answer: plain lists, no Go. -/
import Derived.Test.YtchkhnhmpgkpeaaDoorRx0
import Derived.Test.YtchkhnhmpgkpeaaDoorRx1
import Derived.Test.YtchkhnhmpgkpeaaDoorRx7
import Derived.Test.YtchkhnhmpgkpeaaDoorRx10
import Derived.Test.YtchkhnhmpgkpeaaDoorEvLib
set_option linter.unusedVariables false
set_option linter.unusedSimpArgs false
namespace Go.Proofs.YtchkhnhmpgkpeaaDoor.R
open Go.RowKit Go.Proofs.YtchkhnhmpgkpeaaDoorW.PrintWords Go.Proofs.YtchkhnhmpgkpeaaDoor.EvLib Go.Proofs.YtchkhnhmpgkpeaaDoor.Common

def badN (n : Int) : Bool := decide (n < 0) || decide (n > 999)
def isPre (p : List Int) : Bool := decide (p.length ≤ 10) && !p.any badN
theorem any_drop {f : Int → Bool} {p : List Int} {i : Nat} (h : i < p.length) : (p.drop i).any f = (f (p.getD i 0) || (p.drop (i + 1)).any f) := by
  rw [List.drop_eq_getElem_cons h, List.any_cons, getD_lt h]
theorem isPre_len {p : List Int} (h : isPre p = true) : p.length ≤ 10 := by simp [isPre] at h; exact h.1
theorem prefix_ev (p : List Int) : address_prefix.f p = some (isPre p) := rfl
theorem refPrefix_ev (p : List Int) (hp : p.length ≤ 9223372036854775807) : Ev (fun k => heptadref11_IsPrefix.f k p) (isPre p) := by
  have loop : ∀ i, i ≤ p.length → Ev (fun k => heptadref11_IsPrefix.l0 k p (i : Int)) (!(p.drop i).any badN) := by
    refine up_ind ?_ ?_
    · refine ev_step (fun k => heptadref11_IsPrefix.l0.eq_2 _ _ k) (ev_neg (by omega) (ev_some_eq (by simp)))
    · intro i hi ih
      refine ev_step (fun k => heptadref11_IsPrefix.l0.eq_2 _ _ k) (ev_pos (by omega) (ev_pos (by omega) ?_))
      rw [any_drop hi, rd_nat]
      refine ev_ite (fun h => ev_some_eq (by simp [-List.getD_eq_getElem?_getD, badN, h])) (fun h => ev_ite (fun h2 => ev_some_eq (by simp [-List.getD_eq_getElem?_getD, badN, h2])) (fun h2 => ?_))
      rw [wrap_succ hi hp]
      refine ev_cast ih ?_
      have h3 : decide (p.getD i 0 < 0) = false := decide_eq_false h
      have h4 : decide (p.getD i 0 > 999) = false := decide_eq_false h2
      rw [badN, h3, h4]
      rfl
  unfold heptadref11_IsPrefix.f
  refine ev_ite (fun h => ev_some_eq (by unfold isPre; simp; omega)) (fun h => ?_)
  refine ev_cast (loop 0 (by omega)) ?_
  unfold isPre
  simp
  intro _
  omega
theorem sane_ev : Ev (fun k => heptadlaw11_sane.f k) true := ev_of (fun k => heptadlaw11_sane.mono k) (k := 12) (by decide +kernel)
end Go.Proofs.YtchkhnhmpgkpeaaDoor.R
