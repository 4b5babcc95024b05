/- What the printed functions of AddressLongest answer is true, for all tables and lists. -/
import Derived.Test.YtchkhnhmpgkpeaaLib11
set_option linter.unusedVariables false
set_option linter.unusedSimpArgs false
namespace Go.Proofs.Ytchkhnhmpgkpeaa.Pure
open Go.RowKit Go.Proofs.Ytchkhnhmpgkpeaa.P Go.Proofs.YtchkhnhmpgkpeaaW.PrintWords Go.Proofs.Ytchkhnhmpgkpeaa.EvLib

theorem j0_sane (t : List S35) (a : List Int) : Ev (fun k => heptadlaw11_AddressLongest.j0 k t a true) true :=
  ev_step (fun k => heptadlaw11_AddressLongest.j0.eq_2 _ _ _ k) (ev_pos rfl (ev_bind sane_ev (ev_some _)))

theorem loop_ok (t : List S35) (a : List Int) (e : Int) (p : List Int) (n : Int) (ht : t.length ≤ 9223372036854775807) (hin : ∀ j, j < t.length → (t.getD j z35).f0.length ≤ 9223372036854775807)
    (h : ∀ j, j < t.length → beg (t.getD j z35).f0 a = true → e = 0 ∧ (t.getD j z35).f0.length ≤ p.length) :
    ∀ i, i ≤ t.length → Ev (fun k => heptadlaw11_AddressLongest.l0 k t a e (i : Int) p n) true := by
  refine up_ind ?_ ?_
  · exact ev_step (fun k => heptadlaw11_AddressLongest.l0.eq_2 _ _ _ _ _ _ k) (ev_neg (by omega) (ev_bind sane_ev (ev_some _)))
  · intro i hi ih
    refine ev_step (fun k => heptadlaw11_AddressLongest.l0.eq_2 _ _ _ _ _ _ k) (ev_pos (by omega) (ev_pos (by omega) ?_))
    rw [rd35, wrap_succ hi ht]
    refine ev_bind (refBegins_ev _ _ (hin i hi)) ?_
    by_cases hb : beg (t.getD i z35).f0 a = true
    · obtain ⟨h1, h2⟩ := h i hi hb
      exact ev_pos hb (ev_pos h1 (ev_neg (by omega) ih))
    · exact ev_neg hb ih

theorem AddressLongest : heptadlaw11_AddressLongest.Pure := by
  intro t a ht ha
  obtain ⟨ht1, ht2, ht3⟩ := ht
  obtain ⟨ha1, ha2, ha3⟩ := ha
  have hin8 : ∀ x ∈ t, x.f0.length * 8 ≤ 140737488351232 := fun x hx => (ht3 x hx).1.2.1
  have hinm : ∀ x ∈ t, x.f0.length ≤ 9223372036854775807 := fun x hx => (ht3 x hx).1.1
  refine ev_at ?_
  unfold heptadlaw11_AddressLongest.f
  obtain ⟨b, hb, _⟩ := large_ev t ht2 hin8
  refine ev_bind hb ?_
  refine ev_ite (fun _ => j0_sane t a) (fun _ => ev_ite (fun _ => j0_sane t a) (fun _ => ?_))
  refine ev_bind (refTable_ev t ht1 hinm) (ev_ite (fun hT => ?_) (fun _ => j0_sane t a))
  refine ev_bind (refValid_ev a ha1) ?_
  cases hV : (decide (0 < a.length) && isPre a) with
  | false => exact j0_sane t a
  | true =>
    simp only [Bool.and_eq_true, decide_eq_true_eq] at hV
    refine ev_step (fun k => heptadlaw11_AddressLongest.j0.eq_2 _ _ _ k) (ev_neg (by simp) ?_)
    refine ev_bind (table_ev t ht2 hin8) ?_
    obtain ⟨r, hbest, hF⟩ := Find_ev t a hT hV.2 hV.1
    refine ev_bind hF ?_
    have hinj : ∀ j, j < t.length → (t.getD j z35).f0.length ≤ 9223372036854775807 := fun j hj => hinm _ (getD_mem hj)
    have hcand : ∀ j, j < t.length → beg (t.getD j z35).f0 a = true → candAt t a 10 j := fun j hj h => by
      refine ⟨?_, h⟩
      have := beg_len h
      have := isPre_len hV.2
      omega
    rcases hbest with ⟨rfl, hno⟩ | ⟨m, rfl, hm, hc, _, hmax⟩
    · -- nothing is found
      simp only [show ((-1 : Int) < 0) from by decide, if_true]
      refine ev_neg (by decide) ?_
      rw [show ((3 : Int) != 3) = false from by decide]
      refine ev_step (fun k => heptadlaw11_AddressLongest.j1.eq_2 _ _ _ _ _ _ k) (ev_neg (by simp) (ev_neg (by decide) ?_))
      refine ev_step (fun k => heptadlaw11_AddressLongest.j2.eq_2 _ _ _ _ _ _ k) (ev_neg (by simp) ?_)
      exact loop_ok t a 3 [] 0 ht1 hinj (fun j hj h => absurd (hcand j hj h) (hno j hj)) 0 (by omega)
    · have hneg : ¬ ((m : Int) < 0) := by omega
      simp only [if_neg hneg, Int.toNat_natCast]
      refine ev_pos (by trivial) ?_
      refine ev_step (fun k => heptadlaw11_AddressLongest.j1.eq_2 _ _ _ _ _ _ k) (ev_neg (by simp) (ev_pos (by trivial) ?_))
      refine ev_bind (refBegins_ev _ _ (hinj m hm)) ?_
      rw [hc.2]
      refine ev_step (fun k => heptadlaw11_AddressLongest.j2.eq_2 _ _ _ _ _ _ k) (ev_neg (by simp) ?_)
      exact loop_ok t a 0 _ _ ht1 hinj (fun j hj h => ⟨rfl, hmax j hj (hcand j hj h)⟩) 0 (by omega)
end Go.Proofs.Ytchkhnhmpgkpeaa.Pure
