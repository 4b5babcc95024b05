/- What the printed functions of AddressFinds answer is true, for all tables and lists. -/
import Derived.Test.YtchkhnhmpgkpeaaLib11c
import Derived.Test.YtchkhnhmpgkpeaaBoundAddressFinds
set_option linter.unusedVariables false
set_option linter.unusedSimpArgs false
namespace Go.Proofs.Ytchkhnhmpgkpeaa.Pure
open Go.RowKit Go.Proofs.Ytchkhnhmpgkpeaa.P Go.Proofs.YtchkhnhmpgkpeaaW.PrintWords Go.Proofs.Ytchkhnhmpgkpeaa.EvLib

theorem finds_sane (t : List S35) (a : List Int) : Ev (fun k => heptadlaw11_AddressFinds.j0 k t a true) true :=
 ev_step (fun k => heptadlaw11_AddressFinds.j0.eq_2 _ _ _ k) (ev_pos rfl (ev_bind sane_ev (ev_some _)))
theorem sameEntry_ev (p : List Int) (n : Int) (hp : p.length ≤ 9223372036854775807) : Ev (fun k => heptadlaw11_sameEntry.f k p n p n) true :=
 refSame_ev [⟨p, n⟩] (by simp) (by simpa using hp)
/-- Both searches answer alike. -/
theorem finds_alike (t : List S35) (a : List Int) (ht : t.length ≤ 4000) (hin : ∀ x ∈ t, x.f0.length ≤ 4000) (ha : a.length ≤ 1000) :
  ∃ p n e, Ev (fun k => address_Find.f k (t.map e28) a) (p, n, e) ∧ Ev (fun k => heptadref11_Find.f k t a) (p, n, e) ∧ p.length ≤ 4000 := by
 by_cases h : isTab t = true ∧ (decide (0 < a.length) && isPre a) = true
 ·have h2 := h.2
  simp only [Bool.and_eq_true, decide_eq_true_eq] at h2
  obtain ⟨r, hb, hF⟩ := Find_ev t a h.1 h2.2 h2.1
  obtain ⟨r', hb', hF'⟩ := RefFind_ev t a h.1 h2.2 h2.1
  obtain rfl := hb.one hb'
  by_cases h3 : r < 0
  ·rw [if_pos h3] at hF hF'
   exact ⟨_, _, _, hF, hF', by simp⟩
  ·rw [if_neg h3] at hF hF'
   obtain ⟨m, rfl, hm⟩ := best_nat hb h3
   exact ⟨_, _, _, hF, hF', hin _ (getD_mem (by rw [Int.toNat_natCast]; exact hm))⟩
 ·exact ⟨_, _, _, Find_not t a (by omega) (fun x hx => by have := hin x hx; omega) h, RefFind_not t a (by omega) (fun x hx => by have := hin x hx; omega) (by omega) h, by simp⟩
theorem finds_go (t : List S35) (a : List Int) (ht : t.length ≤ 4000) (hin : ∀ x ∈ t, x.f0.length ≤ 4000) (ha : a.length ≤ 1000) : Ev (fun k => heptadlaw11_AddressFinds.j0 k t a false) true := by
 refine ev_step (fun k => heptadlaw11_AddressFinds.j0.eq_2 _ _ _ k) (ev_neg (by simp) ?_)
 refine ev_bind (table_ev t (by omega) (fun x hx => by have := hin x hx; omega)) ?_
 obtain ⟨p, n, e, h1, h2, h3⟩ := finds_alike t a ht hin ha
 refine ev_bind h1 (ev_bind h2 (ev_pos rfl (ev_bind (sameEntry_ev p n (by omega)) ?_)))
 refine ev_step (fun k => heptadlaw11_AddressFinds.j1.eq_2 _ _ _ k) (ev_neg (by simp) ?_)
 obtain ⟨l, e', h4, h5, h6, h7⟩ := briefs_ev t ht hin
 refine ev_bind h4 (ev_bind h5 (ev_pos rfl (ev_bind (back_ev l (by omega)) (ev_bind (refSame_ev l (by omega) (fun x hx => by have := h7 x hx; omega)) (ev_pos rfl ?_)))))
 exact ev_bind (back_ev t (by omega)) (ev_bind (refSame_ev t (by omega) (fun x hx => by have := hin x hx; omega)) (ev_pos rfl (ev_bind sane_ev (ev_some _))))

theorem AddressFinds : heptadlaw11_AddressFinds.Pure := by
 intro t a ht ha
 obtain ⟨ht1, ht2, ht3⟩ := ht
 obtain ⟨ha1, ha2, ha3⟩ := ha
 have hin8 : ∀ x ∈ t, x.f0.length * 8 ≤ 140737488351232 := fun x hx => (ht3 x hx).1.2.1
 refine ev_at ?_
 unfold heptadlaw11_AddressFinds.f
 obtain ⟨b, hb, hs⟩ := large_ev t ht2 hin8
 refine ev_bind hb ?_
 cases b with
 | true => exact ev_pos rfl (finds_sane t a)
 | false =>
  obtain ⟨s1, s2⟩ := hs rfl
  refine ev_neg (by simp) ?_
  by_cases h : (a.length : Int) > 1000
  ·rw [decide_eq_true h]
   exact finds_sane t a
  ·rw [decide_eq_false h]
   exact finds_go t a (by omega) (fun x hx => by have := s2 x hx; omega) (by omega)
end Go.Proofs.Ytchkhnhmpgkpeaa.Pure
