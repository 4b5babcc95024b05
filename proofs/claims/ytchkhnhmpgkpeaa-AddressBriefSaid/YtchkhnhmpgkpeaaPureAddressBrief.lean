/- What the printed functions of AddressBrief answer is true, for all tables and lists. -/
import Derived.Test.YtchkhnhmpgkpeaaLib11b
import Derived.Test.YtchkhnhmpgkpeaaBoundAddressBrief
set_option linter.unusedVariables false
set_option linter.unusedSimpArgs false
namespace Go.Proofs.Ytchkhnhmpgkpeaa.Pure
open Go.RowKit Go.Proofs.Ytchkhnhmpgkpeaa.P Go.Proofs.YtchkhnhmpgkpeaaW.PrintWords Go.Proofs.Ytchkhnhmpgkpeaa.EvLib

theorem brief_sane (t : List S35) (a : List Int) : Ev (fun k => heptadlaw11_AddressBrief.j0 k t a true) true :=
  ev_step (fun k => heptadlaw11_AddressBrief.j0.eq_2 _ _ _ k) (ev_pos rfl (ev_bind sane_ev (ev_some _)))

def candB (l : List S35) (i j : Nat) : Prop := (l.getD j z35).f0.length < (l.getD i z35).f0.length ∧ beg (l.getD j z35).f0 (l.getD i z35).f0 = true
theorem candB_rem {l : List S35} {i m : Nat} (hi : i < l.length) (h : IsBest (candB l i) (lenAt l) l.length m) (he : (l.getD m z35).f1 = (l.getD i z35).f1) : Rem l (l.getD i z35) := by
  rcases h with ⟨h1, _⟩ | ⟨m', h1, h2, h3, _, h5⟩
  · omega
  · obtain rfl : m = m' := by omega
    refine ⟨l.getD m z35, getD_mem h2, h3.2, h3.1, fun z hz hb hl => ?_, he⟩
    obtain ⟨j, hj, rfl⟩ := mem_getD z35 hz
    exact h5 j hj ⟨hl, hb⟩

theorem outer_ok (l : List S35) (hl : Tab l) (hr : ∀ x ∈ l, ¬ Rem l x) : ∀ i, i ≤ l.length → Ev (fun k => heptadlaw11_AddressBrief.l0 k (l.map e28) (i : Int)) true := by
  have hlen : (l.map e28).length = l.length := by simp
  have hsmall : l.length ≤ 9223372036854775807 := by have := hl.1; omega
  refine up_ind ?_ ?_
  · exact ev_step (fun k => heptadlaw11_AddressBrief.l0.eq_2 _ _ k) (ev_neg (by rw [hlen]; omega) (ev_bind sane_ev (ev_some _)))
  · intro i hi ih
    have hpi := hl.pre (getD_mem (d := z35) hi)
    have inner : ∀ j, j ≤ l.length → ∀ b : Int, IsBest (candB l i) (lenAt l) j b → Ev (fun k => heptadlaw11_AddressBrief.l1 k (l.map e28) (i : Int) b (j : Int)) true := by
      refine up_ind (P := fun j => ∀ b : Int, IsBest (candB l i) (lenAt l) j b → Ev (fun k => heptadlaw11_AddressBrief.l1 k (l.map e28) (i : Int) b (j : Int)) true) ?_ ?_
      · intro b hb
        refine ev_step (fun k => heptadlaw11_AddressBrief.l1.eq_2 _ _ _ _ k) (ev_neg (by rw [hlen]; omega) ?_)
        rw [wrap_succ hi hsmall]
        by_cases h0 : b ≥ 0
        · obtain ⟨m, rfl, hm⟩ := best_nat hb (by omega)
          refine ev_pos h0 (ev_pos h0 (ev_pos (by rw [hlen]; omega) (ev_pos (by omega) (ev_pos (by rw [hlen]; omega) ?_))))
          rw [rd28, rd28, map28, map28]
          refine ev_neg (fun he => hr _ (getD_mem hi) (candB_rem hi hb he)) ih
        · exact ev_neg h0 ih
      · intro j hj ihj b hb
        have hpj := hl.pre (getD_mem (d := z35) hj)
        have hbeg := refBegins_ev (l.getD j z35).f0 (l.getD i z35).f0 (by omega)
        have next : ∀ b' : Int, IsBest (candB l i) (lenAt l) (j + 1) b' → Ev (fun k => heptadlaw11_AddressBrief.l1 k (l.map e28) (i : Int) b' ((j + 1 : Nat) : Int)) true := ihj
        refine ev_step (fun k => heptadlaw11_AddressBrief.l1.eq_2 _ _ _ _ k) (ev_pos (by rw [hlen]; omega) (ev_pos (by omega) (ev_pos (by omega) (ev_pos (by rw [hlen]; omega) ?_))))
        rw [rd28, rd28, map28, map28, wrap_succ hj hsmall]
        by_cases h1 : (l.getD j z35).f0.length < (l.getD i z35).f0.length
        · refine ev_pos (by show ((l.getD j z35).f0.length : Int) < ((l.getD i z35).f0.length : Int); omega) (ev_bind hbeg ?_)
          by_cases h2 : beg (l.getD j z35).f0 (l.getD i z35).f0 = true
          · refine ev_pos h2 ?_
            by_cases h3 : b < 0
            · exact ev_pos h3 (next _ (hb.first h3 ⟨h1, h2⟩))
            · obtain ⟨m, rfl, hm⟩ := best_nat hb h3
              refine ev_neg h3 (ev_pos (by omega) (ev_pos (by rw [hlen]; omega) ?_))
              rw [rd28, map28]
              by_cases h4 : lenAt l m < lenAt l j
              · exact ev_pos (by simp only [lenAt] at h4; show ((l.getD j z35).f0.length : Int) > ((l.getD m z35).f0.length : Int); omega) (next _ (hb.more ⟨h1, h2⟩ h4))
              · exact ev_neg (by simp only [lenAt] at h4; show ¬ ((l.getD j z35).f0.length : Int) > ((l.getD m z35).f0.length : Int); omega) (next _ (hb.less (by omega)))
          · exact ev_neg h2 (next _ (hb.skip (fun hc => h2 hc.2)))
        · exact ev_neg (by show ¬ ((l.getD j z35).f0.length : Int) < ((l.getD i z35).f0.length : Int); omega) (next _ (hb.skip (fun hc => h1 hc.1)))
    exact ev_step (fun k => heptadlaw11_AddressBrief.l0.eq_2 _ _ k) (ev_pos (by rw [hlen]; omega) (inner 0 (by omega) (-1) (IsBest.start _ _)))

theorem AddressBrief : heptadlaw11_AddressBrief.Pure := by
  intro t a ht ha
  obtain ⟨ht1, ht2, ht3⟩ := ht
  obtain ⟨ha1, ha2, ha3⟩ := ha
  have hin8 : ∀ x ∈ t, x.f0.length * 8 ≤ 140737488351232 := fun x hx => (ht3 x hx).1.2.1
  have hinm : ∀ x ∈ t, x.f0.length ≤ 9223372036854775807 := fun x hx => (ht3 x hx).1.1
  refine ev_at ?_
  unfold heptadlaw11_AddressBrief.f
  obtain ⟨b, hb, _⟩ := large_ev t ht2 hin8
  refine ev_bind hb ?_
  refine ev_ite (fun _ => brief_sane t a) (fun _ => ev_ite (fun _ => brief_sane t a) (fun _ => ?_))
  refine ev_bind (refTable_ev t ht1 hinm) (ev_ite (fun hT => ?_) (fun _ => brief_sane t a))
  refine ev_bind (refValid_ev a ha1) ?_
  cases hV : (decide (0 < a.length) && isPre a) with
  | false => exact brief_sane t a
  | true =>
    simp only [Bool.and_eq_true, decide_eq_true_eq] at hV
    have hTab := tab_of hT
    obtain ⟨l, hB, hlT, hll, hlF, hlR⟩ := Brief_ev t hTab
    refine ev_step (fun k => heptadlaw11_AddressBrief.j0.eq_2 _ _ _ k) (ev_neg (by simp) ?_)
    refine ev_bind (table_ev t ht2 hin8) (ev_bind hB (ev_pos (by trivial) ?_))
    refine ev_bind (back_ev l (by have := hlT.1; omega)) (ev_bind (refTable_ev l (by have := hlT.1; omega) (fun x hx => by have := hlT.pre hx; omega)) ?_)
    rw [of_tab hlT]
    refine ev_pos rfl ?_
    rw [show decide (((l.map e28).length : Int) > (t.length : Int)) = false from decide_eq_false (by rw [List.length_map]; omega)]
    refine ev_step (fun k => heptadlaw11_AddressBrief.j1.eq_2 _ _ _ _ k) (ev_neg (by simp) ?_)
    refine ev_bind (table_ev t ht2 hin8) ?_
    obtain ⟨o, ho, p, n, e, hF, hc⟩ := Find_found t a hTab hV.2 hV.1
    obtain ⟨o', ho', p', n', e', hF', hc'⟩ := Find_found l a hlT hV.2 hV.1
    obtain rfl := (hlF a o ho).one hlT ho'
    refine ev_bind hF (ev_bind hF' ?_)
    have he : e = e' ∧ n = n' := by
      rcases hc with ⟨h1, h2, h3⟩ | ⟨h1, h2⟩ <;> rcases hc' with ⟨g1, g2, g3⟩ | ⟨g1, g2⟩
      · exact ⟨by rw [h3, g3], by rw [h2, g2]⟩
      · rw [h1] at g1; cases g1
      · rw [h1] at g1; cases g1
      · rw [h1] at g1
        injection g1 with g1
        exact ⟨by rw [h2, g2], g1⟩
    refine ev_pos he.1 ?_
    rw [show ((n != n') = false) from by rw [he.2]; simp]
    refine ev_step (fun k => heptadlaw11_AddressBrief.j2.eq_2 _ _ k) (ev_neg (by simp) ?_)
    exact outer_ok l hlT hlR 0 (by omega)
end Go.Proofs.Ytchkhnhmpgkpeaa.Pure
