/- The parts of this proof that lie in one text. -/
import Derived.Test.YtehlmkgldcfciaaGreatGN5
import Derived.Test.YtehlmkgldcfciaaGreatGN1
import Derived.Test.YtehlmkgldcfciaaGreatGN3
import Derived.Shelf.SlGeneric
import Derived.Shelf.SlIter.Nil
import Derived.Shelf.SortM.Plain
import Derived.Shelf.SortM.SortNone
import Derived.Shelf.SlMaps.Clone
import Derived.Ground.SlmcProg
import Derived.Ground.GgzProg
import Derived.Ground.SlgmProg
import Derived.Test.YtehlmkgldcfciaaGreatProg
import Derived.Test.YtehlmkgldcfciaaGreatGN7
/- The file store: each method is a step of the machine. -/
set_option linter.unusedVariables false
set_option linter.unusedSimpArgs false
namespace Go.Proofs.YtehlmkgldcfciaaGreat.Files
open Go.Proofs.YtehlmkgldcfciaaGreat.Common Go.Maps Go.ChangeMaps Go.WideMaps Go.Proofs.YtehlmkgldcfciaaGreat.F
open Go.RowKit Go.Proofs.YtehlmkgldcfciaaGreatW.PrintWords Go.Proofs.YtehlmkgldcfciaaGreatW.PrintLast Go.Proofs.YtehlmkgldcfciaaGreatW.PrintMore
section steps
variable {W : World} {ok : Nat → Prop} {sb : Nat} {L : List (Nat × AF)} {st : Fs} {c : Nat}
theorem SOut.stay (hR : StoreRep W ok sb L) (hst : L.map (·.2) = st) {v : Value} {e : Ending} {w' : World} (h : e = .returned v ∧ Below W.heap.size W w') : SOut W ok sb v st e w' := by
  obtain ⟨rfl, hb⟩ := h
  rw [← hst]
  exact SOut.below hR hb
structure Found (W : World) (ok : Nat → Prop) (sb : Nat) (L : List (Nat × AF)) (u n : ByteArray) (k : Nat) (f : AF) (mb fb rc ub : Nat) (D DU : DataW Unit) (own : Nat → Nat) (A : Option Addr) (uv : Value) : Prop where
  R : StoreParts W ok sb L mb D own
  at_ : L[k]? = some (fb, f)
  P : FileParts W (fun q => ok q ∧ own q = fb) fb f A rc uv ub DU
  us : 1 ≤ u.size ∧ u.size ≤ 20
  ns : 1 ≤ n.size ∧ n.size ≤ 30
  nm : f.F.name = n
  F : FoundOk W (.pointer (some ⟨sb, 0, none⟩)) u n fb
theorem found_all (hR : StoreRep W ok sb L) (hst : L.map (·.2) = st) {u n : ByteArray} {k : Nat} {f : AF} (h : mFound st u n = .ok (k, f)) : ∃ mb fb rc ub D DU own A uv, Found W ok sb L u n k f mb fb rc ub D DU own A uv := by
  obtain ⟨hu, hn, hk, hnm⟩ := found_ok h
  obtain ⟨fb, hL⟩ := at_L hst hk
  obtain ⟨mb, D, own, R⟩ := hR
  obtain ⟨HF, A, rc, uv, ub, DU, P⟩ := R.way hL hnm hu hn
  exact ⟨mb, fb, rc, ub, D, DU, own, A, uv, R, hL, P, hu, hn, hnm, HF⟩
theorem opened_error (hR : StoreRep W ok sb L) (hst : L.map (·.2) = st) {u n : ByteArray} {action E : Int} (h : mOpened st u n action = .error E) : OpenedErr W (.pointer (some ⟨sb, 0, none⟩)) u n action E := by
  unfold mOpened at h
  cases hf : mFound st u n with
  | error E' =>
    rw [hf] at h
    injection h with h
    subst h
    exact opened_err _ u n action _ W (found_err hR hst hf)
  | ok p =>
    obtain ⟨k, f⟩ := p
    rw [hf] at h
    obtain ⟨mb, fb, rc, ub, D, DU, own, A, uv, G⟩ := found_all hR hst hf
    simp only at h
    cases hl : lookU f.users u with
    | some q => rw [hl] at h; cases h
    | none =>
      rw [hl] at h
      injection h with h
      subst h
      exact opened_not _ u n action W _ fb rc ub f A uv DU G.F G.P (by have := G.us; omega) hl
theorem opened_all (hR : StoreRep W ok sb L) (hst : L.map (·.2) = st) {u n : ByteArray} {action : Int} {k : Nat} {f : AF} {dn : Int} (h : mOpened st u n action = .ok (k, f, dn)) :
    (dn = 0 ∨ dn = 12) ∧ ∃ ac ex mb fb rc ub D DU own A uv, Found W ok sb L u n k f mb fb rc ub D DU own A uv ∧ lookU f.users u = some (ac, ex) ∧ dn = denied ac action ∧ OpenedOk W (.pointer (some ⟨sb, 0, none⟩)) u n action fb dn := by
  unfold mOpened at h
  cases hf : mFound st u n with
  | error E' => rw [hf] at h; cases h
  | ok p =>
    obtain ⟨k', f'⟩ := p
    rw [hf] at h
    simp only at h
    cases hl : lookU f'.users u with
    | none => rw [hl] at h; cases h
    | some q =>
      obtain ⟨ac, ex⟩ := q
      rw [hl] at h
      injection h with h
      injection h with h1 h
      injection h with h2 h3
      subst h1 h2 h3
      obtain ⟨mb, fb, rc, ub, D, DU, own, A, uv, G⟩ := found_all hR hst hf
      exact ⟨denied_cases ac action, ac, ex, mb, fb, rc, ub, D, DU, own, A, uv, G, hl, rfl, opened_ok _ u n action W _ fb rc ub f' A uv DU ac ex G.F G.P (by have := G.us; omega) hl⟩
theorem unit_error (hR : StoreRep W ok sb L) (hst : L.map (·.2) = st) {u n : ByteArray} {at_ action E : Int} (h : mUnit st u n at_ action = .error E) : UnitErr W (.pointer (some ⟨sb, 0, none⟩)) u n at_ action E := by
  unfold mUnit at h
  by_cases h0 : at_ < 0
  · rw [if_pos h0] at h
    injection h with h
    subst h
    exact unit_neg _ u n at_ action W h0
  · rw [if_neg h0] at h
    cases ho : mOpened st u n action with
    | error E' =>
      rw [ho] at h
      injection h with h
      subst h
      exact unit_err _ u n at_ action _ W (by omega) (opened_error hR hst ho)
    | ok p =>
      obtain ⟨k, f, dn⟩ := p
      rw [ho] at h
      simp only at h
      by_cases hl : (f.units.length : Int) ≤ at_
      · rw [if_pos hl] at h
        injection h with h
        subst h
        obtain ⟨hd, ac, ex, mb, fb, rc, ub, D, DU, own, A, uv, G, hlu, hdn, HO⟩ := opened_all hR hst ho
        exact unit_none _ u n at_ action dn W _ fb rc ub f A uv DU HO G.P hl
      · rw [if_neg hl] at h; cases h
theorem unit_all (hR : StoreRep W ok sb L) (hst : L.map (·.2) = st) {u n : ByteArray} {at_ action : Int} {k i : Nat} {f : AF} {dn : Int} (h : mUnit st u n at_ action = .ok (k, f, i, dn)) :
    (dn = 0 ∨ dn = 12) ∧ at_ = (i : Int) ∧ i < f.units.length ∧ ∃ ac ex mb fb rc ub D DU own A uv, Found W ok sb L u n k f mb fb rc ub D DU own A uv ∧ lookU f.users u = some (ac, ex) ∧ UnitOk W (.pointer (some ⟨sb, 0, none⟩)) u n (i : Int) action fb dn := by
  unfold mUnit at h
  by_cases h0 : at_ < 0
  · rw [if_pos h0] at h; cases h
  · rw [if_neg h0] at h
    cases ho : mOpened st u n action with
    | error E' => rw [ho] at h; cases h
    | ok p =>
      obtain ⟨k', f', dn'⟩ := p
      rw [ho] at h
      simp only at h
      by_cases hl : (f'.units.length : Int) ≤ at_
      · rw [if_pos hl] at h; cases h
      · rw [if_neg hl] at h
        injection h with h
        injection h with h1 h
        injection h with h2 h
        injection h with h3 h4
        subst h1 h2 h4
        have e : at_ = (i : Int) := by omega
        obtain ⟨hd, ac, ex, mb, fb, rc, ub, D, DU, own, A, uv, G, hlu, hdn, HO⟩ := opened_all hR hst ho
        refine ⟨hd, e, by omega, ac, ex, mb, fb, rc, ub, D, DU, own, A, uv, G, hlu, ?_⟩
        rw [← e]
        exact unit_ok _ u n at_ action dn' W _ fb rc ub f' A uv DU HO G.P (by omega) (by omega)
theorem inv_at (hI : SInv c st) (hst : L.map (·.2) = st) {k fb : Nat} {f : AF} (h : L[k]? = some (fb, f)) : FInv c f := hI.files f (by rw [← hst]; exact List.mem_map.2 ⟨(fb, f), List.mem_of_getElem? h, rfl⟩)
theorem S_Read (hR : StoreRep W ok sb L) (hst : L.map (·.2) = st) (hI : SInv c st) (u n : ByteArray) (at_ : Int) (whole : Bool) :
    Calls Tryz.prog 26 #[.pointer (some ⟨sb, 0, none⟩), .string u, .string n, .int .i64 at_, .bool whole] W (RdOut W ok sb (mRead st u n at_ whole).1 (mRead st u n at_ whole).2.1 (mRead st u n at_ whole).2.2) := by
  unfold mRead
  cases h : mUnit st u n at_ 1 with
  | error E =>
    refine (Read_err _ u n at_ E whole W (unit_error hR hst h)).mono ?_
    rintro e w' ⟨rfl, hb⟩
    exact ⟨_, SOut.stay hR hst ⟨rfl, hb⟩, Kd.R_nil _ _ _ _ _⟩
  | ok p =>
    obtain ⟨k, f, i, dn⟩ := p
    obtain ⟨hd, rfl, hi, ac, ex, mb, fb, rc, ub, D, DU, own, A, uv, G, hlu, HU⟩ := unit_all hR hst h
    rcases hd with rfl | rfl
    · simp only [if_pos]
      refine (Read_ok _ u n i fb rc ub whole f A uv DU _ W HU G.P hi (by have := (inv_at hI hst G.at_).units.len; omega)).mono ?_
      rintro e w' ⟨v, rfl, hr, hP, hC⟩
      rw [← hst]
      exact ⟨v, SOut.step G.R G.at_ rfl ⟨A, rc, uv, ub, DU, hP.mono (fun q hq => .inl hq)⟩ (hC.mono (fun q hq => by rw [hq]; exact G.P.okb)), hr⟩
    · simp only [show ¬ ((12 : Int) = 0) by decide, if_false]
      refine (Read_denied _ u n i fb whole W HU).mono ?_
      rintro e w' ⟨rfl, hb⟩
      exact ⟨_, SOut.stay hR hst ⟨rfl, hb⟩, Kd.R_nil _ _ _ _ _⟩
theorem S_Replace (hR : StoreRep W ok sb L) (hst : L.map (·.2) = st) (hI : SInv c st) (u n : ByteArray) (at_ : Int) (d : ByteArray) :
    Calls Tryz.prog 32 #[.pointer (some ⟨sb, 0, none⟩), .string u, .string n, .int .i64 at_, .string d] W (SOut W ok sb (.int .i64 (mReplace st u n at_ d).1) (mReplace st u n at_ d).2) := by
  unfold mReplace
  by_cases hd4 : 400 < d.size
  · rw [if_pos hd4]
    exact (Replace_arg _ u n at_ d W (by omega)).mono fun e w' h => SOut.stay hR hst h
  rw [if_neg hd4]
  cases h : mUnit st u n at_ 4 with
  | error E => exact (Replace_err _ u n at_ E d W (by omega) (unit_error hR hst h)).mono fun e w' h => SOut.stay hR hst h
  | ok p =>
    obtain ⟨k, f, i, dn⟩ := p
    obtain ⟨hd, rfl, hi, ac, ex, mb, fb, rc, ub, D, DU, own, A, uv, G, hlu, HU⟩ := unit_all hR hst h
    rcases hd with rfl | rfl
    · simp only [if_pos]
      refine (Replace_ok _ u n i fb rc ub d f A uv DU _ W (by omega) HU G.P hi (by have := (inv_at hI hst G.at_).units.len; omega)).mono ?_
      rintro e w' ⟨rfl, uv', hP, hC⟩
      rw [← hst]
      exact SOut.step G.R G.at_ rfl ⟨A, rc, uv', ub, DU, hP⟩ hC
    · simp only [show ¬ ((12 : Int) = 0) by decide, if_false]
      exact (Replace_denied _ u n i fb d W (by omega) HU).mono fun e w' h => SOut.stay hR hst h
theorem S_Extend (hR : StoreRep W ok sb L) (hst : L.map (·.2) = st) (hI : SInv c st) (u n : ByteArray) (at_ : Int) (d : ByteArray) :
    Calls Tryz.prog 34 #[.pointer (some ⟨sb, 0, none⟩), .string u, .string n, .int .i64 at_, .string d] W (SOut W ok sb (.int .i64 (mExtend st u n at_ d).1) (mExtend st u n at_ d).2) := by
  unfold mExtend
  by_cases hd4 : 400 < d.size
  · rw [if_pos hd4]
    exact (Extend_arg _ u n at_ d W (by omega)).mono fun e w' h => SOut.stay hR hst h
  rw [if_neg hd4]
  cases h : mUnit st u n at_ 8 with
  | error E => exact (Extend_err _ u n at_ E d W (by omega) (unit_error hR hst h)).mono fun e w' h => SOut.stay hR hst h
  | ok p =>
    obtain ⟨k, f, i, dn⟩ := p
    obtain ⟨hd, rfl, hi, ac, ex, mb, fb, rc, ub, D, DU, own, A, uv, G, hlu, HU⟩ := unit_all hR hst h
    have hI' := inv_at hI hst G.at_
    have hlen := hI'.units.len
    rcases hd with rfl | rfl
    · simp only [if_pos]
      by_cases hf : 400 < (rd_T29 f.units (i : Int)).f1.size + d.size
      · rw [if_pos hf]
        refine (Extend_full _ u n i fb rc ub d f A uv DU _ W (by omega) HU G.P hi (by omega) ?_ hf).mono fun e w' h => SOut.stay hR hst h
        rw [rd_get f.units i hi]
        exact hI'.data _ (List.getElem_mem hi)
      · rw [if_neg hf]
        refine (Extend_ok _ u n i fb rc ub d f A uv DU _ W (by omega) HU G.P hi (by omega) (by omega)).mono ?_
        rintro e w' ⟨rfl, uv', hP, hC⟩
        rw [← hst]
        exact SOut.step G.R G.at_ rfl ⟨A, rc, uv', ub, DU, hP⟩ hC
    · simp only [show ¬ ((12 : Int) = 0) by decide, if_false]
      exact (Extend_denied _ u n i fb d W (by omega) HU).mono fun e w' h => SOut.stay hR hst h
theorem S_Erase (hR : StoreRep W ok sb L) (hst : L.map (·.2) = st) (hI : SInv c st) (u n : ByteArray) (at_ : Int) :
    Calls Tryz.prog 36 #[.pointer (some ⟨sb, 0, none⟩), .string u, .string n, .int .i64 at_] W (SOut W ok sb (.int .i64 (mErase st u n at_).1) (mErase st u n at_).2) := by
  unfold mErase
  cases h : mUnit st u n at_ 16 with
  | error E => exact (Erase_err _ u n at_ E W (unit_error hR hst h)).mono fun e w' h => SOut.stay hR hst h
  | ok p =>
    obtain ⟨k, f, i, dn⟩ := p
    obtain ⟨hd, rfl, hi, ac, ex, mb, fb, rc, ub, D, DU, own, A, uv, G, hlu, HU⟩ := unit_all hR hst h
    have hlen := (inv_at hI hst G.at_).units.len
    rcases hd with rfl | rfl
    · simp only [if_pos]
      by_cases h0 : i = 0
      · subst h0
        refine (Erase_root _ u n fb rc ub f A uv DU _ W HU G.P).mono ?_
        rintro e w' ⟨rfl, uv', hP, hC⟩
        rw [← hst]
        exact SOut.step G.R G.at_ rfl ⟨A, rc, uv', ub, DU, hP⟩ hC
      · refine (Erase_ok _ u n i fb rc ub f A uv DU _ W HU G.P (by omega) hi (by omega)).mono ?_
        rintro e w' ⟨rfl, uv', hP, hC⟩
        rw [← hst]
        exact SOut.step G.R G.at_ rfl ⟨A, rc, uv', ub, DU, hP⟩ hC
    · simp only [show ¬ ((12 : Int) = 0) by decide, if_false]
      exact (Erase_denied _ u n i fb W HU).mono fun e w' h => SOut.stay hR hst h
end steps
end Go.Proofs.YtehlmkgldcfciaaGreat.Files
/- The file store: Create, Delete, Open, Close, Insert, Change as steps of the machine. -/
set_option linter.unusedVariables false
set_option linter.unusedSimpArgs false
namespace Go.Proofs.YtehlmkgldcfciaaGreat.Files
open Go.Proofs.YtehlmkgldcfciaaGreat.Common Go.Maps Go.ChangeMaps Go.WideMaps Go.Proofs.YtehlmkgldcfciaaGreat.F
open Go.RowKit Go.Proofs.YtehlmkgldcfciaaGreatW.PrintWords Go.Proofs.YtehlmkgldcfciaaGreatW.PrintLast Go.Proofs.YtehlmkgldcfciaaGreatW.PrintMore
section steps
variable {W : World} {ok : Nat → Prop} {sb : Nat} {L : List (Nat × AF)} {st : Fs} {c : Nat}
theorem setB_iff {n : Int} : setB n = true ↔ 0 ≤ n ∧ n ≤ 255 := by unfold setB; simp
theorem S_Insert (hR : StoreRep W ok sb L) (hst : L.map (·.2) = st) (hI : SInv c st) (u n : ByteArray) (at_ : Int) (child : Bool) (a b : ByteArray) (lev0 : Int) :
    Calls Tryz.prog 30 #[.pointer (some ⟨sb, 0, none⟩), .string u, .string n, .int .i64 at_, .bool child, .agg #[.string a, .string b, .int .i64 lev0]] W (SOut W ok sb (.int .i64 (mInsert st u n at_ child a b).1) (mInsert st u n at_ child a b).2) := by
  unfold mInsert
  by_cases hab : (decide (a.size ≤ 30) && decide (b.size ≤ 400)) = false
  · rw [if_pos hab]
    exact (Insert_arg _ u n at_ child a b lev0 W hab).mono fun e w' h => SOut.stay hR hst h
  rw [if_neg hab]
  have hab' : a.size ≤ 30 ∧ b.size ≤ 400 := by simpa using hab
  cases h : mUnit st u n at_ 2 with
  | error E => exact (Insert_err _ u n at_ child a b lev0 E W hab'.1 hab'.2 (unit_error hR hst h)).mono fun e w' h => SOut.stay hR hst h
  | ok p =>
    obtain ⟨k, f, i, dn⟩ := p
    obtain ⟨hd, rfl, hi, ac, ex, mb, fb, rc, ub, D, DU, own, A, uv, G, hlu, HU⟩ := unit_all hR hst h
    have hU := (inv_at hI hst G.at_).units
    have hlen := hU.len
    simp only
    cases hbad : insBad f.F.kind (insLev f.units i child) with
    | true =>
      rw [if_pos rfl]
      exact (Insert_bad _ u n i fb rc ub child a b lev0 dn f A uv DU _ W HU G.P hi (by omega) hab'.1 hab'.2 hU.lev hU.root hbad).mono fun e w' h => SOut.stay hR hst h
    | false =>
      rw [if_neg (by simp)]
      by_cases hs : clashB f.units (kids f.units (aboveOf f.units (insLev f.units i child) i)) a = true ∨ dn = 12 ∨ 100 ≤ f.units.length
      · rw [if_pos hs]
        exact (Insert_rest _ u n i fb rc ub child a b lev0 dn _ f A uv DU _ W HU G.P hi (by omega) hab'.1 hab'.2 hU.lev hU.root hbad _ rfl hd hs rfl).mono fun e w' h => SOut.stay hR hst h
      · rw [if_neg hs]
        have hcl : clashB f.units (kids f.units (aboveOf f.units (insLev f.units i child) i)) a = false := by
          cases e : clashB f.units (kids f.units (aboveOf f.units (insLev f.units i child) i)) a with
          | false => rfl
          | true => exact absurd (.inl e) hs
        have hdn : dn = 0 := hd.elim (fun e => e) (fun e => absurd (.inr (.inl e)) hs)
        have hfull : f.units.length < 100 := Nat.lt_of_not_le fun e => hs (.inr (.inr e))
        refine (Insert_ok _ u n i fb rc ub child a b lev0 dn f A uv DU _ W HU G.P hi (by omega) hab'.1 hab'.2 hU.lev hU.root hbad hcl hdn hfull).mono ?_
        rintro e w' ⟨rfl, uv', hP, hC⟩
        rw [← hst]
        exact SOut.step G.R G.at_ rfl ⟨A, rc, uv', ub, DU, hP⟩ hC
theorem S_Change (hR : StoreRep W ok sb L) (hst : L.map (·.2) = st) (u n : ByteArray) (perm : Int) (A : Option Addr) (cc : Nat) (rules : List S100) (hr : Kd.C k100 W A rules.length rules) (hc : rules.length ≤ cc) :
    Calls Tryz.prog 42 #[.pointer (some ⟨sb, 0, none⟩), .string u, .string n, .int .i64 perm, .slice A rules.length cc] W (SOut W ok sb (.int .i64 (mChange st u n perm rules).1) (mChange st u n perm rules).2) := by
  unfold mChange
  by_cases hok : changeOk perm rules = false
  · rw [if_pos hok]
    exact (Change_arg _ u n perm A cc rules W hr hc hok).mono fun e w' h => SOut.stay hR hst h
  rw [if_neg hok]
  have hok' : changeOk perm rules = true := by simpa using hok
  cases h : mOpened st u n 64 with
  | error E => exact (Change_err _ u n perm E A cc rules W hr hc hok' (opened_error hR hst h)).mono fun e w' h => SOut.stay hR hst h
  | ok p =>
    obtain ⟨k, f, dn⟩ := p
    obtain ⟨hd, ac, ex, mb, fb, rc, ub, D, DU, own, Ar, uv, G, hlu, hdn, HO⟩ := opened_all hR hst h
    rcases hd with rfl | rfl
    · simp only [if_pos]
      refine (Change_ok _ u n perm fb rc ub A cc rules f Ar uv DU _ W hr hc hok' HO G.P).mono ?_
      rintro e w' ⟨rfl, A', rc', hP, hC⟩
      rw [← hst]
      exact SOut.step G.R G.at_ rfl ⟨A', rc', uv, ub, DU, hP⟩ hC
    · simp only [show ¬ ((12 : Int) = 0) by decide, if_false]
      exact (Change_denied _ u n perm fb A cc rules W hr hc hok' HO).mono fun e w' h => SOut.stay hR hst h
theorem S_Close (hR : StoreRep W ok sb L) (hst : L.map (·.2) = st) (hI : SInv c st) (u n : ByteArray) :
    Calls Tryz.prog 22 #[.pointer (some ⟨sb, 0, none⟩), .string u, .string n] W (SOut W ok sb (.int .i64 (mClose st u n).1) (mClose st u n).2) := by
  unfold mClose
  cases h : mFound st u n with
  | error E => exact (Close_err _ u n E W (found_err hR hst h)).mono fun e w' h => SOut.stay hR hst h
  | ok p =>
    obtain ⟨k, f⟩ := p
    obtain ⟨mb, fb, rc, ub, D, DU, own, A, uv, G⟩ := found_all hR hst h
    simp only
    cases hl : lookU f.users u with
    | none => exact (Close_state _ u n W _ fb rc ub f A uv DU G.F G.P (by have := G.us; omega) hl).mono fun e w' h => SOut.stay hR hst h
    | some q =>
      obtain ⟨a, b⟩ := q
      rw [← hst]
      exact S_Close_ok sb fb k ok L f u n a b W hR G.at_ G.nm G.us G.ns hl (inv_at hI hst G.at_).users
theorem S_Delete (hR : StoreRep W ok sb L) (hst : L.map (·.2) = st) (hI : SInv c st) (u n : ByteArray) :
    Calls Tryz.prog 18 #[.pointer (some ⟨sb, 0, none⟩), .string u, .string n] W (SOut W ok sb (.int .i64 (mDelete st u n).1) (mDelete st u n).2) := by
  unfold mDelete
  cases h : mFound st u n with
  | error E => exact (Delete_err _ u n E W (found_err hR hst h)).mono fun e w' h => SOut.stay hR hst h
  | ok p =>
    obtain ⟨k, f⟩ := p
    obtain ⟨mb, fb, rc, ub, D, DU, own, A, uv, G⟩ := found_all hR hst h
    simp only
    by_cases hu : 0 < f.users.length
    · rw [if_pos hu]
      exact (Delete_state _ u n W _ fb rc ub f A uv DU G.F G.P hu).mono fun e w' h => SOut.stay hR hst h
    rw [if_neg hu]
    have hu0 : f.users = [] := List.length_eq_zero_iff.1 (by omega)
    by_cases hm : mayB f.F f.rules u 128 = false
    · rw [if_pos hm]
      exact (Delete_denied _ u n W _ fb rc ub f A uv DU G.F G.P hu0 hm).mono fun e w' h => SOut.stay hR hst h
    rw [if_neg hm, ← hst]
    exact S_Delete_ok sb fb k ok L f u n W hR G.at_ G.nm G.us G.ns hu0 (by simpa using hm)
theorem S_Open_all (hR : StoreRep W ok sb L) (hst : L.map (·.2) = st) (hI : SInv c st) (hc : c < 1000) (u n : ByteArray) (a x : Int) :
    Calls Tryz.prog 20 #[.pointer (some ⟨sb, 0, none⟩), .string u, .string n, .int .i64 a, .int .i64 x] W (SOut W ok sb (.int .i64 (mOpen st u n a x).1) (mOpen st u n a x).2) := by
  unfold mOpen
  by_cases hs : okSets a x = false
  · rw [if_pos hs]
    exact (Open_arg _ u n a x W hs).mono fun e w' h => SOut.stay hR hst h
  rw [if_neg hs]
  have hs' : okSets a x = true := by simpa using hs
  unfold okSets at hs'
  simp only [Bool.and_eq_true, decide_eq_true_eq] at hs'
  obtain ⟨⟨ha, hx⟩, hsub⟩ := hs'
  cases h : mFound st u n with
  | error E => exact (Open_err _ u n a x E W ha hx hsub (found_err hR hst h)).mono fun e w' h => SOut.stay hR hst h
  | ok p =>
    obtain ⟨k, f⟩ := p
    obtain ⟨mb, fb, rc, ub, D, DU, own, A, uv, G⟩ := found_all hR hst h
    have hI' := inv_at hI hst G.at_
    simp only
    cases hl : lookU f.users u with
    | some q =>
      rw [if_pos (by simp)]
      exact (Open_state _ u n a x W _ fb rc ub f A uv DU q.1 q.2 ha hx hsub G.F G.P (by have := G.us; omega) hl).mono fun e w' h => SOut.stay hR hst h
    | none =>
      rw [if_neg (by simp)]
      by_cases hm : mayB f.F f.rules u a = false
      · rw [if_pos hm]
        exact (Open_denied _ u n a x W _ fb rc ub f A uv DU ha hx hsub G.F G.P (by have := G.us; omega) hl hm).mono fun e w' h => SOut.stay hR hst h
      rw [if_neg hm]
      have := S_Open sb fb k ok L f u n a x W hR G.at_ G.nm G.us G.ns (setB_iff.1 ha) (setB_iff.1 hx) hsub hl (by simpa using hm) hI'.users (by have := hI'.count; omega)
      rw [hst] at this
      cases hf : freeB f.users a x with
      | true => rw [hf] at this; simpa using this
      | false => rw [hf] at this; simpa using this
theorem S_Create (hR : StoreRep W ok sb L) (hst : L.map (·.2) = st) (hI : SInv c st) (u n : ByteArray) (kind perm : Int) :
    Calls Tryz.prog 16 #[.pointer (some ⟨sb, 0, none⟩), .string u, .string n, .int .i64 kind, .int .i64 perm] W (SOut W ok sb (.int .i64 (mCreate st u n kind perm).1) (mCreate st u n kind perm).2) := by
  have hR0 := hR
  obtain ⟨mb, D, own, R⟩ := hR
  unfold mCreate
  have hsz : Maps.size D = st.length := by rw [R.mM.size, List.length_map, ← hst, List.length_map]
  by_cases hb : createB u n kind perm = false
  · rw [if_pos hb]
    exact (Create_arg sb mb u n kind perm W R.S.cell hb).mono fun e w' h => SOut.stay hR0 hst h
  rw [if_neg hb]
  have hb' : createB u n kind perm = true := by simpa using hb
  obtain ⟨b1, b2, b3, b4⟩ := createB_parts hb'
  cases hp : posF st n with
  | some p =>
    obtain ⟨k, f⟩ := p
    obtain ⟨h1, h2⟩ := posF_some hp
    obtain ⟨fb, hL⟩ := at_L hst h1
    rw [if_pos (by simp)]
    have hD := filesL_look R.mM R.names (List.mem_of_getElem? hL)
    rw [h2] at hD
    exact (Create_dup sb mb _ fb D u n kind perm W R.S.cell R.M hb' hD).mono fun e w' h => SOut.stay hR0 hst h
  | none =>
    rw [if_neg (by simp)]
    have hno : ∀ p ∈ L, p.2.F.name ≠ n := fun p hp2 => posF_none hp p.2 (by rw [← hst]; exact List.mem_map.2 ⟨p, hp2, rfl⟩)
    have hD : D.atKey (.string n.data.toList) .nil = .nil := by rw [R.mM.at_, filesL_none R.mM hno]; rfl
    by_cases hfull : 30 ≤ st.length
    · rw [if_pos hfull]
      exact (Create_full sb mb D u n kind perm W R.S.cell R.M hb' hD (by omega)).mono fun e w' h => SOut.stay hR0 hst h
    rw [if_neg hfull, ← hst]
    refine S_Create_ok sb ok L u n kind perm W hR0 (userB_iff.1 b1) (nameB_iff.1 b2) b3 (setB_iff.1 b4) hno ?_
    rw [← hst, List.length_map] at hfull
    omega
end steps
end Go.Proofs.YtehlmkgldcfciaaGreat.Files
/- An act as a step of the machine. -/
set_option linter.unusedVariables false
set_option linter.unusedSimpArgs false
namespace Go.Proofs.YtehlmkgldcfciaaGreat.Files
open Go.Proofs.YtehlmkgldcfciaaGreat.Common Go.Maps Go.ChangeMaps Go.WideMaps Go.Proofs.YtehlmkgldcfciaaGreat.F
open Go.RowKit Go.Proofs.YtehlmkgldcfciaaGreatW.PrintWords Go.Proofs.YtehlmkgldcfciaaGreatW.PrintLast Go.Proofs.YtehlmkgldcfciaaGreatW.PrintMore
def ActIs (do_ A B : Int) (u n : ByteArray) (flag : Bool) (x : S29) (pv rv : Value) : Array Value := #[.int .i64 do_, .int .i64 A, .int .i64 B, .string u, .string n, .bool flag, .string x.f0, .string x.f1, .int .i64 x.f2, pv, rv]
def mDo (st : Fs) (do_ A B : Int) (u n : ByteArray) (flag : Bool) (x : S29) (rules : List S100) : Fs :=
  if do_ = 0 then (mCreate st u n A B).2 else if do_ = 1 then (mDelete st u n).2 else if do_ = 2 then (mOpen st u n A B).2 else if do_ = 3 then (mClose st u n).2 else if do_ = 5 then (mRead st u n A flag).2.2 else if do_ = 6 then (mInsert st u n A flag x.f0 x.f1).2 else if do_ = 7 then (mReplace st u n A x.f1).2 else if do_ = 8 then (mExtend st u n A x.f1).2 else if do_ = 9 then (mErase st u n A).2 else if do_ = 11 then (mChange st u n B rules).2 else st
end Go.Proofs.YtehlmkgldcfciaaGreat.Files
/- The shelf's contracts at this dump, in plain words (written by lay-plain.mjs). -/
namespace Go.Proofs
open Go.Shelf
def Tryz.keys46_ren : Go.Shelf.Ren := ⟨fun | 7 => 46 | 10 => 83 | n => n, fun | 23 => 41 | 26 => 9 | 3 => 82 | 28 => 80 | 0 => 0 | 27 => 79 | 33 => 101 | 4 => 4 | n => n, fun | n => n⟩
theorem Tryz.keys46 : Go.Proofs.SlLaysZ.n7 Tryz.prog Tryz.keys46_ren := {
  mixed := by kernel_rfl
  f7 := ⟨Tryz.f46.name, by decide, Tryz.func46.trans (congrArg some (by kernel_rfl))⟩
  f10 := ⟨Tryz.f83.name, by decide, Tryz.func83.trans (congrArg some (by kernel_rfl))⟩
  t0 := Tryz.underlying0
  a0 := Tryz.isAgg0
  z0 := Tryz.sizeOf0
  v0 := Tryz.zeroValue0
  t4 := Tryz.underlying4
  a4 := Tryz.isAgg4
  z4 := Tryz.sizeOf4
  v4 := Tryz.zeroValue4
  t23 := Tryz.underlying41
  a23 := Tryz.isAgg41
  z23 := Tryz.sizeOf41
  v23 := Tryz.zeroValue41
  t26 := Tryz.underlying9
  a26 := Tryz.isAgg9
  z26 := Tryz.sizeOf9
  v26 := Tryz.zeroValue9
  t27 := Tryz.underlying79
  a27 := Tryz.isAgg79
  z27 := Tryz.sizeOf79
  v27 := Tryz.zeroValue79
  t28 := Tryz.underlying80
  a28 := Tryz.isAgg80
  z28 := Tryz.sizeOf80
  v28 := Tryz.zeroValue80
  t33 := Tryz.underlying101
  a33 := Tryz.isAgg101
  z33 := Tryz.sizeOf101
  v33 := Tryz.zeroValue101 }
def Tryz.sorted45_ren : Go.Shelf.Ren := ⟨fun | 6 => 45 | 8 => 81 | 9 => 82 | 11 => 93 | 13 => 95 | 12 => 94 | 23 => 106 | 24 => 107 | 14 => 97 | 15 => 98 | 16 => 99 | 17 => 100 | 18 => 101 | 19 => 102 | 20 => 103 | 21 => 104 | 22 => 105 | 25 => 109 | 26 => 110 | 27 => 111 | 28 => 112 | 29 => 113 | 30 => 114 | 31 => 115 | n => n, fun | 26 => 9 | 28 => 80 | 24 => 30 | 0 => 0 | 3 => 3 | 37 => 141 | 48 => 151 | 50 => 153 | 4 => 4 | 40 => 144 | 39 => 143 | 45 => 148 | 5 => 5 | 9 => 9 | 51 => 155 | 55 => 159 | 57 => 161 | 58 => 162 | 33 => 101 | n => n, fun | n => n⟩
theorem Tryz.sorted45 : Go.Proofs.SlLaysZ.n6 Tryz.prog Tryz.sorted45_ren := {
  mixed := by kernel_rfl
  f6 := ⟨Tryz.f45.name, by decide, Tryz.func45.trans (congrArg some (by kernel_rfl))⟩
  f8 := ⟨Tryz.f81.name, by decide, Tryz.func81.trans (congrArg some (by kernel_rfl))⟩
  f11 := ⟨Tryz.f93.name, by decide, Tryz.func93.trans (congrArg some (by kernel_rfl))⟩
  t0 := Tryz.underlying0
  a0 := Tryz.isAgg0
  z0 := Tryz.sizeOf0
  v0 := Tryz.zeroValue0
  t24 := Tryz.underlying30
  a24 := Tryz.isAgg30
  z24 := Tryz.sizeOf30
  v24 := Tryz.zeroValue30
  t26 := Tryz.underlying9
  a26 := Tryz.isAgg9
  z26 := Tryz.sizeOf9
  v26 := Tryz.zeroValue9
  t28 := Tryz.underlying80
  a28 := Tryz.isAgg80
  z28 := Tryz.sizeOf80
  v28 := Tryz.zeroValue80
  i26 := by kernel_rfl }
def Tryz.sort82_ren : Go.Shelf.Ren := ⟨fun | 6 => 82 | 8 => 95 | 9 => 94 | 19 => 106 | 20 => 107 | 21 => 97 | 22 => 98 | 23 => 99 | 24 => 100 | 25 => 101 | 26 => 102 | 27 => 103 | 28 => 104 | 29 => 105 | 36 => 109 | 31 => 110 | 32 => 111 | 37 => 112 | 38 => 113 | 39 => 114 | 41 => 115 | n => n, fun | 27 => 30 | 29 => 9 | 3 => 3 | 32 => 141 | 26 => 30 | 0 => 0 | 44 => 151 | 46 => 153 | 4 => 4 | 36 => 144 | 35 => 143 | 41 => 148 | 5 => 5 | 9 => 9 | 53 => 155 | 57 => 159 | 63 => 161 | 64 => 162 | n => n, fun | n => n⟩
theorem Tryz.sort82 : Go.Proofs.SlLaysM.n6 Tryz.prog Tryz.sort82_ren := {
  mixed := by kernel_rfl
  f6 := ⟨Tryz.f82.name, by decide, Tryz.func82.trans (congrArg some (by kernel_rfl))⟩
  f8 := Tryz.func95.trans (congrArg some (by kernel_rfl))
  f9 := ⟨Tryz.f94.name, by decide, Tryz.func94.trans (congrArg some (by kernel_rfl))⟩
  f19 := Tryz.func106.trans (congrArg some (by kernel_rfl))
  f20 := Tryz.func107.trans (congrArg some (by kernel_rfl))
  f21 := ⟨Tryz.f97.name, by decide, Tryz.func97.trans (congrArg some (by kernel_rfl))⟩
  f22 := ⟨Tryz.f98.name, by decide, Tryz.func98.trans (congrArg some (by kernel_rfl))⟩
  f23 := ⟨Tryz.f99.name, by decide, Tryz.func99.trans (congrArg some (by kernel_rfl))⟩
  f24 := ⟨Tryz.f100.name, by decide, Tryz.func100.trans (congrArg some (by kernel_rfl))⟩
  f25 := ⟨Tryz.f101.name, by decide, Tryz.func101.trans (congrArg some (by kernel_rfl))⟩
  f26 := ⟨Tryz.f102.name, by decide, Tryz.func102.trans (congrArg some (by kernel_rfl))⟩
  f27 := ⟨Tryz.f103.name, by decide, Tryz.func103.trans (congrArg some (by kernel_rfl))⟩
  f28 := ⟨Tryz.f104.name, by decide, Tryz.func104.trans (congrArg some (by kernel_rfl))⟩
  f29 := ⟨Tryz.f105.name, by decide, Tryz.func105.trans (congrArg some (by kernel_rfl))⟩
  f31 := Tryz.func110.trans (congrArg some (by kernel_rfl))
  f32 := Tryz.func111.trans (congrArg some (by kernel_rfl))
  f36 := ⟨Tryz.f109.name, by decide, Tryz.func109.trans (congrArg some (by kernel_rfl))⟩
  f37 := ⟨Tryz.f112.name, by decide, Tryz.func112.trans (congrArg some (by kernel_rfl))⟩
  f38 := ⟨Tryz.f113.name, by decide, Tryz.func113.trans (congrArg some (by kernel_rfl))⟩
  f39 := ⟨Tryz.f114.name, by decide, Tryz.func114.trans (congrArg some (by kernel_rfl))⟩
  f41 := ⟨Tryz.f115.name, by decide, Tryz.func115.trans (congrArg some (by kernel_rfl))⟩
  t0 := Tryz.underlying0
  a0 := Tryz.isAgg0
  z0 := Tryz.sizeOf0
  v0 := Tryz.zeroValue0
  t3 := Tryz.underlying3
  a3 := Tryz.isAgg3
  z3 := Tryz.sizeOf3
  v3 := Tryz.zeroValue3
  t4 := Tryz.underlying4
  a4 := Tryz.isAgg4
  z4 := Tryz.sizeOf4
  v4 := Tryz.zeroValue4
  t5 := Tryz.underlying5
  a5 := Tryz.isAgg5
  z5 := Tryz.sizeOf5
  v5 := Tryz.zeroValue5
  t9 := Tryz.underlying9
  a9 := Tryz.isAgg9
  z9 := Tryz.sizeOf9
  v9 := Tryz.zeroValue9
  t26 := Tryz.underlying30
  a26 := Tryz.isAgg30
  z26 := Tryz.sizeOf30
  v26 := Tryz.zeroValue30
  t27 := Tryz.underlying30
  a27 := Tryz.isAgg30
  z27 := Tryz.sizeOf30
  v27 := Tryz.zeroValue30
  t29 := Tryz.underlying9
  a29 := Tryz.isAgg9
  z29 := Tryz.sizeOf9
  v29 := Tryz.zeroValue9
  t32 := Tryz.underlying141
  a32 := Tryz.isAgg141
  z32 := Tryz.sizeOf141
  v32 := Tryz.zeroValue141
  t35 := Tryz.underlying143
  a35 := Tryz.isAgg143
  z35 := Tryz.sizeOf143
  v35 := Tryz.zeroValue143
  t36 := Tryz.underlying144
  a36 := Tryz.isAgg144
  z36 := Tryz.sizeOf144
  v36 := Tryz.zeroValue144
  t41 := Tryz.underlying148
  a41 := Tryz.isAgg148
  z41 := Tryz.sizeOf148
  v41 := Tryz.zeroValue148
  t44 := Tryz.underlying151
  a44 := Tryz.isAgg151
  z44 := Tryz.sizeOf151
  v44 := Tryz.zeroValue151
  t46 := Tryz.underlying153
  a46 := Tryz.isAgg153
  z46 := Tryz.sizeOf153
  v46 := Tryz.zeroValue153
  t53 := Tryz.underlying155
  a53 := Tryz.isAgg155
  z53 := Tryz.sizeOf155
  v53 := Tryz.zeroValue155
  t57 := Tryz.underlying159
  a57 := Tryz.isAgg159
  z57 := Tryz.sizeOf159
  v57 := Tryz.zeroValue159
  t63 := Tryz.underlying161
  a63 := Tryz.isAgg161
  z63 := Tryz.sizeOf161
  v63 := Tryz.zeroValue161
  t64 := Tryz.underlying162
  a64 := Tryz.isAgg162
  z64 := Tryz.sizeOf162
  v64 := Tryz.zeroValue162 }
def Tryz.clone51_ren : Go.Shelf.Ren := ⟨fun | 5 => 51 | 7 => 85 | n => n, fun | 23 => 88 | 25 => 9 | 3 => 90 | 4 => 4 | 20 => 20 | n => n, fun | n => n⟩
theorem Tryz.clone51 : Go.Proofs.SlLaysW.n5 Tryz.prog Tryz.clone51_ren := {
  mixed := by kernel_rfl
  f5 := ⟨Tryz.f51.name, by decide, Tryz.func51.trans (congrArg some (by kernel_rfl))⟩
  f7 := Tryz.func85.trans (congrArg some (by kernel_rfl))
  t4 := Tryz.underlying4
  a4 := Tryz.isAgg4
  z4 := Tryz.sizeOf4
  v4 := Tryz.zeroValue4
  t20 := Tryz.underlying20
  a20 := Tryz.isAgg20
  z20 := Tryz.sizeOf20
  v20 := Tryz.zeroValue20
  t23 := Tryz.underlying88
  a23 := Tryz.isAgg88
  z23 := Tryz.sizeOf88
  v23 := Tryz.zeroValue88 }
end Go.Proofs
/- The shelf's contracts on sorted keys, laid at this dump. -/
namespace Go.Proofs
open Go.RowKit Go.Maps Go.Sort Go.Shelf
theorem Tryz.sorts45 (m : Nat) : AnyZ.SortsIn Tryz.prog Tryz.sorted45_ren Fence.wide m :=
  ⟨fun blk off cap ss W hH hblk hsz => callsIn_wide.2 (AnyM.slices_Sort_string Tryz.sort82 blk off cap ss W hH hblk hsz),
   fun p cap W => callsIn_wide.2 (AnyM.slices_Sort_string_none Tryz.sort82 p cap W)⟩
theorem Tryz.maps_Keys_46 (mb : Option Nat) (W : World) : CallsIn Fence.wide 5 Tryz.prog 46 #[.map mb] W fun e w' => e = .returned (.func (.func 83) #[] #[.pointer (some ⟨W.heap.size, 0, none⟩)]) ∧ w' = W.alloc (.cells #[.map mb] 41) :=
  AnyZ.keys_in Tryz.keys46 Fence.wide 5 trivial rfl mb W
set_option maxHeartbeats 1000000 in
theorem Tryz.slices_Sorted_keys_45_46 {H : Type} (b nn : Nat) (D0 : DataW H) (R : Value → Option (DataW H × List MemPlace)) (w : World) (hown : w.ownsMap Tryz.prog 9 R b nn D0) (hmax : Maps.size D0 ≤ maxLen) (hbytes : Maps.size D0 * 16 ≤ 140737488355328) :
    CallsIn Fence.wide 5 Tryz.prog 45 #[.func (.func 83) #[] #[.pointer (some ⟨w.heap.size, 0, none⟩)]] (w.alloc (.cells #[.map (some b)] 41)) fun e w' => ∃ (v : Value) (ss : List (List UInt8)), e = .returned v ∧ ss.Perm (strKeys D0) ∧
      w'.ownsRow (w.alloc (.cells #[.map (some b)] 41)).heap.size 9 1 v ss.length ((ss.mergeSort (fun x y => decide (x ≤ y))).map encStr) ∧ (v = .slice none 0 0 ↔ ss = []) ∧ Below (w.alloc (.cells #[.map (some b)] 41)).heap.size (w.alloc (.cells #[.map (some b)] 41)) w' := by
  have hbl := hown.lt
  have hseq : SeqGives Fence.wide 2 Tryz.prog 83 #[.pointer (some ⟨w.heap.size, 0, none⟩)] encStr (fun ss => ss.Perm (strKeys D0)) (Maps.size D0) (w.alloc (.cells #[.map (some b)] 41)) :=
    AnyZ.keys_gives (ρ := Tryz.keys46_ren) { Tryz.keys46 with } Fence.wide _ trivial rfl (by omega) w.heap.size b nn D0 _ (by simp) (by simp) (by
      obtain ⟨es, clock, hb, Ft, hs, hD⟩ := hown
      exact ⟨es, clock, (Below.heap_alloc _ _ b hbl).trans hb, Ft, hs, hD⟩)
  exact AnyZ.sorted_in Tryz.sorted45 Fence.wide 5 trivial trivial trivial trivial rfl (by omega) (Tryz.sorts45 _) (enters_of Tryz.func82 (by kernel_rfl) rfl) 83 #[.pointer (some ⟨w.heap.size, 0, none⟩)] trivial (enters_of Tryz.func83 (by kernel_rfl) rfl) _ _ hmax hbytes _ hseq
end Go.Proofs
/- The file store: Names and Users. -/
set_option linter.unusedVariables false
set_option linter.unusedSimpArgs false
namespace Go.Proofs.YtehlmkgldcfciaaGreat.Files
open Go.Proofs.YtehlmkgldcfciaaGreat.Common Go.Maps Go.ChangeMaps Go.WideMaps Go.Proofs.YtehlmkgldcfciaaGreat.F
open Go.RowKit Go.Proofs.YtehlmkgldcfciaaGreatW.PrintWords Go.Proofs.YtehlmkgldcfciaaGreatW.PrintLast Go.Proofs.YtehlmkgldcfciaaGreatW.PrintMore
open Go.Sort Go.Shelf
def KeysEnd (W : World) (D : DataW Unit) (e : Ending) (w' : World) : Prop := ∃ (v : Value) (ss : List (List UInt8)), e = .returned v ∧ ss.Perm (strKeys D) ∧ w'.ownsRow W.heap.size 9 1 v ss.length ((ss.mergeSort (fun x y => decide (x ≤ y))).map encStr) ∧ Below W.heap.size W w'
theorem Names_c (sb mb n : Nat) (D : DataW Unit) (W : World) (c0 : W.cell? ⟨sb, 0, none⟩ = some (.map (some mb))) (hown : W.ownsMap Tryz.prog 9 Rp mb n D) (hsz : Maps.size D ≤ 1000) :
    Calls Tryz.prog 9 #[.pointer (some ⟨sb, 0, none⟩)] W (KeysEnd W D) := by
  refine (callsIn_wide (n := 6)).1 ?_
  have hmax : Maps.size D ≤ maxLen := by unfold maxLen; omega
  have hbytes : Maps.size D * 16 ≤ 140737488355328 := by omega
  have hfK : Fence.wide.fn 46 := trivial
  have hfS : Fence.wide.fn 45 := trivial
  have hfN : Fence.wide.fn 44 := trivial
  refine callsIn_of_wp Tryz.func9 rfl trivial ?_ rfl
  simp only [Tryz.ntmps9, List.size_toArray, List.length_cons, List.length_nil, Nat.reduceAdd, Nat.reduceSub, Array.replicate_succ, Array.replicate_zero, List.push_toArray, List.append_toArray, List.nil_append, List.cons_append]
  gi_wp2_with (first
    | (gi_at_call 44; refine (callsIn_wide.2 (no_live sb mb W c0)).mono ?_; rintro e w' ⟨rfl, rfl⟩)
    | (gi_at_call 46; refine (Tryz.maps_Keys_46 _ _).mono ?_; rintro e w' ⟨rfl, rfl⟩)
    | (gi_at_call 45; refine (Tryz.slices_Sorted_keys_45_46 mb n D Rp W hown hmax hbytes).mono ?_; rintro e w' ⟨v, ss, rfl, hS, hrow, hnil, hb⟩))
  go_ret
  exact ⟨v, ss, rfl, hS, ownsRow_base_a hrow (by simp), ((Below.refl _ W).alloc (Nat.le_refl _) _).trans (hb.mono (by simp))⟩
end Go.Proofs.YtehlmkgldcfciaaGreat.Files
/- maps.Clone of a file's users. -/
set_option linter.unusedVariables false
set_option linter.unusedSimpArgs false
namespace Go.Proofs.YtehlmkgldcfciaaGreat.Files
open Go.Proofs.YtehlmkgldcfciaaGreat.Common Go.Maps Go.ChangeMaps Go.WideMaps Go.Proofs.YtehlmkgldcfciaaGreat.F
open Go.RowKit Go.Proofs.YtehlmkgldcfciaaGreatW.PrintWords Go.Proofs.YtehlmkgldcfciaaGreatW.PrintLast Go.Proofs.YtehlmkgldcfciaaGreatW.PrintMore
open Go.Sort Go.Shelf
theorem CloneUsers (ub n : Nat) (DU : DataW Unit) (w : World) (hown : w.ownsMap Tryz.prog 9 Ro ub n DU) :
    Calls Tryz.prog 51 #[.map (some ub)] w fun e w' => e = .returned (.map (some w.heap.size)) ∧ w'.ownsMap Tryz.prog 9 Ro w.heap.size n DU ∧ w'.ownsMap Tryz.prog 9 Ro ub n DU ∧ Below w.heap.size w w' :=
  AnyW.maps_Clone_owns Tryz.clone51 9 Ro ub n DU w hown
end Go.Proofs.YtehlmkgldcfciaaGreat.Files
/- The keys of a map, as a list. -/
set_option linter.unusedVariables false
set_option linter.unusedSimpArgs false
namespace Go.Proofs.YtehlmkgldcfciaaGreat.Files
open Go.Proofs.YtehlmkgldcfciaaGreat.Common Go.Maps Go.ChangeMaps Go.WideMaps Go.Proofs.YtehlmkgldcfciaaGreat.F
open Go.RowKit Go.Proofs.YtehlmkgldcfciaaGreatW.PrintWords Go.Proofs.YtehlmkgldcfciaaGreatW.PrintLast Go.Proofs.YtehlmkgldcfciaaGreatW.PrintMore
open Go.Sort Go.Shelf
theorem look_isSome {α : Type} {l : List (Key × α)} {k : Key} : (look l k).isSome = true ↔ k ∈ l.map (·.1) := by
  constructor
  · intro h
    obtain ⟨x, hx⟩ := Option.isSome_iff_exists.1 h
    exact List.mem_map.2 ⟨(k, x), look_mem hx, rfl⟩
  · intro h
    cases hl : look l k with
    | some x => rfl
    | none =>
      obtain ⟨p, hp, rfl⟩ := List.mem_map.1 h
      exact absurd rfl (look_none.1 hl p hp)
theorem keys_perm {P : Program} {W : World} {R : Value → Option (DataW Unit × List MemPlace)} {b n : Nat} {D : DataW Unit} {l : List (Key × DataW Unit)} (hown : W.ownsMap P 9 R b n D) (K : Keyed P 9) (hk9 : P.underlying 9 = some .string) (h : MapIs D l) (hn : (l.map (·.1)).Nodup) : (l.map (·.1)).Perm (strKeys D) := by
  obtain ⟨es, rfl, hp⟩ := h.tidy
  have hk : ∀ p ∈ es, ∃ x, p.1 = .string x := by
    obtain ⟨es', hD', hko⟩ := hown.keysOf
    obtain rfl : es = es' := by simpa using hD'
    exact fun p hp => by obtain ⟨v, hv⟩ := hko p hp; obtain ⟨x, _, hx, _⟩ := Maps.keyOf_str hk9 hv; exact ⟨x, hx⟩
  exact perm_strKeys hp hk hn (fun x => by rw [← look_isSome, ← h.has])
def sortedNames (l : List ByteArray) : List (List UInt8) := (l.map (·.data.toList)).mergeSort (fun x y => decide (x ≤ y))
def WordsEnd (W : World) (l : List ByteArray) (e : Ending) (w' : World) : Prop := ∃ v : Value, e = .returned v ∧ w'.ownsRow W.heap.size 9 1 v l.length ((sortedNames l).map encStr) ∧ Below W.heap.size W w'
theorem WordsEnd.of {P : Program} {W : World} {R : Value → Option (DataW Unit × List MemPlace)} {b n : Nat} {D : DataW Unit} {names : List ByteArray} {l : List (Key × DataW Unit)} (hown : W.ownsMap P 9 R b n D) (K : Keyed P 9) (hk9 : P.underlying 9 = some .string) (h : MapIs D l) (hn : (l.map (·.1)).Nodup) (hl : l.map (·.1) = names.map (·.data.toList)) {e : Ending} {w' : World} (hk : KeysEnd W D e w') : WordsEnd W names e w' := by
  obtain ⟨v, ss, rfl, hp, hr, hb⟩ := hk
  have hp2 := hp.trans (keys_perm hown K hk9 h hn).symm
  rw [hl] at hp2
  have hlen : ss.length = names.length := by rw [hp2.length_eq, List.length_map]
  have hsrt : ss.mergeSort (fun x y => decide (x ≤ y)) = sortedNames names := mergeSort_of_perm hp2
  rw [hlen, hsrt] at hr
  exact ⟨v, rfl, hr, hb⟩
section steps
variable {W : World} {ok : Nat → Prop} {sb : Nat} {L : List (Nat × AF)} {st : Fs} {c : Nat}
theorem S_Names (hR : StoreRep W ok sb L) (hst : L.map (·.2) = st) (hI : SInv c st) :
    Calls Tryz.prog 9 #[.pointer (some ⟨sb, 0, none⟩)] W (WordsEnd W (st.map (·.F.name))) := by
  obtain ⟨mb, D, own, R⟩ := hR
  have hsz : Maps.size D = st.length := by rw [R.mM.size, List.length_map, ← hst, List.length_map]
  have hkeys : ((L.map fun p => (p.2.key, (DataW.lit (.int .i64 (p.1 : Int)) : DataW Unit))).map (·.1)).Nodup := by rw [List.map_map]; exact R.names
  refine (Names_c sb mb _ D W R.S.cell R.M (by have := hI.count; omega)).mono fun e w' h => WordsEnd.of R.M law9 Tryz.underlying9 R.mM hkeys ?_ h
  rw [← hst]
  simp only [List.map_map]
  rfl
end steps
end Go.Proofs.YtehlmkgldcfciaaGreat.Files
/- What is always so stays so: the plain part that no tree is needed for. -/
set_option linter.unusedVariables false
set_option linter.unusedSimpArgs false
namespace Go.Proofs.YtehlmkgldcfciaaGreat.Files
open Go.Proofs.YtehlmkgldcfciaaGreat.Common Go.Maps Go.ChangeMaps Go.WideMaps Go.Proofs.YtehlmkgldcfciaaGreat.F
open Go.RowKit Go.Proofs.YtehlmkgldcfciaaGreatW.PrintWords Go.Proofs.YtehlmkgldcfciaaGreatW.PrintLast Go.Proofs.YtehlmkgldcfciaaGreatW.PrintMore
theorem FInv.closed {c : Nat} {f : AF} (h : FInv c f) (u : ByteArray) : FInv c (f.closed u) :=
  ⟨h.name, h.units, h.data, h.users.sublist (List.Sublist.map _ List.filter_sublist), Nat.le_trans (List.length_filter_le _ _) h.count⟩
theorem FInv.opened {c : Nat} {f : AF} (h : FInv c f) (u : ByteArray) (a x : Int) (hl : lookU f.users u = none) : FInv (c + 1) (f.opened u a x) := by
  refine ⟨h.name, h.units, h.data, ?_, ?_⟩
  · show ((f.users ++ [(u, (a, x))]).map _).Nodup
    rw [List.map_append, List.nodup_append]
    refine ⟨h.users, by simp, fun b hb d hd e => ?_⟩
    obtain ⟨p, hp, rfl⟩ := List.mem_map.1 hb
    have hd' : d = u.data.toList := by simpa using hd
    have hpu : p.1 = u := data_inj (e.trans hd')
    unfold lookU at hl
    rw [Option.map_eq_none_iff, List.find?_eq_none] at hl
    exact absurd (hl p hp) (by simp [hpu])
  · show (f.users ++ [(u, (a, x))]).length ≤ c + 1
    have := h.count
    simp
    omega
end Go.Proofs.YtehlmkgldcfciaaGreat.Files
/- Validity of units as a structure. -/
set_option linter.unusedVariables false
set_option linter.unusedSimpArgs false
namespace Go.Proofs.YtehlmkgldcfciaaGreat.Files
open Go.Proofs.YtehlmkgldcfciaaGreat.Common Go.Maps Go.ChangeMaps Go.WideMaps Go.Proofs.YtehlmkgldcfciaaGreat.F
open Go.RowKit Go.Proofs.YtehlmkgldcfciaaGreatW.PrintWords Go.Proofs.YtehlmkgldcfciaaGreatW.PrintLast Go.Proofs.YtehlmkgldcfciaaGreatW.PrintMore
def Sib (l : List S29) (j i : Nat) : Prop := j < i ∧ i < l.length ∧ lv l j = lv l i ∧ ∀ t, j < t → t < i → lv l i ≤ lv l t
structure VOk (l : List S29) (kind : Int) : Prop where
  k0 : 0 ≤ kind ∧ kind ≤ 2
  len : 1 ≤ l.length ∧ l.length ≤ 100
  cell : ∀ i, i < l.length → (rd_T29 l (i : Int)).f0.size ≤ 30 ∧ (rd_T29 l (i : Int)).f1.size ≤ 400
  steps : Steps l
  top : kind < 2 → ∀ i, i < l.length → lv l i ≤ kind
  names : ∀ j i, Sib l j i → nmP l i ≠ ⟨#[]⟩ → nmP l j ≠ nmP l i
theorem lv_bound {l : List S29} (hs : Steps l) : ∀ i, i < l.length → 0 ≤ lv l i ∧ lv l i ≤ i
  | 0, _ => by rw [hs.1]; omega
  | i + 1, h => by
    have ih := lv_bound hs i (by omega)
    have := hs.2 (i + 1) h (by omega)
    rw [Nat.add_sub_cancel] at this
    omega
end Go.Proofs.YtehlmkgldcfciaaGreat.Files
/- Units stay valid: plain law. -/
set_option linter.unusedVariables false
set_option linter.unusedSimpArgs false
namespace Go.Proofs.YtehlmkgldcfciaaGreat.Files
open Go.Proofs.YtehlmkgldcfciaaGreat.Common Go.Maps Go.ChangeMaps Go.WideMaps Go.Proofs.YtehlmkgldcfciaaGreat.F
open Go.RowKit Go.Proofs.YtehlmkgldcfciaaGreatW.PrintWords Go.Proofs.YtehlmkgldcfciaaGreatW.PrintLast Go.Proofs.YtehlmkgldcfciaaGreatW.PrintMore
theorem VOk.uok {l : List S29} {kind : Int} (h : VOk l kind) : UOk l :=
  uok_of h.len.1 h.len.2 (fun x hx => by
    obtain ⟨i, hi, rfl⟩ := List.getElem_of_mem hx
    have := lv_bound h.steps i hi
    unfold lv at this
    rw [rd_get l i hi] at this
    have := h.len.2
    omega) h.steps.1
theorem VOk.data {l : List S29} {kind : Int} (h : VOk l kind) : ∀ x ∈ l, x.f1.size ≤ 400 := fun x hx => by
  obtain ⟨i, hi, rfl⟩ := List.getElem_of_mem hx
  have := (h.cell i hi).2
  rwa [rd_get l i hi] at this
theorem rd_cons (u : S29) (r : List S29) (q : Nat) : rd_T29 (u :: r) ((q + 1 : Nat) : Int) = rd_T29 r (q : Int) := by simp [rd_T29]
theorem runLen_lt (lev : Int) : ∀ (l : List S29) (q : Nat), q < runLen lev l → (rd_T29 l (q : Int)).f2 > lev
  | [], q, h => absurd h (Nat.not_lt_zero _)
  | u :: r, q, h => by
    rw [runLen_cons] at h
    split at h
    · rename_i c
      cases q with
      | zero => exact c
      | succ q => rw [rd_cons]; exact runLen_lt lev r q (by omega)
    · omega
theorem runLen_at (lev : Int) : ∀ (l : List S29), runLen lev l < l.length → (rd_T29 l (runLen lev l : Int)).f2 ≤ lev
  | [], h => absurd h (Nat.not_lt_zero _)
  | u :: r, h => by
    rw [runLen_cons] at h ⊢
    split at h
    · rename_i c
      rw [if_pos c]
      rw [rd_cons]
      exact runLen_at lev r (by simpa using h)
    · rename_i c
      rw [if_neg c]
      show u.f2 ≤ lev
      omega
theorem endOf_in {l : List S29} {i t : Nat} (h1 : i < t) (h2 : t < endOf l i) : lv l t > lv l i := by
  have := runLen_lt (lv l i) (l.drop (i + 1)) (t - (i + 1)) (by unfold endOf at h2; omega)
  rw [rd_drop, show i + 1 + (t - (i + 1)) = t by omega] at this
  exact this
theorem endOf_at {l : List S29} {i : Nat} (h : endOf l i < l.length) : lv l (endOf l i) ≤ lv l i := by
  have := runLen_at (lv l i) (l.drop (i + 1)) (by rw [List.length_drop]; unfold endOf at h; omega)
  rw [rd_drop] at this
  exact this
theorem rd_ins (l : List S29) (e : Nat) (x : S29) (he : e ≤ l.length) (t : Nat) : rd_T29 (l.take e ++ x :: l.drop e) (t : Int) = if t < e then rd_T29 l (t : Int) else if t = e then x else rd_T29 l ((t - 1 : Nat) : Int) := by
  simp only [rd_T29, Int.toNat_natCast, List.getD_eq_getElem?_getD]
  by_cases h1 : t < e
  · rw [if_pos h1, List.getElem?_append_left (by rw [List.length_take]; omega), List.getElem?_take_of_lt h1]
  · rw [if_neg h1, List.getElem?_append_right (by rw [List.length_take]; omega), List.length_take, Nat.min_eq_left he]
    by_cases h2 : t = e
    · rw [if_pos h2, h2, Nat.sub_self]; rfl
    · rw [if_neg h2, show t - e = (t - 1 - e) + 1 by omega, List.getElem?_cons_succ, List.getElem?_drop, show e + (t - 1 - e) = t - 1 by omega]
theorem aboveOf_in (l : List S29) (lev : Int) : ∀ i t, aboveOf l lev i < t → t ≤ i → lv l t ≥ lev
  | 0, t, h1, h2 => by simp only [aboveOf] at h1; omega
  | i + 1, t, h1, h2 => by
    unfold aboveOf at h1
    split at h1
    · rename_i c
      rcases Nat.lt_or_ge i t with h | h
      · obtain rfl : t = i + 1 := by omega
        exact c
      · exact aboveOf_in l lev i t h1 h
    · omega
theorem aboveOf_at (l : List S29) (lev : Int) (h0 : lv l 0 < lev) : ∀ i, lv l (aboveOf l lev i) < lev
  | 0 => h0
  | i + 1 => by
    unfold aboveOf
    split
    · exact aboveOf_at l lev h0 i
    · omega
theorem aboveOf_lv {l : List S29} {lev : Int} (hs : Steps l) (h0 : 1 ≤ lev) {i : Nat} (hi : i < l.length) (hlev : lev ≤ lv l i + 1) : lv l (aboveOf l lev i) = lev - 1 := by
  have h1 := aboveOf_at l lev (by rw [hs.1]; omega) i
  have h2 := aboveOf_le l lev i
  have h3 := aboveOf_in l lev i
  generalize aboveOf l lev i = p at h1 h2 h3
  by_cases e : p = i
  · subst e; omega
  · have := h3 (p + 1) (by omega) (by omega)
    have := hs.2 (p + 1) (by omega) (by omega)
    rw [Nat.add_sub_cancel] at this
    omega
theorem clash_no {l : List S29} {at_ : List Int} {a : ByteArray} (h : clashB l at_ a = false) (ha : a ≠ ⟨#[]⟩) {q : Nat} (hq : (q : Int) ∈ at_) : nmP l q ≠ a := by
  intro e
  unfold clashB at h
  rw [Bool.and_eq_false_iff] at h
  rcases h with h | h
  · simp [ha] at h
  · rw [List.any_eq_false] at h
    have := h _ hq
    simp [nmP] at e
    simp [e] at this
theorem VOk.ins {l : List S29} {kind : Int} (h : VOk l kind) {i : Nat} (hi : i < l.length) {child : Bool} {a b : ByteArray} (ha : a.size ≤ 30) (hb : b.size ≤ 400) (hbad : insBad kind (insLev l i child) = false)
    (hcl : clashB l (kids l (aboveOf l (insLev l i child) i)) a = false) (hfull : l.length < 100) : VOk (l.take (endOf l i) ++ ⟨a, b, insLev l i child⟩ :: l.drop (endOf l i)) kind := by
  have he := endOf_le hi
  have hin : ∀ t, i < t → t < endOf l i → lv l t > lv l i := fun t => endOf_in
  have hat : endOf l i < l.length → lv l (endOf l i) ≤ lv l i := endOf_at
  have hb0 := lv_bound h.steps i hi
  have hlev : insLev l i child = lv l i ∨ insLev l i child = lv l i + 1 := by unfold insLev; cases child <;> simp
  unfold insBad at hbad
  rw [Bool.or_eq_false_iff] at hbad
  have hl0 : insLev l i child ≠ 0 := by simpa using hbad.1
  have hlk : kind < 2 → insLev l i child ≤ kind := fun hk => by
    have := hbad.2
    simp only [Bool.and_eq_false_iff, decide_eq_false_iff_not] at this
    omega
  have hp := aboveOf_lv (lev := insLev l i child) h.steps (by omega) hi (by omega)
  have hp1 := aboveOf_le l (insLev l i child) i
  have hp2 := aboveOf_in l (insLev l i child) i
  clear hbad
  generalize insLev l i child = lev at *
  generalize aboveOf l lev i = p at *
  generalize endOf l i = e at *
  have hrd := rd_ins l e ⟨a, b, lev⟩ he.2
  have hlv : ∀ t, lv (l.take e ++ ⟨a, b, lev⟩ :: l.drop e) t = if t < e then lv l t else if t = e then lev else lv l (t - 1) := fun t => by
    unfold lv
    rw [hrd]
    split
    · rfl
    · split <;> rfl
  have hnm : ∀ t, nmP (l.take e ++ ⟨a, b, lev⟩ :: l.drop e) t = if t < e then nmP l t else if t = e then a else nmP l (t - 1) := fun t => by
    unfold nmP
    rw [hrd]
    split
    · rfl
    · split <;> rfl
  have hlen : (l.take e ++ ⟨a, b, lev⟩ :: l.drop e).length = l.length + 1 := by simp; omega
  generalize l.take e ++ ⟨a, b, lev⟩ :: l.drop e = l' at *
  refine ⟨h.k0, ⟨by omega, by omega⟩, fun t ht => ?_, ⟨?_, fun t ht hne => ?_⟩, fun hk t ht => ?_, fun j k hjk hne => ?_⟩
  · rw [hrd]
    split
    · exact h.cell t (by omega)
    · split
      · exact ⟨ha, hb⟩
      · exact h.cell (t - 1) (by omega)
  · rw [hlv, if_pos (by omega)]; exact h.steps.1
  · rw [hlv, hlv]
    by_cases h1 : t < e
    · rw [if_pos h1, if_pos (by omega)]
      exact h.steps.2 t (by omega) hne
    · rw [if_neg h1]
      by_cases h2 : t = e
      · rw [if_pos h2, if_pos (by omega)]
        by_cases h3 : t - 1 = i
        · rw [h3]; omega
        · have := hin (t - 1) (by omega) (by omega); omega
      · rw [if_neg h2, if_neg (by omega)]
        by_cases h3 : t - 1 = e
        · rw [if_pos h3]
          have h4 := hat (by omega)
          rw [← h3] at h4
          have h5 := h.steps.2 (t - 1) (by omega) (by omega)
          omega
        · rw [if_neg h3]
          exact h.steps.2 (t - 1) (by omega) (by omega)
  · rw [hlv]
    split
    · exact h.top hk t (by omega)
    · split
      · exact hlk hk
      · exact h.top hk (t - 1) (by omega)
  · obtain ⟨d1, d2, d3, d4⟩ := hjk
    rw [hlv, hlv] at d3
    have d4' : ∀ t, j < t → t < k → (if k < e then lv l k else if k = e then lev else lv l (k - 1)) ≤ (if t < e then lv l t else if t = e then lev else lv l (t - 1)) := fun t h1 h2 => by
      have := d4 t h1 h2
      rwa [hlv, hlv] at this
    clear d4
    rw [hnm] at hne ⊢
    rw [hnm]
    by_cases hk1 : k < e
    · rw [if_pos hk1] at hne ⊢ d3
      rw [if_pos (by omega)] at d3 ⊢
      refine h.names j k ⟨d1, by omega, d3, fun t h1 h2 => ?_⟩ hne
      have := d4' t h1 h2
      rwa [if_pos hk1, if_pos (by omega)] at this
    · rw [if_neg hk1] at hne ⊢ d3
      by_cases hk2 : k = e
      · rw [if_pos hk2] at hne ⊢ d3
        rw [if_pos (by omega)] at d3 ⊢
        have hge : ∀ t, j ≤ t → t < e → lev ≤ lv l t := fun t h1 h2 => by
          rcases Nat.lt_or_ge j t with h3 | h3
          · have := d4' t h3 (by omega)
            rwa [if_neg hk1, if_pos hk2, if_pos h2] at this
          · obtain rfl : t = j := by omega
            omega
        have hpj : p < j := by
          rcases Nat.lt_or_ge p j with h3 | h3
          · exact h3
          · have := hge p h3 (by omega); omega
        refine clash_no hcl hne ((mem_kids l p _).2 ⟨j, rfl, hpj, by omega, by omega, fun t h1 h2 => ?_⟩)
        rcases Nat.lt_or_ge i t with h3 | h3
        · have := hin t h3 (by omega)
          rcases Nat.lt_or_ge t j with h4 | h4
          · omega
          · have := hge t h4 (by omega); omega
        · have := hp2 t h1 h3; omega
      · rw [if_neg hk2] at hne ⊢ d3
        by_cases hj1 : j < e
        · rw [if_pos hj1] at d3 ⊢
          refine h.names j (k - 1) ⟨by omega, by omega, d3, fun t h1 h2 => ?_⟩ hne
          by_cases ht : t < e
          · have := d4' t h1 (by omega)
            rwa [if_neg hk1, if_neg hk2, if_pos ht] at this
          · have := d4' (t + 1) (by omega) (by omega)
            rwa [if_neg hk1, if_neg hk2, if_neg (by omega), if_neg (by omega), Nat.add_sub_cancel] at this
        · rw [if_neg hj1] at d3 ⊢
          by_cases hj2 : j = e
          · rw [if_pos hj2] at d3 ⊢
            intro hname
            have hge : ∀ t, e ≤ t → t ≤ k - 1 → lev ≤ lv l t := fun t h1 h2 => by
              rcases Nat.lt_or_ge t (k - 1) with h3 | h3
              · have := d4' (t + 1) (by omega) (by omega)
                rw [if_neg hk1, if_neg hk2, if_neg (by omega), if_neg (by omega), Nat.add_sub_cancel] at this
                omega
              · obtain rfl : t = k - 1 := by omega
                omega
            have h5 := hat (by omega)
            have h6 := hge e (Nat.le_refl _) (by omega)
            refine clash_no hcl (by rw [hname]; exact hne) ((mem_kids l p _).2 ⟨k - 1, rfl, by omega, by omega, by omega, fun t h1 h2 => ?_⟩) hname.symm
            rcases Nat.lt_or_ge i t with h3 | h3
            · rcases Nat.lt_or_ge t e with h4 | h4
              · have := hin t h3 h4; omega
              · have := hge t h4 h2; omega
            · have := hp2 t h1 h3; omega
          · rw [if_neg hj2] at d3 ⊢
            refine h.names (j - 1) (k - 1) ⟨by omega, by omega, d3, fun t h1 h2 => ?_⟩ hne
            have := d4' (t + 1) (by omega) (by omega)
            rwa [if_neg hk1, if_neg hk2, if_neg (by omega), if_neg (by omega), Nat.add_sub_cancel] at this
theorem rd_era (l : List S29) (i e : Nat) (hi : i ≤ l.length) (t : Nat) : rd_T29 (l.take i ++ l.drop e) (t : Int) = if t < i then rd_T29 l (t : Int) else rd_T29 l ((t - i + e : Nat) : Int) := by
  simp only [rd_T29, Int.toNat_natCast, List.getD_eq_getElem?_getD]
  by_cases h1 : t < i
  · rw [if_pos h1, List.getElem?_append_left (by rw [List.length_take]; omega), List.getElem?_take_of_lt h1]
  · rw [if_neg h1, List.getElem?_append_right (by rw [List.length_take]; omega), List.length_take, Nat.min_eq_left hi, List.getElem?_drop, Nat.add_comm]
theorem VOk.era {l : List S29} {kind : Int} (h : VOk l kind) {i : Nat} (hi : i < l.length) (h0 : i ≠ 0) : VOk (l.take i ++ l.drop (endOf l i)) kind := by
  have he := endOf_le hi
  have hin : ∀ t, i < t → t < endOf l i → lv l t > lv l i := fun t => endOf_in
  have hat : endOf l i < l.length → lv l (endOf l i) ≤ lv l i := endOf_at
  have hsi := h.steps.2 i hi h0
  generalize endOf l i = e at *
  have hrd := rd_era l i e (by omega)
  have hlv : ∀ t, lv (l.take i ++ l.drop e) t = if t < i then lv l t else lv l (t - i + e) := fun t => by
    unfold lv
    rw [hrd]
    split <;> rfl
  have hnm : ∀ t, nmP (l.take i ++ l.drop e) t = if t < i then nmP l t else nmP l (t - i + e) := fun t => by
    unfold nmP
    rw [hrd]
    split <;> rfl
  have hlen : (l.take i ++ l.drop e).length = i + (l.length - e) := by simp; omega
  have hl := h.len
  generalize l.take i ++ l.drop e = l' at *
  refine ⟨h.k0, ⟨by omega, by omega⟩, fun t ht => ?_, ⟨?_, fun t ht hne => ?_⟩, fun hk t ht => ?_, fun j k hjk hne => ?_⟩
  · rw [hrd]
    split
    · exact h.cell t (by omega)
    · exact h.cell _ (by omega)
  · rw [hlv, if_pos (by omega)]; exact h.steps.1
  · rw [hlv, hlv]
    by_cases h1 : t < i
    · rw [if_pos h1, if_pos (by omega)]
      exact h.steps.2 t (by omega) hne
    · rw [if_neg h1]
      have h5 := h.steps.2 (t - i + e) (by omega) (by omega)
      by_cases h2 : t = i
      · rw [if_pos (by omega)]
        have h4 := hat (by omega)
        rw [show t - i + e = e by omega] at h5 ⊢
        rw [h2]
        omega
      · rw [if_neg (by omega), show t - 1 - i + e = t - i + e - 1 by omega]
        exact h5
  · rw [hlv]
    split
    · exact h.top hk t (by omega)
    · exact h.top hk _ (by omega)
  · obtain ⟨d1, d2, d3, d4⟩ := hjk
    rw [hlv, hlv] at d3
    have d4' : ∀ t, j < t → t < k → (if k < i then lv l k else lv l (k - i + e)) ≤ (if t < i then lv l t else lv l (t - i + e)) := fun t h1 h2 => by
      have := d4 t h1 h2
      rwa [hlv, hlv] at this
    clear d4
    rw [hnm] at hne ⊢
    rw [hnm]
    by_cases hk1 : k < i
    · rw [if_pos hk1] at hne ⊢ d3
      rw [if_pos (by omega)] at d3 ⊢
      refine h.names j k ⟨d1, by omega, d3, fun t h1 h2 => ?_⟩ hne
      have := d4' t h1 h2
      rwa [if_pos hk1, if_pos (by omega)] at this
    · rw [if_neg hk1] at hne ⊢ d3
      have back : ∀ t, e ≤ t → t < k - i + e → j < t - e + i → lv l (k - i + e) ≤ lv l t := fun t h1 h2 h3 => by
        have := d4' (t - e + i) h3 (by omega)
        rwa [if_neg hk1, if_neg (by omega), show t - e + i - i + e = t by omega] at this
      by_cases hj1 : j < i
      · rw [if_pos hj1] at d3 ⊢
        have hle : lv l (k - i + e) ≤ lv l i := by
          have h4 := hat (by omega)
          by_cases h6 : k = i
          · rw [show k - i + e = e by omega]; exact h4
          · have := back e (Nat.le_refl _) (by omega) (by omega); omega
        refine h.names j (k - i + e) ⟨by omega, by omega, d3, fun t h1 h2 => ?_⟩ hne
        rcases Nat.lt_or_ge t i with h7 | h7
        · have := d4' t h1 (by omega)
          rwa [if_neg hk1, if_pos h7] at this
        · rcases Nat.lt_or_ge t e with h8 | h8
          · by_cases h9 : t = i
            · rw [h9]; exact hle
            · have := hin t (by omega) h8; omega
          · exact back t h8 h2 (by omega)
      · rw [if_neg hj1] at d3 ⊢
        exact h.names _ (k - i + e) ⟨by omega, by omega, d3, fun t h1 h2 => back t (by omega) h2 (by omega)⟩ hne
theorem VOk.one (kind : Int) (hk : 0 ≤ kind ∧ kind ≤ 2) : VOk [z29] kind := by
  have h0 : lv [z29] 0 = 0 := rfl
  refine ⟨hk, ⟨by simp, by simp⟩, fun i hi => ?_, ⟨h0, fun i hi hne => ?_⟩, fun h i hi => ?_, fun j i hji _ => ?_⟩
  · obtain rfl : i = 0 := by simpa using hi
    exact ⟨by decide, by decide⟩
  · have : i = 0 := by simpa using hi
    exact absurd this hne
  · obtain rfl : i = 0 := by simpa using hi
    rw [h0]; exact hk.1
  · have h1 : i = 0 := by simpa using hji.2.1
    have := hji.1
    omega
theorem rd_data (l : List S29) (i : Nat) (d : ByteArray) (hi : i < l.length) (t : Nat) : rd_T29 (withData l i d) (t : Int) = if t = i then ⟨(rd_T29 l (i : Int)).f0, d, (rd_T29 l (i : Int)).f2⟩ else rd_T29 l (t : Int) := by
  unfold withData
  simp only [rd_T29, Int.toNat_natCast, List.getD_eq_getElem?_getD, List.getElem?_set]
  by_cases h : t = i
  · subst h
    rw [if_pos rfl, if_pos hi, if_pos rfl]; rfl
  · rw [if_neg (fun e => h e.symm), if_neg h]
theorem VOk.withData {l : List S29} {kind : Int} (h : VOk l kind) {i : Nat} (hi : i < l.length) {d : ByteArray} (hd : d.size ≤ 400) : VOk (withData l i d) kind := by
  have hrd := rd_data l i d hi
  have hlv : ∀ t, lv (Files.withData l i d) t = lv l t := fun t => by
    unfold lv
    rw [hrd]
    split
    · rename_i e; rw [e]
    · rfl
  have hnm : ∀ t, nmP (Files.withData l i d) t = nmP l t := fun t => by
    unfold nmP
    rw [hrd]
    split
    · rename_i e; rw [e]
    · rfl
  have hlen : (Files.withData l i d).length = l.length := by unfold Files.withData; rw [List.length_set]
  generalize Files.withData l i d = l' at *
  refine ⟨h.k0, by rw [hlen]; exact h.len, fun t ht => ?_, ⟨by rw [hlv]; exact h.steps.1, fun t ht hne => by rw [hlv, hlv]; exact h.steps.2 t (by omega) hne⟩, fun hk t ht => by rw [hlv]; exact h.top hk t (by omega), fun j k hjk hne => ?_⟩
  · rw [hrd]
    split
    · exact ⟨(h.cell i hi).1, hd⟩
    · exact h.cell t (by omega)
  · rw [hnm] at hne ⊢
    rw [hnm]
    refine h.names j k ⟨hjk.1, by have := hjk.2.1; omega, by have := hjk.2.2.1; rwa [hlv, hlv] at this, fun t h1 h2 => ?_⟩ hne
    have := hjk.2.2.2 t h1 h2
    rwa [hlv, hlv] at this
end Go.Proofs.YtehlmkgldcfciaaGreat.Files
/- The reference's store: where a name is there twice, plainly; a unit's sizes. -/
set_option linter.unusedVariables false
set_option linter.unusedSimpArgs false
namespace Go.Proofs.YtehlmkgldcfciaaGreat.Files
open Go.Proofs.YtehlmkgldcfciaaGreat.Common Go.Maps Go.ChangeMaps Go.WideMaps Go.Proofs.YtehlmkgldcfciaaGreat.F
open Go.RowKit Go.Proofs.YtehlmkgldcfciaaGreatW.PrintWords Go.Proofs.YtehlmkgldcfciaaGreatW.PrintLast Go.Proofs.YtehlmkgldcfciaaGreatW.PrintMore
def dupAt (l : List S29) (lev : Int) (a : ByteArray) (t : Nat) : Bool := decide (lv l t = lev) && !decide (a = ⟨#[]⟩) && decide (nm l t = a)
theorem child_span {l : List S29} {p t : Nat} (hp : p < l.length) : Child l p t ↔ p < t ∧ t < endOf l p ∧ lv l t = lv l p + 1 := by
  have he := endOf_le hp
  constructor
  · rintro ⟨h1, h2, h3, h4⟩
    refine ⟨h1, ?_, h3⟩
    by_cases h : t < endOf l p
    · exact h
    · exfalso
      have h5 := endOf_at' (l := l) (i := p) (by omega)
      have := h4 (endOf l p) (by omega) (by omega)
      omega
  · rintro ⟨h1, h2, h3⟩
    exact ⟨h1, by omega, h3, fun s h5 h6 => endOf_in h5 (by omega)⟩
theorem clash_yes {l : List S29} {p t : Nat} {lev : Int} {a : ByteArray} (hp : p < l.length) (hlev : lv l p = lev - 1) (h1 : p < t) (h2 : t < endOf l p) (hd : dupAt l lev a t = true) : clashB l (kids l p) a = true := by
  unfold dupAt at hd
  simp only [Bool.and_eq_true, decide_eq_true_eq, Bool.not_eq_true', decide_eq_false_iff_not] at hd
  obtain ⟨⟨h3, h4⟩, h5⟩ := hd
  unfold clashB
  rw [Bool.and_eq_true]
  refine ⟨by simpa using h4, List.any_eq_true.2 ⟨(t : Int), (mem_kids l p t).2 ⟨t, rfl, (child_span hp).2 ⟨h1, h2, by omega⟩⟩, (decide_eq_true h5 : decide (nm l t = a) = true)⟩⟩
theorem clash_none {l : List S29} {p : Nat} {lev : Int} {a : ByteArray} (hp : p < l.length) (hlev : lv l p = lev - 1) (h : ∀ t, p < t → t < endOf l p → dupAt l lev a t = false) : clashB l (kids l p) a = false := by
  cases hc : clashB l (kids l p) a with
  | false => rfl
  | true =>
    exfalso
    unfold clashB at hc
    rw [Bool.and_eq_true] at hc
    obtain ⟨h1, h2⟩ := hc
    obtain ⟨x, hx, hxa⟩ := List.any_eq_true.1 h2
    obtain ⟨t, rfl, hch⟩ := (mem_kids l p x).1 hx
    obtain ⟨h3, h4, h5⟩ := (child_span hp).1 hch
    have := h t h3 h4
    unfold dupAt at this
    have e1 : decide (lv l t = lev) = true := decide_eq_true (by omega)
    have e2 : decide (nm l t = a) = true := hxa
    rw [e1, h1, e2] at this
    cases this
theorem aboveOf_le' (l : List S29) (lev : Int) (i : Nat) : aboveOf l lev i ≤ i := aboveOf_le l lev i
theorem aboveOf_here {l : List S29} {lev : Int} {j : Nat} (h : lv l j < lev) : aboveOf l lev j = j := by
  cases j with
  | zero => rfl
  | succ j => unfold aboveOf; rw [if_neg (by omega)]
theorem aboveOf_step {l : List S29} {lev : Int} {j : Nat} (h : lv l (j + 1) ≥ lev) : aboveOf l lev (j + 1) = aboveOf l lev j := by
  conv => lhs; unfold aboveOf
  rw [if_pos h]
theorem nodup_next {l : List S29} {lev : Int} {a : ByteArray} {P t : Nat} (h : ∀ q, P < q → q < t → dupAt l lev a q = false) (ht : dupAt l lev a t = false) : ∀ q, P < q → q < t + 1 → dupAt l lev a q = false := fun q h1 h2 => by
  by_cases e : q = t
  · rw [e]; exact ht
  · exact h q h1 (by omega)
theorem bad_tests (kind lev : Int) (hk : 0 ≤ kind ∧ kind ≤ 2) (hl : 0 ≤ lev) : insBad kind lev = true ↔ lev = 0 ∨ kind = 0 ∨ (kind = 1 ∧ 1 < lev) := by
  unfold insBad
  simp only [Bool.or_eq_true, Bool.and_eq_true, decide_eq_true_eq]
  omega
theorem below_box {W X : World} (h : Below W.heap.size W X) (j : Nat) (v : Value) : Below W.heap.size W (X.setCell ⟨W.heap.size, j, none⟩ v) :=
  ⟨h.os, h.tape, h.output, by simpa [World.setCell] using h.size, fun k hk => (Below.heap_setCell X ⟨W.heap.size, j, none⟩ v k (by simp; omega)).trans (h.block k hk)⟩
set_option maxRecDepth 100000 in
theorem runit_c (a b : ByteArray) (lev : Int) (W : World) : Calls Tryz.prog 74 #[.agg #[.string a, .string b, .int .i64 lev]] W fun e w' => e = .returned (.bool (decide (a.size ≤ 30) && decide (b.size ≤ 400))) ∧ Below W.heap.size W w' := by
  have hb1 : Below W.heap.size W (W.alloc (.cells #[.string a, .string b, .int .i64 lev] 62)) := (Below.refl _ _).alloc (Nat.le_refl _) _
  by_cases c : a.size ≤ 30
  · have h0 : decide ((a.size : Int) ≤ 30) = true := decide_eq_true (by omega)
    have h1 : decide (a.size ≤ 30) = true := decide_eq_true c
    have h2 : decide ((b.size : Int) ≤ 400) = decide (b.size ≤ 400) := decide_eq_decide.2 (by omega)
    have HB := Aside0.mk hb1
    clear hb1 c
    go_enter Tryz.func74, Tryz.ntmps74
    go_wp2
    refine bodyPost_ret (v := .bool (decide (b.size ≤ 400))) (by simp [results, Tryz.f74, go_sem, h0, h2]) rfl ?_
    exact ⟨by rw [h1]; rfl, HB.out⟩
  · have h0 : decide ((a.size : Int) ≤ 30) = false := decide_eq_false (by omega)
    have h1 : decide (a.size ≤ 30) = false := decide_eq_false c
    have HB := Aside0.mk hb1
    clear hb1 c
    go_enter Tryz.func74, Tryz.ntmps74
    go_wp2
    refine bodyPost_ret (v := .bool false) (by simp [results, Tryz.f74, go_sem, h0]) rfl ?_
    exact ⟨by rw [h1]; rfl, HB.out⟩
end Go.Proofs.YtehlmkgldcfciaaGreat.Files
/- A path through the units, plainly: the first child of a name; what Locate tells. -/
set_option linter.unusedVariables false
set_option linter.unusedSimpArgs false
namespace Go.Proofs.YtehlmkgldcfciaaGreat.Files
open Go.Proofs.YtehlmkgldcfciaaGreat.Common Go.Maps Go.ChangeMaps Go.WideMaps Go.Proofs.YtehlmkgldcfciaaGreat.F
open Go.RowKit Go.Proofs.YtehlmkgldcfciaaGreatW.PrintWords Go.Proofs.YtehlmkgldcfciaaGreatW.PrintLast Go.Proofs.YtehlmkgldcfciaaGreatW.PrintMore
theorem find_first {P : Int → Bool} : ∀ {L : List Int} {x : Int}, L.Pairwise (· < ·) → x ∈ L → P x = true → (∀ y ∈ L, y < x → P y = false) → L.find? P = some x
  | [], _, _, h, _, _ => by cases h
  | a :: r, x, hs, hx, hp, hn => by
    rcases List.mem_cons.1 hx with rfl | hr
    · rw [List.find?_cons_of_pos hp]
    · have hlt := (List.pairwise_cons.1 hs).1 x hr
      rw [List.find?_cons_of_neg (by rw [hn a List.mem_cons_self hlt]; simp)]
      exact find_first (List.pairwise_cons.1 hs).2 hr hp (fun y hy hyx => hn y (List.mem_cons_of_mem _ hy) hyx)
def locKid (l : List S29) (here : Nat) (p : ByteArray) : Option Nat := ((kids l here).find? (fun t => decide (nm l t.toNat = p))).map (·.toNat)
def locGo (l : List S29) : Nat → List ByteArray → Option Nat
  | here, [] => some here
  | here, p :: ps => match locKid l here p with
    | none => none
    | some t => locGo l t ps
def mLocate (st : Fs) (u n : ByteArray) (path : List ByteArray) : Int × Int := match mOpened st u n 1 with
  | .error E => (0, E)
  | .ok (_, f, dn) => match locGo f.units 0 path with
    | none => (0, 6)
    | some t => if dn = 0 then ((t : Int), 0) else (0, dn)
theorem locKid_some {l : List S29} {here t : Nat} {p : ByteArray} (hc : Child l here t) (hn : nm l t = p) (h : ∀ s, Child l here s → s < t → ¬ nm l s = p) : locKid l here p = some t := by
  unfold locKid
  rw [find_first (L := kids l here) (x := (t : Int)) (kidsFrom_sorted _ _ _) ((mem_kids l here t).2 ⟨t, rfl, hc⟩) (by simpa using hn) (fun y hy hyt => by
    obtain ⟨s, rfl, hs⟩ := (mem_kids l here y).1 hy
    simpa using h s hs (by omega))]
  rfl
theorem locKid_none {l : List S29} {here : Nat} {p : ByteArray} (h : ∀ s, Child l here s → ¬ nm l s = p) : locKid l here p = none := by
  unfold locKid
  rw [List.find?_eq_none.2 (fun y hy => by
    obtain ⟨s, rfl, hs⟩ := (mem_kids l here y).1 hy
    simpa using h s hs)]
  rfl
theorem locGo_no {l : List S29} {here : Nat} {p : ByteArray} {ps : List ByteArray} (h : locKid l here p = none) : locGo l here (p :: ps) = none := by unfold locGo; rw [h]
theorem locGo_yes {l : List S29} {here t : Nat} {p : ByteArray} {ps : List ByteArray} (h : locKid l here p = some t) : locGo l here (p :: ps) = locGo l t ps := by conv => lhs; unfold locGo; rw [h]
theorem mLocate_none {st : Fs} {u n : ByteArray} {path : List ByteArray} {k : Nat} {f : AF} {dn : Int} (h : mOpened st u n 1 = .ok (k, f, dn)) (hg : locGo f.units 0 path = none) : mLocate st u n path = (0, 6) := by unfold mLocate; rw [h]; simp only [hg]
def RLocOut (W : World) (r : Int × Int) (e : Ending) (w' : World) : Prop := e = .returned (.tuple #[.int .i64 r.1, .int .i64 r.2]) ∧ Below W.heap.size W w'
theorem RLocOut.stay {W w' : World} {r : Int × Int} {a b : Int} (hb : Below W.heap.size W w') (hr : r = (a, b)) : RLocOut W r (.returned (.tuple #[.int .i64 a, .int .i64 b])) w' := by
  subst hr
  exact ⟨rfl, hb⟩
end Go.Proofs.YtehlmkgldcfciaaGreat.Files
/- The file store: Locate. -/
set_option linter.unusedVariables false
set_option linter.unusedSimpArgs false
namespace Go.Proofs.YtehlmkgldcfciaaGreat.Files
open Go.Proofs.YtehlmkgldcfciaaGreat.Common Go.Maps Go.ChangeMaps Go.WideMaps Go.Proofs.YtehlmkgldcfciaaGreat.F
open Go.RowKit Go.Proofs.YtehlmkgldcfciaaGreatW.PrintWords Go.Proofs.YtehlmkgldcfciaaGreatW.PrintLast Go.Proofs.YtehlmkgldcfciaaGreatW.PrintMore
theorem idxP_find {α : Type} (p : α → Bool) : ∀ l : List α, (idxP p l = -1 ∧ l.find? p = none) ∨ ∃ (q : Nat) (x : α), idxP p l = q ∧ l[q]? = some x ∧ l.find? p = some x
  | [] => .inl ⟨rfl, rfl⟩
  | x :: l => by
    rw [idxP]
    by_cases hx : p x = true
    · exact .inr ⟨0, x, by rw [if_pos hx]; rfl, rfl, by rw [List.find?_cons_of_pos hx]⟩
    · rw [if_neg hx, List.find?_cons_of_neg hx]
      rcases idxP_find p l with ⟨h1, h2⟩ | ⟨q, y, h1, h2, h3⟩
      · exact .inl ⟨by rw [h1]; rfl, h2⟩
      · exact .inr ⟨q + 1, y, by rw [h1, if_neg (by omega)]; omega, by simpa using h2, h3⟩
def isNm (l : List S29) (p : ByteArray) (i : Int) : Bool := decide ((rd_T29 l i).f0 = p)
theorem locKid_idx (l : List S29) (here : Nat) (p : ByteArray) (hh : here < l.length) : (idxP (isNm l p) (kids l here) = -1 ∧ locKid l here p = none) ∨
    ∃ q t : Nat, idxP (isNm l p) (kids l here) = q ∧ (kids l here)[q]? = some (t : Int) ∧ t < l.length ∧ locKid l here p = some t := by
  have he : (fun t : Int => decide (nm l t.toNat = p)) = isNm l p := by
    funext t
    unfold isNm nm rd_T29
    rw [Int.toNat_natCast]
  unfold locKid
  rw [he]
  rcases idxP_find (isNm l p) (kids l here) with ⟨h1, h2⟩ | ⟨q, x, h1, h2, h3⟩
  · exact .inl ⟨h1, by rw [h2]; rfl⟩
  · have hx := kids_in hh x (List.mem_of_getElem? h2)
    obtain ⟨t, rfl⟩ : ∃ t : Nat, x = t := ⟨x.toNat, by omega⟩
    exact .inr ⟨q, t, h1, h2, by omega, by rw [h3]; rfl⟩
set_option maxRecDepth 100000 in
set_option maxHeartbeats 2000000 in
theorem locate1_c (B1 B2 fb cu : Nat) (Au : Option Addr) (units : List S29) (pw : ByteArray) (i : Int) (W : World) (c1 : W.cell? ⟨B1, 0, none⟩ = some (.pointer (some ⟨fb, 0, none⟩))) (c2 : W.cell? ⟨B2, 0, none⟩ = some (.string pw))
    (c8 : W.cell? ⟨fb, 8, none⟩ = some (.slice Au units.length cu)) (hr : Kd.C k29 W Au units.length units) (h0 : 0 ≤ i) (h1 : i < (units.length : Int)) :
    Calls Tryz.prog 66 #[.int .i64 i, .pointer (some ⟨B1, 0, none⟩), .pointer (some ⟨B2, 0, none⟩)] W fun e w' => e = .returned (.bool (isNm units pw i)) ∧ Drawn0 W w' := by
  obtain ⟨ad, rfl, hx0, _, _⟩ := at_T29 hr i h0 h1
  have hbig : units.length ≤ 9223372036854775807 := hr.2.1
  clear hr
  unfold isNm
  generalize rd_T29 units i = x at hx0
  by_cases he : x.f0 = pw
  · have he' : (x.f0.toList == pw.toList) = true := by rw [he]; exact beq_yes _
    rw [show decide (x.f0 = pw) = true from decide_eq_true he]
    clear he
    go_enter Tryz.func66, Tryz.ntmps66
    go_wp2
    go_region
    go_wp2
    go_ret
    exact ⟨rfl, ⟨1, rfl⟩⟩
  · have he' := beq_no he
    rw [show decide (x.f0 = pw) = false from decide_eq_false he]
    clear he
    go_enter Tryz.func66, Tryz.ntmps66
    go_wp2
    go_region
    go_wp2
    go_ret
    exact ⟨rfl, ⟨1, rfl⟩⟩
set_option maxRecDepth 100000 in
set_option maxHeartbeats 4000000 in
theorem Locate_c (sb c : Nat) (ok : Nat → Prop) (L : List (Nat × AF)) (st : Fs) (u n : ByteArray) (Ap : Option Addr) (cp : Nat) (path : List ByteArray) (W : World) (hR : StoreRep W ok sb L) (hst : L.map (·.2) = st) (hI : SInv c st) (hpath : Kd.C Kd.string W Ap path.length path) (hcp : path.length ≤ cp) :
    Calls Tryz.prog 24 #[.pointer (some ⟨sb, 0, none⟩), .string u, .string n, .slice Ap path.length cp] W (RLocOut W (mLocate st u n path)) := by
  cases ho : mOpened st u n 1 with
  | error E =>
    have hm : mLocate st u n path = (0, E) := by unfold mLocate; rw [ho]
    rw [hm]
    refine (Locate_err _ u n _ E W (opened_error hR hst ho)).mono ?_
    rintro e w' ⟨rfl, hb⟩
    exact ⟨rfl, hb⟩
  | ok p =>
    obtain ⟨k, f, dn⟩ := p
    obtain ⟨hdn, ac, ex, mb, fb, rc, ub, D, DU, own, A, uv, G, hl_, he_, HO⟩ := opened_all hR hst ho
    clear hl_ he_
    have hF := (inv_at hI hst G.at_).units
    have HU := Aside0.mk hF
    have hpos := hF.pos
    have HLEN := Aside0.mk hF.len
    have HMO := Aside0.mk ho
    have HP := Aside0.mk G.P
    have CO := Aside0.mk (HO W (Below.refl _ _))
    have HDN := Aside0.mk hdn
    have HPR := Aside0.mk (fun X (hb : Below W.heap.size W X) => Kd.C_below hpath hb)
    clear ho G hF hpath hR hst hI HO hdn
    go_enter Tryz.func24, Tryz.ntmps24
    go_wp2_with fail
    refine CO.out.mono ?_
    rintro e w2 ⟨rfl, hb2⟩
    have P2 := HP.out.below hb2
    have hfl := blk_lt P2.F
    obtain ⟨g, cu, huv, hlc, hcm⟩ := units_slice P2.units (by omega)
    subst huv
    have HP2 := Aside0.mk P2
    have HB2 := Aside0.mk hb2
    clear P2 hb2 CO
    have hb3 : Below w2.heap.size w2 (w2.alloc (.cells #[.pointer (some ⟨fb, 0, none⟩)] 82)) := (Below.refl _ _).alloc (Nat.le_refl _) _
    have b1 := (Boxed.new w2 82 (.pointer (some ⟨fb, 0, none⟩))).cell
    have HB3 := Aside0.mk (HB2.out.trans (hb3.mono HB2.out.size))
    have HP3 := Aside0.mk (HP2.out.below hb3)
    have HBX := Aside0.mk (show w2.heap.size < (w2.alloc (.cells #[.pointer (some ⟨fb, 0, none⟩)] 82)).heap.size by simp)
    have HB1 := Aside0.mk b1
    have hfl3 : fb < (w2.alloc (.cells #[.pointer (some ⟨fb, 0, none⟩)] 82)).heap.size := by have := HBX.out; omega
    clear b1 hb3
    go_wp2_with fail
    generalize w2.alloc (.cells #[.pointer (some ⟨fb, 0, none⟩)] 82) = w3 at *
    generalize w2.heap.size = B1 at *
    go_loopw [13, 31] (fun s k wr => ∃ (hN j : Nat), s = .int .i64 hN ∧ k = .int .i64 j ∧ j ≤ path.length ∧ hN < f.units.length ∧ Aside0 (Below w3.heap.size w3 wr) ∧ Aside0 (locGo f.units 0 path = locGo f.units hN (path.drop j))) (fun _ k _ => path.length - (intOf k).toNat)
    case atStart => exact ⟨0, 0, rfl, rfl, Nat.zero_le _, hpos, ⟨Below.refl _ _⟩, ⟨rfl⟩⟩
    case round =>
      obtain ⟨hN, j, rfl, rfl, hj, hh, HBW, HLG⟩ := hrel
      have P4 := HP3.out.below HBW.out
      have z8 : wr.cell? ⟨fb, 8, none⟩ = some (.slice (some ⟨g, 0, none⟩) f.units.length cu) := (blk_cell P4.F 8).trans rfl
      have z1 : wr.cell? ⟨B1, 0, none⟩ = some (.pointer (some ⟨fb, 0, none⟩)) := (HBW.out.cell (p := ⟨B1, 0, none⟩) HBX.out).trans HB1.out
      have hfw := blk_lt P4.F
      have HP4 := Aside0.mk P4
      clear P4
      by_cases hlt : j < path.length
      · have hltz : (j : Int) < (path.length : Int) := by omega
        have hjz : decide ((j : Int) < 0) = false := decide_eq_false (by omega)
        obtain ⟨pw, hpw⟩ : ∃ x, x = path[j] := ⟨_, rfl⟩
        have HPW := Aside0.mk hpw
        obtain ⟨adp, hap, p0⟩ := Kd.at_string (HPR.out _ (HB3.out.trans (HBW.out.mono HB3.out.size))) (j : Int) (by omega) (by omega)
        subst hap
        rw [Int.toNat_natCast, show rdOf ByteArray.empty path (j : Int) = pw by rw [hpw]; simp [rdOf, List.getD_eq_getElem?_getD, List.getElem?_eq_getElem hlt]] at p0
        clear hpw
        have y1 := Lib.cell?_alloc_some (.cells #[.string pw] 9) z1
        have y8 := Lib.cell?_alloc_some (.cells #[.string pw] 9) z8
        have b2 := (Boxed.new wr 9 (.string pw)).cell
        have hb5 : Below wr.heap.size wr (wr.alloc (.cells #[.string pw] 9)) := (Below.refl _ _).alloc (Nat.le_refl _) _
        have HB5 := Aside0.mk (HBW.out.trans (hb5.mono HBW.out.size))
        have HP5 := Aside0.mk (HP4.out.below hb5)
        have HX5 := Aside0.mk (show wr.heap.size < (wr.alloc (.cells #[.string pw] 9)).heap.size by simp)
        have HF5 := Aside0.mk (show B1 < (wr.alloc (.cells #[.string pw] 9)).heap.size by have := HX5.out; have := HBX.out; have := HBW.out.size; omega)
        have HG5 := Aside0.mk b2
        have HG1 := Aside0.mk y1
        clear hb5 b2
        go_wp2_with fail
        refine (children_c _ cu hN f.units _ (Kd.R_reads' HP5.out.units).2.2 hlc hh (by have := HLEN.out; omega) (by have := HU.out.lev hN; unfold wrap64; omega)).mono ?_
        rintro e w6 ⟨v6, rfl, hr6, hb6⟩
        obtain ⟨Ak, ck, rfl⟩ := Kd.R_slice hr6
        have HR6 := Aside0.mk hr6
        have HB6 := Aside0.mk hb6
        have HK6 := Aside0.mk (HB5.out.trans (hb6.mono HB5.out.size))
        clear hr6 hb6
        go_wp2_with fail
        refine (slices_IndexFunc_int_int.calls 66 #[.pointer (some ⟨B1, 0, none⟩), .pointer (some ⟨wr.heap.size, 0, none⟩)] (enters_of Tryz.func66 (by kernel_rfl) rfl) (isNm f.units pw) Ak ck (kids f.units hN) w6 (Kd.R_reads' HR6.out).2.2 (Kd.R_reads' HR6.out).2.1
          (fun X x hx hd => locate1_c B1 wr.heap.size fb cu _ f.units pw x X (((HB6.out.trans (hd.below.mono HB6.out.size)).cell (p := ⟨B1, 0, none⟩) HF5.out).trans HG1.out) (((HB6.out.trans (hd.below.mono HB6.out.size)).cell (p := ⟨wr.heap.size, 0, none⟩) HX5.out).trans HG5.out)
            ((blk_cell (HP5.out.below (HB6.out.trans (hd.below.mono HB6.out.size))).F 8).trans rfl) (Kd.R_reads' (HP5.out.below (HB6.out.trans (hd.below.mono HB6.out.size))).units).2.2 (kids_in hh x hx).1 (kids_in hh x hx).2)).mono ?_
        rintro e w7 ⟨rfl, hd7⟩
        have HB7 := Aside0.mk (HK6.out.trans (hd7.below.mono HK6.out.size))
        rcases locKid_idx f.units hN pw hh with ⟨h1, h2⟩ | ⟨q, t, h1, h2, h3, h4⟩
        · rw [h1]
          have HM := Aside0.mk (mLocate_none HMO.out (show locGo f.units 0 path = none by rw [HLG.out, List.drop_eq_getElem_cons hlt, ← HPW.out]; exact locGo_no h2))
          clear h1 h2 hd7
          go_wp2
          refine bodyPost_ret (v := .tuple #[.int .i64 0, .int .i64 6]) (by simp [results, Tryz.f24, go_sem]) rfl ?_
          exact RLocOut.stay (HB3.out.trans (HB7.out.mono HB3.out.size)) HM.out
        · rw [h1]
          have HLG2 := Aside0.mk (show locGo f.units 0 path = locGo f.units t (path.drop (j + 1)) by
            rw [HLG.out, List.drop_eq_getElem_cons hlt, ← HPW.out]; exact locGo_yes h4)
          have hql : q < (kids f.units hN).length := (List.getElem?_eq_some_iff.1 h2).1
          have hqz : (q : Int) < ((kids f.units hN).length : Int) := by omega
          have hq0 : decide ((q : Int) < 0) = false := decide_eq_false (by omega)
          obtain ⟨ak, hak, k0⟩ := at_int_nat (Kd.C_below (Kd.R_reads' HR6.out).2.2 hd7.below) q hql
          subst hak
          rw [show (kids f.units hN).getD q 0 = (t : Int) by rw [List.getD_eq_getElem?_getD, h2]; rfl] at k0
          have HJW := Aside0.mk (show wrap64 ((j : Int) + 1) = ((j + 1 : Nat) : Int) by have hpl := (HPR.out _ HB3.out).2.1; unfold wrap64; omega)
          clear h1 h2 h4 hd7
          go_wp2_with fail
          go_roundw
          case rel => exact ⟨t, j + 1, rfl, by rw [HJW.out], by omega, h3, HB7, HLG2⟩
          case measure => (rw [HJW.out]; simp [intOf]; omega)
      · have hltz : ¬ (j : Int) < (path.length : Int) := by omega
        obtain rfl : path.length = j := by omega
        have HLG2 := Aside0.mk (show locGo f.units 0 path = some hN by rw [HLG.out, List.drop_length]; rfl)
        rcases HDN.out with rfl | rfl
        · have HM := Aside0.mk (show mLocate st u n path = ((hN : Int), 0) by unfold mLocate; rw [HMO.out]; simp only [HLG2.out]; rfl)
          go_wp2
          refine bodyPost_ret (v := .tuple #[.int .i64 (hN : Int), .int .i64 0]) (by simp [results, Tryz.f24, go_sem]) rfl ?_
          exact RLocOut.stay (HB3.out.trans (HBW.out.mono HB3.out.size)) HM.out
        · have HM := Aside0.mk (show mLocate st u n path = (0, 12) by unfold mLocate; rw [HMO.out]; simp only [HLG2.out]; rfl)
          go_wp2
          refine bodyPost_ret (v := .tuple #[.int .i64 0, .int .i64 12]) (by simp [results, Tryz.f24, go_sem]) rfl ?_
          exact RLocOut.stay (HB3.out.trans (HBW.out.mono HB3.out.size)) HM.out
end Go.Proofs.YtehlmkgldcfciaaGreat.Files
/- What is always so stays so, whatever is done. -/
set_option linter.unusedVariables false
set_option linter.unusedSimpArgs false
namespace Go.Proofs.YtehlmkgldcfciaaGreat.Files
open Go.Proofs.YtehlmkgldcfciaaGreat.Common Go.Maps Go.ChangeMaps Go.WideMaps Go.Proofs.YtehlmkgldcfciaaGreat.F
open Go.RowKit Go.Proofs.YtehlmkgldcfciaaGreatW.PrintWords Go.Proofs.YtehlmkgldcfciaaGreatW.PrintLast Go.Proofs.YtehlmkgldcfciaaGreatW.PrintMore
structure GInv (c : Nat) (f : AF) : Prop where
  name : 1 ≤ f.F.name.size ∧ f.F.name.size ≤ 30
  users : (f.users.map (fun p => p.1.data.toList)).Nodup
  count : f.users.length ≤ c
  uok : ∀ p ∈ f.users, userB p.1 = true
  v : VOk f.units f.F.kind
  rules : f.rules.length ≤ 10
theorem GInv.F {c : Nat} {f : AF} (h : GInv c f) : FInv c f := ⟨h.name, h.v.uok, h.v.data, h.users, h.count⟩
structure TInv (c : Nat) (st : Fs) : Prop where
  files : ∀ f ∈ st, GInv c f
  count : st.length ≤ 30
theorem TInv.S {c : Nat} {st : Fs} (h : TInv c st) : SInv c st := ⟨fun f hf => (h.files f hf).F, h.count⟩
theorem TInv.nil (c : Nat) : TInv c [] := ⟨fun f hf => (by cases hf), by simp⟩
theorem GInv.mono {c c' : Nat} {f : AF} (h : GInv c f) (hc : c ≤ c') : GInv c' f := ⟨h.name, h.users, Nat.le_trans h.count hc, h.uok, h.v, h.rules⟩
theorem TInv.mono {c c' : Nat} {st : Fs} (h : TInv c st) (hc : c ≤ c') : TInv c' st := ⟨fun f hf => (h.files f hf).mono hc, h.count⟩
theorem TInv.set {c : Nat} {st : Fs} (h : TInv c st) (k : Nat) {f : AF} (hf : GInv c f) : TInv c (st.set k f) :=
  ⟨fun g hg => by
    rcases List.mem_or_eq_of_mem_set hg with h1 | h1
    · exact h.files g h1
    · rw [h1]; exact hf, by rw [List.length_set]; exact h.count⟩
theorem TInv.filter {c : Nat} {st : Fs} (h : TInv c st) (p : AF → Bool) : TInv c (st.filter p) :=
  ⟨fun g hg => h.files g (List.mem_filter.1 hg).1, Nat.le_trans (List.length_filter_le _ _) h.count⟩
theorem TInv.at_ {c : Nat} {st : Fs} (h : TInv c st) {k : Nat} {f : AF} (hk : st[k]? = some f) : GInv c f := h.files f (List.mem_of_getElem? hk)
theorem GInv.units {c : Nat} {f : AF} (h : GInv c f) (u : ByteArray) {l : List S29} (hl : VOk l f.F.kind) : GInv c { f with F := f.F.noted u, units := l } := ⟨h.name, h.users, h.count, h.uok, hl, h.rules⟩
theorem opened_at {st : Fs} {u n : ByteArray} {action : Int} {k : Nat} {f : AF} {dn : Int} (h : mOpened st u n action = .ok (k, f, dn)) : st[k]? = some f := by
  unfold mOpened at h
  cases hf : mFound st u n with
  | error E => rw [hf] at h; cases h
  | ok p =>
    obtain ⟨k', f'⟩ := p
    rw [hf] at h
    simp only at h
    cases hl : lookU f'.users u with
    | none => rw [hl] at h; cases h
    | some q =>
      obtain ⟨ac, ex⟩ := q
      rw [hl] at h
      injection h with h
      injection h with h1 h
      injection h with h2 h3
      subst h1 h2
      exact (found_ok hf).2.2.1
theorem unit_at {st : Fs} {u n : ByteArray} {at_ action : Int} {k i : Nat} {f : AF} {dn : Int} (h : mUnit st u n at_ action = .ok (k, f, i, dn)) : st[k]? = some f ∧ i < f.units.length := by
  unfold mUnit at h
  by_cases h0 : at_ < 0
  · rw [if_pos h0] at h; cases h
  · rw [if_neg h0] at h
    cases ho : mOpened st u n action with
    | error E' => rw [ho] at h; cases h
    | ok p =>
      obtain ⟨k', f', dn'⟩ := p
      rw [ho] at h
      simp only at h
      by_cases hl : (f'.units.length : Int) ≤ at_
      · rw [if_pos hl] at h; cases h
      · rw [if_neg hl] at h
        injection h with h
        injection h with h1 h
        injection h with h2 h
        injection h with h3 h4
        subst h1 h2
        exact ⟨opened_at ho, by omega⟩
section keep
variable {c : Nat} {st : Fs}
theorem inv_Create (h : TInv c st) (u n : ByteArray) (kind perm : Int) : TInv c (mCreate st u n kind perm).2 := by
  unfold mCreate
  by_cases h1 : createB u n kind perm = false
  · rw [if_pos h1]; exact h
  rw [if_neg h1]
  by_cases h2 : (posF st n).isSome
  · rw [if_pos h2]; exact h
  rw [if_neg h2]
  by_cases h3 : 30 ≤ st.length
  · rw [if_pos h3]; exact h
  rw [if_neg h3]
  obtain ⟨b1, b2, b3, b4⟩ := createB_parts (show createB u n kind perm = true by simpa using h1)
  refine ⟨fun f hf => ?_, ?_⟩
  · rcases List.mem_append.1 hf with hf | hf
    · exact h.files f hf
    · obtain rfl := List.mem_singleton.1 hf
      exact ⟨nameB_iff.1 b2, List.nodup_nil, Nat.zero_le _, fun p hp => (by cases hp), VOk.one kind b3, Nat.zero_le _⟩
  · show (st ++ [newF u n kind perm]).length ≤ 30
    simp
    omega
theorem inv_Delete (h : TInv c st) (u n : ByteArray) : TInv c (mDelete st u n).2 := by
  unfold mDelete
  cases hf : mFound st u n with
  | error E => exact h
  | ok p =>
    obtain ⟨k, f⟩ := p
    simp only
    split
    · exact h
    · split
      · exact h
      · exact h.filter _
theorem inv_Open (h : TInv c st) (u n : ByteArray) (a x : Int) : TInv (c + 1) (mOpen st u n a x).2 := by
  have h' := h.mono (Nat.le_succ c)
  unfold mOpen
  split
  · exact h'
  · cases hf : mFound st u n with
    | error E => exact h'
    | ok p =>
      obtain ⟨k, f⟩ := p
      simp only
      by_cases hl : (lookU f.users u).isSome
      · rw [if_pos hl]; exact h'
      rw [if_neg hl]
      split
      · exact h'
      · split
        · obtain ⟨hu, hn, hk, hnm⟩ := found_ok hf
          have hi := h.at_ hk
          have hl' : lookU f.users u = none := by simpa using hl
          have ho := hi.F.opened u a x hl'
          refine h'.set k ⟨hi.name, ho.users, ho.count, fun p hp => ?_, hi.v, hi.rules⟩
          rcases List.mem_append.1 hp with hp | hp
          · exact hi.uok p hp
          · obtain rfl := List.mem_singleton.1 hp
            exact userB_iff.2 hu
        · exact h'
theorem inv_Close (h : TInv c st) (u n : ByteArray) : TInv c (mClose st u n).2 := by
  unfold mClose
  cases hf : mFound st u n with
  | error E => exact h
  | ok p =>
    obtain ⟨k, f⟩ := p
    simp only
    have hi := h.at_ (found_ok hf).2.2.1
    cases hl : lookU f.users u with
    | none => exact h
    | some q =>
      have ho := hi.F.closed u
      exact h.set k ⟨hi.name, ho.users, ho.count, fun p hp => hi.uok p (List.mem_filter.1 hp).1, hi.v, hi.rules⟩
theorem inv_Read (h : TInv c st) (u n : ByteArray) (at_ : Int) (whole : Bool) : TInv c (mRead st u n at_ whole).2.2 := by
  unfold mRead
  cases hf : mUnit st u n at_ 1 with
  | error E => exact h
  | ok p =>
    obtain ⟨k, f, i, dn⟩ := p
    simp only
    have hi := h.at_ (unit_at hf).1
    split
    · exact h.set k ⟨hi.name, hi.users, hi.count, hi.uok, hi.v, hi.rules⟩
    · exact h
theorem inv_Insert (h : TInv c st) (u n : ByteArray) (at_ : Int) (child : Bool) (a b : ByteArray) : TInv c (mInsert st u n at_ child a b).2 := by
  unfold mInsert
  by_cases h1 : (decide (a.size ≤ 30) && decide (b.size ≤ 400)) = false
  · rw [if_pos h1]; exact h
  rw [if_neg h1]
  have hab : a.size ≤ 30 ∧ b.size ≤ 400 := by simpa using h1
  cases hf : mUnit st u n at_ 2 with
  | error E => exact h
  | ok p =>
    obtain ⟨k, f, i, dn⟩ := p
    simp only
    obtain ⟨hk, hil⟩ := unit_at hf
    have hi := h.at_ hk
    by_cases hbad : insBad f.F.kind (insLev f.units i child) = true
    · rw [if_pos hbad]; exact h
    rw [if_neg hbad]
    by_cases hs : clashB f.units (kids f.units (aboveOf f.units (insLev f.units i child) i)) a = true ∨ dn = 12 ∨ 100 ≤ f.units.length
    · rw [if_pos hs]; exact h
    rw [if_neg hs]
    exact h.set k (hi.units u (hi.v.ins hil hab.1 hab.2 (by simpa using hbad) (by
      cases e : clashB f.units (kids f.units (aboveOf f.units (insLev f.units i child) i)) a with
      | false => rfl
      | true => exact absurd (.inl e) hs) (Nat.lt_of_not_le fun e => hs (.inr (.inr e)))))
theorem inv_Replace (h : TInv c st) (u n : ByteArray) (at_ : Int) (d : ByteArray) : TInv c (mReplace st u n at_ d).2 := by
  unfold mReplace
  by_cases h1 : 400 < d.size
  · rw [if_pos h1]; exact h
  rw [if_neg h1]
  cases hf : mUnit st u n at_ 4 with
  | error E => exact h
  | ok p =>
    obtain ⟨k, f, i, dn⟩ := p
    simp only
    obtain ⟨hk, hil⟩ := unit_at hf
    have hi := h.at_ hk
    split
    · exact h.set k (hi.units u (hi.v.withData hil (by omega)))
    · exact h
theorem inv_Extend (h : TInv c st) (u n : ByteArray) (at_ : Int) (d : ByteArray) : TInv c (mExtend st u n at_ d).2 := by
  unfold mExtend
  by_cases h1 : 400 < d.size
  · rw [if_pos h1]; exact h
  rw [if_neg h1]
  cases hf : mUnit st u n at_ 8 with
  | error E => exact h
  | ok p =>
    obtain ⟨k, f, i, dn⟩ := p
    simp only
    obtain ⟨hk, hil⟩ := unit_at hf
    have hi := h.at_ hk
    split
    · by_cases h2 : 400 < (rd_T29 f.units (i : Int)).f1.size + d.size
      · rw [if_pos h2]; exact h
      · rw [if_neg h2]
        exact h.set k (hi.units u (hi.v.withData hil (by rw [ByteArray.size_append]; omega)))
    · exact h
theorem inv_Erase (h : TInv c st) (u n : ByteArray) (at_ : Int) : TInv c (mErase st u n at_).2 := by
  unfold mErase
  cases hf : mUnit st u n at_ 16 with
  | error E => exact h
  | ok p =>
    obtain ⟨k, f, i, dn⟩ := p
    simp only
    obtain ⟨hk, hil⟩ := unit_at hf
    have hi := h.at_ hk
    split
    · refine h.set k (hi.units u ?_)
      by_cases h0 : i = 0
      · rw [if_pos h0]; exact VOk.one _ hi.v.k0
      · rw [if_neg h0]; exact hi.v.era hil h0
    · exact h
theorem inv_Change (h : TInv c st) (u n : ByteArray) (perm : Int) (rules : List S100) : TInv c (mChange st u n perm rules).2 := by
  unfold mChange
  by_cases hok : changeOk perm rules = false
  · rw [if_pos hok]; exact h
  · rw [if_neg hok]
    obtain ⟨_, hr10, _⟩ := changeOk_parts (show changeOk perm rules = true by simpa using hok)
    cases hf : mOpened st u n 64 with
    | error E => exact h
    | ok p =>
      obtain ⟨k, f, dn⟩ := p
      simp only
      have hi := h.at_ (opened_at hf)
      split
      · exact h.set k ⟨hi.name, hi.users, hi.count, hi.uok, hi.v, hr10⟩
      · exact h
theorem inv_do (h : TInv c st) (do_ A B : Int) (u n : ByteArray) (flag : Bool) (x : S29) (rules : List S100) : TInv (c + 1) (mDo st do_ A B u n flag x rules) := by
  unfold mDo
  split
  · exact (inv_Create h u n A B).mono (Nat.le_succ c)
  split
  · exact (inv_Delete h u n).mono (Nat.le_succ c)
  split
  · exact inv_Open h u n A B
  split
  · exact (inv_Close h u n).mono (Nat.le_succ c)
  split
  · exact (inv_Read h u n A flag).mono (Nat.le_succ c)
  split
  · exact (inv_Insert h u n A flag x.f0 x.f1).mono (Nat.le_succ c)
  split
  · exact (inv_Replace h u n A x.f1).mono (Nat.le_succ c)
  split
  · exact (inv_Extend h u n A x.f1).mono (Nat.le_succ c)
  split
  · exact (inv_Erase h u n A).mono (Nat.le_succ c)
  split
  · exact (inv_Change h u n B rules).mono (Nat.le_succ c)
  · exact h.mono (Nat.le_succ c)
end keep
end Go.Proofs.YtehlmkgldcfciaaGreat.Files
/- What is always so of both stores, plainly: the root's name is empty, no two files have one name. -/
set_option linter.unusedVariables false
set_option linter.unusedSimpArgs false
namespace Go.Proofs.YtehlmkgldcfciaaGreat.Files
open Go.Proofs.YtehlmkgldcfciaaGreat.Common Go.Maps Go.ChangeMaps Go.WideMaps Go.Proofs.YtehlmkgldcfciaaGreat.F
open Go.RowKit Go.Proofs.YtehlmkgldcfciaaGreatW.PrintWords Go.Proofs.YtehlmkgldcfciaaGreatW.PrintLast Go.Proofs.YtehlmkgldcfciaaGreatW.PrintMore
structure XInv (st : Fs) : Prop where
  root : ∀ f ∈ st, nm f.units 0 = ⟨#[]⟩
  names : (st.map (·.key)).Nodup
section
variable {st : Fs} {c : Nat}
theorem XInv.nil : XInv [] := ⟨fun f hf => (by cases hf), List.nodup_nil⟩
theorem XInv.set (h : XInv st) {k : Nat} {f f' : AF} (hk : st[k]? = some f) (hkey : f'.key = f.key) (hr : nm f'.units 0 = ⟨#[]⟩) : XInv (st.set k f') := by
  refine ⟨fun g hg => ?_, ?_⟩
  · rcases List.mem_or_eq_of_mem_set hg with h1 | h1
    · exact h.root g h1
    · rw [h1]; exact hr
  · have e : (st.set k f').map (·.key) = st.map (·.key) := by
      rw [List.map_set, hkey]
      apply List.ext_getElem?
      intro i
      rw [List.getElem?_set]
      by_cases hi : k = i
      · subst hi
        rw [if_pos rfl, List.getElem?_map, hk]
        have := (List.getElem?_eq_some_iff.1 hk).1
        simp [this]
      · rw [if_neg hi]
    rw [e]
    exact h.names
theorem XInv.filter (h : XInv st) (p : AF → Bool) : XInv (st.filter p) :=
  ⟨fun g hg => h.root g (List.mem_filter.1 hg).1, (List.Pairwise.sublist (List.Sublist.map _ List.filter_sublist) h.names : _)⟩
theorem XInv.at_ (h : XInv st) {k : Nat} {f : AF} (hk : st[k]? = some f) : nm f.units 0 = ⟨#[]⟩ := h.root f (List.mem_of_getElem? hk)
theorem x_Create (h : XInv st) (u n : ByteArray) (kind perm : Int) : XInv (mCreate st u n kind perm).2 := by
  unfold mCreate
  by_cases h1 : createB u n kind perm = false
  · rw [if_pos h1]; exact h
  rw [if_neg h1]
  by_cases h2 : (posF st n).isSome
  · rw [if_pos h2]; exact h
  rw [if_neg h2]
  by_cases h3 : 30 ≤ st.length
  · rw [if_pos h3]; exact h
  rw [if_neg h3]
  have hno := posF_none (st := st) (n := n) (by simpa using h2)
  refine ⟨fun f hf => ?_, ?_⟩
  · rcases List.mem_append.1 hf with hf | hf
    · exact h.root f hf
    · obtain rfl := List.mem_singleton.1 hf
      rfl
  · show ((st ++ [newF u n kind perm]).map (·.key)).Nodup
    rw [List.map_append]
    refine List.nodup_append.2 ⟨h.names, by simp, fun a ha b hb => ?_⟩
    obtain ⟨f, hf, rfl⟩ := List.mem_map.1 ha
    obtain rfl := List.mem_singleton.1 hb
    intro e
    refine hno f hf ?_
    have e2 : f.F.name.data.toList = n.data.toList := e
    exact ByteArray.ext (Array.ext' e2)
theorem x_Delete (h : XInv st) (u n : ByteArray) : XInv (mDelete st u n).2 := by
  unfold mDelete
  cases hf : mFound st u n with
  | error E => exact h
  | ok p =>
    simp only
    split
    · exact h
    · split
      · exact h
      · exact h.filter _
theorem x_Open (h : XInv st) (u n : ByteArray) (a x : Int) : XInv (mOpen st u n a x).2 := by
  unfold mOpen
  split
  · exact h
  · cases hf : mFound st u n with
    | error E => exact h
    | ok p =>
      obtain ⟨k, f⟩ := p
      simp only
      have hk := (found_ok hf).2.2.1
      split
      · exact h
      · split
        · exact h
        · split
          · exact h.set hk rfl (show nm f.units 0 = _ from h.at_ hk)
          · exact h
theorem x_Close (h : XInv st) (u n : ByteArray) : XInv (mClose st u n).2 := by
  unfold mClose
  cases hf : mFound st u n with
  | error E => exact h
  | ok p =>
    obtain ⟨k, f⟩ := p
    simp only
    have hk := (found_ok hf).2.2.1
    cases hl : lookU f.users u with
    | none => exact h
    | some q => exact h.set hk rfl (show nm f.units 0 = _ from h.at_ hk)
theorem x_Read (h : XInv st) (u n : ByteArray) (at_ : Int) (whole : Bool) : XInv (mRead st u n at_ whole).2.2 := by
  unfold mRead
  cases hf : mUnit st u n at_ 1 with
  | error E => exact h
  | ok p =>
    obtain ⟨k, f, i, dn⟩ := p
    simp only
    have hk := (unit_at hf).1
    split
    · exact h.set hk rfl (show nm f.units 0 = _ from h.at_ hk)
    · exact h
theorem x_Insert (h : XInv st) (u n : ByteArray) (at_ : Int) (child : Bool) (a b : ByteArray) : XInv (mInsert st u n at_ child a b).2 := by
  unfold mInsert
  by_cases h1 : (decide (a.size ≤ 30) && decide (b.size ≤ 400)) = false
  · rw [if_pos h1]; exact h
  rw [if_neg h1]
  cases hf : mUnit st u n at_ 2 with
  | error E => exact h
  | ok p =>
    obtain ⟨k, f, i, dn⟩ := p
    simp only
    obtain ⟨hk, hil⟩ := unit_at hf
    by_cases hbad : insBad f.F.kind (insLev f.units i child) = true
    · rw [if_pos hbad]; exact h
    rw [if_neg hbad]
    split
    · exact h
    · refine h.set hk rfl ?_
      have he := endOf_le hil
      have := h.at_ hk
      unfold nm at this ⊢
      show (rd_T29 (f.units.take (endOf f.units i) ++ _ :: f.units.drop (endOf f.units i)) ((0 : Nat) : Int)).f0 = _
      rw [rd_ins _ _ _ he.2, if_pos (by omega)]
      exact this
theorem x_data (h : XInv st) {k i : Nat} {f : AF} (hk : st[k]? = some f) (hil : i < f.units.length) (u d : ByteArray) : XInv (st.set k (f.data u i d)) := by
  refine h.set hk rfl ?_
  have := h.at_ hk
  unfold nm at this ⊢
  show (rd_T29 (withData f.units i d) ((0 : Nat) : Int)).f0 = _
  rw [rd_data _ _ _ hil]
  split
  · rename_i e
    rw [← e]; exact this
  · exact this
theorem x_Replace (h : XInv st) (u n : ByteArray) (at_ : Int) (d : ByteArray) : XInv (mReplace st u n at_ d).2 := by
  unfold mReplace
  split
  · exact h
  cases hf : mUnit st u n at_ 4 with
  | error E => exact h
  | ok p =>
    obtain ⟨k, f, i, dn⟩ := p
    simp only
    obtain ⟨hk, hil⟩ := unit_at hf
    split
    · exact x_data h hk hil u d
    · exact h
theorem x_Extend (h : XInv st) (u n : ByteArray) (at_ : Int) (d : ByteArray) : XInv (mExtend st u n at_ d).2 := by
  unfold mExtend
  split
  · exact h
  cases hf : mUnit st u n at_ 8 with
  | error E => exact h
  | ok p =>
    obtain ⟨k, f, i, dn⟩ := p
    simp only
    obtain ⟨hk, hil⟩ := unit_at hf
    split
    · split
      · exact h
      · exact x_data h hk hil u _
    · exact h
theorem x_Erase (h : XInv st) (u n : ByteArray) (at_ : Int) : XInv (mErase st u n at_).2 := by
  unfold mErase
  cases hf : mUnit st u n at_ 16 with
  | error E => exact h
  | ok p =>
    obtain ⟨k, f, i, dn⟩ := p
    simp only
    obtain ⟨hk, hil⟩ := unit_at hf
    split
    · refine h.set hk rfl ?_
      show nm (if i = 0 then [z29] else f.units.take i ++ f.units.drop (endOf f.units i)) 0 = _
      by_cases h0 : i = 0
      · rw [if_pos h0]; rfl
      · rw [if_neg h0]
        have := h.at_ hk
        unfold nm at this ⊢
        show (rd_T29 _ ((0 : Nat) : Int)).f0 = _
        rw [rd_era _ _ _ (by omega), if_pos (by omega)]
        exact this
    · exact h
theorem x_Change (h : XInv st) (u n : ByteArray) (perm : Int) (rules : List S100) : XInv (mChange st u n perm rules).2 := by
  unfold mChange
  split
  · exact h
  · cases hf : mOpened st u n 64 with
    | error E => exact h
    | ok p =>
      obtain ⟨k, f, dn⟩ := p
      simp only
      have hk := opened_at hf
      split
      · exact h.set hk rfl (show nm f.units 0 = _ from h.at_ hk)
      · exact h
theorem RInv.of (h : TInv c st) (hx : XInv st) (hc : c ≤ 1000) : RInv st :=
  ⟨fun f hf => ⟨(h.files f hf).v.uok, (h.files f hf).v.data, hx.root f hf, (h.files f hf).v.steps⟩, fun f hf => ⟨Nat.le_trans (h.files f hf).count hc, (h.files f hf).users⟩, fun f hf => (h.files f hf).rules, hx.names, h.count, fun f hf => (h.files f hf).v.k0⟩
end
end Go.Proofs.YtehlmkgldcfciaaGreat.Files
