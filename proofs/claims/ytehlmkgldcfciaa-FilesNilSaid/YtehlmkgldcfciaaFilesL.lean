/- The file store: Insert and Read as steps of the store; the example of the chapter. -/
import Derived.Test.YtehlmkgldcfciaaFilesK
import Derived.Test.YtehlmkgldcfciaaFx0
set_option linter.unusedVariables false
set_option linter.unusedSimpArgs false
namespace Go.Proofs.Ytehlmkgldcfciaa.Files
open Go.Proofs.Ytehlmkgldcfciaa.Common Go.Maps Go.ChangeMaps Go.WideMaps Go.Proofs.Ytehlmkgldcfciaa.F
open Go.RowKit Go.Proofs.YtehlmkgldcfciaaW.PrintWords Go.Proofs.YtehlmkgldcfciaaW.PrintLast Go.Proofs.YtehlmkgldcfciaaW.PrintMore
theorem StoreParts.way {W : World} {ok : Nat → Prop} {sb mb fb k : Nat} {L : List (Nat × AF)} {D : DataW Unit} {own : Nat → Nat} {f : AF} {u n : ByteArray} (R : StoreParts W ok sb L mb D own) (hk : L[k]? = some (fb, f)) (hnm : f.F.name = n) (hu : 1 ≤ u.size ∧ u.size ≤ 20) (hn : 1 ≤ n.size ∧ n.size ≤ 30) :
    FoundOk W (.pointer (some ⟨sb, 0, none⟩)) u n fb ∧ FileRep W (fun q => ok q ∧ own q = fb) fb f := by
  have hD := filesL_look R.mM R.names (List.mem_of_getElem? hk)
  rw [hnm] at hD
  exact ⟨View.found ⟨R.S.cell, R.M, hu, hn⟩ hD, R.files _ (List.mem_of_getElem? hk)⟩
/-- What walks want of a file's units. -/
structure UOk (l : List S41) : Prop where
  pos : 1 ≤ l.length
  len : l.length ≤ 100
  lev : ∀ j, 0 ≤ lv l j ∧ lv l j ≤ 1000
  root : lv l 0 = 0
theorem S_Insert_ok (sb fb k i : Nat) (ok : Nat → Prop) (L : List (Nat × AF)) (f : AF) (u n : ByteArray) (child : Bool) (a b : ByteArray) (lev0 ac ex : Int) (W : World) (hR : StoreRep W ok sb L) (hk : L[k]? = some (fb, f)) (hnm : f.F.name = n)
    (hu : 1 ≤ u.size ∧ u.size ≤ 20) (hn : 1 ≤ n.size ∧ n.size ≤ 30) (hlook : lookU f.users u = some (ac, ex)) (hU : UOk f.units) (hi : i < f.units.length) (h1 : a.size ≤ 30) (h2 : b.size ≤ 400) (hbad : insBad f.F.kind (insLev f.units i child) = false)
    (hcl : clashB f.units (kids f.units (aboveOf f.units (insLev f.units i child) i)) a = false) (hdn : denied ac 2 = 0) (hfull : f.units.length < 100) :
    Calls Try.prog 24 #[.pointer (some ⟨sb, 0, none⟩), .string u, .string n, .int .i64 (i : Int), .bool child, .agg #[.string a, .string b, .int .i64 lev0]] W (SOut W ok sb (.int .i64 0) ((L.map (·.2)).set k (f.ins u i ⟨a, b, insLev f.units i child⟩))) := by
  obtain ⟨mb, D, own, R⟩ := hR
  obtain ⟨HF, A, rc, uv, ub, DU, P⟩ := R.way hk hnm hu hn
  have HO := opened_ok _ u n 2 W _ fb rc ub f A uv DU ac ex HF P (by omega) hlook
  rw [hdn] at HO
  have HU := unit_ok _ u n (i : Int) 2 0 W _ fb rc ub f A uv DU HO P (by omega) (by omega)
  refine (Insert_ok _ u n i fb rc ub child a b lev0 0 f A uv DU _ W HU P hi (by have := hU.len; omega) h1 h2 hU.lev hU.root hbad hcl rfl hfull).mono ?_
  rintro e w' ⟨rfl, uv', hP, hC⟩
  exact SOut.step R hk rfl ⟨A, rc, uv', ub, DU, hP⟩ hC
def RdOut (W : World) (ok : Nat → Prop) (sb : Nat) (l : List S41) (E : Int) (st' : List AF) (e : Ending) (w' : World) : Prop := ∃ v, SOut W ok sb (.tuple #[v, .int .i64 E]) st' e w' ∧ Kd.R k41 41 w' W.heap.size (fun _ => True) v l
theorem S_Read_ok (sb fb k i : Nat) (ok : Nat → Prop) (L : List (Nat × AF)) (f : AF) (u n : ByteArray) (whole : Bool) (ac ex : Int) (W : World) (hR : StoreRep W ok sb L) (hk : L[k]? = some (fb, f)) (hnm : f.F.name = n)
    (hu : 1 ≤ u.size ∧ u.size ≤ 20) (hn : 1 ≤ n.size ∧ n.size ≤ 30) (hlook : lookU f.users u = some (ac, ex)) (hU : UOk f.units) (hi : i < f.units.length) (hdn : denied ac 1 = 0) :
    Calls Try.prog 20 #[.pointer (some ⟨sb, 0, none⟩), .string u, .string n, .int .i64 (i : Int), .bool whole] W (RdOut W ok sb (readL f.units i whole) 0 ((L.map (·.2)).set k f.read)) := by
  obtain ⟨mb, D, own, R⟩ := hR
  obtain ⟨HF, A, rc, uv, ub, DU, P⟩ := R.way hk hnm hu hn
  have HO := opened_ok _ u n 1 W _ fb rc ub f A uv DU ac ex HF P (by omega) hlook
  rw [hdn] at HO
  have HU := unit_ok _ u n (i : Int) 1 0 W _ fb rc ub f A uv DU HO P (by omega) (by omega)
  refine (Read_ok _ u n i fb rc ub whole f A uv DU _ W HU P hi (by have := hU.len; omega)).mono ?_
  rintro e w' ⟨v, rfl, hr, hP, hC⟩
  exact ⟨v, SOut.step R hk rfl ⟨A, rc, uv, ub, DU, hP.mono (fun q hq => .inl hq)⟩ (hC.mono (fun q hq => by rw [hq]; exact P.okb)), hr⟩
/-! The example of the chapter. -/
def su : ByteArray := ⟨#[117]⟩
def sf : ByteArray := ⟨#[102]⟩
def sa : ByteArray := ⟨#[97]⟩
def sb_ : ByteArray := ⟨#[98]⟩
def s1 : ByteArray := ⟨#[49]⟩
def s2 : ByteArray := ⟨#[50]⟩
def F0 : AF := newF su sf 2 255
def F1 : AF := F0.opened su 255 0
def F2 : AF := F1.ins su 0 ⟨sa, s1, insLev F1.units 0 true⟩
def F3 : AF := F2.ins su 1 ⟨sb_, s2, insLev F2.units 1 false⟩
theorem F1_units : F1.units = [⟨ByteArray.empty, ByteArray.empty, 0⟩] := rfl
theorem F2_units : F2.units = [⟨ByteArray.empty, ByteArray.empty, 0⟩, ⟨sa, s1, 1⟩] := rfl
theorem F3_units : F3.units = [⟨ByteArray.empty, ByteArray.empty, 0⟩, ⟨sa, s1, 1⟩, ⟨sb_, s2, 1⟩] := rfl
theorem uok_of {l : List S41} (h0 : 1 ≤ l.length) (h1 : l.length ≤ 100) (h2 : ∀ x ∈ l, 0 ≤ x.f2 ∧ x.f2 ≤ 1000) (h3 : lv l 0 = 0) : UOk l := ⟨h0, h1, fun j => by
  unfold lv
  by_cases h : j < l.length
  · rw [rd_get l j h]; exact h2 _ (List.getElem_mem h)
  · have : rd_T41 l (j : Int) = z41 := by simp [rd_T41, List.getElem?_eq_none (by omega : l.length ≤ j)]
    rw [this]
    decide, h3⟩
end Go.Proofs.Ytehlmkgldcfciaa.Files
