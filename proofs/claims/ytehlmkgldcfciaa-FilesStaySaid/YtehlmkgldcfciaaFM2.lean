/- The parts of this proof that lie in one text. -/
import Derived.Test.YtehlmkgldcfciaaFM1
import Derived.Test.YtehlmkgldcfciaaFx0
import Derived.Shelf.SlGeneric
import Derived.Shelf.SlIter.Nil
import Derived.Shelf.SortM.Plain
import Derived.Shelf.SortM.SortNone
import Derived.Shelf.SlMaps.Clone
import Derived.Ground.SlmcProg
import Derived.Ground.GgzProg
import Derived.Ground.SlgmProg
import Derived.Test.YtehlmkgldcfciaaProg
import Derived.Deep.QuietTactic
import Derived.BigQuiet
import Derived.Test.YtehlmkgldcfciaaFx2
import Derived.Test.YtehlmkgldcfciaaFx6
/- The file store: Insert's other endings. -/
set_option linter.unusedVariables false
set_option linter.unusedSimpArgs false
namespace Go.Proofs.Ytehlmkgldcfciaa.Files
open Go.Proofs.Ytehlmkgldcfciaa.Common Go.Maps Go.ChangeMaps Go.WideMaps Go.Proofs.Ytehlmkgldcfciaa.F
open Go.RowKit Go.Proofs.YtehlmkgldcfciaaW.PrintWords Go.Proofs.YtehlmkgldcfciaaW.PrintLast Go.Proofs.YtehlmkgldcfciaaW.PrintMore
def insErr (cb : Bool) (dn : Int) : Int := if cb then 7 else if dn = 0 then 9 else 12
set_option maxRecDepth 100000 in
set_option maxHeartbeats 2000000 in
theorem Insert_bad (sp : Value) (u n : ByteArray) (i fb rc ub : Nat) (child : Bool) (a b : ByteArray) (lev0 dn : Int) (f : AF) (A : Option Addr) (uv : Value) (DU : DataW Unit) (ok : Nat → Prop) (W : World) (HU : UnitOk W sp u n (i : Int) 2 fb dn) (P : FileParts W ok fb f A rc uv ub DU)
    (hi : i < f.units.length) (hl : f.units.length ≤ 1000) (h1 : a.size ≤ 30) (h2 : b.size ≤ 400) (hlv : ∀ j, 0 ≤ lv f.units j ∧ lv f.units j ≤ 1000) (hroot : lv f.units 0 = 0) (hbad : insBad f.F.kind (insLev f.units i child) = true) :
    Calls Try.prog 24 #[sp, .string u, .string n, .int .i64 (i : Int), .bool child, .agg #[.string a, .string b, .int .i64 lev0]] W fun e w' => e = .returned (.int .i64 1) ∧ Below W.heap.size W w' := by
  have hb0 : Below W.heap.size W (W.alloc (.cells #[.string a, .string b, .int .i64 lev0] 41)) := (Below.refl _ _).alloc (Nat.le_refl _) _
  have CU := Aside0.mk (HU _ hb0)
  have HP := Aside0.mk (P.below hb0)
  have HB0 := Aside0.mk hb0
  have hfl := blk_lt P.F
  have g1 : decide ((30 : Int) < (a.size : Int)) = false := decide_eq_false (by omega)
  have g2 : decide ((400 : Int) < (b.size : Int)) = false := decide_eq_false (by omega)
  obtain ⟨g, cu, huv, hlc, hcm⟩ := units_slice P.units (by omega)
  subst huv
  have HPW := Aside0.mk P
  have hgl : g < W.heap.size := own_lt (uRow_of_R P.units) g rfl
  have HBX := Aside0.mk (show (W.alloc (.cells #[.string a, .string b, .int .i64 lev0] 41)).heap[W.heap.size]? = some (.cells #[.string a, .string b, .int .i64 lev0] 41 (0, 0)) from heap_alloc_new _ _)
  have HSZ := Aside0.mk (show (W.alloc (.cells #[.string a, .string b, .int .i64 lev0] 41)).heap.size = W.heap.size + 1 by simp)
  clear hb0 P HU
  have HLV := Aside0.mk hlv
  have hlvi := hlv i
  have hlev0 : 0 ≤ lv f.units i := hlvi.1
  have hlev1 : lv f.units i ≤ 1000 := hlvi.2
  clear hlv hlvi
  go_enter Try.func24, Try.ntmps24
  go_wp2_with fail
  refine CU.out.mono ?_
  rintro e w2 ⟨rfl, hb2⟩
  have P2 := HP.out.below hb2
  have hbx2 : w2.heap[W.heap.size]? = some (.cells #[.string a, .string b, .int .i64 lev0] 41 (0, 0)) := (hb2.block _ (by rw [HSZ.out]; exact Nat.lt_succ_self _)).trans HBX.out
  have c8 : w2.cell? ⟨fb, 8, none⟩ = some (.slice (some ⟨g, 0, none⟩) f.units.length cu) := (blk_cell P2.F 8).trans rfl
  have b2 : w2.cell? ⟨W.heap.size, 2, none⟩ = some (.int .i64 lev0) := (blk_cell hbx2 2).trans rfl
  have fb2 := blk_frozen hbx2 2
  have xa : w2.cell? ⟨g, i * 3 + 2, none⟩ = some (.int .i64 (lv f.units i)) := by
    obtain ⟨_, _, hC⟩ := Kd.R_reads' P2.units
    obtain ⟨ad, he, _, _, h3⟩ := at_T41 (xs := f.units) hC (i : Int) (by omega) (by omega)
    cases he
    rw [Int.toNat_natCast, add_plain] at h3
    exact h3
  have hiz : (i : Int) < (f.units.length : Int) := by omega
  have HB2 := Aside0.mk (show Below W.heap.size W w2 from HB0.out.trans (hb2.mono HB0.out.size))
  have HX2 := Aside0.mk hbx2
  obtain ⟨lev, hlev⟩ : ∃ lev, lev = insLev f.units i child := ⟨_, rfl⟩
  have HBAD := Lib.hid (show (lev = 0) ∨ (lev ≠ 0 ∧ f.F.kind < 2 ∧ f.F.kind < lev) by
    unfold insBad at hbad
    rw [← hlev] at hbad
    simp only [Bool.or_eq_true, Bool.and_eq_true, decide_eq_true_eq] at hbad
    by_cases h : lev = 0
    · exact .inl h
    · exact .inr ⟨h, hbad.elim (fun e => absurd e h) (fun e => e)⟩)
  have HLE := Lib.hid hlev
  have HFP := Aside0.mk (HP.out.below hb2)
  have hlev1000 : lev ≤ 1001 := by rw [hlev]; unfold insLev; split <;> omega
  clear hbad hlev hb2 hbx2 P2 CU HBX
  cases child
  all_goals
    go_wp2_with fail
    first
    | (obtain ⟨w3, hw3⟩ : ∃ w3, w3 = (w2.setCell ⟨W.heap.size, 2, none⟩ (.int .i64 (lv f.units i))).setCell ⟨W.heap.size, 2, none⟩ (.int .i64 (lv f.units i + 1)) := ⟨_, rfl⟩
       rw [← hw3]
       have HX3 : Aside0 (w3.heap[W.heap.size]? = some (.cells #[.string a, .string b, .int .i64 lev] 41 (0, 0))) := ⟨by rw [hw3, HLE.out]; exact (blk_set (blk_set HX2.out 2 _) 2 _)⟩
       have HB3 : Aside0 (Below W.heap.size W w3) := ⟨by rw [hw3]; exact (HB2.out.setCell (p := ⟨W.heap.size, 2, none⟩) (Nat.le_refl _) _).setCell (p := ⟨W.heap.size, 2, none⟩) (Nat.le_refl _) _⟩)
    | (obtain ⟨w3, hw3⟩ : ∃ w3, w3 = w2.setCell ⟨W.heap.size, 2, none⟩ (.int .i64 (lv f.units i)) := ⟨_, rfl⟩
       rw [← hw3]
       have HX3 : Aside0 (w3.heap[W.heap.size]? = some (.cells #[.string a, .string b, .int .i64 lev] 41 (0, 0))) := ⟨by rw [hw3, HLE.out, show insLev f.units i false = lv f.units i by simp [insLev]]; exact (blk_set HX2.out 2 _)⟩
       have HB3 : Aside0 (Below W.heap.size W w3) := ⟨by rw [hw3]; exact HB2.out.setCell (p := ⟨W.heap.size, 2, none⟩) (Nat.le_refl _) _⟩)
    clear b2 fb2 xa c8 HX2 HB2 HFP hw3
    have P3 := HPW.out.below HB3.out
    have c8 : w3.cell? ⟨fb, 8, none⟩ = some (.slice (some ⟨g, 0, none⟩) f.units.length cu) := (blk_cell P3.F 8).trans rfl
    have c1 : w3.cell? ⟨fb, 1, none⟩ = some (.int .i64 f.F.kind) := (blk_cell P3.F 1).trans rfl
    have b2 : w3.cell? ⟨W.heap.size, 2, none⟩ = some (.int .i64 lev) := (blk_cell HX3.out 2).trans rfl
    have HP3 := Aside0.mk P3
    clear P3
    rcases HBAD.out with rfl | ⟨hb1, hb2, hb3⟩
    · go_quiet (fail)
      go_wp2
      go_ret
      exact ⟨rfl, pw_below_drewN HB3.out _⟩
    · have hl0 : (lev == 0) = false := beq_eq_false_iff_ne.2 hb1
      have hk1 : decide (f.F.kind < 2) = true := decide_eq_true hb2
      have hk2 : decide (f.F.kind < lev) = true := decide_eq_true hb3
      clear hb1
      go_quiet (fail)
      go_wp2
      go_ret
      exact ⟨rfl, pw_below_drewN HB3.out _⟩
set_option maxRecDepth 100000 in
set_option maxHeartbeats 2000000 in
theorem Insert_rest (sp : Value) (u n : ByteArray) (i fb rc ub : Nat) (child : Bool) (a b : ByteArray) (lev0 dn E : Int) (f : AF) (A : Option Addr) (uv : Value) (DU : DataW Unit) (ok : Nat → Prop) (W : World) (HU : UnitOk W sp u n (i : Int) 2 fb dn) (P : FileParts W ok fb f A rc uv ub DU)
    (hi : i < f.units.length) (hl : f.units.length ≤ 1000) (h1 : a.size ≤ 30) (h2 : b.size ≤ 400) (hlv : ∀ j, 0 ≤ lv f.units j ∧ lv f.units j ≤ 1000) (hroot : lv f.units 0 = 0) (hbad : insBad f.F.kind (insLev f.units i child) = false)
    (cb : Bool) (hcl : clashB f.units (kids f.units (aboveOf f.units (insLev f.units i child) i)) a = cb) (hdn : dn = 0 ∨ dn = 12) (hsome : cb = true ∨ dn = 12 ∨ 100 ≤ f.units.length) (hE : E = insErr cb dn) :
    Calls Try.prog 24 #[sp, .string u, .string n, .int .i64 (i : Int), .bool child, .agg #[.string a, .string b, .int .i64 lev0]] W fun e w' => e = .returned (.int .i64 E) ∧ Below W.heap.size W w' := by
  have HE := Lib.hid hE
  have HDN := Lib.hid hdn
  have HSO := Lib.hid hsome
  clear hE hdn hsome
  have hb0 : Below W.heap.size W (W.alloc (.cells #[.string a, .string b, .int .i64 lev0] 41)) := (Below.refl _ _).alloc (Nat.le_refl _) _
  have CU := Aside0.mk (HU _ hb0)
  have HP := Aside0.mk (P.below hb0)
  have HB0 := Aside0.mk hb0
  have hfl := blk_lt P.F
  have g1 : decide ((30 : Int) < (a.size : Int)) = false := decide_eq_false (by omega)
  have g2 : decide ((400 : Int) < (b.size : Int)) = false := decide_eq_false (by omega)
  obtain ⟨g, cu, huv, hlc, hcm⟩ := units_slice P.units (by omega)
  subst huv
  have HPW := Aside0.mk P
  have hgl : g < W.heap.size := own_lt (uRow_of_R P.units) g rfl
  have HBX := Aside0.mk (show (W.alloc (.cells #[.string a, .string b, .int .i64 lev0] 41)).heap[W.heap.size]? = some (.cells #[.string a, .string b, .int .i64 lev0] 41 (0, 0)) from heap_alloc_new _ _)
  have HSZ := Aside0.mk (show (W.alloc (.cells #[.string a, .string b, .int .i64 lev0] 41)).heap.size = W.heap.size + 1 by simp)
  clear hb0 P HU
  have HLV := Aside0.mk hlv
  have hlvi := hlv i
  have hlev0 : 0 ≤ lv f.units i := hlvi.1
  have hlev1 : lv f.units i ≤ 1000 := hlvi.2
  clear hlv hlvi
  go_enter Try.func24, Try.ntmps24
  go_wp2_with fail
  refine CU.out.mono ?_
  rintro e w2 ⟨rfl, hb2⟩
  have P2 := HP.out.below hb2
  have hbx2 : w2.heap[W.heap.size]? = some (.cells #[.string a, .string b, .int .i64 lev0] 41 (0, 0)) := (hb2.block _ (by rw [HSZ.out]; exact Nat.lt_succ_self _)).trans HBX.out
  have c8 : w2.cell? ⟨fb, 8, none⟩ = some (.slice (some ⟨g, 0, none⟩) f.units.length cu) := (blk_cell P2.F 8).trans rfl
  have b2 : w2.cell? ⟨W.heap.size, 2, none⟩ = some (.int .i64 lev0) := (blk_cell hbx2 2).trans rfl
  have fb2 := blk_frozen hbx2 2
  have xa : w2.cell? ⟨g, i * 3 + 2, none⟩ = some (.int .i64 (lv f.units i)) := by
    obtain ⟨_, _, hC⟩ := Kd.R_reads' P2.units
    obtain ⟨ad, he, _, _, h3⟩ := at_T41 (xs := f.units) hC (i : Int) (by omega) (by omega)
    cases he
    rw [Int.toNat_natCast, add_plain] at h3
    exact h3
  have hiz : (i : Int) < (f.units.length : Int) := by omega
  have HB2 := Aside0.mk (show Below W.heap.size W w2 from HB0.out.trans (hb2.mono HB0.out.size))
  have HX2 := Aside0.mk hbx2
  obtain ⟨lev, hlev⟩ : ∃ lev, lev = insLev f.units i child := ⟨_, rfl⟩
  have hbad' := hbad
  unfold insBad at hbad'
  rw [← hlev] at hbad'
  simp only [Bool.or_eq_false_iff, Bool.and_eq_false_iff, decide_eq_false_iff_not] at hbad'
  have hpos : 0 < lev := by
    have h0 : 0 ≤ lev := by rw [hlev]; unfold insLev; split <;> omega
    omega
  have HK : Aside0 (f.F.kind < 2 → ¬ lev > f.F.kind) := ⟨fun h => by rcases hbad'.2 with h2 | h2 <;> omega⟩
  have HLE := Lib.hid hlev
  have HCL := Lib.hid hcl
  have HFP := Aside0.mk (HP.out.below hb2)
  have hlev1000 : lev ≤ 1001 := by rw [hlev]; unfold insLev; split <;> omega
  clear hbad hbad' hlev hcl hb2 hbx2 P2 CU HBX
  cases child
  all_goals
    go_wp2_with fail
    first
    | (obtain ⟨w3, hw3⟩ : ∃ w3, w3 = (w2.setCell ⟨W.heap.size, 2, none⟩ (.int .i64 (lv f.units i))).setCell ⟨W.heap.size, 2, none⟩ (.int .i64 (lv f.units i + 1)) := ⟨_, rfl⟩
       rw [← hw3]
       have HX3 : Aside0 (w3.heap[W.heap.size]? = some (.cells #[.string a, .string b, .int .i64 lev] 41 (0, 0))) := ⟨by rw [hw3, HLE.out]; exact (blk_set (blk_set HX2.out 2 _) 2 _)⟩
       have HB3 : Aside0 (Below W.heap.size W w3) := ⟨by rw [hw3]; exact (HB2.out.setCell (p := ⟨W.heap.size, 2, none⟩) (Nat.le_refl _) _).setCell (p := ⟨W.heap.size, 2, none⟩) (Nat.le_refl _) _⟩)
    | (obtain ⟨w3, hw3⟩ : ∃ w3, w3 = w2.setCell ⟨W.heap.size, 2, none⟩ (.int .i64 (lv f.units i)) := ⟨_, rfl⟩
       rw [← hw3]
       have HX3 : Aside0 (w3.heap[W.heap.size]? = some (.cells #[.string a, .string b, .int .i64 lev] 41 (0, 0))) := ⟨by rw [hw3, HLE.out, show insLev f.units i false = lv f.units i by simp [insLev]]; exact (blk_set HX2.out 2 _)⟩
       have HB3 : Aside0 (Below W.heap.size W w3) := ⟨by rw [hw3]; exact HB2.out.setCell (p := ⟨W.heap.size, 2, none⟩) (Nat.le_refl _) _⟩)
    clear b2 fb2 xa c8 HX2 HB2 HFP hw3
    have P3 := HPW.out.below HB3.out
    have c8 : w3.cell? ⟨fb, 8, none⟩ = some (.slice (some ⟨g, 0, none⟩) f.units.length cu) := (blk_cell P3.F 8).trans rfl
    have c1 : w3.cell? ⟨fb, 1, none⟩ = some (.int .i64 f.F.kind) := (blk_cell P3.F 1).trans rfl
    have b2 : w3.cell? ⟨W.heap.size, 2, none⟩ = some (.int .i64 lev) := (blk_cell HX3.out 2).trans rfl
    have hl0 : (lev == 0) = false := beq_eq_false_iff_ne.2 (by omega)
    have HP3 := Aside0.mk P3
    clear P3
    have hkk : (decide (f.F.kind < 2) = true ∧ decide (f.F.kind < lev) = false) ∨ decide (f.F.kind < 2) = false := by
      rcases Decidable.em (f.F.kind < 2) with hk | hk
      · exact .inl ⟨decide_eq_true hk, decide_eq_false (by have := HK.out hk; omega)⟩
      · exact .inr (decide_eq_false hk)
    rcases hkk with ⟨hk1, hk2⟩ | hk1
    all_goals
      go_quiet (fail)
      clear hk1
      go_wp2_with fail
  all_goals
    have HWV := Aside0.mk (fun j => show wrap64 (lv f.units j + 1) = lv f.units j + 1 by have := HLV.out j; unfold wrap64; omega)
    clear c8 c1 b2
    go_loopw [16] (fun s wr => ∃ j : Nat, j ≤ i ∧ s = .int .i64 j ∧ Aside0 (Below w3.heap.size w3 wr) ∧ Aside0 (aboveOf f.units lev j = aboveOf f.units lev i)) (fun s _ => (intOf s).toNat)
    case atStart => exact ⟨i, Nat.le_refl _, rfl, ⟨pw_below_drewN (Below.refl _ _) _⟩, ⟨rfl⟩⟩
    case round =>
      obtain ⟨j, hji, rfl, HBR, HJ⟩ := hrel
      have HB4 := Aside0.mk (show Below W.heap.size W wr from HB3.out.trans (HBR.out.mono HB3.out.size))
      have HX4 := Aside0.mk ((HBR.out.block _ (blk_lt HX3.out)).trans HX3.out)
      have P4 := HPW.out.below HB4.out
      have c8 : wr.cell? ⟨fb, 8, none⟩ = some (.slice (some ⟨g, 0, none⟩) f.units.length cu) := (blk_cell P4.F 8).trans rfl
      have b2 : wr.cell? ⟨W.heap.size, 2, none⟩ = some (.int .i64 lev) := (blk_cell HX4.out 2).trans rfl
      have hjl : j < f.units.length := by omega
      have xj : wr.cell? ⟨g, j * 3 + 2, none⟩ = some (.int .i64 (lv f.units j)) := by
        obtain ⟨_, _, hC⟩ := Kd.R_reads' P4.units
        obtain ⟨ad, he, _, _, h3⟩ := at_T41 (xs := f.units) hC (j : Int) (by omega) (by omega)
        cases he
        rw [Int.toNat_natCast, add_plain] at h3
        exact h3
      have hjz : (j : Int) < (f.units.length : Int) := by omega
      have hjz0 : decide ((j : Int) < 0) = false := decide_eq_false (by omega)
      clear P4
      by_cases hge : lev ≤ lv f.units j
      · have hg1 : decide (lev ≤ lv f.units j) = true := decide_eq_true hge
        obtain ⟨j, rfl⟩ : ∃ j2, j = j2 + 1 := ⟨j - 1, by
          have : j ≠ 0 := fun e => by rw [e, hroot] at hge; omega
          omega⟩
        have HA := Aside0.mk (show aboveOf f.units lev (j + 1) = aboveOf f.units lev j by show (if lv f.units (j + 1) ≥ lev then _ else _) = _; rw [if_pos hge])
        clear hge
        go_wp2_with fail
        go_quiet (fail)
        go_wp2_with fail
        go_roundw
        case rel => exact ⟨j, by omega, by go_num, ⟨pw_below_drewN HBR.out _⟩, ⟨by rw [← HA.out]; exact HJ.out⟩⟩
        case measure => simp [intOf]
      · have hg1 : decide (lev ≤ lv f.units j) = false := decide_eq_false hge
        have HA := Aside0.mk (show aboveOf f.units lev j = j by
          cases j with
          | zero => rfl
          | succ j => show (if lv f.units (j + 1) ≥ lev then _ else _) = _; rw [if_neg hge])
        replace HJ := Aside0.mk (show j = aboveOf f.units lev i from HA.out.symm.trans HJ.out)
        clear hge
        go_wp2_with fail
        go_quiet (fail)
        have HB5 := Aside0.mk (show Below W.heap.size W (wr.drewN nq) from pw_below_drewN HB4.out _)
        have HX5 := Aside0.mk (show (wr.drewN nq).heap[W.heap.size]? = _ from HX4.out)
        generalize wr.drewN nq = w5 at HB5 HX5 ⊢
        go_wp2_with fail
        clear c8 b2 xj
        have hz8 : w5.cell? ⟨fb, 8, none⟩ = some (.slice (some ⟨g, 0, none⟩) f.units.length cu) := (blk_cell (HPW.out.below HB5.out).F 8).trans rfl
        have hz0 : w5.cell? ⟨W.heap.size, 0, none⟩ = some (.string a) := (blk_cell HX5.out 0).trans rfl
        refine start_ (n := 14) (S := fun w' => w'.cell? ⟨fb, 8, none⟩ = some (.slice (some ⟨g, 0, none⟩) f.units.length cu) ∧ w'.cell? ⟨W.heap.size, 0, none⟩ = some (.string a)) (ds := [12]) #[false, false, false, false, false, false, false, false, false, false, false, false, false, false] (by kernel_rfl) rfl rfl ⟨hz8, hz0⟩ (fun hHeld => ?_)
        refine with_tabW Ins.tab14 Ins.bits14 (fun HT_ HW_ => ?_)
        have HWD := Aside0.mk (show Below W.heap.size W w5.drew from HB5.out.drew)
        have HBL := Aside0.mk (show W.heap.size < w5.drew.heap.size from blk_lt HX5.out)
        have HXD := Aside0.mk (show w5.drew.heap[W.heap.size]? = _ from HX5.out)
        generalize w5.drew = wd at HWD HBL HXD hHeld ⊢
        refine pure_ (i := 0) (N := some 89) (v := ?_) (a' := ?_) #[true, false, false, false, false, false, false, false, false, false, false, false, false, false] rfl rfl (any_of HT_.out (by kernel_rfl)) (fun _ _ _ h => h) (Or.inl ⟨by rfl, ?_⟩) ?_ ?_
        rotate_left
        · intro w'
          go_simp
          with_reducible rfl
        rotate_left
        · simp only [Act.put, List.setIfInBounds_toArray, List.set_cons_zero, List.set_cons_succ, i64_w, i32_w]
          rfl
        refine pure_ (i := 1) (N := some 90) (v := ?_) (a' := ?_) #[true, true, false, false, false, false, false, false, false, false, false, false, false, false] rfl rfl (any_of HT_.out (by kernel_rfl)) (fun _ _ _ h => h) (Or.inl ⟨by rfl, ?_⟩) ?_ ?_
        rotate_left
        · intro w'
          go_simp
          with_reducible rfl
        rotate_left
        · simp only [Act.put, List.setIfInBounds_toArray, List.set_cons_zero, List.set_cons_succ, i64_w, i32_w]
          rfl
        refine pure_ (i := 2) (N := some 91) (v := ?_) (a' := ?_) #[true, true, true, false, false, false, false, false, false, false, false, false, false, false] rfl rfl (any_of HT_.out (by kernel_rfl)) (fun _ _ _ h => h) (Or.inl ⟨by rfl, ?_⟩) ?_ ?_
        rotate_left
        · intro w'
          go_simp
          with_reducible rfl
        rotate_left
        · simp only [Act.put, List.setIfInBounds_toArray, List.set_cons_zero, List.set_cons_succ, i64_w, i32_w]
          rfl
        refine pure_ (i := 4) (N := some 93) (v := ?_) (a' := ?_) #[true, true, true, false, true, false, false, false, false, false, false, false, false, false] rfl rfl (any_of HT_.out (by kernel_rfl)) (fun _ _ _ h => h) (Or.inl ⟨by rfl, ?_⟩) ?_ ?_
        rotate_left
        · intro w'
          go_simp
          with_reducible rfl
        rotate_left
        · simp only [Act.put, List.setIfInBounds_toArray, List.set_cons_zero, List.set_cons_succ, i64_w, i32_w]
          rfl
        refine pure_ (i := 5) (N := some 94) (v := ?_) (a' := ?_) #[true, true, true, false, true, true, false, false, false, false, false, false, false, false] rfl rfl (any_of HT_.out (by kernel_rfl)) (fun _ _ _ h => h) (Or.inl ⟨by rfl, ?_⟩) ?_ ?_
        rotate_left
        · intro w'
          go_simp
          with_reducible rfl
        rotate_left
        · simp only [Act.put, List.setIfInBounds_toArray, List.set_cons_zero, List.set_cons_succ, i64_w, i32_w]
          rfl
        refine pure_ (i := 6) (N := some 95) (v := ?_) (a' := ?_) #[true, true, true, false, true, true, true, false, false, false, false, false, false, false] rfl rfl (any_of HT_.out (by kernel_rfl)) (fun _ _ _ h => h) (Or.inl ⟨by rfl, ?_⟩) ?_ ?_
        rotate_left
        · intro w'
          go_simp
          with_reducible rfl
        rotate_left
        · simp only [Act.put, List.setIfInBounds_toArray, List.set_cons_zero, List.set_cons_succ, i64_w, i32_w]
          rfl
        refine pure_ (i := 8) (N := some 97) (v := ?_) (a' := ?_) #[true, true, true, false, true, true, true, false, true, false, false, false, false, false] rfl rfl (any_of HT_.out (by kernel_rfl)) (fun _ _ _ h => h) (Or.inl ⟨by rfl, ?_⟩) ?_ ?_
        rotate_left
        · intro w'
          go_simp
          with_reducible rfl
        rotate_left
        · simp only [Act.put, List.setIfInBounds_toArray, List.set_cons_zero, List.set_cons_succ, i64_w, i32_w]
          rfl
        refine pure_ (i := 10) (N := some 99) (v := ?_) (a' := ?_) #[true, true, true, false, true, true, true, false, true, false, true, false, false, false] rfl rfl (any_of HT_.out (by kernel_rfl)) (fun _ _ _ h => h) (Or.inl ⟨by rfl, ?_⟩) ?_ ?_
        rotate_left
        · intro w'
          go_simp
          with_reducible rfl
        rotate_left
        · simp only [Act.put, List.setIfInBounds_toArray, List.set_cons_zero, List.set_cons_succ, i64_w, i32_w]
          rfl
        refine take_ (i := 3) (N := some 92) (v := ?_) (a' := ?_) #[true, true, true, true, true, true, true, false, true, false, true, false, false, false] rfl rfl (take_ofW HT_.out HW_.out (by kernel_rfl)) (fun _ _ _ h => h) (Or.inl ⟨by rfl, ?_⟩) hHeld ?_ ?_
        rotate_left
        · rintro w' ⟨s0, s1⟩
          go_simp
          with_reducible rfl
        rotate_left
        · simp only [Act.put, List.setIfInBounds_toArray, List.set_cons_zero, List.set_cons_succ, i64_w, i32_w]
          rfl
        refine take_ (i := 7) (N := some 96) (v := ?_) (a' := ?_) #[true, true, true, true, true, true, true, true, true, false, true, false, false, false] rfl rfl (take_ofW HT_.out HW_.out (by kernel_rfl)) (fun _ _ _ h => h) (Or.inl ⟨by rfl, ?_⟩) hHeld ?_ ?_
        rotate_left
        · rintro w' ⟨s0, s1⟩
          go_simp
          with_reducible rfl
        rotate_left
        · simp only [Act.put, List.setIfInBounds_toArray, List.set_cons_zero, List.set_cons_succ, i64_w, i32_w]
          rfl
        refine take_ (i := 11) (N := some 100) (v := ?_) (a' := ?_) #[true, true, true, true, true, true, true, true, true, false, true, true, false, false] rfl rfl (take_ofW HT_.out HW_.out (by kernel_rfl)) (fun _ _ _ h => h) (Or.inl ⟨by rfl, ?_⟩) hHeld ?_ ?_
        rotate_left
        · rintro w' ⟨s0, s1⟩
          go_simp
          with_reducible rfl
        rotate_left
        · simp only [Act.put, List.setIfInBounds_toArray, List.set_cons_zero, List.set_cons_succ, i64_w, i32_w]
          rfl
        refine one_ (i := 9) (N := some 98) #[true, true, true, true, true, true, true, true, true, true, true, true, false, false] rfl rfl (one_of HT_.out (by kernel_rfl)) (by decide) (fun K hK => ?_)
        refine goes_ Try.func28 (by kernel_rfl) rfl #[.slice (some ⟨g, 0, none⟩) f.units.length cu, .int .i64 (j : Int)] (by rfl) rfl rfl (by (try simp only [List.map_toArray, List.map_cons, List.map_nil]); first | done | rfl | (simp only []; rfl)) ?_
        with_reducible refine (children_c (some ⟨g, 0, none⟩) cu j f.units _ (Kd.R_reads' (HPW.out.below HWD.out).units).2.2 hlc hjl (by omega) (HWV.out j)).mono ?_
        rintro e w6 ⟨v6, rfl, hr6, hb6⟩
        obtain ⟨A6, c6, rfl, hc6, hC6⟩ := Kd.R_reads hr6
        have HB6 := Aside0.mk hb6
        have HC6 := Aside0.mk hC6
        have HW6 := Aside0.mk (HWD.out.trans (hb6.mono HWD.out.size))
        have CC := Aside0.mk (clash_c cu c6 (some ⟨g, 0, none⟩) A6 f.units (kids f.units j) a w6 (Kd.R_reads' (HPW.out.below HW6.out).units).2.2 hlc hC6 hc6 (kids_in hjl))
        rw [show clashB f.units (kids f.units j) a = cb by rw [HJ.out, HLE.out]; exact HCL.out] at CC
        clear hr6 hb6 hC6
        have hb6s := HB6.out.size
        refine ⟨_, rfl, ?_⟩
        refine hK.out _ _ ⟨pw_cell_below HB6.out hHeld.1, pw_cell_below HB6.out hHeld.2⟩ (fun hHeld => ?_)
        clear hK K
        refine norm_ (a' := ?_) ?_ ?_
        rotate_left
        · show Act.put _ (some 98) _ = _
          simp only [Act.put, List.setIfInBounds_toArray, List.set_cons_zero, List.set_cons_succ, i64_w, i32_w]
          rfl
        refine last_ (i := 12) (N := some 101) #[true, true, true, true, true, true, true, true, true, true, true, true, true, false] rfl rfl (one_of HT_.out (by kernel_rfl)) (by decide) (fun K hK => ?_)
        refine goes_ Try.func29 (by kernel_rfl) rfl #[.slice (some ⟨g, 0, none⟩) f.units.length cu, .slice A6 (kids f.units j).length c6, .string a] (by rfl) rfl rfl (by (try simp only [List.map_toArray, List.map_cons, List.map_nil]); first | done | rfl | (simp only []; rfl)) ?_
        with_reducible refine CC.out.mono ?_
        rintro e w7 ⟨rfl, hb7⟩
        have HB7 := Aside0.mk (HW6.out.trans (hb7.mono HW6.out.size))
        have HX7 := Aside0.mk ((hb7.block _ (Nat.lt_of_lt_of_le HBL.out hb6s)).trans ((HB6.out.block _ HBL.out).trans HXD.out))
        clear hb7
        refine ⟨_, rfl, ?_⟩
        refine hK.out _ _ ?_
        clear hK K
        refine norm_ (a' := ?_) ?_ ?_
        rotate_left
        · show Act.put _ (some 101) _ = _
          simp only [Act.put, List.setIfInBounds_toArray, List.set_cons_zero, List.set_cons_succ, i64_w, i32_w]
          rfl
        refine pure_ (i := 13) (N := some 88) (v := ?_) (a' := ?_) #[true, true, true, true, true, true, true, true, true, true, true, true, true, true] rfl rfl (any_of HT_.out (by kernel_rfl)) (fun _ _ _ h => h) (Or.inl ⟨by rfl, ?_⟩) ?_ ?_
        rotate_left
        · intro w'
          go_simp
          with_reducible rfl
        rotate_left
        · simp only [Act.put, List.setIfInBounds_toArray, List.set_cons_zero, List.set_cons_succ, i64_w, i32_w]
          rfl
        refine done_ (done_of HT_.out (by kernel_rfl)) ?_
        have hz8 : w7.cell? ⟨fb, 8, none⟩ = some (.slice (some ⟨g, 0, none⟩) f.units.length cu) := (blk_cell (HPW.out.below HB7.out).F 8).trans rfl
        clear hz0
        cases cb
        · rcases HDN.out with rfl | rfl
          · have hfull : 100 ≤ f.units.length := by
              rcases HSO.out with h | h | h
              · cases h
              · cases h
              · exact h
            have hfz : decide ((100 : Int) ≤ (f.units.length : Int)) = true := decide_eq_true (by omega)
            have hfz2 : (100 : Int) ≤ (f.units.length : Int) := by omega
            go_wp2
            go_ret
            exact ⟨by rw [HE.out]; rfl, HB7.out⟩
          · go_wp2
            go_ret
            exact ⟨by rw [HE.out]; rfl, HB7.out⟩
        · go_wp2
          go_ret
          exact ⟨by rw [HE.out]; rfl, HB7.out⟩
end Go.Proofs.Ytehlmkgldcfciaa.Files
/- The file store as a machine over its files, and each method as a step of it. -/
set_option linter.unusedVariables false
set_option linter.unusedSimpArgs false
namespace Go.Proofs.Ytehlmkgldcfciaa.Files
open Go.Proofs.Ytehlmkgldcfciaa.Common Go.Maps Go.ChangeMaps Go.WideMaps Go.Proofs.Ytehlmkgldcfciaa.F
open Go.RowKit Go.Proofs.YtehlmkgldcfciaaW.PrintWords Go.Proofs.YtehlmkgldcfciaaW.PrintLast Go.Proofs.YtehlmkgldcfciaaW.PrintMore
/-! The machine. -/
abbrev Fs := List AF
def posF (st : Fs) (n : ByteArray) : Option (Nat × AF) := (st.zipIdx.find? fun p => decide (p.1.F.name = n)).map fun p => (p.2, p.1)
def mFound (st : Fs) (u n : ByteArray) : Except Int (Nat × AF) := if (userB u && nameB n) = false then .error 1 else match posF st n with | none => .error 3 | some p => .ok p
def mOpened (st : Fs) (u n : ByteArray) (action : Int) : Except Int (Nat × AF × Int) := match mFound st u n with
  | .error E => .error E
  | .ok (k, f) => match lookU f.users u with | none => .error 8 | some (a, _) => .ok (k, f, denied a action)
def mUnit (st : Fs) (u n : ByteArray) (at_ action : Int) : Except Int (Nat × AF × Nat × Int) := if at_ < 0 then .error 1 else match mOpened st u n action with
  | .error E => .error E
  | .ok (k, f, dn) => if (f.units.length : Int) ≤ at_ then .error 3 else .ok (k, f, at_.toNat, dn)
def mCreate (st : Fs) (u n : ByteArray) (kind perm : Int) : Int × Fs := if createB u n kind perm = false then (1, st) else if (posF st n).isSome then (7, st) else if 30 ≤ st.length then (9, st) else (0, st ++ [newF u n kind perm])
def mDelete (st : Fs) (u n : ByteArray) : Int × Fs := match mFound st u n with
  | .error E => (E, st)
  | .ok (k, f) => if 0 < f.users.length then (8, st) else if mayB f.F f.rules u 128 = false then (12, st) else (0, st.filter fun g => !decide (g.F.name = n))
def okSets (a x : Int) : Bool := setB a && setB x && decide (bits .andNot .i64 x a = 0)
def mOpen (st : Fs) (u n : ByteArray) (a x : Int) : Int × Fs := if okSets a x = false then (1, st) else match mFound st u n with
  | .error E => (E, st)
  | .ok (k, f) => if (lookU f.users u).isSome then (8, st) else if mayB f.F f.rules u a = false then (12, st) else if freeB f.users a x then (0, st.set k (f.opened u a x)) else (12, st)
def mClose (st : Fs) (u n : ByteArray) : Int × Fs := match mFound st u n with
  | .error E => (E, st)
  | .ok (k, f) => match lookU f.users u with | none => (8, st) | some _ => (0, st.set k (f.closed u))
def mRead (st : Fs) (u n : ByteArray) (at_ : Int) (whole : Bool) : List S41 × Int × Fs := match mUnit st u n at_ 1 with
  | .error E => ([], E, st)
  | .ok (k, f, i, dn) => if dn = 0 then (readL f.units i whole, 0, st.set k f.read) else ([], dn, st)
def mInsert (st : Fs) (u n : ByteArray) (at_ : Int) (child : Bool) (a b : ByteArray) : Int × Fs := if (decide (a.size ≤ 30) && decide (b.size ≤ 400)) = false then (1, st) else match mUnit st u n at_ 2 with
  | .error E => (E, st)
  | .ok (k, f, i, dn) => if insBad f.F.kind (insLev f.units i child) then (1, st) else
    let cb := clashB f.units (kids f.units (aboveOf f.units (insLev f.units i child) i)) a
    if cb = true ∨ dn = 12 ∨ 100 ≤ f.units.length then (insErr cb dn, st) else (0, st.set k (f.ins u i ⟨a, b, insLev f.units i child⟩))
def mReplace (st : Fs) (u n : ByteArray) (at_ : Int) (d : ByteArray) : Int × Fs := if 400 < d.size then (1, st) else match mUnit st u n at_ 4 with
  | .error E => (E, st)
  | .ok (k, f, i, dn) => if dn = 0 then (0, st.set k (f.data u i d)) else (dn, st)
def mExtend (st : Fs) (u n : ByteArray) (at_ : Int) (d : ByteArray) : Int × Fs := if 400 < d.size then (1, st) else match mUnit st u n at_ 8 with
  | .error E => (E, st)
  | .ok (k, f, i, dn) => if dn = 0 then (if 400 < (rd_T41 f.units (i : Int)).f1.size + d.size then (9, st) else (0, st.set k (f.data u i ((rd_T41 f.units (i : Int)).f1 ++ d)))) else (dn, st)
def mErase (st : Fs) (u n : ByteArray) (at_ : Int) : Int × Fs := match mUnit st u n at_ 16 with
  | .error E => (E, st)
  | .ok (k, f, i, dn) => if dn = 0 then (0, st.set k (f.erased u i)) else (dn, st)
def mChange (st : Fs) (u n : ByteArray) (perm : Int) (rules : List S34) : Int × Fs := if changeOk perm rules = false then (1, st) else match mOpened st u n 64 with
  | .error E => (E, st)
  | .ok (k, f, dn) => if dn = 0 then (0, st.set k (f.change perm rules)) else (dn, st)
/-! What is always so. -/
structure FInv (c : Nat) (f : AF) : Prop where
  name : 1 ≤ f.F.name.size ∧ f.F.name.size ≤ 30
  units : UOk f.units
  data : ∀ x ∈ f.units, x.f1.size ≤ 400
  users : (f.users.map (fun p => p.1.data.toList)).Nodup
  count : f.users.length ≤ c
structure SInv (c : Nat) (st : Fs) : Prop where
  files : ∀ f ∈ st, FInv c f
  count : st.length ≤ 30
theorem userB_iff {u : ByteArray} : userB u = true ↔ 1 ≤ u.size ∧ u.size ≤ 20 := by unfold userB; simp
theorem nameB_iff {u : ByteArray} : nameB u = true ↔ 1 ≤ u.size ∧ u.size ≤ 30 := by unfold nameB; simp
theorem posF_some {st : Fs} {n : ByteArray} {k : Nat} {f : AF} (h : posF st n = some (k, f)) : st[k]? = some f ∧ f.F.name = n := by
  unfold posF at h
  obtain ⟨p, hp, he⟩ := Option.map_eq_some_iff.1 h
  injection he with h1 h2
  have hm := List.mem_of_find?_eq_some hp
  have hd := List.find?_some hp
  have := List.mem_zipIdx' hm
  obtain ⟨h3, h4⟩ := this
  subst h1 h2
  exact ⟨by rw [List.getElem?_eq_getElem h3, h4], by simpa using hd⟩
theorem posF_none {st : Fs} {n : ByteArray} (h : posF st n = none) : ∀ f ∈ st, f.F.name ≠ n := by
  unfold posF at h
  rw [Option.map_eq_none_iff, List.find?_eq_none] at h
  intro f hf e
  obtain ⟨k, hk, he⟩ := List.getElem_of_mem hf
  have := h (f, k) (by rw [List.mem_zipIdx_iff_getElem?]; simp [List.getElem?_eq_getElem hk, he])
  simp [e] at this
section steps
variable {W : World} {ok : Nat → Prop} {sb : Nat} {L : List (Nat × AF)} {st : Fs} {c : Nat}
theorem at_L (hst : L.map (·.2) = st) {k : Nat} {f : AF} (h : st[k]? = some f) : ∃ fb, L[k]? = some (fb, f) := by
  subst hst
  rw [List.getElem?_map] at h
  obtain ⟨p, hp, rfl⟩ := Option.map_eq_some_iff.1 h
  exact ⟨p.1, hp⟩
theorem found_err (hR : StoreRep W ok sb L) (hst : L.map (·.2) = st) {u n : ByteArray} {E : Int} (h : mFound st u n = .error E) : FoundErr W (.pointer (some ⟨sb, 0, none⟩)) u n E := by
  obtain ⟨mb, D, own, R⟩ := hR
  unfold mFound at h
  by_cases hb : (userB u && nameB n) = false
  · rw [if_pos hb] at h
    injection h with h
    subst h
    refine ⟨by decide, fun W' hbw => ?_⟩
    have c0 := (R.below hbw).S.cell
    cases hu : userB u with
    | false => exact found_user sb mb u n W' c0 hu
    | true => exact found_name sb mb u n W' c0 hu (by rw [hu] at hb; simpa using hb)
  · rw [if_neg hb] at h
    simp only [Bool.not_eq_false, Bool.and_eq_true] at hb
    cases hp : posF st n with
    | some p => rw [hp] at h; cases h
    | none =>
      rw [hp] at h
      injection h with h
      subst h
      refine ⟨by decide, fun W' hbw => ?_⟩
      have R' := R.below hbw
      refine found_none sb mb D u n W' ⟨R'.S.cell, R'.M, userB_iff.1 hb.1, nameB_iff.1 hb.2⟩ ?_
      rw [R.mM.at_, filesL_none R.mM (fun p hp2 => posF_none hp p.2 (by rw [← hst]; exact List.mem_map.2 ⟨p, hp2, rfl⟩))]
      rfl
theorem found_ok {u n : ByteArray} {k : Nat} {f : AF} (h : mFound st u n = .ok (k, f)) : (1 ≤ u.size ∧ u.size ≤ 20) ∧ (1 ≤ n.size ∧ n.size ≤ 30) ∧ st[k]? = some f ∧ f.F.name = n := by
  unfold mFound at h
  by_cases hb : (userB u && nameB n) = false
  · rw [if_pos hb] at h; cases h
  · rw [if_neg hb] at h
    simp only [Bool.not_eq_false, Bool.and_eq_true] at hb
    cases hp : posF st n with
    | none => rw [hp] at h; cases h
    | some p =>
      rw [hp] at h
      injection h with h
      subst h
      exact ⟨userB_iff.1 hb.1, nameB_iff.1 hb.2, (posF_some hp).1, (posF_some hp).2⟩
theorem denied_cases (a action : Int) : denied a action = 0 ∨ denied a action = 12 := by unfold denied; split <;> simp
end steps
end Go.Proofs.Ytehlmkgldcfciaa.Files
/- The file store: each method is a step of the machine. -/
set_option linter.unusedVariables false
set_option linter.unusedSimpArgs false
namespace Go.Proofs.Ytehlmkgldcfciaa.Files
open Go.Proofs.Ytehlmkgldcfciaa.Common Go.Maps Go.ChangeMaps Go.WideMaps Go.Proofs.Ytehlmkgldcfciaa.F
open Go.RowKit Go.Proofs.YtehlmkgldcfciaaW.PrintWords Go.Proofs.YtehlmkgldcfciaaW.PrintLast Go.Proofs.YtehlmkgldcfciaaW.PrintMore
section steps
variable {W : World} {ok : Nat → Prop} {sb : Nat} {L : List (Nat × AF)} {st : Fs} {c : Nat}
theorem SOut.stay (hR : StoreRep W ok sb L) (hst : L.map (·.2) = st) {v : Value} {e : Ending} {w' : World} (h : e = .returned v ∧ Below W.heap.size W w') : SOut W ok sb v st e w' := by
  obtain ⟨rfl, hb⟩ := h
  rw [← hst]
  exact SOut.below hR hb
structure Found (W : World) (ok : Nat → Prop) (sb : Nat) (L : List (Nat × AF)) (u n : ByteArray) (k : Nat) (f : AF) (mb fb rc ub : Nat) (D DU : DataW Unit) (own : Nat → Nat) (A : Option Addr) (uv : Value) : Prop where
  R : StoreParts W ok sb L mb D own
  at_ : L[k]? = some (fb, f)
  P : FileParts W (fun q => ok q ∧ own q = fb) fb f A rc uv ub DU
  us : 1 ≤ u.size ∧ u.size ≤ 20
  ns : 1 ≤ n.size ∧ n.size ≤ 30
  nm : f.F.name = n
  F : FoundOk W (.pointer (some ⟨sb, 0, none⟩)) u n fb
theorem found_all (hR : StoreRep W ok sb L) (hst : L.map (·.2) = st) {u n : ByteArray} {k : Nat} {f : AF} (h : mFound st u n = .ok (k, f)) : ∃ mb fb rc ub D DU own A uv, Found W ok sb L u n k f mb fb rc ub D DU own A uv := by
  obtain ⟨hu, hn, hk, hnm⟩ := found_ok h
  obtain ⟨fb, hL⟩ := at_L hst hk
  obtain ⟨mb, D, own, R⟩ := hR
  obtain ⟨HF, A, rc, uv, ub, DU, P⟩ := R.way hL hnm hu hn
  exact ⟨mb, fb, rc, ub, D, DU, own, A, uv, R, hL, P, hu, hn, hnm, HF⟩
theorem opened_error (hR : StoreRep W ok sb L) (hst : L.map (·.2) = st) {u n : ByteArray} {action E : Int} (h : mOpened st u n action = .error E) : OpenedErr W (.pointer (some ⟨sb, 0, none⟩)) u n action E := by
  unfold mOpened at h
  cases hf : mFound st u n with
  | error E' =>
    rw [hf] at h
    injection h with h
    subst h
    exact opened_err _ u n action _ W (found_err hR hst hf)
  | ok p =>
    obtain ⟨k, f⟩ := p
    rw [hf] at h
    obtain ⟨mb, fb, rc, ub, D, DU, own, A, uv, G⟩ := found_all hR hst hf
    simp only at h
    cases hl : lookU f.users u with
    | some q => rw [hl] at h; cases h
    | none =>
      rw [hl] at h
      injection h with h
      subst h
      exact opened_not _ u n action W _ fb rc ub f A uv DU G.F G.P (by have := G.us; omega) hl
theorem opened_all (hR : StoreRep W ok sb L) (hst : L.map (·.2) = st) {u n : ByteArray} {action : Int} {k : Nat} {f : AF} {dn : Int} (h : mOpened st u n action = .ok (k, f, dn)) :
    (dn = 0 ∨ dn = 12) ∧ ∃ ac ex mb fb rc ub D DU own A uv, Found W ok sb L u n k f mb fb rc ub D DU own A uv ∧ lookU f.users u = some (ac, ex) ∧ dn = denied ac action ∧ OpenedOk W (.pointer (some ⟨sb, 0, none⟩)) u n action fb dn := by
  unfold mOpened at h
  cases hf : mFound st u n with
  | error E' => rw [hf] at h; cases h
  | ok p =>
    obtain ⟨k', f'⟩ := p
    rw [hf] at h
    simp only at h
    cases hl : lookU f'.users u with
    | none => rw [hl] at h; cases h
    | some q =>
      obtain ⟨ac, ex⟩ := q
      rw [hl] at h
      injection h with h
      injection h with h1 h
      injection h with h2 h3
      subst h1 h2 h3
      obtain ⟨mb, fb, rc, ub, D, DU, own, A, uv, G⟩ := found_all hR hst hf
      exact ⟨denied_cases ac action, ac, ex, mb, fb, rc, ub, D, DU, own, A, uv, G, hl, rfl, opened_ok _ u n action W _ fb rc ub f' A uv DU ac ex G.F G.P (by have := G.us; omega) hl⟩
theorem unit_error (hR : StoreRep W ok sb L) (hst : L.map (·.2) = st) {u n : ByteArray} {at_ action E : Int} (h : mUnit st u n at_ action = .error E) : UnitErr W (.pointer (some ⟨sb, 0, none⟩)) u n at_ action E := by
  unfold mUnit at h
  by_cases h0 : at_ < 0
  · rw [if_pos h0] at h
    injection h with h
    subst h
    exact unit_neg _ u n at_ action W h0
  · rw [if_neg h0] at h
    cases ho : mOpened st u n action with
    | error E' =>
      rw [ho] at h
      injection h with h
      subst h
      exact unit_err _ u n at_ action _ W (by omega) (opened_error hR hst ho)
    | ok p =>
      obtain ⟨k, f, dn⟩ := p
      rw [ho] at h
      simp only at h
      by_cases hl : (f.units.length : Int) ≤ at_
      · rw [if_pos hl] at h
        injection h with h
        subst h
        obtain ⟨hd, ac, ex, mb, fb, rc, ub, D, DU, own, A, uv, G, hlu, hdn, HO⟩ := opened_all hR hst ho
        exact unit_none _ u n at_ action dn W _ fb rc ub f A uv DU HO G.P hl
      · rw [if_neg hl] at h; cases h
theorem unit_all (hR : StoreRep W ok sb L) (hst : L.map (·.2) = st) {u n : ByteArray} {at_ action : Int} {k i : Nat} {f : AF} {dn : Int} (h : mUnit st u n at_ action = .ok (k, f, i, dn)) :
    (dn = 0 ∨ dn = 12) ∧ at_ = (i : Int) ∧ i < f.units.length ∧ ∃ ac ex mb fb rc ub D DU own A uv, Found W ok sb L u n k f mb fb rc ub D DU own A uv ∧ lookU f.users u = some (ac, ex) ∧ UnitOk W (.pointer (some ⟨sb, 0, none⟩)) u n (i : Int) action fb dn := by
  unfold mUnit at h
  by_cases h0 : at_ < 0
  · rw [if_pos h0] at h; cases h
  · rw [if_neg h0] at h
    cases ho : mOpened st u n action with
    | error E' => rw [ho] at h; cases h
    | ok p =>
      obtain ⟨k', f', dn'⟩ := p
      rw [ho] at h
      simp only at h
      by_cases hl : (f'.units.length : Int) ≤ at_
      · rw [if_pos hl] at h; cases h
      · rw [if_neg hl] at h
        injection h with h
        injection h with h1 h
        injection h with h2 h
        injection h with h3 h4
        subst h1 h2 h4
        have e : at_ = (i : Int) := by omega
        obtain ⟨hd, ac, ex, mb, fb, rc, ub, D, DU, own, A, uv, G, hlu, hdn, HO⟩ := opened_all hR hst ho
        refine ⟨hd, e, by omega, ac, ex, mb, fb, rc, ub, D, DU, own, A, uv, G, hlu, ?_⟩
        rw [← e]
        exact unit_ok _ u n at_ action dn' W _ fb rc ub f' A uv DU HO G.P (by omega) (by omega)
theorem inv_at (hI : SInv c st) (hst : L.map (·.2) = st) {k fb : Nat} {f : AF} (h : L[k]? = some (fb, f)) : FInv c f := hI.files f (by rw [← hst]; exact List.mem_map.2 ⟨(fb, f), List.mem_of_getElem? h, rfl⟩)
/-! The methods. -/
theorem S_Read (hR : StoreRep W ok sb L) (hst : L.map (·.2) = st) (hI : SInv c st) (u n : ByteArray) (at_ : Int) (whole : Bool) :
    Calls Try.prog 20 #[.pointer (some ⟨sb, 0, none⟩), .string u, .string n, .int .i64 at_, .bool whole] W (RdOut W ok sb (mRead st u n at_ whole).1 (mRead st u n at_ whole).2.1 (mRead st u n at_ whole).2.2) := by
  unfold mRead
  cases h : mUnit st u n at_ 1 with
  | error E =>
    refine (Read_err _ u n at_ E whole W (unit_error hR hst h)).mono ?_
    rintro e w' ⟨rfl, hb⟩
    exact ⟨_, SOut.stay hR hst ⟨rfl, hb⟩, Kd.R_nil _ _ _ _ _⟩
  | ok p =>
    obtain ⟨k, f, i, dn⟩ := p
    obtain ⟨hd, rfl, hi, ac, ex, mb, fb, rc, ub, D, DU, own, A, uv, G, hlu, HU⟩ := unit_all hR hst h
    rcases hd with rfl | rfl
    · simp only [if_pos]
      refine (Read_ok _ u n i fb rc ub whole f A uv DU _ W HU G.P hi (by have := (inv_at hI hst G.at_).units.len; omega)).mono ?_
      rintro e w' ⟨v, rfl, hr, hP, hC⟩
      rw [← hst]
      exact ⟨v, SOut.step G.R G.at_ rfl ⟨A, rc, uv, ub, DU, hP.mono (fun q hq => .inl hq)⟩ (hC.mono (fun q hq => by rw [hq]; exact G.P.okb)), hr⟩
    · simp only [show ¬ ((12 : Int) = 0) by decide, if_false]
      refine (Read_denied _ u n i fb whole W HU).mono ?_
      rintro e w' ⟨rfl, hb⟩
      exact ⟨_, SOut.stay hR hst ⟨rfl, hb⟩, Kd.R_nil _ _ _ _ _⟩
theorem S_Replace (hR : StoreRep W ok sb L) (hst : L.map (·.2) = st) (hI : SInv c st) (u n : ByteArray) (at_ : Int) (d : ByteArray) :
    Calls Try.prog 25 #[.pointer (some ⟨sb, 0, none⟩), .string u, .string n, .int .i64 at_, .string d] W (SOut W ok sb (.int .i64 (mReplace st u n at_ d).1) (mReplace st u n at_ d).2) := by
  unfold mReplace
  by_cases hd4 : 400 < d.size
  · rw [if_pos hd4]
    exact (Replace_arg _ u n at_ d W (by omega)).mono fun e w' h => SOut.stay hR hst h
  rw [if_neg hd4]
  cases h : mUnit st u n at_ 4 with
  | error E => exact (Replace_err _ u n at_ E d W (by omega) (unit_error hR hst h)).mono fun e w' h => SOut.stay hR hst h
  | ok p =>
    obtain ⟨k, f, i, dn⟩ := p
    obtain ⟨hd, rfl, hi, ac, ex, mb, fb, rc, ub, D, DU, own, A, uv, G, hlu, HU⟩ := unit_all hR hst h
    rcases hd with rfl | rfl
    · simp only [if_pos]
      refine (Replace_ok _ u n i fb rc ub d f A uv DU _ W (by omega) HU G.P hi (by have := (inv_at hI hst G.at_).units.len; omega)).mono ?_
      rintro e w' ⟨rfl, uv', hP, hC⟩
      rw [← hst]
      exact SOut.step G.R G.at_ rfl ⟨A, rc, uv', ub, DU, hP⟩ hC
    · simp only [show ¬ ((12 : Int) = 0) by decide, if_false]
      exact (Replace_denied _ u n i fb d W (by omega) HU).mono fun e w' h => SOut.stay hR hst h
theorem S_Extend (hR : StoreRep W ok sb L) (hst : L.map (·.2) = st) (hI : SInv c st) (u n : ByteArray) (at_ : Int) (d : ByteArray) :
    Calls Try.prog 26 #[.pointer (some ⟨sb, 0, none⟩), .string u, .string n, .int .i64 at_, .string d] W (SOut W ok sb (.int .i64 (mExtend st u n at_ d).1) (mExtend st u n at_ d).2) := by
  unfold mExtend
  by_cases hd4 : 400 < d.size
  · rw [if_pos hd4]
    exact (Extend_arg _ u n at_ d W (by omega)).mono fun e w' h => SOut.stay hR hst h
  rw [if_neg hd4]
  cases h : mUnit st u n at_ 8 with
  | error E => exact (Extend_err _ u n at_ E d W (by omega) (unit_error hR hst h)).mono fun e w' h => SOut.stay hR hst h
  | ok p =>
    obtain ⟨k, f, i, dn⟩ := p
    obtain ⟨hd, rfl, hi, ac, ex, mb, fb, rc, ub, D, DU, own, A, uv, G, hlu, HU⟩ := unit_all hR hst h
    have hI' := inv_at hI hst G.at_
    have hlen := hI'.units.len
    rcases hd with rfl | rfl
    · simp only [if_pos]
      by_cases hf : 400 < (rd_T41 f.units (i : Int)).f1.size + d.size
      · rw [if_pos hf]
        refine (Extend_full _ u n i fb rc ub d f A uv DU _ W (by omega) HU G.P hi (by omega) ?_ hf).mono fun e w' h => SOut.stay hR hst h
        rw [rd_get f.units i hi]
        exact hI'.data _ (List.getElem_mem hi)
      · rw [if_neg hf]
        refine (Extend_ok _ u n i fb rc ub d f A uv DU _ W (by omega) HU G.P hi (by omega) (by omega)).mono ?_
        rintro e w' ⟨rfl, uv', hP, hC⟩
        rw [← hst]
        exact SOut.step G.R G.at_ rfl ⟨A, rc, uv', ub, DU, hP⟩ hC
    · simp only [show ¬ ((12 : Int) = 0) by decide, if_false]
      exact (Extend_denied _ u n i fb d W (by omega) HU).mono fun e w' h => SOut.stay hR hst h
theorem S_Erase (hR : StoreRep W ok sb L) (hst : L.map (·.2) = st) (hI : SInv c st) (u n : ByteArray) (at_ : Int) :
    Calls Try.prog 27 #[.pointer (some ⟨sb, 0, none⟩), .string u, .string n, .int .i64 at_] W (SOut W ok sb (.int .i64 (mErase st u n at_).1) (mErase st u n at_).2) := by
  unfold mErase
  cases h : mUnit st u n at_ 16 with
  | error E => exact (Erase_err _ u n at_ E W (unit_error hR hst h)).mono fun e w' h => SOut.stay hR hst h
  | ok p =>
    obtain ⟨k, f, i, dn⟩ := p
    obtain ⟨hd, rfl, hi, ac, ex, mb, fb, rc, ub, D, DU, own, A, uv, G, hlu, HU⟩ := unit_all hR hst h
    have hlen := (inv_at hI hst G.at_).units.len
    rcases hd with rfl | rfl
    · simp only [if_pos]
      by_cases h0 : i = 0
      · subst h0
        refine (Erase_root _ u n fb rc ub f A uv DU _ W HU G.P).mono ?_
        rintro e w' ⟨rfl, uv', hP, hC⟩
        rw [← hst]
        exact SOut.step G.R G.at_ rfl ⟨A, rc, uv', ub, DU, hP⟩ hC
      · refine (Erase_ok _ u n i fb rc ub f A uv DU _ W HU G.P (by omega) hi (by omega)).mono ?_
        rintro e w' ⟨rfl, uv', hP, hC⟩
        rw [← hst]
        exact SOut.step G.R G.at_ rfl ⟨A, rc, uv', ub, DU, hP⟩ hC
    · simp only [show ¬ ((12 : Int) = 0) by decide, if_false]
      exact (Erase_denied _ u n i fb W HU).mono fun e w' h => SOut.stay hR hst h
end steps
end Go.Proofs.Ytehlmkgldcfciaa.Files
/- The file store: Create, Delete, Open, Close, Insert, Change as steps of the machine. -/
set_option linter.unusedVariables false
set_option linter.unusedSimpArgs false
namespace Go.Proofs.Ytehlmkgldcfciaa.Files
open Go.Proofs.Ytehlmkgldcfciaa.Common Go.Maps Go.ChangeMaps Go.WideMaps Go.Proofs.Ytehlmkgldcfciaa.F
open Go.RowKit Go.Proofs.YtehlmkgldcfciaaW.PrintWords Go.Proofs.YtehlmkgldcfciaaW.PrintLast Go.Proofs.YtehlmkgldcfciaaW.PrintMore
section steps
variable {W : World} {ok : Nat → Prop} {sb : Nat} {L : List (Nat × AF)} {st : Fs} {c : Nat}
theorem setB_iff {n : Int} : setB n = true ↔ 0 ≤ n ∧ n ≤ 255 := by unfold setB; simp
theorem S_Insert (hR : StoreRep W ok sb L) (hst : L.map (·.2) = st) (hI : SInv c st) (u n : ByteArray) (at_ : Int) (child : Bool) (a b : ByteArray) (lev0 : Int) :
    Calls Try.prog 24 #[.pointer (some ⟨sb, 0, none⟩), .string u, .string n, .int .i64 at_, .bool child, .agg #[.string a, .string b, .int .i64 lev0]] W (SOut W ok sb (.int .i64 (mInsert st u n at_ child a b).1) (mInsert st u n at_ child a b).2) := by
  unfold mInsert
  by_cases hab : (decide (a.size ≤ 30) && decide (b.size ≤ 400)) = false
  · rw [if_pos hab]
    exact (Insert_arg _ u n at_ child a b lev0 W hab).mono fun e w' h => SOut.stay hR hst h
  rw [if_neg hab]
  have hab' : a.size ≤ 30 ∧ b.size ≤ 400 := by simpa using hab
  cases h : mUnit st u n at_ 2 with
  | error E => exact (Insert_err _ u n at_ child a b lev0 E W hab'.1 hab'.2 (unit_error hR hst h)).mono fun e w' h => SOut.stay hR hst h
  | ok p =>
    obtain ⟨k, f, i, dn⟩ := p
    obtain ⟨hd, rfl, hi, ac, ex, mb, fb, rc, ub, D, DU, own, A, uv, G, hlu, HU⟩ := unit_all hR hst h
    have hU := (inv_at hI hst G.at_).units
    have hlen := hU.len
    simp only
    cases hbad : insBad f.F.kind (insLev f.units i child) with
    | true =>
      rw [if_pos rfl]
      exact (Insert_bad _ u n i fb rc ub child a b lev0 dn f A uv DU _ W HU G.P hi (by omega) hab'.1 hab'.2 hU.lev hU.root hbad).mono fun e w' h => SOut.stay hR hst h
    | false =>
      rw [if_neg (by simp)]
      by_cases hs : clashB f.units (kids f.units (aboveOf f.units (insLev f.units i child) i)) a = true ∨ dn = 12 ∨ 100 ≤ f.units.length
      · rw [if_pos hs]
        exact (Insert_rest _ u n i fb rc ub child a b lev0 dn _ f A uv DU _ W HU G.P hi (by omega) hab'.1 hab'.2 hU.lev hU.root hbad _ rfl hd hs rfl).mono fun e w' h => SOut.stay hR hst h
      · rw [if_neg hs]
        have hcl : clashB f.units (kids f.units (aboveOf f.units (insLev f.units i child) i)) a = false := by
          cases e : clashB f.units (kids f.units (aboveOf f.units (insLev f.units i child) i)) a with
          | false => rfl
          | true => exact absurd (.inl e) hs
        have hdn : dn = 0 := hd.elim (fun e => e) (fun e => absurd (.inr (.inl e)) hs)
        have hfull : f.units.length < 100 := Nat.lt_of_not_le fun e => hs (.inr (.inr e))
        refine (Insert_ok _ u n i fb rc ub child a b lev0 dn f A uv DU _ W HU G.P hi (by omega) hab'.1 hab'.2 hU.lev hU.root hbad hcl hdn hfull).mono ?_
        rintro e w' ⟨rfl, uv', hP, hC⟩
        rw [← hst]
        exact SOut.step G.R G.at_ rfl ⟨A, rc, uv', ub, DU, hP⟩ hC
theorem S_Change (hR : StoreRep W ok sb L) (hst : L.map (·.2) = st) (u n : ByteArray) (perm : Int) (A : Option Addr) (cc : Nat) (rules : List S34) (hr : Kd.C k34 W A rules.length rules) (hc : rules.length ≤ cc) :
    Calls Try.prog 14 #[.pointer (some ⟨sb, 0, none⟩), .string u, .string n, .int .i64 perm, .slice A rules.length cc] W (SOut W ok sb (.int .i64 (mChange st u n perm rules).1) (mChange st u n perm rules).2) := by
  unfold mChange
  by_cases hok : changeOk perm rules = false
  · rw [if_pos hok]
    exact (Change_arg _ u n perm A cc rules W hr hc hok).mono fun e w' h => SOut.stay hR hst h
  rw [if_neg hok]
  have hok' : changeOk perm rules = true := by simpa using hok
  cases h : mOpened st u n 64 with
  | error E => exact (Change_err _ u n perm E A cc rules W hr hc hok' (opened_error hR hst h)).mono fun e w' h => SOut.stay hR hst h
  | ok p =>
    obtain ⟨k, f, dn⟩ := p
    obtain ⟨hd, ac, ex, mb, fb, rc, ub, D, DU, own, Ar, uv, G, hlu, hdn, HO⟩ := opened_all hR hst h
    rcases hd with rfl | rfl
    · simp only [if_pos]
      refine (Change_ok _ u n perm fb rc ub A cc rules f Ar uv DU _ W hr hc hok' HO G.P).mono ?_
      rintro e w' ⟨rfl, A', rc', hP, hC⟩
      rw [← hst]
      exact SOut.step G.R G.at_ rfl ⟨A', rc', uv, ub, DU, hP⟩ hC
    · simp only [show ¬ ((12 : Int) = 0) by decide, if_false]
      exact (Change_denied _ u n perm fb A cc rules W hr hc hok' HO).mono fun e w' h => SOut.stay hR hst h
theorem S_Close (hR : StoreRep W ok sb L) (hst : L.map (·.2) = st) (hI : SInv c st) (u n : ByteArray) :
    Calls Try.prog 15 #[.pointer (some ⟨sb, 0, none⟩), .string u, .string n] W (SOut W ok sb (.int .i64 (mClose st u n).1) (mClose st u n).2) := by
  unfold mClose
  cases h : mFound st u n with
  | error E => exact (Close_err _ u n E W (found_err hR hst h)).mono fun e w' h => SOut.stay hR hst h
  | ok p =>
    obtain ⟨k, f⟩ := p
    obtain ⟨mb, fb, rc, ub, D, DU, own, A, uv, G⟩ := found_all hR hst h
    simp only
    cases hl : lookU f.users u with
    | none => exact (Close_state _ u n W _ fb rc ub f A uv DU G.F G.P (by have := G.us; omega) hl).mono fun e w' h => SOut.stay hR hst h
    | some q =>
      obtain ⟨a, b⟩ := q
      rw [← hst]
      exact S_Close_ok sb fb k ok L f u n a b W hR G.at_ G.nm G.us G.ns hl (inv_at hI hst G.at_).users
theorem S_Delete (hR : StoreRep W ok sb L) (hst : L.map (·.2) = st) (hI : SInv c st) (u n : ByteArray) :
    Calls Try.prog 23 #[.pointer (some ⟨sb, 0, none⟩), .string u, .string n] W (SOut W ok sb (.int .i64 (mDelete st u n).1) (mDelete st u n).2) := by
  unfold mDelete
  cases h : mFound st u n with
  | error E => exact (Delete_err _ u n E W (found_err hR hst h)).mono fun e w' h => SOut.stay hR hst h
  | ok p =>
    obtain ⟨k, f⟩ := p
    obtain ⟨mb, fb, rc, ub, D, DU, own, A, uv, G⟩ := found_all hR hst h
    simp only
    by_cases hu : 0 < f.users.length
    · rw [if_pos hu]
      exact (Delete_state _ u n W _ fb rc ub f A uv DU G.F G.P hu).mono fun e w' h => SOut.stay hR hst h
    rw [if_neg hu]
    have hu0 : f.users = [] := List.length_eq_zero_iff.1 (by omega)
    by_cases hm : mayB f.F f.rules u 128 = false
    · rw [if_pos hm]
      exact (Delete_denied _ u n W _ fb rc ub f A uv DU G.F G.P hu0 hm).mono fun e w' h => SOut.stay hR hst h
    rw [if_neg hm, ← hst]
    exact S_Delete_ok sb fb k ok L f u n W hR G.at_ G.nm G.us G.ns hu0 (by simpa using hm)
theorem S_Open_all (hR : StoreRep W ok sb L) (hst : L.map (·.2) = st) (hI : SInv c st) (hc : c < 1000) (u n : ByteArray) (a x : Int) :
    Calls Try.prog 13 #[.pointer (some ⟨sb, 0, none⟩), .string u, .string n, .int .i64 a, .int .i64 x] W (SOut W ok sb (.int .i64 (mOpen st u n a x).1) (mOpen st u n a x).2) := by
  unfold mOpen
  by_cases hs : okSets a x = false
  · rw [if_pos hs]
    exact (Open_arg _ u n a x W hs).mono fun e w' h => SOut.stay hR hst h
  rw [if_neg hs]
  have hs' : okSets a x = true := by simpa using hs
  unfold okSets at hs'
  simp only [Bool.and_eq_true, decide_eq_true_eq] at hs'
  obtain ⟨⟨ha, hx⟩, hsub⟩ := hs'
  cases h : mFound st u n with
  | error E => exact (Open_err _ u n a x E W ha hx hsub (found_err hR hst h)).mono fun e w' h => SOut.stay hR hst h
  | ok p =>
    obtain ⟨k, f⟩ := p
    obtain ⟨mb, fb, rc, ub, D, DU, own, A, uv, G⟩ := found_all hR hst h
    have hI' := inv_at hI hst G.at_
    simp only
    cases hl : lookU f.users u with
    | some q =>
      rw [if_pos (by simp)]
      exact (Open_state _ u n a x W _ fb rc ub f A uv DU q.1 q.2 ha hx hsub G.F G.P (by have := G.us; omega) hl).mono fun e w' h => SOut.stay hR hst h
    | none =>
      rw [if_neg (by simp)]
      by_cases hm : mayB f.F f.rules u a = false
      · rw [if_pos hm]
        exact (Open_denied _ u n a x W _ fb rc ub f A uv DU ha hx hsub G.F G.P (by have := G.us; omega) hl hm).mono fun e w' h => SOut.stay hR hst h
      rw [if_neg hm]
      have := S_Open sb fb k ok L f u n a x W hR G.at_ G.nm G.us G.ns (setB_iff.1 ha) (setB_iff.1 hx) hsub hl (by simpa using hm) hI'.users (by have := hI'.count; omega)
      rw [hst] at this
      cases hf : freeB f.users a x with
      | true => rw [hf] at this; simpa using this
      | false => rw [hf] at this; simpa using this
theorem S_Create (hR : StoreRep W ok sb L) (hst : L.map (·.2) = st) (hI : SInv c st) (u n : ByteArray) (kind perm : Int) :
    Calls Try.prog 12 #[.pointer (some ⟨sb, 0, none⟩), .string u, .string n, .int .i64 kind, .int .i64 perm] W (SOut W ok sb (.int .i64 (mCreate st u n kind perm).1) (mCreate st u n kind perm).2) := by
  have hR0 := hR
  obtain ⟨mb, D, own, R⟩ := hR
  unfold mCreate
  have hsz : Maps.size D = st.length := by rw [R.mM.size, List.length_map, ← hst, List.length_map]
  by_cases hb : createB u n kind perm = false
  · rw [if_pos hb]
    exact (Create_arg sb mb u n kind perm W R.S.cell hb).mono fun e w' h => SOut.stay hR0 hst h
  rw [if_neg hb]
  have hb' : createB u n kind perm = true := by simpa using hb
  obtain ⟨b1, b2, b3, b4⟩ := createB_parts hb'
  cases hp : posF st n with
  | some p =>
    obtain ⟨k, f⟩ := p
    obtain ⟨h1, h2⟩ := posF_some hp
    obtain ⟨fb, hL⟩ := at_L hst h1
    rw [if_pos (by simp)]
    have hD := filesL_look R.mM R.names (List.mem_of_getElem? hL)
    rw [h2] at hD
    exact (Create_dup sb mb _ fb D u n kind perm W R.S.cell R.M hb' hD).mono fun e w' h => SOut.stay hR0 hst h
  | none =>
    rw [if_neg (by simp)]
    have hno : ∀ p ∈ L, p.2.F.name ≠ n := fun p hp2 => posF_none hp p.2 (by rw [← hst]; exact List.mem_map.2 ⟨p, hp2, rfl⟩)
    have hD : D.atKey (.string n.data.toList) .nil = .nil := by rw [R.mM.at_, filesL_none R.mM hno]; rfl
    by_cases hfull : 30 ≤ st.length
    · rw [if_pos hfull]
      exact (Create_full sb mb D u n kind perm W R.S.cell R.M hb' hD (by omega)).mono fun e w' h => SOut.stay hR0 hst h
    rw [if_neg hfull, ← hst]
    refine S_Create_ok sb ok L u n kind perm W hR0 (userB_iff.1 b1) (nameB_iff.1 b2) b3 (setB_iff.1 b4) hno ?_
    rw [← hst, List.length_map] at hfull
    omega
end steps
end Go.Proofs.Ytehlmkgldcfciaa.Files
/- The file store: the example of the chapter is right. -/
set_option linter.unusedVariables false
set_option linter.unusedSimpArgs false
namespace Go.Proofs.Ytehlmkgldcfciaa.Files
open Go.Proofs.Ytehlmkgldcfciaa.Common Go.Maps Go.ChangeMaps Go.WideMaps Go.Proofs.Ytehlmkgldcfciaa.F
open Go.RowKit Go.Proofs.YtehlmkgldcfciaaW.PrintWords Go.Proofs.YtehlmkgldcfciaaW.PrintLast Go.Proofs.YtehlmkgldcfciaaW.PrintMore
theorem SOut.one {W : World} {ok : Nat → Prop} {sb : Nat} {v : Value} {f : AF} {e : Ending} {w' : World} {base : Nat} (h : SOut W ok sb v [f] e w') (hB : base ≤ W.heap.size) (hok : ∀ q, ok q → base ≤ q) :
    e = .returned v ∧ ∃ ok' fb, StoreRep w' ok' sb [(fb, f)] ∧ Below base W w' ∧ (∀ q, ok' q → base ≤ q) ∧ base ≤ w'.heap.size := by
  obtain ⟨rfl, ok', L', hR, hL, hc, hq⟩ := h
  match L', hL with
  | [(fb, g)], hL =>
    have hg : g = f := by simpa using hL
    subst hg
    exact ⟨rfl, ok', fb, hR, hc.below hB hok, fun q h => (hq q h).elim (hok q) (fun h => by omega), by have := hc.size; omega⟩
theorem uok1 : UOk F1.units := uok_of (by decide) (by decide) (by rw [F1_units]; intro x hx; obtain rfl := List.mem_singleton.1 hx; decide) rfl
theorem uok2 : UOk F2.units := uok_of (by decide) (by decide) (by
  rw [F2_units]
  intro x hx
  rcases List.mem_cons.1 hx with rfl | hx
  · decide
  · obtain rfl := List.mem_singleton.1 hx
    decide) rfl
theorem uok3 : UOk F3.units := uok_of (by decide) (by decide) (by
  rw [F3_units]
  intro x hx
  rcases List.mem_cons.1 hx with rfl | hx
  · decide
  · rcases List.mem_cons.1 hx with rfl | hx
    · decide
    · obtain rfl := List.mem_singleton.1 hx
      decide) rfl
theorem read3 : readL F3.units 0 true = [⟨ByteArray.empty, ByteArray.empty, 0⟩, ⟨sa, s1, 1⟩, ⟨sb_, s2, 1⟩] := by
  rw [F3_units]
  simp [readL, endOf, runLen, lower, lv, rd_T41, wrap64]
set_option maxRecDepth 100000 in
set_option maxHeartbeats 1000000 in
theorem sane_c (w : World) : Calls Try.prog 10 #[] w fun e w' => e = .returned (.bool true) ∧ Below w.heap.size w w' := by
  go_enter Try.func10, Try.ntmps10
  go_wp2_with fail
  refine (S_New w).mono ?_
  rintro e w1 ⟨sb, ok1, rfl, hR1, hb1, hok1⟩
  have hz1 := hb1.size
  have HB1 := Aside0.mk hb1
  have CC := Aside0.mk (S_Create_ok sb ok1 [] su sf 2 255 w1 hR1 (by decide) (by decide) (by decide) (by decide) (fun p hp => by cases hp) (by decide))
  clear hb1 hR1
  go_wp2_with fail
  refine CC.out.mono ?_
  intro e w2 ho2
  obtain ⟨rfl, ok2, fb2, hR2, hb2, hok2, hz2⟩ := SOut.one (f := F0) ho2 hz1 hok1
  have HB2 := Aside0.mk (HB1.out.trans hb2)
  have CO := S_Open sb fb2 0 ok2 [(fb2, F0)] F0 su sf 255 0 w2 hR2 rfl rfl (by decide) (by decide) (by decide) (by decide) (by decide) rfl rfl (by decide) (by decide)
  rw [if_pos (show freeB F0.users 255 0 = true from rfl), if_pos (show freeB F0.users 255 0 = true from rfl)] at CO
  have CO' := Aside0.mk CO
  clear CC CO hb2 hR2 ho2 hok1 hz1
  go_wp2_with fail
  refine CO'.out.mono ?_
  intro e w3 ho3
  obtain ⟨rfl, ok3, fb3, hR3, hb3, hok3, hz3⟩ := SOut.one (f := F1) ho3 hz2 hok2
  have HB3 := Aside0.mk (HB2.out.trans hb3)
  have C1 := S_Insert_ok sb fb3 0 0 ok3 [(fb3, F1)] F1 su sf true sa s1 0 255 0 w3 hR3 rfl rfl (by decide) (by decide) rfl uok1 (by decide) (by decide) (by decide) rfl rfl rfl (by decide)
  have C1' := Aside0.mk C1
  clear CO' C1 hb3 hR3 ho3 hok2 hz2
  go_wp2_with fail
  refine C1'.out.mono ?_
  intro e w4 ho4
  obtain ⟨rfl, ok4, fb4, hR4, hb4, hok4, hz4⟩ := SOut.one (f := F2) ho4 hz3 hok3
  have HB4 := Aside0.mk (HB3.out.trans hb4)
  have C2 := Aside0.mk (S_Insert_ok sb fb4 0 1 ok4 [(fb4, F2)] F2 su sf false sb_ s2 0 255 0 w4 hR4 rfl rfl (by decide) (by decide) rfl uok2 (by decide) (by decide) (by decide) rfl rfl rfl (by decide))
  clear C1' hb4 hR4 ho4 hok3 hz3
  go_wp2_with fail
  refine C2.out.mono ?_
  intro e w5 ho5
  obtain ⟨rfl, ok5, fb5, hR5, hb5, hok5, hz5⟩ := SOut.one (f := F3) ho5 hz4 hok4
  have HB5 := Aside0.mk (HB4.out.trans hb5)
  have C3 := Aside0.mk (S_Read_ok sb fb5 0 0 ok5 [(fb5, F3)] F3 su sf true 255 0 w5 hR5 rfl rfl (by decide) (by decide) rfl uok3 (by decide) rfl)
  clear C2 hb5 hR5 ho5 hok4 hz4
  go_wp2_with fail
  refine C3.out.mono ?_
  rintro e w6 ⟨v, ho6, hr6⟩
  obtain ⟨rfl, ok6, fb6, hR6, hb6, hok6, hz6⟩ := SOut.one (f := F3.read) ho6 hz5 hok5
  have HB6 := Aside0.mk (HB5.out.trans hb6)
  have hr6' : Kd.R k41 41 w6 w5.heap.size (fun _ => True) v [⟨ByteArray.empty, ByteArray.empty, 0⟩, ⟨sa, s1, 1⟩, ⟨sb_, s2, 1⟩] := by rw [← read3]; exact hr6
  obtain ⟨g, c, rfl, hc, _⟩ := units_slice hr6' (by decide)
  obtain ⟨_, _, hC⟩ := Kd.R_reads' hr6'
  have x4 : w6.cell? ⟨g, 4, none⟩ = some (.string ⟨#[49]⟩) := by
    obtain ⟨ad, he, _, h2, _⟩ := at_T41 hC 1 (by decide) (by decide)
    cases he
    exact h2
  have x7 : w6.cell? ⟨g, 7, none⟩ = some (.string ⟨#[50]⟩) := by
    obtain ⟨ad, he, _, h2, _⟩ := at_T41 hC 2 (by decide) (by decide)
    cases he
    exact h2
  have x8 : w6.cell? ⟨g, 8, none⟩ = some (.int .i64 1) := by
    obtain ⟨ad, he, _, _, h2⟩ := at_T41 hC 2 (by decide) (by decide)
    cases he
    exact h2
  clear C3 hb6 hR6 ho6 hok5 hz5 hr6 hr6' hC
  go_wp2
  go_ret
  exact ⟨rfl, HB6.out⟩
end Go.Proofs.Ytehlmkgldcfciaa.Files
/- The law FilesNil, walked. -/
set_option linter.unusedVariables false
set_option linter.unusedSimpArgs false
namespace Go.Proofs.Ytehlmkgldcfciaa.Files
open Go.Proofs.Ytehlmkgldcfciaa.Common Go.Maps Go.ChangeMaps Go.WideMaps Go.Proofs.Ytehlmkgldcfciaa.F
open Go.RowKit Go.Proofs.YtehlmkgldcfciaaW.PrintWords Go.Proofs.YtehlmkgldcfciaaW.PrintLast Go.Proofs.YtehlmkgldcfciaaW.PrintMore
theorem Read_no (sp : Value) (u n : ByteArray) (at_ : Int) (whole : Bool) (W : World) (h : NoStore W sp) :
    Calls Try.prog 20 #[sp, .string u, .string n, .int .i64 at_, .bool whole] W fun e w' => e = .returned (.tuple #[.slice none 0 0, .int .i64 1]) ∧ Below W.heap.size W w' :=
  Read_err sp u n at_ 1 whole W (unit_one (h.found u n) at_)
theorem Locate_no (sp : Value) (u n : ByteArray) (pv : Value) (W : World) (h : NoStore W sp) :
    Calls Try.prog 21 #[sp, .string u, .string n, pv] W fun e w' => e = .returned (.tuple #[.int .i64 0, .int .i64 1]) ∧ Below W.heap.size W w' :=
  Locate_err sp u n pv 1 W (opened_err sp u n 1 1 W (h.found u n))
theorem Info_no (sp : Value) (u n : ByteArray) (group : Int) (W : World) (h : NoStore W sp) :
    Calls Try.prog 22 #[sp, .string u, .string n, .int .i64 group] W fun e w' => e = .returned (.tuple #[zeroInfo, .int .i64 1]) ∧ Below W.heap.size W w' := by
  by_cases h0 : group < 0 ∨ 2 < group
  · exact Info_arg sp u n group W h0
  · exact Info_err sp u n group 1 W (by omega) (by omega) (opened_err sp u n 32 1 W (h.found u n))
theorem Open_no (sp : Value) (W : World) (h : NoStore W sp) (u n : ByteArray) :
    Calls Try.prog 13 #[sp, .string u, .string n, .int .i64 0, .int .i64 0] W fun e w' => e = .returned (.int .i64 1) ∧ Below W.heap.size W w' :=
  Open_err sp u n 0 0 1 W (by decide) (by decide) (by decide) (h.found u n)
theorem Insert_no (sp : Value) (u n : ByteArray) (at_ : Int) (child : Bool) (a b : ByteArray) (lev0 : Int) (W : World) (h : NoStore W sp) :
    Calls Try.prog 24 #[sp, .string u, .string n, .int .i64 at_, .bool child, .agg #[.string a, .string b, .int .i64 lev0]] W fun e w' => e = .returned (.int .i64 1) ∧ Below W.heap.size W w' := by
  by_cases h0 : a.size ≤ 30 ∧ b.size ≤ 400
  · exact Insert_err sp u n at_ child a b lev0 1 W h0.1 h0.2 (unit_one (h.found u n) at_)
  · refine Insert_arg sp u n at_ child a b lev0 W ?_
    by_cases h1 : a.size ≤ 30
    · have : ¬ b.size ≤ 400 := fun h2 => h0 ⟨h1, h2⟩
      simp [this]
    · simp [h1]
theorem Replace_no (sp : Value) (u n : ByteArray) (at_ : Int) (W : World) (h : NoStore W sp) :
    Calls Try.prog 25 #[sp, .string u, .string n, .int .i64 at_, .string ByteArray.empty] W fun e w' => e = .returned (.int .i64 1) ∧ Below W.heap.size W w' :=
  Replace_err sp u n at_ 1 _ W (by decide) (unit_one (h.found u n) at_)
theorem Extend_no (sp : Value) (u n : ByteArray) (at_ : Int) (W : World) (h : NoStore W sp) :
    Calls Try.prog 26 #[sp, .string u, .string n, .int .i64 at_, .string ByteArray.empty] W fun e w' => e = .returned (.int .i64 1) ∧ Below W.heap.size W w' :=
  Extend_err sp u n at_ 1 _ W (by decide) (unit_one (h.found u n) at_)
theorem Erase_no (sp : Value) (u n : ByteArray) (at_ : Int) (W : World) (h : NoStore W sp) :
    Calls Try.prog 27 #[sp, .string u, .string n, .int .i64 at_] W fun e w' => e = .returned (.int .i64 1) ∧ Below W.heap.size W w' :=
  Erase_err sp u n at_ 1 W (unit_one (h.found u n) at_)
theorem Change_no (sp : Value) (u n : ByteArray) (W : World) (h : NoStore W sp) :
    Calls Try.prog 14 #[sp, .string u, .string n, .int .i64 0, .slice none 0 0] W fun e w' => e = .returned (.int .i64 1) ∧ Below W.heap.size W w' :=
  Change_err sp u n 0 1 none 0 [] W (Kd.C_nil k34 W) (Nat.le_refl _) (by decide) (opened_err sp u n 64 1 W (h.found u n))
/-- What all methods tell where there is no store, in all worlds behind W. -/
structure Nos (W : World) (sp : Value) : Prop where
  locate : ∀ u n pv w, Below W.heap.size W w → Calls Try.prog 21 #[sp, .string u, .string n, pv] w fun e w' => e = .returned (.tuple #[.int .i64 0, .int .i64 1]) ∧ Below W.heap.size W w'
  read : ∀ u n at_ whole w, Below W.heap.size W w → Calls Try.prog 20 #[sp, .string u, .string n, .int .i64 at_, .bool whole] w fun e w' => e = .returned (.tuple #[.slice none 0 0, .int .i64 1]) ∧ Below W.heap.size W w'
  info : ∀ u n group w, Below W.heap.size W w → Calls Try.prog 22 #[sp, .string u, .string n, .int .i64 group] w fun e w' => e = .returned (.tuple #[.agg #[.string ByteArray.empty, .int .i64 0, .int .i64 0, .string ByteArray.empty, .string ByteArray.empty, .int .i64 0, .int .i64 0, .slice none 0 0], .int .i64 1]) ∧ Below W.heap.size W w'
  create : ∀ u n k p w, Below W.heap.size W w → Calls Try.prog 12 #[sp, .string u, .string n, .int .i64 k, .int .i64 p] w fun e w' => e = .returned (.int .i64 1) ∧ Below W.heap.size W w'
  delete : ∀ u n w, Below W.heap.size W w → Calls Try.prog 23 #[sp, .string u, .string n] w fun e w' => e = .returned (.int .i64 1) ∧ Below W.heap.size W w'
  open_ : ∀ u n w, Below W.heap.size W w → Calls Try.prog 13 #[sp, .string u, .string n, .int .i64 0, .int .i64 0] w fun e w' => e = .returned (.int .i64 1) ∧ Below W.heap.size W w'
  close : ∀ u n w, Below W.heap.size W w → Calls Try.prog 15 #[sp, .string u, .string n] w fun e w' => e = .returned (.int .i64 1) ∧ Below W.heap.size W w'
  insert : ∀ u n at_ child a b lev w, Below W.heap.size W w → Calls Try.prog 24 #[sp, .string u, .string n, .int .i64 at_, .bool child, .agg #[.string a, .string b, .int .i64 lev]] w fun e w' => e = .returned (.int .i64 1) ∧ Below W.heap.size W w'
  replace : ∀ u n at_ w, Below W.heap.size W w → Calls Try.prog 25 #[sp, .string u, .string n, .int .i64 at_, .string ByteArray.empty] w fun e w' => e = .returned (.int .i64 1) ∧ Below W.heap.size W w'
  extend : ∀ u n at_ w, Below W.heap.size W w → Calls Try.prog 26 #[sp, .string u, .string n, .int .i64 at_, .string ByteArray.empty] w fun e w' => e = .returned (.int .i64 1) ∧ Below W.heap.size W w'
  erase : ∀ u n at_ w, Below W.heap.size W w → Calls Try.prog 27 #[sp, .string u, .string n, .int .i64 at_] w fun e w' => e = .returned (.int .i64 1) ∧ Below W.heap.size W w'
  change : ∀ u n w, Below W.heap.size W w → Calls Try.prog 14 #[sp, .string u, .string n, .int .i64 0, .slice none 0 0] w fun e w' => e = .returned (.int .i64 1) ∧ Below W.heap.size W w'
  names : ∀ w, Below W.heap.size W w → Calls Try.prog 17 #[sp] w fun e w' => e = .returned (.slice none 0 0) ∧ Below W.heap.size W w'
  users : ∀ n w, Below W.heap.size W w → Calls Try.prog 19 #[sp, .string n] w fun e w' => e = .returned (.slice none 0 0) ∧ Below W.heap.size W w'
  copy : ∀ w, Below W.heap.size W w → Calls Try.prog 18 #[sp] w fun e w' => e = .returned (.pointer none) ∧ Below W.heap.size W w'
theorem up {W w : World} (hb : Below W.heap.size W w) {F : Nat} {args : Array Value} {R : Ending → Prop} (h : Calls Try.prog F args w fun e w' => R e ∧ Below w.heap.size w w') : Calls Try.prog F args w fun e w' => R e ∧ Below W.heap.size W w' :=
  h.mono fun e w' ⟨h1, h2⟩ => ⟨h1, hb.trans (h2.mono hb.size)⟩
theorem nos {W : World} {sp : Value} (h : NoStore W sp) : Nos W sp where
  locate u n pv w hb := up hb (Locate_no sp u n pv w (h.below hb))
  read u n a wh w hb := up hb (Read_no sp u n a wh w (h.below hb))
  info u n g w hb := up hb (Info_no sp u n g w (h.below hb))
  create u n k p w hb := up hb (Create_no sp u n k p w (h.below hb))
  delete u n w hb := up hb (Delete_err sp u n 1 w ((h.below hb).found u n))
  open_ u n w hb := up hb (Open_no sp w (h.below hb) u n)
  close u n w hb := up hb (Close_err sp u n 1 w ((h.below hb).found u n))
  insert u n a c x y l w hb := up hb (Insert_no sp u n a c x y l w (h.below hb))
  replace u n a w hb := up hb (Replace_no sp u n a w (h.below hb))
  extend u n a w hb := up hb (Extend_no sp u n a w (h.below hb))
  erase u n a w hb := up hb (Erase_no sp u n a w (h.below hb))
  change u n w hb := up hb (Change_no sp u n w (h.below hb))
  names w hb := up hb (Names_no sp w (h.below hb))
  users n w hb := up hb (Users_no sp n w (h.below hb))
  copy w hb := up hb (Copy_no sp w (h.below hb))
theorem three (W : World) (o1 o2 o3 : Obj) : ∃ W3, W3 = ((W.alloc o1).alloc o2).alloc o3 ∧ W3.heap.size = W.heap.size + 3 ∧ Below W.heap.size W W3 ∧ W3.heap[W.heap.size]? = some o1 ∧ W3.heap[W.heap.size + 1]? = some o2 ∧ W3.heap[W.heap.size + 1 + 1]? = some o3 := by
  have s1 : (W.alloc o1).heap.size = W.heap.size + 1 := by simp
  have s2 : ((W.alloc o1).alloc o2).heap.size = W.heap.size + 1 + 1 := by simp
  have s3 : (((W.alloc o1).alloc o2).alloc o3).heap.size = W.heap.size + 3 := by simp
  have b2 : Below (W.alloc o1).heap.size (W.alloc o1) ((W.alloc o1).alloc o2) := (Below.refl _ _).alloc (Nat.le_refl _) _
  have b3 : Below ((W.alloc o1).alloc o2).heap.size ((W.alloc o1).alloc o2) (((W.alloc o1).alloc o2).alloc o3) := (Below.refl _ _).alloc (Nat.le_refl _) _
  refine ⟨_, rfl, s3, (((Below.refl _ _).alloc (Nat.le_refl _) _).alloc (by omega) _).alloc (by omega) _, ?_, ?_, ?_⟩
  · rw [b3.block _ (by omega), b2.block _ (by omega)]; exact heap_alloc_new W o1
  · rw [b3.block _ (by omega)]; have := heap_alloc_new (W.alloc o1) o2; rwa [s1] at this
  · have := heap_alloc_new ((W.alloc o1).alloc o2) o3; rwa [s2] at this
def ActIs (do_ A B : Int) (u n : ByteArray) (flag : Bool) (x : S41) (pv rv : Value) : Array Value := #[.int .i64 do_, .int .i64 A, .int .i64 B, .string u, .string n, .bool flag, .string x.f0, .string x.f1, .int .i64 x.f2, pv, rv]
set_option maxRecDepth 100000 in
set_option maxHeartbeats 2000000 in
theorem FilesNil_c (do_ A B : Int) (u n : ByteArray) (flag : Bool) (x : S41) (pv rv : Value) (W : World) :
    Calls Try.prog 6 #[.agg (ActIs do_ A B u n flag x pv rv)] W fun e w' => e = .returned (.bool true) ∧ Below W.heap.size W w' := by
  obtain ⟨W3, hW3, hsz, hbel, k0, k1, k2⟩ := three W (.cells (ActIs do_ A B u n flag x pv rv) 44) (.cells #[.map none] 52) (.cells #[.pointer none, .pointer (some ⟨W.heap.size + 1, 0, none⟩)] 28)
  have hl1 : W.heap.size < W3.heap.size := by omega
  have hl3 : W.heap.size + 1 + 1 < W3.heap.size := by omega
  have X0 := Aside0.mk ((blk_cell k0 0).trans (show _ = some (Value.int .i64 do_) from rfl))
  have X1 := Aside0.mk ((blk_cell k0 1).trans (show _ = some (Value.int .i64 A) from rfl))
  have X2 := Aside0.mk ((blk_cell k0 2).trans (show _ = some (Value.int .i64 B) from rfl))
  have X3 := Aside0.mk ((blk_cell k0 3).trans (show _ = some (Value.string u) from rfl))
  have X4 := Aside0.mk ((blk_cell k0 4).trans (show _ = some (Value.string n) from rfl))
  have X5 := Aside0.mk ((blk_cell k0 5).trans (show _ = some (Value.bool flag) from rfl))
  have X6 := Aside0.mk ((blk_cell k0 6).trans (show _ = some (Value.string x.f0) from rfl))
  have X7 := Aside0.mk ((blk_cell k0 7).trans (show _ = some (Value.string x.f1) from rfl))
  have X8 := Aside0.mk ((blk_cell k0 8).trans (show _ = some (Value.int .i64 x.f2) from rfl))
  have X9 := Aside0.mk ((blk_cell k0 9).trans (show _ = some (pv) from rfl))
  have X10 := Aside0.mk ((blk_cell k0 10).trans (show _ = some (rv) from rfl))
  have NA := Aside0.mk (nos (noStore_nil W3))
  have NB := Aside0.mk (nos (noStore_zero ((blk_cell k1 0).trans rfl)))
  have P0 := Aside0.mk ((blk_cell k2 0).trans (show _ = some (Value.pointer none) from rfl))
  have P1 := Aside0.mk ((blk_cell k2 1).trans (show _ = some (Value.pointer (some ⟨W.heap.size + 1, 0, none⟩)) from rfl))
  have HW3 := Aside0.mk hW3
  have HBEL := Aside0.mk hbel
  clear k0 k1 k2 hsz hW3 hbel
  unfold ActIs
  go_enter Try.func6, Try.ntmps6
  go_wp2
  go_loopw [19] (fun s wr => ∃ k : Nat, k ≤ 2 ∧ s = .int .i64 k ∧ Aside0 (Below W3.heap.size W3 wr)) (fun s _ => 2 - (intOf s).toNat)
  case atStart => exact ⟨0, Nat.zero_le _, rfl, ⟨by have e := HW3.out; unfold ActIs at e; rw [e]; exact Below.refl _ _⟩⟩
  case round =>
    obtain ⟨k, hk, rfl, HB⟩ := hrel
    by_cases hlt : k < 2
    · have hltz : (k : Int) < 2 := by omega
      obtain ⟨sp, HN, HP⟩ : ∃ sp, Aside0 (Nos W3 sp) ∧ Aside0 (W3.cell? ⟨W.heap.size + 1 + 1, k, none⟩ = some sp) := by
        rcases Nat.lt_or_ge k 1 with h | h
        · obtain rfl : k = 0 := by omega
          exact ⟨_, NA, P0⟩
        · obtain rfl : k = 1 := by omega
          exact ⟨_, NB, P1⟩
      have sk := (HB.out.cell (p := ⟨W.heap.size + 1 + 1, k, none⟩) hl3).trans HP.out
      have b0 := HB.out
      have y0_3 := (b0.cell (p := ⟨W.heap.size, 3, none⟩) hl1).trans X3.out
      have y0_4 := (b0.cell (p := ⟨W.heap.size, 4, none⟩) hl1).trans X4.out
      have y0_9 := (b0.cell (p := ⟨W.heap.size, 9, none⟩) hl1).trans X9.out
      clear NA NB P0 P1 HP
      go_wp2_with first | (go_at_call 21; refine (HN.out.locate _ _ _ _ b0).mono ?_; rintro e v21 ⟨rfl, b21⟩; have y21_3 := (b21.cell (p := ⟨W.heap.size, 3, none⟩) hl1).trans X3.out; have y21_4 := (b21.cell (p := ⟨W.heap.size, 4, none⟩) hl1).trans X4.out; have y21_1 := (b21.cell (p := ⟨W.heap.size, 1, none⟩) hl1).trans X1.out; have y21_5 := (b21.cell (p := ⟨W.heap.size, 5, none⟩) hl1).trans X5.out) | (go_at_call 20; refine (HN.out.read _ _ _ _ _ b21).mono ?_; rintro e v20 ⟨rfl, b20⟩; have y20_3 := (b20.cell (p := ⟨W.heap.size, 3, none⟩) hl1).trans X3.out; have y20_4 := (b20.cell (p := ⟨W.heap.size, 4, none⟩) hl1).trans X4.out; have y20_1 := (b20.cell (p := ⟨W.heap.size, 1, none⟩) hl1).trans X1.out) | (go_at_call 22; refine (HN.out.info _ _ _ _ b20).mono ?_; rintro e v22 ⟨rfl, b22⟩) | (go_at_call 12; refine (HN.out.create _ _ _ _ _  (b22.alloc b22.size _)).mono ?_; rintro e v12 ⟨rfl, b12⟩) | (go_at_call 23; refine (HN.out.delete _ _ _ b12).mono ?_; rintro e v23 ⟨rfl, b23⟩) | (go_at_call 13; refine (HN.out.open_ _ _ _ b23).mono ?_; rintro e v13 ⟨rfl, b13⟩) | (go_at_call 15; refine (HN.out.close _ _ _ b13).mono ?_; rintro e v15 ⟨rfl, b15⟩; have y15_6 := (b15.cell (p := ⟨W.heap.size, 6, none⟩) hl1).trans X6.out; have y15_7 := (b15.cell (p := ⟨W.heap.size, 7, none⟩) hl1).trans X7.out; have y15_8 := (b15.cell (p := ⟨W.heap.size, 8, none⟩) hl1).trans X8.out) | (go_at_call 24; refine (HN.out.insert _ _ _ _ _ _ _ _ b15).mono ?_; rintro e v24 ⟨rfl, b24⟩) | (go_at_call 25; refine (HN.out.replace _ _ _ _ b24).mono ?_; rintro e v25 ⟨rfl, b25⟩) | (go_at_call 26; refine (HN.out.extend _ _ _ _ b25).mono ?_; rintro e v26 ⟨rfl, b26⟩) | (go_at_call 27; refine (HN.out.erase _ _ _ _ b26).mono ?_; rintro e v27 ⟨rfl, b27⟩) | (go_at_call 14; refine (HN.out.change _ _ _ b27).mono ?_; rintro e v14 ⟨rfl, b14⟩) | (go_at_call 17; refine (HN.out.names _ b14).mono ?_; rintro e v17 ⟨rfl, b17⟩) | (go_at_call 19; refine (HN.out.users _ _ b17).mono ?_; rintro e v19 ⟨rfl, b19⟩) | (go_at_call 18; refine (HN.out.copy _ b19).mono ?_; rintro e v18 ⟨rfl, b18⟩)
      exact ⟨⟨k + 1, by omega, by go_num, ⟨b18⟩⟩, by simp only [intOf]; omega⟩
    · have hge : (k : Int) < 2 ↔ False := iff_false_intro (by omega)
      clear NA NB P0 P1
      go_wp2_with first | (go_at_call 10; refine (sane_c _).mono ?_; rintro e v10 ⟨rfl, b10⟩)
      go_ret
      exact ⟨rfl, HBEL.out.trans (HB.out.trans (b10.mono HB.out.size) |>.mono HBEL.out.size)⟩
theorem FilesNil_leaf (do_ A B : Int) (u n : ByteArray) (flag : Bool) (x0 x1 : ByteArray) (x2 : Int) (pv rv : Value) (W : World) :
    Calls Try.prog 6 #[.agg #[.int .i64 do_, .int .i64 A, .int .i64 B, .string u, .string n, .bool flag, .string x0, .string x1, .int .i64 x2, pv, rv]] W fun e w' => e = .returned (.bool true) ∧ Below W.heap.size W w' := FilesNil_c do_ A B u n flag ⟨x0, x1, x2⟩ pv rv W
end Go.Proofs.Ytehlmkgldcfciaa.Files
/- The law's 'do' as a step of the machine. -/
set_option linter.unusedVariables false
set_option linter.unusedSimpArgs false
namespace Go.Proofs.Ytehlmkgldcfciaa.Files
open Go.Proofs.Ytehlmkgldcfciaa.Common Go.Maps Go.ChangeMaps Go.WideMaps Go.Proofs.Ytehlmkgldcfciaa.F
open Go.RowKit Go.Proofs.YtehlmkgldcfciaaW.PrintWords Go.Proofs.YtehlmkgldcfciaaW.PrintLast Go.Proofs.YtehlmkgldcfciaaW.PrintMore
def mDo (st : Fs) (do_ A B : Int) (u n : ByteArray) (flag : Bool) (x : S41) (rules : List S34) : Fs :=
  if do_ = 0 then (mCreate st u n A B).2 else if do_ = 1 then (mDelete st u n).2 else if do_ = 2 then (mOpen st u n A B).2 else if do_ = 3 then (mClose st u n).2 else if do_ = 5 then (mRead st u n A flag).2.2 else if do_ = 6 then (mInsert st u n A flag x.f0 x.f1).2 else if do_ = 7 then (mReplace st u n A x.f1).2 else if do_ = 8 then (mExtend st u n A x.f1).2 else if do_ = 9 then (mErase st u n A).2 else if do_ = 11 then (mChange st u n B rules).2 else st
structure DoIn (W : World) (ok : Nat → Prop) (sb : Nat) (L : List (Nat × AF)) (st : Fs) (c : Nat) (Ar : Option Addr) (cc : Nat) (rules : List S34) : Prop where
  R : StoreRep W ok sb L
  hst : L.map (·.2) = st
  I : SInv c st
  c : c < 1000
  r : Kd.C k34 W Ar rules.length rules
  cc : rules.length ≤ cc
theorem DoIn.below {W w' : World} {ok : Nat → Prop} {sb : Nat} {L : List (Nat × AF)} {st : Fs} {c : Nat} {Ar : Option Addr} {cc : Nat} {rules : List S34} (h : DoIn W ok sb L st c Ar cc rules) (hb : Below W.heap.size W w') : DoIn w' ok sb L st c Ar cc rules :=
  ⟨h.R.other (Chg.of_below hb (fun _ => False)) (fun _ _ h => h), h.hst, h.I, h.c, Kd.C_below h.r hb, h.cc⟩
def DoOut (W : World) (ok : Nat → Prop) (sb : Nat) (st' : Fs) (e : Ending) (w' : World) : Prop := e = .returned (.tuple #[]) ∧ ∃ ok' L', StoreRep w' ok' sb L' ∧ L'.map (·.2) = st' ∧ Chg W w' ok ∧ ∀ q, ok' q → ok q ∨ W.heap.size ≤ q
theorem DoOut.of {W W1 w' : World} {ok : Nat → Prop} {sb : Nat} {v : Value} {st' : Fs} {e : Ending} (hb : Below W.heap.size W W1) (h : SOut W1 ok sb v st' e w') : DoOut W ok sb st' (.returned (.tuple #[])) w' := by
  obtain ⟨_, ok', L', h1, h2, h3, h4⟩ := h
  exact ⟨rfl, ok', L', h1, h2, ((Chg.of_below hb (fun _ => False)).mono (fun _ h => h.elim)).trans h3 (fun i hi => .inl hi), fun q hq => (h4 q hq).elim .inl (fun e => .inr (Nat.le_trans hb.size e))⟩
set_option maxRecDepth 100000 in
set_option maxHeartbeats 4000000 in
theorem do_c (ok : Nat → Prop) (sb : Nat) (L : List (Nat × AF)) (st : Fs) (c : Nat) (do_ A B : Int) (u n : ByteArray) (flag : Bool) (x : S41) (pv : Value) (Ar : Option Addr) (cc : Nat) (rules : List S34) (W : World) (hin : DoIn W ok sb L st c Ar cc rules) :
    Calls Try.prog 16 #[.pointer (some ⟨sb, 0, none⟩), .agg (ActIs do_ A B u n flag x pv (.slice Ar rules.length cc))] W (DoOut W ok sb (mDo st do_ A B u n flag x rules)) := by
  have hb1 : Below W.heap.size W (W.alloc (.cells (ActIs do_ A B u n flag x pv (.slice Ar rules.length cc)) 44)) := (Below.refl _ _).alloc (Nat.le_refl _) _
  have h := hin.below hb1
  by_cases h0 : do_ = 0
  · subst h0
    have HS := Aside0.mk (S_Create h.R h.hst h.I u n A B)
    have HB1 := Aside0.mk hb1
    have HM : Aside0 (mDo st 0 A B u n flag x rules = (mCreate st u n A B).2) := ⟨by simp [mDo]⟩
    unfold ActIs at HS HB1 ⊢
    clear h hin hb1
    go_enter Try.func16, Try.ntmps16
    go_wp2_with first | (go_at_call 12; refine HS.out.mono ?_; rintro e w' hS; obtain ⟨rfl, hS2⟩ := hS; have HS2 := Aside0.mk hS2; clear hS2)
    refine bodyPost_ret (v := .tuple #[]) (by simp [results, Try.f16, go_sem]) rfl ?_
    rw [HM.out]
    exact DoOut.of (v := .tuple #[]) HB1.out ⟨rfl, HS2.out⟩
  by_cases h1 : do_ = 1
  · subst h1
    have HS := Aside0.mk (S_Delete h.R h.hst h.I u n)
    have HB1 := Aside0.mk hb1
    have HM : Aside0 (mDo st 1 A B u n flag x rules = (mDelete st u n).2) := ⟨by simp [mDo]⟩
    unfold ActIs at HS HB1 ⊢
    clear h hin hb1
    go_enter Try.func16, Try.ntmps16
    go_wp2_with first | (go_at_call 23; refine HS.out.mono ?_; rintro e w' hS; obtain ⟨rfl, hS2⟩ := hS; have HS2 := Aside0.mk hS2; clear hS2)
    refine bodyPost_ret (v := .tuple #[]) (by simp [results, Try.f16, go_sem]) rfl ?_
    rw [HM.out]
    exact DoOut.of (v := .tuple #[]) HB1.out ⟨rfl, HS2.out⟩
  by_cases h2 : do_ = 2
  · subst h2
    have HS := Aside0.mk (S_Open_all h.R h.hst h.I h.c u n A B)
    have HB1 := Aside0.mk hb1
    have HM : Aside0 (mDo st 2 A B u n flag x rules = (mOpen st u n A B).2) := ⟨by simp [mDo]⟩
    unfold ActIs at HS HB1 ⊢
    clear h hin hb1
    go_enter Try.func16, Try.ntmps16
    go_wp2_with first | (go_at_call 13; refine HS.out.mono ?_; rintro e w' hS; obtain ⟨rfl, hS2⟩ := hS; have HS2 := Aside0.mk hS2; clear hS2)
    refine bodyPost_ret (v := .tuple #[]) (by simp [results, Try.f16, go_sem]) rfl ?_
    rw [HM.out]
    exact DoOut.of (v := .tuple #[]) HB1.out ⟨rfl, HS2.out⟩
  by_cases h3 : do_ = 3
  · subst h3
    have HS := Aside0.mk (S_Close h.R h.hst h.I u n)
    have HB1 := Aside0.mk hb1
    have HM : Aside0 (mDo st 3 A B u n flag x rules = (mClose st u n).2) := ⟨by simp [mDo]⟩
    unfold ActIs at HS HB1 ⊢
    clear h hin hb1
    go_enter Try.func16, Try.ntmps16
    go_wp2_with first | (go_at_call 15; refine HS.out.mono ?_; rintro e w' hS; obtain ⟨rfl, hS2⟩ := hS; have HS2 := Aside0.mk hS2; clear hS2)
    refine bodyPost_ret (v := .tuple #[]) (by simp [results, Try.f16, go_sem]) rfl ?_
    rw [HM.out]
    exact DoOut.of (v := .tuple #[]) HB1.out ⟨rfl, HS2.out⟩
  by_cases h5 : do_ = 5
  · subst h5
    have HS := Aside0.mk (S_Read h.R h.hst h.I u n A flag)
    have HB1 := Aside0.mk hb1
    have HM : Aside0 (mDo st 5 A B u n flag x rules = (mRead st u n A flag).2.2) := ⟨by simp [mDo]⟩
    unfold ActIs at HS HB1 ⊢
    clear h hin hb1
    go_enter Try.func16, Try.ntmps16
    go_wp2_with first | (go_at_call 20; refine HS.out.mono ?_; rintro e w' hS; obtain ⟨v, hS, _⟩ := hS; obtain ⟨rfl, hS2⟩ := hS; have HS2 := Aside0.mk hS2; clear hS2)
    refine bodyPost_ret (v := .tuple #[]) (by simp [results, Try.f16, go_sem]) rfl ?_
    rw [HM.out]
    exact DoOut.of (v := .tuple #[]) HB1.out ⟨rfl, HS2.out⟩
  by_cases h6 : do_ = 6
  · subst h6
    have HS := Aside0.mk (S_Insert h.R h.hst h.I u n A flag x.f0 x.f1 x.f2)
    have HB1 := Aside0.mk hb1
    have HM : Aside0 (mDo st 6 A B u n flag x rules = (mInsert st u n A flag x.f0 x.f1).2) := ⟨by simp [mDo]⟩
    unfold ActIs at HS HB1 ⊢
    clear h hin hb1
    go_enter Try.func16, Try.ntmps16
    go_wp2_with first | (go_at_call 24; refine HS.out.mono ?_; rintro e w' hS; obtain ⟨rfl, hS2⟩ := hS; have HS2 := Aside0.mk hS2; clear hS2)
    refine bodyPost_ret (v := .tuple #[]) (by simp [results, Try.f16, go_sem]) rfl ?_
    rw [HM.out]
    exact DoOut.of (v := .tuple #[]) HB1.out ⟨rfl, HS2.out⟩
  by_cases h7 : do_ = 7
  · subst h7
    have HS := Aside0.mk (S_Replace h.R h.hst h.I u n A x.f1)
    have HB1 := Aside0.mk hb1
    have HM : Aside0 (mDo st 7 A B u n flag x rules = (mReplace st u n A x.f1).2) := ⟨by simp [mDo]⟩
    unfold ActIs at HS HB1 ⊢
    clear h hin hb1
    go_enter Try.func16, Try.ntmps16
    go_wp2_with first | (go_at_call 25; refine HS.out.mono ?_; rintro e w' hS; obtain ⟨rfl, hS2⟩ := hS; have HS2 := Aside0.mk hS2; clear hS2)
    refine bodyPost_ret (v := .tuple #[]) (by simp [results, Try.f16, go_sem]) rfl ?_
    rw [HM.out]
    exact DoOut.of (v := .tuple #[]) HB1.out ⟨rfl, HS2.out⟩
  by_cases h8 : do_ = 8
  · subst h8
    have HS := Aside0.mk (S_Extend h.R h.hst h.I u n A x.f1)
    have HB1 := Aside0.mk hb1
    have HM : Aside0 (mDo st 8 A B u n flag x rules = (mExtend st u n A x.f1).2) := ⟨by simp [mDo]⟩
    unfold ActIs at HS HB1 ⊢
    clear h hin hb1
    go_enter Try.func16, Try.ntmps16
    go_wp2_with first | (go_at_call 26; refine HS.out.mono ?_; rintro e w' hS; obtain ⟨rfl, hS2⟩ := hS; have HS2 := Aside0.mk hS2; clear hS2)
    refine bodyPost_ret (v := .tuple #[]) (by simp [results, Try.f16, go_sem]) rfl ?_
    rw [HM.out]
    exact DoOut.of (v := .tuple #[]) HB1.out ⟨rfl, HS2.out⟩
  by_cases h9 : do_ = 9
  · subst h9
    have HS := Aside0.mk (S_Erase h.R h.hst h.I u n A)
    have HB1 := Aside0.mk hb1
    have HM : Aside0 (mDo st 9 A B u n flag x rules = (mErase st u n A).2) := ⟨by simp [mDo]⟩
    unfold ActIs at HS HB1 ⊢
    clear h hin hb1
    go_enter Try.func16, Try.ntmps16
    go_wp2_with first | (go_at_call 27; refine HS.out.mono ?_; rintro e w' hS; obtain ⟨rfl, hS2⟩ := hS; have HS2 := Aside0.mk hS2; clear hS2)
    refine bodyPost_ret (v := .tuple #[]) (by simp [results, Try.f16, go_sem]) rfl ?_
    rw [HM.out]
    exact DoOut.of (v := .tuple #[]) HB1.out ⟨rfl, HS2.out⟩
  by_cases h11 : do_ = 11
  · subst h11
    have HS := Aside0.mk (S_Change h.R h.hst u n B Ar cc rules h.r h.cc)
    have HB1 := Aside0.mk hb1
    have HM : Aside0 (mDo st 11 A B u n flag x rules = (mChange st u n B rules).2) := ⟨by simp [mDo]⟩
    unfold ActIs at HS HB1 ⊢
    clear h hin hb1
    go_enter Try.func16, Try.ntmps16
    go_wp2_with first | (go_at_call 14; refine HS.out.mono ?_; rintro e w' hS; obtain ⟨rfl, hS2⟩ := hS; have HS2 := Aside0.mk hS2; clear hS2)
    refine bodyPost_ret (v := .tuple #[]) (by simp [results, Try.f16, go_sem]) rfl ?_
    rw [HM.out]
    exact DoOut.of (v := .tuple #[]) HB1.out ⟨rfl, HS2.out⟩
  have g0 : (do_ == 0) = false := by simpa using h0
  have g1 : (do_ == 1) = false := by simpa using h1
  have g2 : (do_ == 2) = false := by simpa using h2
  have g3 : (do_ == 3) = false := by simpa using h3
  have g5 : (do_ == 5) = false := by simpa using h5
  have g6 : (do_ == 6) = false := by simpa using h6
  have g7 : (do_ == 7) = false := by simpa using h7
  have g8 : (do_ == 8) = false := by simpa using h8
  have g9 : (do_ == 9) = false := by simpa using h9
  have g11 : (do_ == 11) = false := by simpa using h11
  have HM : Aside0 (mDo st do_ A B u n flag x rules = st) := ⟨by simp [mDo, h0, h1, h2, h3, h5, h6, h7, h8, h9, h11]⟩
  have HI := Aside0.mk h
  have HB1 := Aside0.mk hb1
  unfold ActIs at HI HB1 ⊢
  clear h hin hb1 h0 h1 h2 h3 h5 h6 h7 h8 h9 h11
  go_enter Try.func16, Try.ntmps16
  go_wp2
  refine bodyPost_ret (v := .tuple #[]) (by simp [results, Try.f16, go_sem]) rfl ?_
  rw [HM.out]
  exact DoOut.of HB1.out (v := .tuple #[]) (SOut.stay HI.out.R HI.out.hst ⟨rfl, Below.refl _ _⟩)
end Go.Proofs.Ytehlmkgldcfciaa.Files
/-
  THE SHELF's CONTRACTS AT THIS DUMP, IN PLAIN WORDS: written by lay-plain.mjs.
-/
namespace Go.Proofs
open Go.Shelf
def Try.keys42_ren : Go.Shelf.Ren := ⟨fun | 7 => 42 | 10 => 59 | n => n, fun | 23 => 50 | 26 => 9 | 3 => 71 | 28 => 88 | 0 => 0 | 27 => 87 | 33 => 69 | 4 => 4 | n => n, fun | n => n⟩
theorem Try.keys42 : Go.Proofs.SlLaysZ.n7 Try.prog Try.keys42_ren := {
  mixed := by kernel_rfl
  f7 := ⟨Try.f42.name, by decide, Try.func42.trans (congrArg some (by kernel_rfl))⟩
  f10 := ⟨Try.f59.name, by decide, Try.func59.trans (congrArg some (by kernel_rfl))⟩
  t0 := Try.underlying0
  a0 := Try.isAgg0
  z0 := Try.sizeOf0
  v0 := Try.zeroValue0
  t4 := Try.underlying4
  a4 := Try.isAgg4
  z4 := Try.sizeOf4
  v4 := Try.zeroValue4
  t23 := Try.underlying50
  a23 := Try.isAgg50
  z23 := Try.sizeOf50
  v23 := Try.zeroValue50
  t26 := Try.underlying9
  a26 := Try.isAgg9
  z26 := Try.sizeOf9
  v26 := Try.zeroValue9
  t27 := Try.underlying87
  a27 := Try.isAgg87
  z27 := Try.sizeOf87
  v27 := Try.zeroValue87
  t28 := Try.underlying88
  a28 := Try.isAgg88
  z28 := Try.sizeOf88
  v28 := Try.zeroValue88
  t33 := Try.underlying69
  a33 := Try.isAgg69
  z33 := Try.sizeOf69
  v33 := Try.zeroValue69 }
def Try.sorted41_ren : Go.Shelf.Ren := ⟨fun | 6 => 41 | 8 => 57 | 9 => 58 | 11 => 64 | 13 => 66 | 12 => 65 | 23 => 77 | 24 => 78 | 14 => 68 | 15 => 69 | 16 => 70 | 17 => 71 | 18 => 72 | 19 => 73 | 20 => 74 | 21 => 75 | 22 => 76 | 25 => 80 | 26 => 81 | 27 => 82 | 28 => 83 | 29 => 84 | 30 => 85 | 31 => 86 | n => n, fun | 26 => 9 | 28 => 88 | 24 => 42 | 0 => 0 | 3 => 3 | 37 => 109 | 48 => 120 | 50 => 122 | 4 => 4 | 40 => 112 | 39 => 111 | 45 => 117 | 5 => 5 | 9 => 9 | 51 => 124 | 55 => 128 | 57 => 130 | 58 => 131 | 33 => 69 | n => n, fun | n => n⟩
theorem Try.sorted41 : Go.Proofs.SlLaysZ.n6 Try.prog Try.sorted41_ren := {
  mixed := by kernel_rfl
  f6 := ⟨Try.f41.name, by decide, Try.func41.trans (congrArg some (by kernel_rfl))⟩
  f8 := ⟨Try.f57.name, by decide, Try.func57.trans (congrArg some (by kernel_rfl))⟩
  f11 := ⟨Try.f64.name, by decide, Try.func64.trans (congrArg some (by kernel_rfl))⟩
  t0 := Try.underlying0
  a0 := Try.isAgg0
  z0 := Try.sizeOf0
  v0 := Try.zeroValue0
  t24 := Try.underlying42
  a24 := Try.isAgg42
  z24 := Try.sizeOf42
  v24 := Try.zeroValue42
  t26 := Try.underlying9
  a26 := Try.isAgg9
  z26 := Try.sizeOf9
  v26 := Try.zeroValue9
  t28 := Try.underlying88
  a28 := Try.isAgg88
  z28 := Try.sizeOf88
  v28 := Try.zeroValue88
  i26 := by kernel_rfl }
def Try.sort58_ren : Go.Shelf.Ren := ⟨fun | 6 => 58 | 8 => 66 | 9 => 65 | 19 => 77 | 20 => 78 | 21 => 68 | 22 => 69 | 23 => 70 | 24 => 71 | 25 => 72 | 26 => 73 | 27 => 74 | 28 => 75 | 29 => 76 | 36 => 80 | 31 => 81 | 32 => 82 | 37 => 83 | 38 => 84 | 39 => 85 | 41 => 86 | n => n, fun | 27 => 42 | 29 => 9 | 3 => 3 | 32 => 109 | 26 => 42 | 0 => 0 | 44 => 120 | 46 => 122 | 4 => 4 | 36 => 112 | 35 => 111 | 41 => 117 | 5 => 5 | 9 => 9 | 53 => 124 | 57 => 128 | 63 => 130 | 64 => 131 | n => n, fun | n => n⟩
theorem Try.sort58 : Go.Proofs.SlLaysM.n6 Try.prog Try.sort58_ren := {
  mixed := by kernel_rfl
  f6 := ⟨Try.f58.name, by decide, Try.func58.trans (congrArg some (by kernel_rfl))⟩
  f8 := Try.func66.trans (congrArg some (by kernel_rfl))
  f9 := ⟨Try.f65.name, by decide, Try.func65.trans (congrArg some (by kernel_rfl))⟩
  f19 := Try.func77.trans (congrArg some (by kernel_rfl))
  f20 := Try.func78.trans (congrArg some (by kernel_rfl))
  f21 := ⟨Try.f68.name, by decide, Try.func68.trans (congrArg some (by kernel_rfl))⟩
  f22 := ⟨Try.f69.name, by decide, Try.func69.trans (congrArg some (by kernel_rfl))⟩
  f23 := ⟨Try.f70.name, by decide, Try.func70.trans (congrArg some (by kernel_rfl))⟩
  f24 := ⟨Try.f71.name, by decide, Try.func71.trans (congrArg some (by kernel_rfl))⟩
  f25 := ⟨Try.f72.name, by decide, Try.func72.trans (congrArg some (by kernel_rfl))⟩
  f26 := ⟨Try.f73.name, by decide, Try.func73.trans (congrArg some (by kernel_rfl))⟩
  f27 := ⟨Try.f74.name, by decide, Try.func74.trans (congrArg some (by kernel_rfl))⟩
  f28 := ⟨Try.f75.name, by decide, Try.func75.trans (congrArg some (by kernel_rfl))⟩
  f29 := ⟨Try.f76.name, by decide, Try.func76.trans (congrArg some (by kernel_rfl))⟩
  f31 := Try.func81.trans (congrArg some (by kernel_rfl))
  f32 := Try.func82.trans (congrArg some (by kernel_rfl))
  f36 := ⟨Try.f80.name, by decide, Try.func80.trans (congrArg some (by kernel_rfl))⟩
  f37 := ⟨Try.f83.name, by decide, Try.func83.trans (congrArg some (by kernel_rfl))⟩
  f38 := ⟨Try.f84.name, by decide, Try.func84.trans (congrArg some (by kernel_rfl))⟩
  f39 := ⟨Try.f85.name, by decide, Try.func85.trans (congrArg some (by kernel_rfl))⟩
  f41 := ⟨Try.f86.name, by decide, Try.func86.trans (congrArg some (by kernel_rfl))⟩
  t0 := Try.underlying0
  a0 := Try.isAgg0
  z0 := Try.sizeOf0
  v0 := Try.zeroValue0
  t3 := Try.underlying3
  a3 := Try.isAgg3
  z3 := Try.sizeOf3
  v3 := Try.zeroValue3
  t4 := Try.underlying4
  a4 := Try.isAgg4
  z4 := Try.sizeOf4
  v4 := Try.zeroValue4
  t5 := Try.underlying5
  a5 := Try.isAgg5
  z5 := Try.sizeOf5
  v5 := Try.zeroValue5
  t9 := Try.underlying9
  a9 := Try.isAgg9
  z9 := Try.sizeOf9
  v9 := Try.zeroValue9
  t26 := Try.underlying42
  a26 := Try.isAgg42
  z26 := Try.sizeOf42
  v26 := Try.zeroValue42
  t27 := Try.underlying42
  a27 := Try.isAgg42
  z27 := Try.sizeOf42
  v27 := Try.zeroValue42
  t29 := Try.underlying9
  a29 := Try.isAgg9
  z29 := Try.sizeOf9
  v29 := Try.zeroValue9
  t32 := Try.underlying109
  a32 := Try.isAgg109
  z32 := Try.sizeOf109
  v32 := Try.zeroValue109
  t35 := Try.underlying111
  a35 := Try.isAgg111
  z35 := Try.sizeOf111
  v35 := Try.zeroValue111
  t36 := Try.underlying112
  a36 := Try.isAgg112
  z36 := Try.sizeOf112
  v36 := Try.zeroValue112
  t41 := Try.underlying117
  a41 := Try.isAgg117
  z41 := Try.sizeOf117
  v41 := Try.zeroValue117
  t44 := Try.underlying120
  a44 := Try.isAgg120
  z44 := Try.sizeOf120
  v44 := Try.zeroValue120
  t46 := Try.underlying122
  a46 := Try.isAgg122
  z46 := Try.sizeOf122
  v46 := Try.zeroValue122
  t53 := Try.underlying124
  a53 := Try.isAgg124
  z53 := Try.sizeOf124
  v53 := Try.zeroValue124
  t57 := Try.underlying128
  a57 := Try.isAgg128
  z57 := Try.sizeOf128
  v57 := Try.zeroValue128
  t63 := Try.underlying130
  a63 := Try.isAgg130
  z63 := Try.sizeOf130
  v63 := Try.zeroValue130
  t64 := Try.underlying131
  a64 := Try.isAgg131
  z64 := Try.sizeOf131
  v64 := Try.zeroValue131 }
def Try.keys45_ren : Go.Shelf.Ren := ⟨fun | 7 => 45 | 10 => 61 | n => n, fun | 23 => 72 | 26 => 9 | 3 => 78 | 28 => 88 | 0 => 0 | 27 => 87 | 33 => 69 | 4 => 4 | n => n, fun | n => n⟩
theorem Try.keys45 : Go.Proofs.SlLaysZ.n7 Try.prog Try.keys45_ren := {
  mixed := by kernel_rfl
  f7 := ⟨Try.f45.name, by decide, Try.func45.trans (congrArg some (by kernel_rfl))⟩
  f10 := ⟨Try.f61.name, by decide, Try.func61.trans (congrArg some (by kernel_rfl))⟩
  t0 := Try.underlying0
  a0 := Try.isAgg0
  z0 := Try.sizeOf0
  v0 := Try.zeroValue0
  t4 := Try.underlying4
  a4 := Try.isAgg4
  z4 := Try.sizeOf4
  v4 := Try.zeroValue4
  t23 := Try.underlying72
  a23 := Try.isAgg72
  z23 := Try.sizeOf72
  v23 := Try.zeroValue72
  t26 := Try.underlying9
  a26 := Try.isAgg9
  z26 := Try.sizeOf9
  v26 := Try.zeroValue9
  t27 := Try.underlying87
  a27 := Try.isAgg87
  z27 := Try.sizeOf87
  v27 := Try.zeroValue87
  t28 := Try.underlying88
  a28 := Try.isAgg88
  z28 := Try.sizeOf88
  v28 := Try.zeroValue88
  t33 := Try.underlying69
  a33 := Try.isAgg69
  z33 := Try.sizeOf69
  v33 := Try.zeroValue69 }
def Try.clone44_ren : Go.Shelf.Ren := ⟨fun | 5 => 44 | 7 => 60 | n => n, fun | 23 => 72 | 25 => 9 | 3 => 78 | 4 => 4 | 20 => 20 | n => n, fun | n => n⟩
theorem Try.clone44 : Go.Proofs.SlLaysW.n5 Try.prog Try.clone44_ren := {
  mixed := by kernel_rfl
  f5 := ⟨Try.f44.name, by decide, Try.func44.trans (congrArg some (by kernel_rfl))⟩
  f7 := Try.func60.trans (congrArg some (by kernel_rfl))
  t4 := Try.underlying4
  a4 := Try.isAgg4
  z4 := Try.sizeOf4
  v4 := Try.zeroValue4
  t20 := Try.underlying20
  a20 := Try.isAgg20
  z20 := Try.sizeOf20
  v20 := Try.zeroValue20
  t23 := Try.underlying72
  a23 := Try.isAgg72
  z23 := Try.sizeOf72
  v23 := Try.zeroValue72 }
end Go.Proofs
/-
  DERIVED. MADE BY PROGRAM (lay-iter.mjs) off @n@.cut.gsa: THE SHELF's CONTRACTS ON 'slices.Sorted(maps.Keys(m))' LAID AT THIS DUMP: 2 map types. NO WALK OF THE LIBRARY's TEXT: each is one application of a contract over any P and ρ (Derived/Shelf/SlIter/, Derived/Shelf/SortM/).
-/
namespace Go.Proofs
open Go.RowKit Go.Maps Go.Sort Go.Shelf

-- maps.Keys[map[string]*heptad/files.file,string,*heptad/files.file] (function 42; its iterator 59) · slices.Sorted[string] (41) · slices.Sort[[]string,string] (58) · the map's type 50, the keys' 9

/-- slices.Sort's two contracts at this dump, at the fence that asks nothing. -/
theorem Try.sorts41 (m : Nat) : AnyZ.SortsIn Try.prog Try.sorted41_ren Fence.wide m :=
  ⟨fun blk off cap ss W hH hblk hsz => callsIn_wide.2 (AnyM.slices_Sort_string Try.sort58 blk off cap ss W hH hblk hsz),
   fun p cap W => callsIn_wide.2 (AnyM.slices_Sort_string_none Try.sort58 p cap W)⟩

/-- **maps.Keys[map[string]*heptad/files.file,string,*heptad/files.file], at whatever map, the nil one too:** a function value over ONE NEW BLOCK, which holds the map. -/
theorem Try.maps_Keys_42 (mb : Option Nat) (W : World) : CallsIn Fence.wide 5 Try.prog 42 #[.map mb] W fun e w' => e = .returned (.func (.func 59) #[] #[.pointer (some ⟨W.heap.size, 0, none⟩)]) ∧ w' = W.alloc (.cells #[.map mb] 50) :=
  AnyZ.keys_in Try.keys42 Fence.wide 5 trivial rfl mb W

set_option maxHeartbeats 1000000 in
/-- **slices.Sorted[string] AT WHAT maps.Keys[map[string]*heptad/files.file,string,*heptad/files.file] HANDED BACK FOR A MAP THAT IS NOT nil** ('w': the world AHEAD of maps.Keys' call): A NEW SLICE THAT HOLDS THE MAP's KEYS, SORTED; nil just where it has none; nothing that lay before has turned. -/
theorem Try.slices_Sorted_keys_41_42 {H : Type} (b nn : Nat) (D0 : DataW H) (R : Value → Option (DataW H × List MemPlace)) (w : World) (hown : w.ownsMap Try.prog 9 R b nn D0) (hmax : Maps.size D0 ≤ maxLen) (hbytes : Maps.size D0 * 16 ≤ 140737488355328) :
    CallsIn Fence.wide 5 Try.prog 41 #[.func (.func 59) #[] #[.pointer (some ⟨w.heap.size, 0, none⟩)]] (w.alloc (.cells #[.map (some b)] 50)) fun e w' => ∃ (v : Value) (ss : List (List UInt8)), e = .returned v ∧ ss.Perm (strKeys D0) ∧
      w'.ownsRow (w.alloc (.cells #[.map (some b)] 50)).heap.size 9 1 v ss.length ((ss.mergeSort (fun x y => decide (x ≤ y))).map encStr) ∧ (v = .slice none 0 0 ↔ ss = []) ∧ Below (w.alloc (.cells #[.map (some b)] 50)).heap.size (w.alloc (.cells #[.map (some b)] 50)) w' := by
  have hbl := hown.lt
  have hseq : SeqGives Fence.wide 2 Try.prog 59 #[.pointer (some ⟨w.heap.size, 0, none⟩)] encStr (fun ss => ss.Perm (strKeys D0)) (Maps.size D0) (w.alloc (.cells #[.map (some b)] 50)) :=
    AnyZ.keys_gives (ρ := Try.keys42_ren) { Try.keys42 with } Fence.wide _ trivial rfl (by omega) w.heap.size b nn D0 _ (by simp) (by simp) (by
      obtain ⟨es, clock, hb, Ft, hs, hD⟩ := hown
      exact ⟨es, clock, (Below.heap_alloc _ _ b hbl).trans hb, Ft, hs, hD⟩)
  exact AnyZ.sorted_in Try.sorted41 Fence.wide 5 trivial trivial trivial trivial rfl (by omega) (Try.sorts41 _) (enters_of Try.func58 (by kernel_rfl) rfl) 59 #[.pointer (some ⟨w.heap.size, 0, none⟩)] trivial (enters_of Try.func59 (by kernel_rfl) rfl) _ _ hmax hbytes _ hseq

set_option maxHeartbeats 1000000 in
/-- **.. AND FOR THE nil MAP: nil.** -/
theorem Try.slices_Sorted_keys_nil_41_42 (w : World) :
    CallsIn Fence.wide 5 Try.prog 41 #[.func (.func 59) #[] #[.pointer (some ⟨w.heap.size, 0, none⟩)]] (w.alloc (.cells #[.map none] 50)) fun e w' => ∃ (v : Value) (ss : List (List UInt8)), e = .returned v ∧ ss = [] ∧
      w'.ownsRow (w.alloc (.cells #[.map none] 50)).heap.size 9 1 v ss.length ((ss.mergeSort (fun x y => decide (x ≤ y))).map encStr) ∧ (v = .slice none 0 0 ↔ ss = []) ∧ Below (w.alloc (.cells #[.map none] 50)).heap.size (w.alloc (.cells #[.map none] 50)) w' := by
  have hseq : SeqGives Fence.wide 2 Try.prog 59 #[.pointer (some ⟨w.heap.size, 0, none⟩)] encStr (fun ss : List (List UInt8) => ss = []) 0 (w.alloc (.cells #[.map none] 50)) :=
    AnyZ.keys_gives_nil (ρ := Try.keys42_ren) { Try.keys42 with } Fence.wide _ trivial rfl w.heap.size _ (by simp) (by simp)
  exact AnyZ.sorted_in Try.sorted41 Fence.wide 5 trivial trivial trivial trivial rfl (by omega) (Try.sorts41 _) (enters_of Try.func58 (by kernel_rfl) rfl) 59 #[.pointer (some ⟨w.heap.size, 0, none⟩)] trivial (enters_of Try.func59 (by kernel_rfl) rfl) _ 0 (Nat.zero_le _) (by omega) _ hseq

-- THE CALLER's WALK over 'slices.Sorted(maps.Keys(m))' (inside '(callsIn_wide (n := 6)).1'; 'have hfK : Fence.wide.fn 42 := trivial', 'have hfS : Fence.wide.fn 41 := trivial' ahead): THE TWO ARMS TO PASTE:
--   gi_wp2_with (first
--     | (gi_at_call 42; refine (Try.maps_Keys_42 _ _).mono ?_; rintro e w' ⟨rfl, rfl⟩)
--     | (gi_at_call 41; refine (Try.slices_Sorted_keys_41_42 b nn D0 R w hown hmax hbytes).mono ?_; rintro e w' ⟨v, ss, rfl, hS, hrow, hnil, hb⟩))

-- maps.Keys[map[string]heptad/files.open,string,heptad/files.open] (function 45; its iterator 61) · slices.Sorted[string] (41) · slices.Sort[[]string,string] (58) · the map's type 72, the keys' 9

/-- **maps.Keys[map[string]heptad/files.open,string,heptad/files.open], at whatever map, the nil one too:** a function value over ONE NEW BLOCK, which holds the map. -/
theorem Try.maps_Keys_45 (mb : Option Nat) (W : World) : CallsIn Fence.wide 5 Try.prog 45 #[.map mb] W fun e w' => e = .returned (.func (.func 61) #[] #[.pointer (some ⟨W.heap.size, 0, none⟩)]) ∧ w' = W.alloc (.cells #[.map mb] 72) :=
  AnyZ.keys_in Try.keys45 Fence.wide 5 trivial rfl mb W

set_option maxHeartbeats 1000000 in
/-- **slices.Sorted[string] AT WHAT maps.Keys[map[string]heptad/files.open,string,heptad/files.open] HANDED BACK FOR A MAP THAT IS NOT nil** ('w': the world AHEAD of maps.Keys' call): A NEW SLICE THAT HOLDS THE MAP's KEYS, SORTED; nil just where it has none; nothing that lay before has turned. -/
theorem Try.slices_Sorted_keys_41_45 {H : Type} (b nn : Nat) (D0 : DataW H) (R : Value → Option (DataW H × List MemPlace)) (w : World) (hown : w.ownsMap Try.prog 9 R b nn D0) (hmax : Maps.size D0 ≤ maxLen) (hbytes : Maps.size D0 * 16 ≤ 140737488355328) :
    CallsIn Fence.wide 5 Try.prog 41 #[.func (.func 61) #[] #[.pointer (some ⟨w.heap.size, 0, none⟩)]] (w.alloc (.cells #[.map (some b)] 72)) fun e w' => ∃ (v : Value) (ss : List (List UInt8)), e = .returned v ∧ ss.Perm (strKeys D0) ∧
      w'.ownsRow (w.alloc (.cells #[.map (some b)] 72)).heap.size 9 1 v ss.length ((ss.mergeSort (fun x y => decide (x ≤ y))).map encStr) ∧ (v = .slice none 0 0 ↔ ss = []) ∧ Below (w.alloc (.cells #[.map (some b)] 72)).heap.size (w.alloc (.cells #[.map (some b)] 72)) w' := by
  have hbl := hown.lt
  have hseq : SeqGives Fence.wide 2 Try.prog 61 #[.pointer (some ⟨w.heap.size, 0, none⟩)] encStr (fun ss => ss.Perm (strKeys D0)) (Maps.size D0) (w.alloc (.cells #[.map (some b)] 72)) :=
    AnyZ.keys_gives (ρ := Try.keys45_ren) { Try.keys45 with } Fence.wide _ trivial rfl (by omega) w.heap.size b nn D0 _ (by simp) (by simp) (by
      obtain ⟨es, clock, hb, Ft, hs, hD⟩ := hown
      exact ⟨es, clock, (Below.heap_alloc _ _ b hbl).trans hb, Ft, hs, hD⟩)
  exact AnyZ.sorted_in Try.sorted41 Fence.wide 5 trivial trivial trivial trivial rfl (by omega) (Try.sorts41 _) (enters_of Try.func58 (by kernel_rfl) rfl) 61 #[.pointer (some ⟨w.heap.size, 0, none⟩)] trivial (enters_of Try.func61 (by kernel_rfl) rfl) _ _ hmax hbytes _ hseq

set_option maxHeartbeats 1000000 in
/-- **.. AND FOR THE nil MAP: nil.** -/
theorem Try.slices_Sorted_keys_nil_41_45 (w : World) :
    CallsIn Fence.wide 5 Try.prog 41 #[.func (.func 61) #[] #[.pointer (some ⟨w.heap.size, 0, none⟩)]] (w.alloc (.cells #[.map none] 72)) fun e w' => ∃ (v : Value) (ss : List (List UInt8)), e = .returned v ∧ ss = [] ∧
      w'.ownsRow (w.alloc (.cells #[.map none] 72)).heap.size 9 1 v ss.length ((ss.mergeSort (fun x y => decide (x ≤ y))).map encStr) ∧ (v = .slice none 0 0 ↔ ss = []) ∧ Below (w.alloc (.cells #[.map none] 72)).heap.size (w.alloc (.cells #[.map none] 72)) w' := by
  have hseq : SeqGives Fence.wide 2 Try.prog 61 #[.pointer (some ⟨w.heap.size, 0, none⟩)] encStr (fun ss : List (List UInt8) => ss = []) 0 (w.alloc (.cells #[.map none] 72)) :=
    AnyZ.keys_gives_nil (ρ := Try.keys45_ren) { Try.keys45 with } Fence.wide _ trivial rfl w.heap.size _ (by simp) (by simp)
  exact AnyZ.sorted_in Try.sorted41 Fence.wide 5 trivial trivial trivial trivial rfl (by omega) (Try.sorts41 _) (enters_of Try.func58 (by kernel_rfl) rfl) 61 #[.pointer (some ⟨w.heap.size, 0, none⟩)] trivial (enters_of Try.func61 (by kernel_rfl) rfl) _ 0 (Nat.zero_le _) (by omega) _ hseq

-- THE CALLER's WALK over 'slices.Sorted(maps.Keys(m))' (inside '(callsIn_wide (n := 6)).1'; 'have hfK : Fence.wide.fn 45 := trivial', 'have hfS : Fence.wide.fn 41 := trivial' ahead): THE TWO ARMS TO PASTE:
--   gi_wp2_with (first
--     | (gi_at_call 45; refine (Try.maps_Keys_45 _ _).mono ?_; rintro e w' ⟨rfl, rfl⟩)
--     | (gi_at_call 41; refine (Try.slices_Sorted_keys_41_45 b nn D0 R w hown hmax hbytes).mono ?_; rintro e w' ⟨v, ss, rfl, hS, hrow, hnil, hb⟩))


end Go.Proofs
/- The file store: Names and Users. -/
set_option linter.unusedVariables false
set_option linter.unusedSimpArgs false
namespace Go.Proofs.Ytehlmkgldcfciaa.Files
open Go.Proofs.Ytehlmkgldcfciaa.Common Go.Maps Go.ChangeMaps Go.WideMaps Go.Proofs.Ytehlmkgldcfciaa.F
open Go.RowKit Go.Proofs.YtehlmkgldcfciaaW.PrintWords Go.Proofs.YtehlmkgldcfciaaW.PrintLast Go.Proofs.YtehlmkgldcfciaaW.PrintMore
open Go.Sort Go.Shelf
/-- A sorted row of a map's keys, of the call's own. -/
def KeysEnd (W : World) (D : DataW Unit) (e : Ending) (w' : World) : Prop := ∃ (v : Value) (ss : List (List UInt8)), e = .returned v ∧ ss.Perm (strKeys D) ∧ w'.ownsRow W.heap.size 9 1 v ss.length ((ss.mergeSort (fun x y => decide (x ≤ y))).map encStr) ∧ Below W.heap.size W w'
theorem Names_c (sb mb n : Nat) (D : DataW Unit) (W : World) (c0 : W.cell? ⟨sb, 0, none⟩ = some (.map (some mb))) (hown : W.ownsMap Try.prog 9 Rp mb n D) (hsz : Maps.size D ≤ 1000) :
    Calls Try.prog 17 #[.pointer (some ⟨sb, 0, none⟩)] W (KeysEnd W D) := by
  refine (callsIn_wide (n := 6)).1 ?_
  have hmax : Maps.size D ≤ maxLen := by unfold maxLen; omega
  have hbytes : Maps.size D * 16 ≤ 140737488355328 := by omega
  have hfK : Fence.wide.fn 42 := trivial
  have hfS : Fence.wide.fn 41 := trivial
  have hfN : Fence.wide.fn 31 := trivial
  refine callsIn_of_wp Try.func17 rfl trivial ?_ rfl
  simp only [Try.ntmps17, List.size_toArray, List.length_cons, List.length_nil, Nat.reduceAdd, Nat.reduceSub, Array.replicate_succ, Array.replicate_zero, List.push_toArray, List.append_toArray, List.nil_append, List.cons_append]
  gi_wp2_with (first
    | (gi_at_call 31; refine (callsIn_wide.2 (no_live sb mb W c0)).mono ?_; rintro e w' ⟨rfl, rfl⟩)
    | (gi_at_call 42; refine (Try.maps_Keys_42 _ _).mono ?_; rintro e w' ⟨rfl, rfl⟩)
    | (gi_at_call 41; refine (Try.slices_Sorted_keys_41_42 mb n D Rp W hown hmax hbytes).mono ?_; rintro e w' ⟨v, ss, rfl, hS, hrow, hnil, hb⟩))
  go_ret
  exact ⟨v, ss, rfl, hS, ownsRow_base_a hrow (by simp), ((Below.refl _ W).alloc (Nat.le_refl _) _).trans (hb.mono (by simp))⟩
theorem Users_none (sb mb m : Nat) (D : DataW Unit) (n : ByteArray) (W : World) (c0 : W.cell? ⟨sb, 0, none⟩ = some (.map (some mb))) (hown : W.ownsMap Try.prog 9 Rp mb m D) (hn : n.size ≤ 140737488355328) (hD : D.atKey (.string n.data.toList) .nil = .nil) :
    Calls Try.prog 19 #[.pointer (some ⟨sb, 0, none⟩), .string n] W fun e w' => e = .returned (.slice none 0 0) ∧ Below W.heap.size W w' := by
  have hkey : keyOf Try.prog 9 (.string n) = some (.string n.data.toList) := keyOf_string_mk Try.underlying9 (by unfold maxLen; omega)
  obtain ⟨v, ps, hrun, hv⟩ := hown.lookup law9 Try.underlying50 (zeroP _) (zd := .nil) (zp := []) rfl hkey
  rw [hD] at hv
  obtain rfl := Rp_nil hv
  have CL := Aside0.mk (no_live sb mb W c0)
  clear hv hown hD
  go_enter Try.func19, Try.ntmps19
  go_wp2_with first | (go_at_call 31; refine CL.out.mono ?_; rintro e w' ⟨rfl, rfl⟩)
  go_ret
  exact ⟨rfl, Below.refl _ _⟩
theorem Users_c (sb mb m fb ub m2 : Nat) (D DU : DataW Unit) (n : ByteArray) (W : World) (c0 : W.cell? ⟨sb, 0, none⟩ = some (.map (some mb))) (hown : W.ownsMap Try.prog 9 Rp mb m D) (hn : n.size ≤ 140737488355328) (hD : D.atKey (.string n.data.toList) .nil = .lit (.int .i64 (fb : Nat)))
    (c9 : W.cell? ⟨fb, 9, none⟩ = some (.map (some ub))) (hU : W.ownsMap Try.prog 9 Ro ub m2 DU) (hsz : Maps.size DU ≤ 1000) :
    Calls Try.prog 19 #[.pointer (some ⟨sb, 0, none⟩), .string n] W (KeysEnd W DU) := by
  refine (callsIn_wide (n := 6)).1 ?_
  have hkey : keyOf Try.prog 9 (.string n) = some (.string n.data.toList) := keyOf_string_mk Try.underlying9 (by unfold maxLen; omega)
  obtain ⟨v, ps, hrun, hv⟩ := hown.lookup law9 Try.underlying50 (zeroP _) (zd := .nil) (zp := []) rfl hkey
  rw [hD] at hv
  obtain rfl := Rp_at hv
  have hmax : Maps.size DU ≤ maxLen := by unfold maxLen; omega
  have hbytes : Maps.size DU * 16 ≤ 140737488355328 := by omega
  have hfK : Fence.wide.fn 45 := trivial
  have hfS : Fence.wide.fn 41 := trivial
  have hfN : Fence.wide.fn 31 := trivial
  clear hv hD
  refine callsIn_of_wp Try.func19 rfl trivial ?_ rfl
  simp only [Try.ntmps19, List.size_toArray, List.length_cons, List.length_nil, Nat.reduceAdd, Nat.reduceSub, Array.replicate_succ, Array.replicate_zero, List.push_toArray, List.append_toArray, List.nil_append, List.cons_append]
  gi_wp2_with (first
    | (gi_at_call 31; refine (callsIn_wide.2 (no_live sb mb W c0)).mono ?_; rintro e w' ⟨rfl, rfl⟩)
    | (gi_at_call 45; refine (Try.maps_Keys_45 _ _).mono ?_; rintro e w' ⟨rfl, rfl⟩)
    | (gi_at_call 41; refine (Try.slices_Sorted_keys_41_45 ub m2 DU Ro W hU hmax hbytes).mono ?_; rintro e w' ⟨v, ss, rfl, hS, hrow, hnil, hb⟩))
  go_ret
  exact ⟨v, ss, rfl, hS, ownsRow_base_a hrow (by simp), ((Below.refl _ W).alloc (Nat.le_refl _) _).trans (hb.mono (by simp))⟩
end Go.Proofs.Ytehlmkgldcfciaa.Files
/- maps.Clone of a file's users. -/
set_option linter.unusedVariables false
set_option linter.unusedSimpArgs false
namespace Go.Proofs.Ytehlmkgldcfciaa.Files
open Go.Proofs.Ytehlmkgldcfciaa.Common Go.Maps Go.ChangeMaps Go.WideMaps Go.Proofs.Ytehlmkgldcfciaa.F
open Go.RowKit Go.Proofs.YtehlmkgldcfciaaW.PrintWords Go.Proofs.YtehlmkgldcfciaaW.PrintLast Go.Proofs.YtehlmkgldcfciaaW.PrintMore
open Go.Sort Go.Shelf
theorem CloneUsers (ub n : Nat) (DU : DataW Unit) (w : World) (hown : w.ownsMap Try.prog 9 Ro ub n DU) :
    Calls Try.prog 44 #[.map (some ub)] w fun e w' => e = .returned (.map (some w.heap.size)) ∧ w'.ownsMap Try.prog 9 Ro w.heap.size n DU ∧ w'.ownsMap Try.prog 9 Ro ub n DU ∧ Below w.heap.size w w' :=
  AnyW.maps_Clone_owns Try.clone44 9 Ro ub n DU w hown
end Go.Proofs.Ytehlmkgldcfciaa.Files
/- The keys of a map, as a list. -/
set_option linter.unusedVariables false
set_option linter.unusedSimpArgs false
namespace Go.Proofs.Ytehlmkgldcfciaa.Files
open Go.Proofs.Ytehlmkgldcfciaa.Common Go.Maps Go.ChangeMaps Go.WideMaps Go.Proofs.Ytehlmkgldcfciaa.F
open Go.RowKit Go.Proofs.YtehlmkgldcfciaaW.PrintWords Go.Proofs.YtehlmkgldcfciaaW.PrintLast Go.Proofs.YtehlmkgldcfciaaW.PrintMore
open Go.Sort Go.Shelf
theorem look_isSome {α : Type} {l : List (Key × α)} {k : Key} : (look l k).isSome = true ↔ k ∈ l.map (·.1) := by
  constructor
  · intro h
    obtain ⟨x, hx⟩ := Option.isSome_iff_exists.1 h
    exact List.mem_map.2 ⟨(k, x), look_mem hx, rfl⟩
  · intro h
    cases hl : look l k with
    | some x => rfl
    | none =>
      obtain ⟨p, hp, rfl⟩ := List.mem_map.1 h
      exact absurd rfl (look_none.1 hl p hp)
/-- The keys of a map that is a list: a permutation of the list's keys. -/
theorem keys_perm {P : Program} {W : World} {R : Value → Option (DataW Unit × List MemPlace)} {b n : Nat} {D : DataW Unit} {l : List (Key × DataW Unit)} (hown : W.ownsMap P 9 R b n D) (K : Keyed P 9) (hk9 : P.underlying 9 = some .string) (h : MapIs D l) (hn : (l.map (·.1)).Nodup) : (l.map (·.1)).Perm (strKeys D) := by
  obtain ⟨es, rfl, hp⟩ := h.tidy
  have hk : ∀ p ∈ es, ∃ x, p.1 = .string x := by
    obtain ⟨es', hD', hko⟩ := hown.keysOf
    obtain rfl : es = es' := by simpa using hD'
    exact fun p hp => by obtain ⟨v, hv⟩ := hko p hp; obtain ⟨x, _, hx, _⟩ := Maps.keyOf_str hk9 hv; exact ⟨x, hx⟩
  exact perm_strKeys hp hk hn (fun x => by rw [← look_isSome, ← h.has])
/-- The row of sorted keys, as words. -/
def sortedNames (l : List ByteArray) : List (List UInt8) := (l.map (·.data.toList)).mergeSort (fun x y => decide (x ≤ y))
/-- A row of words, sorted, of the call's own, behind a call that changes nothing. -/
def WordsEnd (W : World) (l : List ByteArray) (e : Ending) (w' : World) : Prop := ∃ v : Value, e = .returned v ∧ w'.ownsRow W.heap.size 9 1 v l.length ((sortedNames l).map encStr) ∧ Below W.heap.size W w'
theorem WordsEnd.of {P : Program} {W : World} {R : Value → Option (DataW Unit × List MemPlace)} {b n : Nat} {D : DataW Unit} {names : List ByteArray} {l : List (Key × DataW Unit)} (hown : W.ownsMap P 9 R b n D) (K : Keyed P 9) (hk9 : P.underlying 9 = some .string) (h : MapIs D l) (hn : (l.map (·.1)).Nodup) (hl : l.map (·.1) = names.map (·.data.toList)) {e : Ending} {w' : World} (hk : KeysEnd W D e w') : WordsEnd W names e w' := by
  obtain ⟨v, ss, rfl, hp, hr, hb⟩ := hk
  have hp2 := hp.trans (keys_perm hown K hk9 h hn).symm
  rw [hl] at hp2
  have hlen : ss.length = names.length := by rw [hp2.length_eq, List.length_map]
  have hsrt : ss.mergeSort (fun x y => decide (x ≤ y)) = sortedNames names := mergeSort_of_perm hp2
  rw [hlen, hsrt] at hr
  exact ⟨v, rfl, hr, hb⟩
section steps
variable {W : World} {ok : Nat → Prop} {sb : Nat} {L : List (Nat × AF)} {st : Fs} {c : Nat}
theorem S_Names (hR : StoreRep W ok sb L) (hst : L.map (·.2) = st) (hI : SInv c st) :
    Calls Try.prog 17 #[.pointer (some ⟨sb, 0, none⟩)] W (WordsEnd W (st.map (·.F.name))) := by
  obtain ⟨mb, D, own, R⟩ := hR
  have hsz : Maps.size D = st.length := by rw [R.mM.size, List.length_map, ← hst, List.length_map]
  have hkeys : ((L.map fun p => (p.2.key, (DataW.lit (.int .i64 (p.1 : Int)) : DataW Unit))).map (·.1)).Nodup := by rw [List.map_map]; exact R.names
  refine (Names_c sb mb _ D W R.S.cell R.M (by have := hI.count; omega)).mono fun e w' h => WordsEnd.of R.M law9 Try.underlying9 R.mM hkeys ?_ h
  rw [← hst]
  simp only [List.map_map]
  rfl
theorem S_Users (hR : StoreRep W ok sb L) (hst : L.map (·.2) = st) (hI : SInv c st) (hc : c < 1000) (n : ByteArray) (hn : n.size ≤ 140737488355328) :
    Calls Try.prog 19 #[.pointer (some ⟨sb, 0, none⟩), .string n] W (WordsEnd W (match posF st n with | none => [] | some p => p.2.users.map (·.1))) := by
  obtain ⟨mb, D, own, R⟩ := hR
  cases hp : posF st n with
  | none =>
    have hno : ∀ p ∈ L, p.2.F.name ≠ n := fun p hp2 => posF_none hp p.2 (by rw [← hst]; exact List.mem_map.2 ⟨p, hp2, rfl⟩)
    have hD : D.atKey (.string n.data.toList) .nil = .nil := by rw [R.mM.at_, filesL_none R.mM hno]; rfl
    refine (Users_none sb mb _ D n W R.S.cell R.M hn hD).mono ?_
    rintro e w' ⟨rfl, hb⟩
    refine ⟨_, rfl, ?_, hb⟩
    exact ⟨by simp [sortedNames], .inl ⟨rfl, by simp [sortedNames]⟩⟩
  | some p =>
    obtain ⟨k, f⟩ := p
    obtain ⟨h1, h2⟩ := posF_some hp
    obtain ⟨fb, hL⟩ := at_L hst h1
    obtain ⟨A, rc, uv, ub, DU, P⟩ := R.files _ (List.mem_of_getElem? hL)
    have hD := filesL_look R.mM R.names (List.mem_of_getElem? hL)
    rw [h2] at hD
    have hI' := inv_at hI hst hL
    have hsz : Maps.size DU = f.users.length := by rw [P.mU.size]; simp [usersL]
    refine (Users_c sb mb _ fb ub _ D DU n W R.S.cell R.M hn hD ((blk_cell P.F 9).trans rfl) P.U (by have := hI'.count; omega)).mono fun e w' h => WordsEnd.of P.U law9 Try.underlying9 P.mU (by rw [users_keys]; exact hI'.users) (by rw [users_keys]; simp) h
end steps
end Go.Proofs.Ytehlmkgldcfciaa.Files
/- What is always so stays so: the plain part that no tree is needed for. -/
set_option linter.unusedVariables false
set_option linter.unusedSimpArgs false
namespace Go.Proofs.Ytehlmkgldcfciaa.Files
open Go.Proofs.Ytehlmkgldcfciaa.Common Go.Maps Go.ChangeMaps Go.WideMaps Go.Proofs.Ytehlmkgldcfciaa.F
open Go.RowKit Go.Proofs.YtehlmkgldcfciaaW.PrintWords Go.Proofs.YtehlmkgldcfciaaW.PrintLast Go.Proofs.YtehlmkgldcfciaaW.PrintMore
theorem FInv.mono {c c' : Nat} {f : AF} (h : FInv c f) (hc : c ≤ c') : FInv c' f := ⟨h.name, h.units, h.data, h.users, Nat.le_trans h.count hc⟩
theorem SInv.mono {c c' : Nat} {st : Fs} (h : SInv c st) (hc : c ≤ c') : SInv c' st := ⟨fun f hf => (h.files f hf).mono hc, h.count⟩
theorem SInv.set {c : Nat} {st : Fs} (h : SInv c st) (k : Nat) {f : AF} (hf : FInv c f) : SInv c (st.set k f) :=
  ⟨fun g hg => by
    rcases List.mem_or_eq_of_mem_set hg with h1 | h1
    · exact h.files g h1
    · rw [h1]; exact hf, by rw [List.length_set]; exact h.count⟩
theorem SInv.filter {c : Nat} {st : Fs} (h : SInv c st) (p : AF → Bool) : SInv c (st.filter p) :=
  ⟨fun g hg => h.files g (List.mem_filter.1 hg).1, Nat.le_trans (List.length_filter_le _ _) h.count⟩
theorem FInv.read {c : Nat} {f : AF} (h : FInv c f) : FInv c f.read := ⟨h.name, h.units, h.data, h.users, h.count⟩
theorem FInv.change {c : Nat} {f : AF} (h : FInv c f) (perm : Int) (rules : List S34) : FInv c (f.change perm rules) := ⟨h.name, h.units, h.data, h.users, h.count⟩
theorem FInv.closed {c : Nat} {f : AF} (h : FInv c f) (u : ByteArray) : FInv c (f.closed u) :=
  ⟨h.name, h.units, h.data, h.users.sublist (List.Sublist.map _ List.filter_sublist), Nat.le_trans (List.length_filter_le _ _) h.count⟩
theorem FInv.opened {c : Nat} {f : AF} (h : FInv c f) (u : ByteArray) (a x : Int) (hl : lookU f.users u = none) : FInv (c + 1) (f.opened u a x) := by
  refine ⟨h.name, h.units, h.data, ?_, ?_⟩
  · show ((f.users ++ [(u, (a, x))]).map _).Nodup
    rw [List.map_append, List.nodup_append]
    refine ⟨h.users, by simp, fun b hb d hd e => ?_⟩
    obtain ⟨p, hp, rfl⟩ := List.mem_map.1 hb
    have hd' : d = u.data.toList := by simpa using hd
    have hpu : p.1 = u := data_inj (e.trans hd')
    unfold lookU at hl
    rw [Option.map_eq_none_iff, List.find?_eq_none] at hl
    exact absurd (hl p hp) (by simp [hpu])
  · show (f.users ++ [(u, (a, x))]).length ≤ c + 1
    have := h.count
    simp
    omega
theorem FInv.new (u n : ByteArray) (kind perm : Int) (hn : 1 ≤ n.size ∧ n.size ≤ 30) : FInv 0 (newF u n kind perm) :=
  ⟨hn, show UOk [(⟨ByteArray.empty, ByteArray.empty, 0⟩ : S41)] from uok_of (by decide) (by decide) (by intro x hx; obtain rfl := List.mem_singleton.1 hx; decide) rfl, fun x hx => by
    have hx' : x ∈ [(⟨ByteArray.empty, ByteArray.empty, 0⟩ : S41)] := hx
    obtain rfl := List.mem_singleton.1 hx'
    decide, List.nodup_nil, Nat.le_refl _⟩
end Go.Proofs.Ytehlmkgldcfciaa.Files
/- files.Valid: what it reckons. -/
set_option linter.unusedVariables false
set_option linter.unusedSimpArgs false
namespace Go.Proofs.Ytehlmkgldcfciaa.Files
open Go.Proofs.Ytehlmkgldcfciaa.Common Go.Maps Go.ChangeMaps Go.WideMaps Go.Proofs.Ytehlmkgldcfciaa.F
open Go.RowKit Go.Proofs.YtehlmkgldcfciaaW.PrintWords Go.Proofs.YtehlmkgldcfciaaW.PrintLast Go.Proofs.YtehlmkgldcfciaaW.PrintMore
def okAll (p : Nat → Bool) (n : Nat) : Bool := (List.range n).all p
theorem okAll_false {p : Nat → Bool} {n i : Nat} (hi : i < n) (h : p i = false) : okAll p n = false := by
  unfold okAll
  rw [List.all_eq_false]
  exact ⟨i, List.mem_range.2 hi, by simp [h]⟩
theorem okAll_true {p : Nat → Bool} {n : Nat} (h : ∀ i, i < n → p i = true) : okAll p n = true := by
  unfold okAll
  rw [List.all_eq_true]
  exact fun i hi => h i (List.mem_range.1 hi)
theorem okAll_iff {p : Nat → Bool} {n : Nat} : okAll p n = true ↔ ∀ i, i < n → p i = true :=
  ⟨fun h i hi => List.all_eq_true.1 h i (List.mem_range.2 hi), okAll_true⟩
/-- One unit's own check. -/
def chk (l : List S41) (kind : Int) (i : Nat) : Bool :=
  decide ((rd_T41 l (i : Int)).f0.size ≤ 30) && decide ((rd_T41 l (i : Int)).f1.size ≤ 400) && (decide (lv l i = 0) == decide (i = 0)) && decide (0 ≤ lv l i) && (decide (i = 0) || decide (lv l i ≤ lv l (i - 1) + 1)) && (decide (2 ≤ kind) || decide (lv l i ≤ kind))
def kidsOk (l : List S41) (i : Nat) : Bool := okAll (fun k => !clashB l ((kids l i).take k) (rd_T41 l ((kids l i).getD k 0)).f0) (kids l i).length
def headOk (l : List S41) (kind : Int) : Bool := decide (0 ≤ kind) && decide (kind ≤ 2) && decide (1 ≤ l.length) && decide (l.length ≤ 100)
def validB (l : List S41) (kind : Int) : Bool := headOk l kind && okAll (chk l kind) l.length && okAll (kidsOk l) l.length
theorem chk_iff (l : List S41) (kind : Int) (i : Nat) : chk l kind i = true ↔ ((rd_T41 l (i : Int)).f0.size ≤ 30 ∧ (rd_T41 l (i : Int)).f1.size ≤ 400 ∧ ((i = 0 → (rd_T41 l (i : Int)).f2 = 0) ∧ (i ≠ 0 → (rd_T41 l (i : Int)).f2 ≠ 0)) ∧ 0 ≤ (rd_T41 l (i : Int)).f2 ∧ (i = 0 ∨ (rd_T41 l (i : Int)).f2 ≤ lv l (i - 1) + 1) ∧ (2 ≤ kind ∨ (rd_T41 l (i : Int)).f2 ≤ kind)) := by
  unfold chk lv
  simp only [Bool.and_eq_true, Bool.or_eq_true, decide_eq_true_eq, beq_iff_eq, decide_eq_decide, and_assoc]
  constructor
  · rintro ⟨h1, h2, h3, h4, h5, h6⟩
    exact ⟨h1, h2, h3.2, fun h e => h (h3.1 e), h4, h5, h6⟩
  · rintro ⟨h1, h2, h3, h3', h4, h5, h6⟩
    exact ⟨h1, h2, ⟨fun e => Decidable.byContradiction fun h => h3' h e, h3⟩, h4, h5, h6⟩
theorem chk_lv {l : List S41} {kind : Int} : ∀ i, (∀ j, j ≤ i → chk l kind j = true) → 0 ≤ lv l i ∧ lv l i ≤ i
  | 0, h => by
    have := h 0 (Nat.le_refl _)
    simp only [chk, Bool.and_eq_true, decide_eq_true_eq, beq_iff_eq] at this
    have h2 := this.1.1.1.2
    simp at h2
    omega
  | i + 1, h => by
    have ih := chk_lv i (fun j hj => h j (by omega))
    have := h (i + 1) (Nat.le_refl _)
    simp only [chk, Bool.and_eq_true, Bool.or_eq_true, decide_eq_true_eq] at this
    have h1 := this.1.1.2
    have h2 := this.1.2
    simp at h2
    omega
theorem ints_slice {W : World} {base : Nat} {ok : Nat → Prop} {v : Value} {l : List Int} (h : Kd.R (Kd.int .i64) 3 W base ok v l) (hn : 0 < l.length) : ∃ g c, v = .slice (some ⟨g, 0, none⟩) l.length c := by
  obtain ⟨inner, ho⟩ := Kd.R_own h
  rcases ho.2 with ⟨_, h0⟩ | ⟨g, cap, cur, hv, _⟩
  · omega
  · exact ⟨g, cap, hv⟩
theorem clash_pre (ad : Addr) (c g6 c6 k : Nat) (l : List S41) (ks : List Int) (nm : ByteArray) (W w1 : World) (hr : Kd.C k41 W (some ad) l.length l) (hb : Below W.heap.size W w1) (hc : l.length ≤ c)
    (hR : Kd.R (Kd.int .i64) 3 w1 0 (fun _ => True) (.slice (some ⟨g6, 0, none⟩) ks.length c6) ks) (hk : k ≤ ks.length) (hin : ∀ x ∈ ks, 0 ≤ x ∧ x < (l.length : Int)) :
    Calls Try.prog 29 #[.slice (some ad) l.length c, .slice (some ⟨g6, 0, none⟩) k c6, .string nm] w1 fun e w' => e = .returned (.bool (clashB l (ks.take k) nm)) ∧ Below w1.heap.size w1 w' := by
  obtain ⟨_, hkc, hC⟩ := Kd.R_reads' hR
  have h1 : (ks.take k).length = k := by rw [List.length_take, Nat.min_eq_left hk]
  have := clash_c c c6 (some ad) (some ⟨g6, 0, none⟩) l (ks.take k) nm w1 (Kd.C_below hr hb) hc (Kd.C_take hC hk) (by omega) (fun x hx => hin x (List.mem_of_mem_take hx))
  rwa [h1] at this
/-- A world that has gone on, told once for the walk's end. -/
structure Gone (W w : World) : Prop where mk_ :: (out : Below W.heap.size W w)
theorem Gone.outN {W w : World} (h : Gone W w) (n : Nat) : Aside0 (Below W.heap.size W (w.drewN n)) := ⟨pw_below_drewN h.out n⟩
def ValidW.T16 : Bool × List (List Nat × List Nat) := (true, [([], []), ([], []), ([], []), ([1, 2], [1, 2]), ([], []), ([], []), ([], []), ([5, 6], [5, 6]), ([7], [7]), ([4, 8], [4, 8]), ([9], [9]), ([10], [10]), ([0, 3, 11], [0, 3, 11])])
def ValidW.B16 : List Nat := [0, 0, 0, 6, 0, 0, 0, 96, 224, 496, 1008, 2032, 4095]
theorem ValidW.tab16 : rtab .any (opsOf Try.f7 16) = ValidW.T16 := by kernel_rfl
theorem ValidW.bits16 : waitsOk ValidW.T16.2 ValidW.B16 = true := by kernel_rfl
set_option maxRecDepth 100000 in
set_option maxHeartbeats 80000000 in
theorem Valid_c (A : Option Addr) (c : Nat) (l : List S41) (kind : Int) (W : World) (hr : Kd.C k41 W A l.length l) (hc : l.length ≤ c) :
    Calls Try.prog 7 #[.slice A l.length c, .int .i64 kind] W fun e w' => e = .returned (.bool (validB l kind)) ∧ Below W.heap.size W w' := by
  have HR := Aside0.mk hr
  have hbig : l.length ≤ 9223372036854775807 := hr.2.1
  clear hr
  by_cases c1 : 0 ≤ kind
  · have b1 : decide (kind < 0) = false := decide_eq_false (by omega)
    by_cases c2 : kind ≤ 2
    · have b2 : decide (2 < kind) = false := decide_eq_false (by omega)
      by_cases c3 : 1 ≤ l.length
      · have b3' : decide ((l.length : Int) < 1) = false := decide_eq_false (by omega)
        by_cases c4 : l.length ≤ 100
        · have b4 : decide ((100 : Int) < (l.length : Int)) = false := decide_eq_false (by omega)
          have HV : Aside0 (validB l kind = (okAll (chk l kind) l.length && okAll (kidsOk l) l.length)) := ⟨by simp [validB, headOk, c1, c2, c3, c4]⟩
          go_enter Try.func7, Try.ntmps7
          go_wp2_with fail
          go_loopw [28] (fun s wr => ∃ i : Nat, i ≤ l.length ∧ s = .int .i64 i ∧ Aside0 (Below W.heap.size W wr) ∧ Aside0 (∀ j, j < i → chk l kind j = true)) (fun s _ => l.length - (intOf s).toNat)
          case atStart => exact ⟨0, Nat.zero_le _, rfl, ⟨Below.refl _ _⟩, ⟨fun j hj => absurd hj (Nat.not_lt_zero _)⟩⟩
          case round =>
            obtain ⟨i, hi, rfl, HB, HC⟩ := hrel
            by_cases hlt : i < l.length
            · have hltz : (i : Int) < (l.length : Int) := by omega
              obtain ⟨ad, rfl, x0, x1, x2⟩ := at_T41 (Kd.C_below HR.out HB.out) (i : Int) (by omega) (by omega)
              rw [Int.toNat_natCast] at x0 x1 x2
              have HBADV := Aside0.mk (fun (h : chk l kind i = false) => show validB l kind = false by rw [HV.out, okAll_false hlt h]; rfl)
              have HNEXT := Aside0.mk (fun (h : chk l kind i = true) => Aside0.mk (fun j (hj : j < i + 1) => show chk l kind j = true by
                rcases Nat.lt_or_ge j i with h2 | h2
                · exact HC.out j h2
                · rw [show j = i by omega]; exact h))
              have HLT := Aside0.mk (show i + 1 ≤ l.length from hlt)
              have HCK := Lib.hid (show chk l kind i = true ↔ ((rd_T41 l (i : Int)).f0.size ≤ 30 ∧ (rd_T41 l (i : Int)).f1.size ≤ 400 ∧ ((i = 0 → (rd_T41 l (i : Int)).f2 = 0) ∧ (i ≠ 0 → (rd_T41 l (i : Int)).f2 ≠ 0)) ∧ 0 ≤ (rd_T41 l (i : Int)).f2 ∧ (i = 0 ∨ (rd_T41 l (i : Int)).f2 ≤ lv l (i - 1) + 1) ∧ (2 ≤ kind ∨ (rd_T41 l (i : Int)).f2 ≤ kind)) from chk_iff l kind i)
              have HB2 := Gone.mk_ (show Below W.heap.size W (wr.alloc (.cells #[.string (rd_T41 l (i : Int)).f0, .string (rd_T41 l (i : Int)).f1, .int .i64 (rd_T41 l (i : Int)).f2] 41)) from HB.out.alloc HB.out.size _)
              have HXP := Aside0.mk (fun p (hp : i = p + 1) => show (0 ≤ lv l p ∧ lv l p ≤ 100) ∧ wr.cell? ⟨(ad.add (p * 3)).block, (ad.add (p * 3)).off + 2, none⟩ = some (.int .i64 (lv l p)) by
                have hlvp := chk_lv (l := l) (kind := kind) p (fun j hj => HC.out j (by omega))
                obtain ⟨ad2, he2, _, _, xp⟩ := at_T41 (Kd.C_below HR.out HB.out) (p : Int) (by omega) (by omega)
                cases he2
                rw [Int.toNat_natCast] at xp
                exact ⟨⟨hlvp.1, by omega⟩, xp⟩)
              generalize rd_T41 l (i : Int) = x at x0 x1 x2 HCK HB2
              go_wp2_with fail
              clear x0 x1 x2
              cases i with
              | zero =>
                have hcase : (30 < x.f0.size) ∨ (x.f0.size ≤ 30 ∧ 400 < x.f1.size) ∨ (x.f0.size ≤ 30 ∧ x.f1.size ≤ 400 ∧ x.f2 ≠ 0) ∨ (x.f0.size ≤ 30 ∧ x.f1.size ≤ 400 ∧ x.f2 = 0 ∧ kind < 2) ∨ (x.f0.size ≤ 30 ∧ x.f1.size ≤ 400 ∧ x.f2 = 0 ∧ 2 ≤ kind) := by omega
                have HCS := Aside0.mk hcase
                rcases hcase with hcase | hcase | hcase | hcase | hcase
                · have fa : decide ((30 : Int) < (x.f0.size : Int)) = true := decide_eq_true (by omega)
                  have HCX := Lib.hid hcase
                  clear hcase
                  go_quiet (fail)
                  go_wp2
                  go_ret
                  have hcase := HCX.out
                  exact ⟨by rw [HBADV.out (Bool.eq_false_iff.2 (fun h => by obtain ⟨q1, q2, q3, q4, q5, q6⟩ := HCK.out.1 h; have q7 := q3.1 (by first | trivial | rfl); omega))]; rfl, (HB2.outN _).out⟩
                · have fa : decide ((30 : Int) < (x.f0.size : Int)) = false := decide_eq_false (by omega)
                  have fbb : decide ((400 : Int) < (x.f1.size : Int)) = true := decide_eq_true (by omega)
                  have HCX := Lib.hid hcase
                  clear hcase
                  go_quiet (fail)
                  go_wp2
                  go_ret
                  have hcase := HCX.out
                  exact ⟨by rw [HBADV.out (Bool.eq_false_iff.2 (fun h => by obtain ⟨q1, q2, q3, q4, q5, q6⟩ := HCK.out.1 h; have q7 := q3.1 (by first | trivial | rfl); omega))]; rfl, (HB2.outN _).out⟩
                · have fa : decide ((30 : Int) < (x.f0.size : Int)) = false := decide_eq_false (by omega)
                  have fbb : decide ((400 : Int) < (x.f1.size : Int)) = false := decide_eq_false (by omega)
                  have fc : (x.f2 == 0) = false := beq_eq_false_iff_ne.2 (by omega)
                  have HCX := Lib.hid hcase
                  clear hcase
                  go_quiet (fail)
                  go_wp2
                  go_ret
                  have hcase := HCX.out
                  exact ⟨by rw [HBADV.out (Bool.eq_false_iff.2 (fun h => by obtain ⟨q1, q2, q3, q4, q5, q6⟩ := HCK.out.1 h; have q7 := q3.1 (by first | trivial | rfl); omega))]; rfl, (HB2.outN _).out⟩
                · have fa : decide ((30 : Int) < (x.f0.size : Int)) = false := decide_eq_false (by omega)
                  have fbb : decide ((400 : Int) < (x.f1.size : Int)) = false := decide_eq_false (by omega)
                  have fc : (x.f2 == 0) = true := beq_iff_eq.2 (by omega)
                  have fd : decide (x.f2 < 0) = false := decide_eq_false (by omega)
                  have fk : decide (kind < 2) = true := decide_eq_true (by omega)
                  have fm : decide (kind < x.f2) = false := decide_eq_false (by omega)
                  have HCX := Lib.hid hcase
                  clear hcase
                  go_quiet (fail)
                  go_wp2
                  have HTR := Aside0.mk (show chk l kind _ = true from HCK.out.2 (by have hcase := HCX.out; exact ⟨by omega, by omega, ⟨fun h => by omega, fun h => by omega⟩, by omega, by omega, by omega⟩))
                  go_roundw
                  case rel => exact ⟨_, HLT.out, by go_num, ⟨(HB2.outN _).out⟩, HNEXT.out HTR.out⟩
                  case measure => simp [intOf]; have := HLT.out; omega
                · have fa : decide ((30 : Int) < (x.f0.size : Int)) = false := decide_eq_false (by omega)
                  have fbb : decide ((400 : Int) < (x.f1.size : Int)) = false := decide_eq_false (by omega)
                  have fc : (x.f2 == 0) = true := beq_iff_eq.2 (by omega)
                  have fd : decide (x.f2 < 0) = false := decide_eq_false (by omega)
                  have fk : decide (kind < 2) = false := decide_eq_false (by omega)
                  have HCX := Lib.hid hcase
                  clear hcase
                  go_quiet (fail)
                  go_wp2
                  have HTR := Aside0.mk (show chk l kind _ = true from HCK.out.2 (by have hcase := HCX.out; exact ⟨by omega, by omega, ⟨fun h => by omega, fun h => by omega⟩, by omega, by omega, by omega⟩))
                  go_roundw
                  case rel => exact ⟨_, HLT.out, by go_num, ⟨(HB2.outN _).out⟩, HNEXT.out HTR.out⟩
                  case measure => simp [intOf]; have := HLT.out; omega
              | succ p =>
                obtain ⟨⟨hp1, hp2⟩, xp_⟩ := HXP.out p rfl
                have xp : (wr.alloc (.cells #[.string x.f0, .string x.f1, .int .i64 x.f2] 41)).cell? ⟨(ad.add (p * 3)).block, (ad.add (p * 3)).off + 2, none⟩ = some (.int .i64 (lv l p)) := Lib.cell?_alloc_some _ xp_
                clear xp_
                rw [Nat.add_sub_cancel] at HCK
                have hpz : (p : Int) < (l.length : Int) := by omega
                have hcase : (30 < x.f0.size) ∨ (x.f0.size ≤ 30 ∧ 400 < x.f1.size) ∨ (x.f0.size ≤ 30 ∧ x.f1.size ≤ 400 ∧ x.f2 = 0) ∨ (x.f0.size ≤ 30 ∧ x.f1.size ≤ 400 ∧ x.f2 < 0) ∨ (x.f0.size ≤ 30 ∧ x.f1.size ≤ 400 ∧ 0 < x.f2 ∧ lv l p + 1 < x.f2) ∨ (x.f0.size ≤ 30 ∧ x.f1.size ≤ 400 ∧ 0 < x.f2 ∧ x.f2 ≤ lv l p + 1 ∧ kind < 2 ∧ kind < x.f2) ∨ (x.f0.size ≤ 30 ∧ x.f1.size ≤ 400 ∧ 0 < x.f2 ∧ x.f2 ≤ lv l p + 1 ∧ kind < 2 ∧ x.f2 ≤ kind) ∨ (x.f0.size ≤ 30 ∧ x.f1.size ≤ 400 ∧ 0 < x.f2 ∧ x.f2 ≤ lv l p + 1 ∧ 2 ≤ kind) := by omega
                have HCS := Aside0.mk hcase
                rcases hcase with hcase | hcase | hcase | hcase | hcase | hcase | hcase | hcase
                · have fa : decide ((30 : Int) < (x.f0.size : Int)) = true := decide_eq_true (by omega)
                  have fp : ¬ ((p : Int) + 1 = 0) := by omega
                  have fi : decide ((0 : Int) < (p : Int) + 1) = true := decide_eq_true (by omega)
                  have fq : ((p : Int) + 1 == 0) = false := beq_eq_false_iff_ne.2 (by omega)
                  have hw1 : IntKind.i64.wrap (p : Int) = (p : Int) := by rw [IntKind.wrap_i64]; omega
                  have hw2 : IntKind.i64.wrap (lv l p + 1) = lv l p + 1 := by rw [IntKind.wrap_i64]; omega
                  have hpn : decide ((p : Int) < 0) = false := decide_eq_false (by omega)
                  have HCX := Lib.hid hcase
                  clear hcase
                  go_quiet (fail)
                  go_wp2
                  go_ret
                  have hcase := HCX.out
                  exact ⟨by rw [HBADV.out (Bool.eq_false_iff.2 (fun h => by obtain ⟨q1, q2, q3, q4, q5, q6⟩ := HCK.out.1 h; have q8 := q3.2 (by omega); omega))]; rfl, (HB2.outN _).out⟩
                · have fa : decide ((30 : Int) < (x.f0.size : Int)) = false := decide_eq_false (by omega)
                  have fbb : decide ((400 : Int) < (x.f1.size : Int)) = true := decide_eq_true (by omega)
                  have fp : ¬ ((p : Int) + 1 = 0) := by omega
                  have fi : decide ((0 : Int) < (p : Int) + 1) = true := decide_eq_true (by omega)
                  have fq : ((p : Int) + 1 == 0) = false := beq_eq_false_iff_ne.2 (by omega)
                  have hw1 : IntKind.i64.wrap (p : Int) = (p : Int) := by rw [IntKind.wrap_i64]; omega
                  have hw2 : IntKind.i64.wrap (lv l p + 1) = lv l p + 1 := by rw [IntKind.wrap_i64]; omega
                  have hpn : decide ((p : Int) < 0) = false := decide_eq_false (by omega)
                  have HCX := Lib.hid hcase
                  clear hcase
                  go_quiet (fail)
                  go_wp2
                  go_ret
                  have hcase := HCX.out
                  exact ⟨by rw [HBADV.out (Bool.eq_false_iff.2 (fun h => by obtain ⟨q1, q2, q3, q4, q5, q6⟩ := HCK.out.1 h; have q8 := q3.2 (by omega); omega))]; rfl, (HB2.outN _).out⟩
                · have fa : decide ((30 : Int) < (x.f0.size : Int)) = false := decide_eq_false (by omega)
                  have fbb : decide ((400 : Int) < (x.f1.size : Int)) = false := decide_eq_false (by omega)
                  have fc : (x.f2 == 0) = true := beq_iff_eq.2 (by omega)
                  have fp : ¬ ((p : Int) + 1 = 0) := by omega
                  have fi : decide ((0 : Int) < (p : Int) + 1) = true := decide_eq_true (by omega)
                  have fq : ((p : Int) + 1 == 0) = false := beq_eq_false_iff_ne.2 (by omega)
                  have hw1 : IntKind.i64.wrap (p : Int) = (p : Int) := by rw [IntKind.wrap_i64]; omega
                  have hw2 : IntKind.i64.wrap (lv l p + 1) = lv l p + 1 := by rw [IntKind.wrap_i64]; omega
                  have hpn : decide ((p : Int) < 0) = false := decide_eq_false (by omega)
                  have HCX := Lib.hid hcase
                  clear hcase
                  go_quiet (fail)
                  go_wp2
                  go_ret
                  have hcase := HCX.out
                  exact ⟨by rw [HBADV.out (Bool.eq_false_iff.2 (fun h => by obtain ⟨q1, q2, q3, q4, q5, q6⟩ := HCK.out.1 h; have q8 := q3.2 (by omega); omega))]; rfl, (HB2.outN _).out⟩
                · have fa : decide ((30 : Int) < (x.f0.size : Int)) = false := decide_eq_false (by omega)
                  have fbb : decide ((400 : Int) < (x.f1.size : Int)) = false := decide_eq_false (by omega)
                  have fc : (x.f2 == 0) = false := beq_eq_false_iff_ne.2 (by omega)
                  have fd : decide (x.f2 < 0) = true := decide_eq_true (by omega)
                  have fp : ¬ ((p : Int) + 1 = 0) := by omega
                  have fi : decide ((0 : Int) < (p : Int) + 1) = true := decide_eq_true (by omega)
                  have fq : ((p : Int) + 1 == 0) = false := beq_eq_false_iff_ne.2 (by omega)
                  have hw1 : IntKind.i64.wrap (p : Int) = (p : Int) := by rw [IntKind.wrap_i64]; omega
                  have hw2 : IntKind.i64.wrap (lv l p + 1) = lv l p + 1 := by rw [IntKind.wrap_i64]; omega
                  have hpn : decide ((p : Int) < 0) = false := decide_eq_false (by omega)
                  have HCX := Lib.hid hcase
                  clear hcase
                  go_quiet (fail)
                  go_wp2
                  go_ret
                  have hcase := HCX.out
                  exact ⟨by rw [HBADV.out (Bool.eq_false_iff.2 (fun h => by obtain ⟨q1, q2, q3, q4, q5, q6⟩ := HCK.out.1 h; have q8 := q3.2 (by omega); omega))]; rfl, (HB2.outN _).out⟩
                · have fa : decide ((30 : Int) < (x.f0.size : Int)) = false := decide_eq_false (by omega)
                  have fbb : decide ((400 : Int) < (x.f1.size : Int)) = false := decide_eq_false (by omega)
                  have fc : (x.f2 == 0) = false := beq_eq_false_iff_ne.2 (by omega)
                  have fd : decide (x.f2 < 0) = false := decide_eq_false (by omega)
                  have fe : decide (lv l p + 1 < x.f2) = true := decide_eq_true (by omega)
                  have fp : ¬ ((p : Int) + 1 = 0) := by omega
                  have fi : decide ((0 : Int) < (p : Int) + 1) = true := decide_eq_true (by omega)
                  have fq : ((p : Int) + 1 == 0) = false := beq_eq_false_iff_ne.2 (by omega)
                  have hw1 : IntKind.i64.wrap (p : Int) = (p : Int) := by rw [IntKind.wrap_i64]; omega
                  have hw2 : IntKind.i64.wrap (lv l p + 1) = lv l p + 1 := by rw [IntKind.wrap_i64]; omega
                  have hpn : decide ((p : Int) < 0) = false := decide_eq_false (by omega)
                  have HCX := Lib.hid hcase
                  clear hcase
                  go_quiet (fail)
                  go_wp2
                  go_ret
                  have hcase := HCX.out
                  exact ⟨by rw [HBADV.out (Bool.eq_false_iff.2 (fun h => by obtain ⟨q1, q2, q3, q4, q5, q6⟩ := HCK.out.1 h; have q8 := q3.2 (by omega); omega))]; rfl, (HB2.outN _).out⟩
                · have fa : decide ((30 : Int) < (x.f0.size : Int)) = false := decide_eq_false (by omega)
                  have fbb : decide ((400 : Int) < (x.f1.size : Int)) = false := decide_eq_false (by omega)
                  have fc : (x.f2 == 0) = false := beq_eq_false_iff_ne.2 (by omega)
                  have fd : decide (x.f2 < 0) = false := decide_eq_false (by omega)
                  have fe : decide (lv l p + 1 < x.f2) = false := decide_eq_false (by omega)
                  have fk : decide (kind < 2) = true := decide_eq_true (by omega)
                  have fm : decide (kind < x.f2) = true := decide_eq_true (by omega)
                  have fp : ¬ ((p : Int) + 1 = 0) := by omega
                  have fi : decide ((0 : Int) < (p : Int) + 1) = true := decide_eq_true (by omega)
                  have fq : ((p : Int) + 1 == 0) = false := beq_eq_false_iff_ne.2 (by omega)
                  have hw1 : IntKind.i64.wrap (p : Int) = (p : Int) := by rw [IntKind.wrap_i64]; omega
                  have hw2 : IntKind.i64.wrap (lv l p + 1) = lv l p + 1 := by rw [IntKind.wrap_i64]; omega
                  have hpn : decide ((p : Int) < 0) = false := decide_eq_false (by omega)
                  have HCX := Lib.hid hcase
                  clear hcase
                  go_quiet (fail)
                  go_wp2
                  go_ret
                  have hcase := HCX.out
                  exact ⟨by rw [HBADV.out (Bool.eq_false_iff.2 (fun h => by obtain ⟨q1, q2, q3, q4, q5, q6⟩ := HCK.out.1 h; have q8 := q3.2 (by omega); omega))]; rfl, (HB2.outN _).out⟩
                · have fa : decide ((30 : Int) < (x.f0.size : Int)) = false := decide_eq_false (by omega)
                  have fbb : decide ((400 : Int) < (x.f1.size : Int)) = false := decide_eq_false (by omega)
                  have fc : (x.f2 == 0) = false := beq_eq_false_iff_ne.2 (by omega)
                  have fd : decide (x.f2 < 0) = false := decide_eq_false (by omega)
                  have fe : decide (lv l p + 1 < x.f2) = false := decide_eq_false (by omega)
                  have fk : decide (kind < 2) = true := decide_eq_true (by omega)
                  have fm : decide (kind < x.f2) = false := decide_eq_false (by omega)
                  have fp : ¬ ((p : Int) + 1 = 0) := by omega
                  have fi : decide ((0 : Int) < (p : Int) + 1) = true := decide_eq_true (by omega)
                  have fq : ((p : Int) + 1 == 0) = false := beq_eq_false_iff_ne.2 (by omega)
                  have hw1 : IntKind.i64.wrap (p : Int) = (p : Int) := by rw [IntKind.wrap_i64]; omega
                  have hw2 : IntKind.i64.wrap (lv l p + 1) = lv l p + 1 := by rw [IntKind.wrap_i64]; omega
                  have hpn : decide ((p : Int) < 0) = false := decide_eq_false (by omega)
                  have HCX := Lib.hid hcase
                  clear hcase
                  go_quiet (fail)
                  go_wp2
                  have HTR := Aside0.mk (show chk l kind _ = true from HCK.out.2 (by have hcase := HCX.out; exact ⟨by omega, by omega, ⟨fun h => by omega, fun h => by omega⟩, by omega, by omega, by omega⟩))
                  go_roundw
                  case rel => exact ⟨_, HLT.out, by go_num, ⟨(HB2.outN _).out⟩, HNEXT.out HTR.out⟩
                  case measure => simp [intOf]; have := HLT.out; omega
                · have fa : decide ((30 : Int) < (x.f0.size : Int)) = false := decide_eq_false (by omega)
                  have fbb : decide ((400 : Int) < (x.f1.size : Int)) = false := decide_eq_false (by omega)
                  have fc : (x.f2 == 0) = false := beq_eq_false_iff_ne.2 (by omega)
                  have fd : decide (x.f2 < 0) = false := decide_eq_false (by omega)
                  have fe : decide (lv l p + 1 < x.f2) = false := decide_eq_false (by omega)
                  have fk : decide (kind < 2) = false := decide_eq_false (by omega)
                  have fp : ¬ ((p : Int) + 1 = 0) := by omega
                  have fi : decide ((0 : Int) < (p : Int) + 1) = true := decide_eq_true (by omega)
                  have fq : ((p : Int) + 1 == 0) = false := beq_eq_false_iff_ne.2 (by omega)
                  have hw1 : IntKind.i64.wrap (p : Int) = (p : Int) := by rw [IntKind.wrap_i64]; omega
                  have hw2 : IntKind.i64.wrap (lv l p + 1) = lv l p + 1 := by rw [IntKind.wrap_i64]; omega
                  have hpn : decide ((p : Int) < 0) = false := decide_eq_false (by omega)
                  have HCX := Lib.hid hcase
                  clear hcase
                  go_quiet (fail)
                  go_wp2
                  have HTR := Aside0.mk (show chk l kind _ = true from HCK.out.2 (by have hcase := HCX.out; exact ⟨by omega, by omega, ⟨fun h => by omega, fun h => by omega⟩, by omega, by omega, by omega⟩))
                  go_roundw
                  case rel => exact ⟨_, HLT.out, by go_num, ⟨(HB2.outN _).out⟩, HNEXT.out HTR.out⟩
                  case measure => simp [intOf]; have := HLT.out; omega
            · obtain rfl : i = l.length := by omega
              have HA1 := Aside0.mk (show okAll (chk l kind) l.length = true from okAll_true HC.out)
              have HLV := Aside0.mk (fun j (hj : j < l.length) => chk_lv (l := l) (kind := kind) j (fun q hq => HC.out q (by omega)))
              have hltz : ¬ (l.length : Int) < (l.length : Int) := by omega
              clear hlt
              go_wp2_with fail
              go_loopw [7, 8, 85] (fun _ _ s wr => ∃ i : Nat, i ≤ l.length ∧ s = .int .i64 i ∧ Aside0 (Below W.heap.size W wr) ∧ Aside0 (∀ j, j < i → kidsOk l j = true)) (fun _ _ s _ => l.length - (intOf s).toNat)
              case atStart => exact ⟨0, Nat.zero_le _, rfl, HB, ⟨fun j hj => absurd hj (Nat.not_lt_zero _)⟩⟩
              case round =>
                clear HB HC
                obtain ⟨i, hi, rfl, HB, HC⟩ := hrel
                by_cases hlt : i < l.length
                · have hltz : (i : Int) < (l.length : Int) := by omega
                  have hlvi := HLV.out i hlt
                  have CH := Aside0.mk (children_c A c i l _ (Kd.C_below HR.out HB.out) hc hlt (by omega) (by unfold wrap64; omega))
                  have HKI := Aside0.mk (kids_in hlt)
                  have HKL := Aside0.mk (kids_len hlt)
                  clear hlvi
                  go_wp2_with fail
                  refine CH.out.mono ?_
                  rintro e w4 ⟨v4, rfl, hr4, hb4⟩
                  have HB4 := Aside0.mk (show Below W.heap.size W w4 from HB.out.trans (hb4.mono HB.out.size))
                  have HR4 := Aside0.mk hr4
                  clear hb4 hr4 CH
                  obtain ⟨A6, c6, hv4⟩ := Kd.R_slice HR4.out
                  subst hv4
                  have HR5 := Aside0.mk (Kd.R_lower HR4.out (Nat.zero_le _))
                  have HBADV := Aside0.mk (fun (h : kidsOk l i = false) => show validB l kind = false by rw [HV.out, okAll_false hlt h, Bool.and_false])
                  have HKB : (kids l i).length ≤ 100 := Nat.le_trans HKL.out c4
                  generalize hks : kids l i = ks at HR5 HKI HKB
                  have HKS := Lib.hid hks
                  clear hks HR4 HKL
                  go_wp2_with fail
                  go_loopw [9, 93] (fun _ s wi => ∃ k : Nat, k ≤ ks.length ∧ s = .int .i64 k ∧ Aside0 (Below W.heap.size W wi) ∧ Aside0 (Kd.R (Kd.int .i64) 3 wi 0 (fun _ => True) (.slice A6 ks.length c6) ks) ∧ Aside0 (∀ q, q < k → clashB l (ks.take q) (rd_T41 l (ks.getD q 0)).f0 = false)) (fun _ s _ => ks.length - (intOf s).toNat)
                  case atStart => exact ⟨0, Nat.zero_le _, rfl, HB4, HR5, ⟨fun j hj => absurd hj (Nat.not_lt_zero _)⟩⟩
                  case round =>
                    clear HR5 HB4
                    obtain ⟨k, hk, rfl, HBI, HRI, HCI⟩ := hrel
                    by_cases hkl : k < ks.length
                    · obtain ⟨g6, c6', he6⟩ := ints_slice HRI.out (by omega)
                      injection he6 with he6 _ hc6
                      subst he6
                      subst hc6
                      obtain ⟨_, hkc, hC6⟩ := Kd.R_reads' HRI.out
                      obtain ⟨ad6, he, xk⟩ := at_int_nat hC6 k hkl
                      cases he
                      rw [add_plain] at xk
                      have hin := HKI.out (ks.getD k 0) (by rw [List.getD_eq_getElem?_getD, List.getElem?_eq_getElem hkl]; exact List.getElem_mem hkl)
                      obtain ⟨m, hm⟩ : ∃ m : Nat, ks.getD k 0 = (m : Int) := ⟨(ks.getD k 0).toNat, by omega⟩
                      rw [hm] at xk
                      obtain ⟨ad, rfl, y0, _, _⟩ := at_T41 (Kd.C_below HR.out HBI.out) (m : Int) (by omega) (by omega)
                      rw [Int.toNat_natCast] at y0
                      have hz0 : wr.cell? ⟨g6, k, none⟩ = some (.int .i64 (m : Int)) := xk
                      have hz1 : wr.cell? (ad.add (m * 3)) = some (.string (rd_T41 l (m : Int)).f0) := y0
                      have hkz : (k : Int) < (ks.length : Int) := by omega
                      have hkcz : (k : Int) ≤ (c6 : Int) := by omega
                      have hkcn : k ≤ c6 := by omega
                      have hmz : (m : Int) < (l.length : Int) := by omega
                      have HM := Lib.hid hm
                      have HIN := Aside0.mk HKI.out
                      clear xk y0 hin hm hC6
                      go_wp2_with fail
                      refine start_ (n := 13) (S := fun w' => w'.cell? ⟨g6, k, none⟩ = some (.int .i64 (m : Int)) ∧ w'.cell? (ad.add (m * 3)) = some (.string (rd_T41 l (m : Int)).f0)) (ds := [12]) #[false, false, false, false, false, false, false, false, false, false, false, false, false] (by kernel_rfl) rfl rfl ⟨hz0, hz1⟩ (fun hHeld => ?_)
                      refine with_tabW ValidW.tab16 ValidW.bits16 (fun HT_ HW_ => ?_)
                      have HWD := Aside0.mk (show Below W.heap.size W wr.drew from HBI.out.drew)
                      have HRD := Aside0.mk (fun (w9 : World) (hb : Below wr.drew.heap.size wr.drew w9) => Kd.R_below (Kd.R_drew HRI.out) hb)
                      generalize wr.drew = wd at HWD HRD hHeld ⊢
                      refine pure_ (i := 0) (N := some 96) (v := ?_) (a' := ?_) #[true, false, false, false, false, false, false, false, false, false, false, false, false] rfl rfl (any_of HT_.out (by kernel_rfl)) (fun _ _ _ h => h) (Or.inl ⟨by rfl, ?_⟩) ?_ ?_
                      rotate_left
                      · intro w'
                        go_simp
                        with_reducible rfl
                      rotate_left
                      · simp only [Act.put, List.setIfInBounds_toArray, List.set_cons_zero, List.set_cons_succ, i64_w, i32_w]
                        rfl
                      refine pure_ (i := 1) (N := some 97) (v := ?_) (a' := ?_) #[true, true, false, false, false, false, false, false, false, false, false, false, false] rfl rfl (any_of HT_.out (by kernel_rfl)) (fun _ _ _ h => h) (Or.inl ⟨by rfl, ?_⟩) ?_ ?_
                      rotate_left
                      · intro w'
                        go_simp
                        with_reducible rfl
                      rotate_left
                      · simp only [Act.put, List.setIfInBounds_toArray, List.set_cons_zero, List.set_cons_succ, i64_w, i32_w]
                        rfl
                      refine pure_ (i := 2) (N := some 98) (v := ?_) (a' := ?_) #[true, true, true, false, false, false, false, false, false, false, false, false, false] rfl rfl (any_of HT_.out (by kernel_rfl)) (fun _ _ _ h => h) (Or.inl ⟨by rfl, ?_⟩) ?_ ?_
                      rotate_left
                      · intro w'
                        go_simp
                        with_reducible rfl
                      rotate_left
                      · simp only [Act.put, List.setIfInBounds_toArray, List.set_cons_zero, List.set_cons_succ, i64_w, i32_w]
                        rfl
                      refine pure_ (i := 3) (N := some 99) (v := ?_) (a' := ?_) #[true, true, true, true, false, false, false, false, false, false, false, false, false] rfl rfl (any_of HT_.out (by kernel_rfl)) (fun _ _ _ h => h) (Or.inl ⟨by rfl, ?_⟩) ?_ ?_
                      rotate_left
                      · intro w'
                        go_simp
                        with_reducible rfl
                      rotate_left
                      · simp only [Act.put, List.setIfInBounds_toArray, List.set_cons_zero, List.set_cons_succ, i64_w, i32_w]
                        rfl
                      refine pure_ (i := 4) (N := some 100) (v := ?_) (a' := ?_) #[true, true, true, true, true, false, false, false, false, false, false, false, false] rfl rfl (any_of HT_.out (by kernel_rfl)) (fun _ _ _ h => h) (Or.inl ⟨by rfl, ?_⟩) ?_ ?_
                      rotate_left
                      · intro w'
                        go_simp
                        with_reducible rfl
                      rotate_left
                      · simp only [Act.put, List.setIfInBounds_toArray, List.set_cons_zero, List.set_cons_succ, i64_w, i32_w]
                        rfl
                      refine pure_ (i := 5) (N := some 101) (v := ?_) (a' := ?_) #[true, true, true, true, true, true, false, false, false, false, false, false, false] rfl rfl (any_of HT_.out (by kernel_rfl)) (fun _ _ _ h => h) (Or.inl ⟨by rfl, ?_⟩) ?_ ?_
                      rotate_left
                      · intro w'
                        go_simp
                        with_reducible rfl
                      rotate_left
                      · simp only [Act.put, List.setIfInBounds_toArray, List.set_cons_zero, List.set_cons_succ, i64_w, i32_w]
                        rfl
                      refine pure_ (i := 6) (N := some 102) (v := ?_) (a' := ?_) #[true, true, true, true, true, true, true, false, false, false, false, false, false] rfl rfl (any_of HT_.out (by kernel_rfl)) (fun _ _ _ h => h) (Or.inl ⟨by rfl, ?_⟩) ?_ ?_
                      rotate_left
                      · intro w'
                        go_simp
                        with_reducible rfl
                      rotate_left
                      · simp only [Act.put, List.setIfInBounds_toArray, List.set_cons_zero, List.set_cons_succ, i64_w, i32_w]
                        rfl
                      refine pure_ (i := 7) (N := some 103) (v := ?_) (a' := ?_) #[true, true, true, true, true, true, true, true, false, false, false, false, false] rfl rfl (any_of HT_.out (by kernel_rfl)) (fun _ _ _ h => h) (Or.inl ⟨by rfl, ?_⟩) ?_ ?_
                      rotate_left
                      · intro w'
                        go_simp
                        with_reducible rfl
                      rotate_left
                      · simp only [Act.put, List.setIfInBounds_toArray, List.set_cons_zero, List.set_cons_succ, i64_w, i32_w]
                        rfl
                      refine take_ (i := 8) (N := some 104) (v := ?_) (a' := ?_) #[true, true, true, true, true, true, true, true, true, false, false, false, false] rfl rfl (take_ofW HT_.out HW_.out (by kernel_rfl)) (fun _ _ _ h => h) (Or.inl ⟨by rfl, ?_⟩) hHeld ?_ ?_
                      rotate_left
                      · rintro w' ⟨s0, s1⟩
                        go_simp
                        with_reducible rfl
                      rotate_left
                      · simp only [Act.put, List.setIfInBounds_toArray, List.set_cons_zero, List.set_cons_succ, i64_w, i32_w]
                        rfl
                      refine pure_ (i := 9) (N := some 105) (v := ?_) (a' := ?_) #[true, true, true, true, true, true, true, true, true, true, false, false, false] rfl rfl (any_of HT_.out (by kernel_rfl)) (fun _ _ _ h => h) (Or.inl ⟨by rfl, ?_⟩) ?_ ?_
                      rotate_left
                      · intro w'
                        go_simp
                        with_reducible rfl
                      rotate_left
                      · simp only [Act.put, List.setIfInBounds_toArray, List.set_cons_zero, List.set_cons_succ, i64_w, i32_w]
                        rfl
                      refine pure_ (i := 10) (N := some 106) (v := ?_) (a' := ?_) #[true, true, true, true, true, true, true, true, true, true, true, false, false] rfl rfl (any_of HT_.out (by kernel_rfl)) (fun _ _ _ h => h) (Or.inl ⟨by rfl, ?_⟩) ?_ ?_
                      rotate_left
                      · intro w'
                        go_simp
                        with_reducible rfl
                      rotate_left
                      · simp only [Act.put, List.setIfInBounds_toArray, List.set_cons_zero, List.set_cons_succ, i64_w, i32_w]
                        rfl
                      refine take_ (i := 11) (N := some 107) (v := ?_) (a' := ?_) #[true, true, true, true, true, true, true, true, true, true, true, true, false] rfl rfl (take_ofW HT_.out HW_.out (by kernel_rfl)) (fun _ _ _ h => h) (Or.inl ⟨by rfl, ?_⟩) hHeld ?_ ?_
                      rotate_left
                      · rintro w' ⟨s0, s1⟩
                        go_simp
                        with_reducible rfl
                      rotate_left
                      · simp only [Act.put, List.setIfInBounds_toArray, List.set_cons_zero, List.set_cons_succ, i64_w, i32_w]
                        rfl
                      refine last_ (i := 12) (N := some 108) #[true, true, true, true, true, true, true, true, true, true, true, true, true] rfl rfl (one_of HT_.out (by kernel_rfl)) (by decide) (fun K hK => ?_)
                      refine goes_ Try.func29 (by kernel_rfl) rfl #[.slice (some ad) l.length c, .slice (some ⟨g6, 0, none⟩) k c6, .string (rd_T41 l (m : Int)).f0] (by rfl) rfl rfl (by (try simp only [List.map_toArray, List.map_cons, List.map_nil]); first | done | rfl | (simp only []; rfl)) ?_
                      with_reducible refine (clash_pre ad c g6 c6 k l ks _ W wd HR.out HWD.out hc (HRD.out wd (Below.refl _ _)) hk HIN.out).mono ?_
                      rintro e w9 ⟨rfl, hb9⟩
                      have HB9 := Aside0.mk (show Below W.heap.size W w9 from HWD.out.trans (hb9.mono HWD.out.size))
                      have HR9 := Aside0.mk (HRD.out w9 hb9)
                      clear hb9
                      refine ⟨_, rfl, ?_⟩
                      refine hK.out _ _ ?_
                      clear hK K
                      refine norm_ (a' := ?_) ?_ ?_
                      rotate_left
                      · show Act.put _ (some 108) _ = _
                        simp only [Act.put, List.setIfInBounds_toArray, List.set_cons_zero, List.set_cons_succ, i64_w, i32_w]
                        rfl
                      refine done_ (done_of HT_.out (by kernel_rfl)) ?_
                      cases hb : clashB l (ks.take k) (rd_T41 l (m : Int)).f0
                      · have HHB := Lib.hid hb
                        clear hb
                        go_wp2
                        go_roundw
                        case rel => exact ⟨k + 1, by omega, by go_num, HB9, ⟨Kd.R_mono HR9.out (fun _ _ => trivial)⟩, ⟨fun q hq => by
                          rcases Nat.lt_or_ge q k with h2 | h2
                          · exact HCI.out q h2
                          · obtain rfl : q = k := by omega
                            rw [HM.out]; exact HHB.out⟩⟩
                        case measure => simp [intOf]; omega
                      · have HHB := Lib.hid hb
                        clear hb
                        go_wp2
                        go_ret
                        exact ⟨by rw [HBADV.out (by unfold kidsOk; rw [HKS.out]; exact okAll_false hkl (by rw [HM.out, HHB.out]; rfl))]; rfl, HB9.out⟩
                    · obtain rfl : k = ks.length := by omega
                      have hkz : ¬ (ks.length : Int) < (ks.length : Int) := by omega
                      have HKO := Aside0.mk (show kidsOk l i = true by
                        unfold kidsOk
                        rw [HKS.out]
                        exact okAll_true (fun q hq => by rw [HCI.out q hq]; rfl))
                      clear hkl
                      go_wp2
                      go_roundw
                      case rel => exact ⟨i + 1, by omega, by go_num, HBI, ⟨fun j hj => by
                        rcases Nat.lt_or_ge j i with h2 | h2
                        · exact HC.out j h2
                        · rw [show j = i by omega]; exact HKO.out⟩⟩
                      case measure => simp [intOf]; omega
                · obtain rfl : i = l.length := by omega
                  have hltz : ¬ (l.length : Int) < (l.length : Int) := by omega
                  have HFIN := Aside0.mk (show validB l kind = true by rw [HV.out, HA1.out, okAll_true HC.out]; rfl)
                  clear hlt
                  go_wp2
                  go_ret
                  exact ⟨by rw [HFIN.out]; rfl, HB.out⟩
        · have b4 : decide ((100 : Int) < (l.length : Int)) = true := decide_eq_true (by omega)
          have HV : Aside0 (validB l kind = false) := ⟨by simp [validB, headOk, c4]⟩
          go_enter Try.func7, Try.ntmps7
          go_wp2
          go_ret
          exact ⟨by rw [HV.out]; rfl, Below.refl _ _⟩
      · have b3' : decide ((l.length : Int) < 1) = true := decide_eq_true (by omega)
        have HV : Aside0 (validB l kind = false) := ⟨by simp [validB, headOk, c3]⟩
        go_enter Try.func7, Try.ntmps7
        go_wp2
        go_ret
        exact ⟨by rw [HV.out]; rfl, Below.refl _ _⟩
    · have b2 : decide (2 < kind) = true := decide_eq_true (by omega)
      have HV : Aside0 (validB l kind = false) := ⟨by simp [validB, headOk, c2]⟩
      go_enter Try.func7, Try.ntmps7
      go_wp2
      go_ret
      exact ⟨by rw [HV.out]; rfl, Below.refl _ _⟩
  · have b1 : decide (kind < 0) = true := decide_eq_true (by omega)
    have HV : Aside0 (validB l kind = false) := ⟨by simp [validB, headOk, c1]⟩
    go_enter Try.func7, Try.ntmps7
    go_wp2
    go_ret
    exact ⟨by rw [HV.out]; rfl, Below.refl _ _⟩
end Go.Proofs.Ytehlmkgldcfciaa.Files
/- Children of units, plainly. -/
set_option linter.unusedVariables false
set_option linter.unusedSimpArgs false
namespace Go.Proofs.Ytehlmkgldcfciaa.Files
open Go.Proofs.Ytehlmkgldcfciaa.Common Go.Maps Go.ChangeMaps Go.WideMaps Go.Proofs.Ytehlmkgldcfciaa.F
open Go.RowKit Go.Proofs.YtehlmkgldcfciaaW.PrintWords Go.Proofs.YtehlmkgldcfciaaW.PrintLast Go.Proofs.YtehlmkgldcfciaaW.PrintMore
def nmP (l : List S41) (i : Nat) : ByteArray := (rd_T41 l (i : Int)).f0
/-! Where children stand. -/
theorem mem_kidsFrom (lev : Int) : ∀ (l : List S41) (i : Nat) (m : Int), m ∈ kidsFrom lev i l ↔ ∃ q : Nat, m = ((i + q : Nat) : Int) ∧ q < l.length ∧ (rd_T41 l (q : Int)).f2 = lev + 1 ∧ ∀ t, t ≤ q → (rd_T41 l (t : Int)).f2 > lev
  | [], i, m => by simp [kidsFrom]
  | u :: r, i, m => by
    have ih := mem_kidsFrom lev r (i + 1) m
    have h0 : rd_T41 (u :: r) ((0 : Nat) : Int) = u := rfl
    have hs : ∀ q : Nat, rd_T41 (u :: r) ((q + 1 : Nat) : Int) = rd_T41 r (q : Int) := fun q => by simp [rd_T41]
    have tail : u.f2 > lev → ((∃ q : Nat, m = ((i + 1 + q : Nat) : Int) ∧ q < r.length ∧ (rd_T41 r (q : Int)).f2 = lev + 1 ∧ ∀ t, t ≤ q → (rd_T41 r (t : Int)).f2 > lev) ↔ ∃ q : Nat, m = ((i + (q + 1) : Nat) : Int) ∧ q + 1 < (u :: r).length ∧ (rd_T41 (u :: r) ((q + 1 : Nat) : Int)).f2 = lev + 1 ∧ ∀ t, t ≤ q + 1 → (rd_T41 (u :: r) (t : Int)).f2 > lev) := fun hu => by
      constructor
      · rintro ⟨q, h1, h2, h3, h4⟩
        refine ⟨q, by rw [h1]; congr 1; omega, by simpa using h2, by rw [hs]; exact h3, fun t ht => ?_⟩
        cases t with
        | zero => rw [h0]; exact hu
        | succ t => rw [hs]; exact h4 t (by omega)
      · rintro ⟨q, h1, h2, h3, h4⟩
        rw [hs] at h3
        exact ⟨q, by rw [h1]; congr 1; omega, by simpa using h2, h3, fun t ht => by have := h4 (t + 1) (by omega); rwa [hs] at this⟩
    unfold kidsFrom
    by_cases hu : u.f2 > lev
    · rw [if_pos hu]
      by_cases he : u.f2 = lev + 1
      · rw [if_pos he, List.mem_cons, ih, tail hu]
        constructor
        · rintro (rfl | ⟨q, h⟩)
          · exact ⟨0, rfl, by simp, by rw [h0]; exact he, fun t ht => by rw [Nat.le_zero.1 ht]; exact hu⟩
          · exact ⟨q + 1, h⟩
        · rintro ⟨q, h1, h⟩
          cases q with
          | zero => exact .inl h1
          | succ q => exact .inr ⟨q, h1, h⟩
      · rw [if_neg he, ih, tail hu]
        constructor
        · rintro ⟨q, h⟩
          exact ⟨q + 1, h⟩
        · rintro ⟨q, h1, h2, h3, h4⟩
          cases q with
          | zero => exact absurd h3 (by rw [h0]; exact he)
          | succ q => exact ⟨q, h1, h2, h3, h4⟩
    · rw [if_neg hu]
      constructor
      · intro h; cases h
      · rintro ⟨q, _, _, _, h4⟩
        have := h4 0 (Nat.zero_le _)
        rw [h0] at this
        exact absurd this hu
theorem rd_drop (l : List S41) (a q : Nat) : rd_T41 (l.drop a) (q : Int) = rd_T41 l ((a + q : Nat) : Int) := by simp only [rd_T41, Int.toNat_natCast, List.getD_eq_getElem?_getD, List.getElem?_drop]
/-- A child: below, one level on, nothing as high between. -/
def Child (l : List S41) (p m : Nat) : Prop := p < m ∧ m < l.length ∧ lv l m = lv l p + 1 ∧ ∀ t, p < t → t ≤ m → lv l t > lv l p
theorem mem_kids (l : List S41) (p : Nat) (m : Int) : m ∈ kids l p ↔ ∃ q : Nat, m = (q : Int) ∧ Child l p q := by
  unfold kids
  rw [mem_kidsFrom]
  constructor
  · rintro ⟨q, h1, h2, h3, h4⟩
    rw [List.length_drop] at h2
    refine ⟨p + 1 + q, h1, by omega, by omega, ?_, fun t h5 h6 => ?_⟩
    · rw [rd_drop] at h3; exact h3
    · have := h4 (t - (p + 1)) (by omega)
      rw [rd_drop, show p + 1 + (t - (p + 1)) = t by omega] at this
      exact this
  · rintro ⟨q, h1, h2, h3, h4, h5⟩
    refine ⟨q - (p + 1), by rw [h1]; congr 1; omega, by rw [List.length_drop]; omega, ?_, fun t ht => ?_⟩
    · rw [rd_drop, show p + 1 + (q - (p + 1)) = q by omega]; exact h4
    · rw [rd_drop]; exact h5 _ (by omega) (by omega)
theorem kidsFrom_sorted (lev : Int) : ∀ (l : List S41) (i : Nat), (kidsFrom lev i l).Pairwise (· < ·)
  | [], i => List.Pairwise.nil
  | u :: r, i => by
    unfold kidsFrom
    have ih := kidsFrom_sorted lev r (i + 1)
    split
    · split
      · refine List.pairwise_cons.2 ⟨fun a ha => ?_, ih⟩
        have := kidsFrom_in lev (i + 1) r a ha
        omega
      · exact ih
    · exact List.Pairwise.nil
/-- No two children of one parent have one name that is not empty. -/
theorem kidsOk_iff (l : List S41) (p : Nat) : kidsOk l p = true ↔ ∀ m m' : Nat, Child l p m → Child l p m' → m' < m → nmP l m ≠ ⟨#[]⟩ → nmP l m' ≠ nmP l m := by
  have hs := kidsFrom_sorted (lv l p) (l.drop (p + 1)) (p + 1)
  unfold kidsOk
  rw [okAll_iff]
  constructor
  · intro h m m' hm hm' hlt hne he
    obtain ⟨k, hk, hkm⟩ := List.getElem_of_mem ((mem_kids l p (m : Int)).2 ⟨m, rfl, hm⟩)
    obtain ⟨k', hk', hkm'⟩ := List.getElem_of_mem ((mem_kids l p (m' : Int)).2 ⟨m', rfl, hm'⟩)
    have hkk : k' < k := by
      rcases Nat.lt_trichotomy k' k with h1 | h1 | h1
      · exact h1
      · subst h1; rw [hkm] at hkm'; omega
      · have := List.pairwise_iff_getElem.1 hs k k' hk hk' h1
        have e1 : (kidsFrom (lv l p) (p + 1) (l.drop (p + 1)))[k] = (m : Int) := hkm
        have e2 : (kidsFrom (lv l p) (p + 1) (l.drop (p + 1)))[k'] = (m' : Int) := hkm'
        rw [e1, e2] at this
        omega
    have h2 := h k hk
    rw [List.getD_eq_getElem?_getD, List.getElem?_eq_getElem hk] at h2
    simp only [Option.getD_some] at h2
    rw [hkm] at h2
    have h3 : clashB l ((kids l p).take k) (rd_T41 l (m : Int)).f0 = true := by
      unfold clashB
      rw [Bool.and_eq_true]
      refine ⟨by simpa [nmP] using hne, List.any_eq_true.2 ⟨(m' : Int), ?_, by simpa [nmP] using he⟩⟩
      rw [← hkm']
      exact List.mem_take_iff_getElem.2 ⟨k', by omega, rfl⟩
    rw [h3] at h2
    cases h2
  · intro h k hk
    rw [List.getD_eq_getElem?_getD, List.getElem?_eq_getElem hk]
    simp only [Option.getD_some]
    obtain ⟨m, hm, hc⟩ := (mem_kids l p _).1 (List.getElem_mem hk)
    rw [hm]
    cases hcl : clashB l ((kids l p).take k) (rd_T41 l (m : Int)).f0 with
    | false => rfl
    | true =>
      exfalso
      unfold clashB at hcl
      rw [Bool.and_eq_true] at hcl
      obtain ⟨x, hx, hxe⟩ := List.any_eq_true.1 hcl.2
      obtain ⟨k', hk', hkx⟩ := List.mem_take_iff_getElem.1 hx
      have hk'l : k' < (kids l p).length := by omega
      obtain ⟨m', hm', hc'⟩ := (mem_kids l p x).1 (by rw [← hkx]; exact List.getElem_mem hk'l)
      have hlt : x < (m : Int) := by
        have := List.pairwise_iff_getElem.1 hs k' k hk'l hk (by omega)
        rw [← hkx, ← hm]
        exact this
      rw [hm'] at hxe hlt
      exact h m m' hc hc' (by omega) (by simpa [nmP] using hcl.1) (by simpa [nmP] using hxe)
/-- Levels rise by one at most. -/
def Steps (l : List S41) : Prop := lv l 0 = 0 ∧ ∀ i, i < l.length → i ≠ 0 → 1 ≤ lv l i ∧ lv l i ≤ lv l (i - 1) + 1
/-- The parent of a unit. -/
theorem parent_of {l : List S41} (hs : Steps l) (i : Nat) (hi : i < l.length) : ∀ a : Nat, 0 < a → a ≤ i → (∀ t, a ≤ t → t ≤ i → lv l t ≥ lv l i) → ∃ p, p < a ∧ lv l i = lv l p + 1 ∧ ∀ t, p < t → t ≤ i → lv l t > lv l p
  | 0, h, _, _ => absurd h (Nat.lt_irrefl _)
  | a + 1, _, hai, hall => by
    have h1 := hs.2 (a + 1) (by omega) (by omega)
    rw [Nat.add_sub_cancel] at h1
    have h2 := hall (a + 1) (Nat.le_refl _) hai
    by_cases h : lv l a < lv l i
    · exact ⟨a, by omega, by omega, fun t ht hti => by have := hall t (by omega) hti; omega⟩
    · have hi1 := (hs.2 i hi (by omega)).1
      have ha : 0 < a := by
        rcases Nat.eq_zero_or_pos a with e | e
        · rw [e, hs.1] at h; omega
        · exact e
      obtain ⟨p, hp, h3, h4⟩ := parent_of hs i hi a ha (by omega) (fun t ht hti => by
        rcases Nat.lt_or_ge a t with h5 | h5
        · exact hall t (by omega) hti
        · obtain rfl : t = a := by omega
          omega)
      exact ⟨p, by omega, h3, h4⟩
end Go.Proofs.Ytehlmkgldcfciaa.Files
/- Units stay valid: plain law. -/
set_option linter.unusedVariables false
set_option linter.unusedSimpArgs false
namespace Go.Proofs.Ytehlmkgldcfciaa.Files
open Go.Proofs.Ytehlmkgldcfciaa.Common Go.Maps Go.ChangeMaps Go.WideMaps Go.Proofs.Ytehlmkgldcfciaa.F
open Go.RowKit Go.Proofs.YtehlmkgldcfciaaW.PrintWords Go.Proofs.YtehlmkgldcfciaaW.PrintLast Go.Proofs.YtehlmkgldcfciaaW.PrintMore
/-- Two units of one level with nothing higher between. -/
def Sib (l : List S41) (j i : Nat) : Prop := j < i ∧ i < l.length ∧ lv l j = lv l i ∧ ∀ t, j < t → t < i → lv l i ≤ lv l t
structure VOk (l : List S41) (kind : Int) : Prop where
  k0 : 0 ≤ kind ∧ kind ≤ 2
  len : 1 ≤ l.length ∧ l.length ≤ 100
  cell : ∀ i, i < l.length → (rd_T41 l (i : Int)).f0.size ≤ 30 ∧ (rd_T41 l (i : Int)).f1.size ≤ 400
  steps : Steps l
  top : kind < 2 → ∀ i, i < l.length → lv l i ≤ kind
  names : ∀ j i, Sib l j i → nmP l i ≠ ⟨#[]⟩ → nmP l j ≠ nmP l i
theorem steps_of_chk {l : List S41} {kind : Int} (h0 : 1 ≤ l.length) (h : ∀ i, i < l.length → chk l kind i = true) : Steps l :=
  ⟨((chk_iff l kind 0).1 (h 0 (by omega))).2.2.1.1 rfl, fun i hi hne => by
    obtain ⟨_, _, ⟨_, a3⟩, a4, a5, _⟩ := (chk_iff l kind i).1 (h i hi)
    have b3 : lv l i ≠ 0 := a3 hne
    have b4 : 0 ≤ lv l i := a4
    have b5 : i = 0 ∨ lv l i ≤ lv l (i - 1) + 1 := a5
    omega⟩
theorem VOk.valid {l : List S41} {kind : Int} (h : VOk l kind) : validB l kind = true := by
  unfold validB headOk
  simp only [Bool.and_eq_true, decide_eq_true_eq, okAll_iff]
  refine ⟨⟨⟨⟨⟨h.k0.1, h.k0.2⟩, h.len.1⟩, h.len.2⟩, fun i hi => ?_⟩, fun p hp => (kidsOk_iff l p).2 (fun m m' hm hm' hlt hne => ?_)⟩
  · rw [chk_iff]
    refine ⟨(h.cell i hi).1, (h.cell i hi).2, ⟨fun e => ?_, fun e => ?_⟩, ?_, ?_, ?_⟩
    · subst e; exact h.steps.1
    · have := (h.steps.2 i hi e).1
      show lv l i ≠ 0
      omega
    · show 0 ≤ lv l i
      by_cases e : i = 0
      · subst e; rw [h.steps.1]; exact Int.le_refl _
      · have := (h.steps.2 i hi e).1; omega
    · by_cases e : i = 0
      · exact .inl e
      · exact .inr (h.steps.2 i hi e).2
    · by_cases e : kind < 2
      · exact .inr (h.top e i hi)
      · exact .inl (by omega)
  · refine h.names m' m ⟨hlt, hm.2.1, by rw [hm.2.2.1, hm'.2.2.1], fun t h1 h2 => ?_⟩ hne
    have := hm.2.2.2 t (by have := hm'.1; omega) (by omega)
    have := hm.2.2.1
    omega
theorem VOk.of_valid {l : List S41} {kind : Int} (h : validB l kind = true) : VOk l kind := by
  unfold validB headOk at h
  simp only [Bool.and_eq_true, decide_eq_true_eq, okAll_iff] at h
  obtain ⟨⟨⟨⟨⟨h1, h2⟩, h3⟩, h4⟩, h5⟩, h6⟩ := h
  have hs := steps_of_chk h3 h5
  refine ⟨⟨h1, h2⟩, ⟨h3, h4⟩, fun i hi => ⟨((chk_iff l kind i).1 (h5 i hi)).1, ((chk_iff l kind i).1 (h5 i hi)).2.1⟩, hs, fun hk i hi => ?_, fun j i hji hne => ?_⟩
  · have := ((chk_iff l kind i).1 (h5 i hi)).2.2.2.2.2
    have b : 2 ≤ kind ∨ lv l i ≤ kind := this
    omega
  · obtain ⟨d1, d2, d3, d4⟩ := hji
    have hj0 : 0 < j := by
      rcases Nat.eq_zero_or_pos j with e | e
      · subst e
        rw [hs.1] at d3
        have := (hs.2 i d2 (by omega)).1
        omega
      · exact e
    have hall : ∀ t, j ≤ t → t ≤ i → lv l t ≥ lv l i := fun t ht hti => by
      rcases Nat.lt_or_ge j t with h7 | h7
      · rcases Nat.lt_or_ge t i with h8 | h8
        · exact d4 t h7 h8
        · obtain rfl : t = i := by omega
          exact Int.le_refl _
      · obtain rfl : t = j := by omega
        omega
    obtain ⟨p, p1, p2, p3⟩ := parent_of hs i d2 j hj0 (by omega) hall
    exact (kidsOk_iff l p).1 (h6 p (by omega)) i j ⟨by omega, d2, p2, p3⟩ ⟨p1, by omega, by omega, fun t h7 h8 => p3 t h7 (by omega)⟩ d1 hne
theorem lv_bound {l : List S41} (hs : Steps l) : ∀ i, i < l.length → 0 ≤ lv l i ∧ lv l i ≤ i
  | 0, _ => by rw [hs.1]; omega
  | i + 1, h => by
    have ih := lv_bound hs i (by omega)
    have := hs.2 (i + 1) h (by omega)
    rw [Nat.add_sub_cancel] at this
    omega
theorem VOk.uok {l : List S41} {kind : Int} (h : VOk l kind) : UOk l :=
  uok_of h.len.1 h.len.2 (fun x hx => by
    obtain ⟨i, hi, rfl⟩ := List.getElem_of_mem hx
    have := lv_bound h.steps i hi
    unfold lv at this
    rw [rd_get l i hi] at this
    have := h.len.2
    omega) h.steps.1
theorem VOk.data {l : List S41} {kind : Int} (h : VOk l kind) : ∀ x ∈ l, x.f1.size ≤ 400 := fun x hx => by
  obtain ⟨i, hi, rfl⟩ := List.getElem_of_mem hx
  have := (h.cell i hi).2
  rwa [rd_get l i hi] at this
theorem VOk.wide {l : List S41} {kind : Int} (h : VOk l kind) : VOk l 2 := ⟨by omega, h.len, h.cell, h.steps, fun h => by omega, h.names⟩
/-! What is below a unit. -/
theorem rd_cons (u : S41) (r : List S41) (q : Nat) : rd_T41 (u :: r) ((q + 1 : Nat) : Int) = rd_T41 r (q : Int) := by simp [rd_T41]
theorem runLen_lt (lev : Int) : ∀ (l : List S41) (q : Nat), q < runLen lev l → (rd_T41 l (q : Int)).f2 > lev
  | [], q, h => absurd h (Nat.not_lt_zero _)
  | u :: r, q, h => by
    rw [runLen_cons] at h
    split at h
    · rename_i c
      cases q with
      | zero => exact c
      | succ q => rw [rd_cons]; exact runLen_lt lev r q (by omega)
    · omega
theorem runLen_at (lev : Int) : ∀ (l : List S41), runLen lev l < l.length → (rd_T41 l (runLen lev l : Int)).f2 ≤ lev
  | [], h => absurd h (Nat.not_lt_zero _)
  | u :: r, h => by
    rw [runLen_cons] at h ⊢
    split at h
    · rename_i c
      rw [if_pos c]
      rw [rd_cons]
      exact runLen_at lev r (by simpa using h)
    · rename_i c
      rw [if_neg c]
      show u.f2 ≤ lev
      omega
theorem endOf_in {l : List S41} {i t : Nat} (h1 : i < t) (h2 : t < endOf l i) : lv l t > lv l i := by
  have := runLen_lt (lv l i) (l.drop (i + 1)) (t - (i + 1)) (by unfold endOf at h2; omega)
  rw [rd_drop, show i + 1 + (t - (i + 1)) = t by omega] at this
  exact this
theorem endOf_at {l : List S41} {i : Nat} (h : endOf l i < l.length) : lv l (endOf l i) ≤ lv l i := by
  have := runLen_at (lv l i) (l.drop (i + 1)) (by rw [List.length_drop]; unfold endOf at h; omega)
  rw [rd_drop] at this
  exact this
/-! A unit put in. -/
theorem rd_ins (l : List S41) (e : Nat) (x : S41) (he : e ≤ l.length) (t : Nat) : rd_T41 (l.take e ++ x :: l.drop e) (t : Int) = if t < e then rd_T41 l (t : Int) else if t = e then x else rd_T41 l ((t - 1 : Nat) : Int) := by
  simp only [rd_T41, Int.toNat_natCast, List.getD_eq_getElem?_getD]
  by_cases h1 : t < e
  · rw [if_pos h1, List.getElem?_append_left (by rw [List.length_take]; omega), List.getElem?_take_of_lt h1]
  · rw [if_neg h1, List.getElem?_append_right (by rw [List.length_take]; omega), List.length_take, Nat.min_eq_left he]
    by_cases h2 : t = e
    · rw [if_pos h2, h2, Nat.sub_self]; rfl
    · rw [if_neg h2, show t - e = (t - 1 - e) + 1 by omega, List.getElem?_cons_succ, List.getElem?_drop, show e + (t - 1 - e) = t - 1 by omega]
theorem aboveOf_in (l : List S41) (lev : Int) : ∀ i t, aboveOf l lev i < t → t ≤ i → lv l t ≥ lev
  | 0, t, h1, h2 => by simp only [aboveOf] at h1; omega
  | i + 1, t, h1, h2 => by
    unfold aboveOf at h1
    split at h1
    · rename_i c
      rcases Nat.lt_or_ge i t with h | h
      · obtain rfl : t = i + 1 := by omega
        exact c
      · exact aboveOf_in l lev i t h1 h
    · omega
theorem aboveOf_at (l : List S41) (lev : Int) (h0 : lv l 0 < lev) : ∀ i, lv l (aboveOf l lev i) < lev
  | 0 => h0
  | i + 1 => by
    unfold aboveOf
    split
    · exact aboveOf_at l lev h0 i
    · omega
theorem aboveOf_lv {l : List S41} {lev : Int} (hs : Steps l) (h0 : 1 ≤ lev) {i : Nat} (hi : i < l.length) (hlev : lev ≤ lv l i + 1) : lv l (aboveOf l lev i) = lev - 1 := by
  have h1 := aboveOf_at l lev (by rw [hs.1]; omega) i
  have h2 := aboveOf_le l lev i
  have h3 := aboveOf_in l lev i
  generalize aboveOf l lev i = p at h1 h2 h3
  by_cases e : p = i
  · subst e; omega
  · have := h3 (p + 1) (by omega) (by omega)
    have := hs.2 (p + 1) (by omega) (by omega)
    rw [Nat.add_sub_cancel] at this
    omega
theorem clash_no {l : List S41} {at_ : List Int} {a : ByteArray} (h : clashB l at_ a = false) (ha : a ≠ ⟨#[]⟩) {q : Nat} (hq : (q : Int) ∈ at_) : nmP l q ≠ a := by
  intro e
  unfold clashB at h
  rw [Bool.and_eq_false_iff] at h
  rcases h with h | h
  · simp [ha] at h
  · rw [List.any_eq_false] at h
    have := h _ hq
    simp [nmP] at e
    simp [e] at this
theorem VOk.ins {l : List S41} {kind : Int} (h : VOk l kind) {i : Nat} (hi : i < l.length) {child : Bool} {a b : ByteArray} (ha : a.size ≤ 30) (hb : b.size ≤ 400) (hbad : insBad kind (insLev l i child) = false)
    (hcl : clashB l (kids l (aboveOf l (insLev l i child) i)) a = false) (hfull : l.length < 100) : VOk (l.take (endOf l i) ++ ⟨a, b, insLev l i child⟩ :: l.drop (endOf l i)) kind := by
  have he := endOf_le hi
  have hin : ∀ t, i < t → t < endOf l i → lv l t > lv l i := fun t => endOf_in
  have hat : endOf l i < l.length → lv l (endOf l i) ≤ lv l i := endOf_at
  have hb0 := lv_bound h.steps i hi
  have hlev : insLev l i child = lv l i ∨ insLev l i child = lv l i + 1 := by unfold insLev; cases child <;> simp
  unfold insBad at hbad
  rw [Bool.or_eq_false_iff] at hbad
  have hl0 : insLev l i child ≠ 0 := by simpa using hbad.1
  have hlk : kind < 2 → insLev l i child ≤ kind := fun hk => by
    have := hbad.2
    simp only [Bool.and_eq_false_iff, decide_eq_false_iff_not] at this
    omega
  have hp := aboveOf_lv (lev := insLev l i child) h.steps (by omega) hi (by omega)
  have hp1 := aboveOf_le l (insLev l i child) i
  have hp2 := aboveOf_in l (insLev l i child) i
  clear hbad
  generalize insLev l i child = lev at *
  generalize aboveOf l lev i = p at *
  generalize endOf l i = e at *
  have hrd := rd_ins l e ⟨a, b, lev⟩ he.2
  have hlv : ∀ t, lv (l.take e ++ ⟨a, b, lev⟩ :: l.drop e) t = if t < e then lv l t else if t = e then lev else lv l (t - 1) := fun t => by
    unfold lv
    rw [hrd]
    split
    · rfl
    · split <;> rfl
  have hnm : ∀ t, nmP (l.take e ++ ⟨a, b, lev⟩ :: l.drop e) t = if t < e then nmP l t else if t = e then a else nmP l (t - 1) := fun t => by
    unfold nmP
    rw [hrd]
    split
    · rfl
    · split <;> rfl
  have hlen : (l.take e ++ ⟨a, b, lev⟩ :: l.drop e).length = l.length + 1 := by simp; omega
  generalize l.take e ++ ⟨a, b, lev⟩ :: l.drop e = l' at *
  refine ⟨h.k0, ⟨by omega, by omega⟩, fun t ht => ?_, ⟨?_, fun t ht hne => ?_⟩, fun hk t ht => ?_, fun j k hjk hne => ?_⟩
  · rw [hrd]
    split
    · exact h.cell t (by omega)
    · split
      · exact ⟨ha, hb⟩
      · exact h.cell (t - 1) (by omega)
  · rw [hlv, if_pos (by omega)]; exact h.steps.1
  · rw [hlv, hlv]
    by_cases h1 : t < e
    · rw [if_pos h1, if_pos (by omega)]
      exact h.steps.2 t (by omega) hne
    · rw [if_neg h1]
      by_cases h2 : t = e
      · rw [if_pos h2, if_pos (by omega)]
        by_cases h3 : t - 1 = i
        · rw [h3]; omega
        · have := hin (t - 1) (by omega) (by omega); omega
      · rw [if_neg h2, if_neg (by omega)]
        by_cases h3 : t - 1 = e
        · rw [if_pos h3]
          have h4 := hat (by omega)
          rw [← h3] at h4
          have h5 := h.steps.2 (t - 1) (by omega) (by omega)
          omega
        · rw [if_neg h3]
          exact h.steps.2 (t - 1) (by omega) (by omega)
  · rw [hlv]
    split
    · exact h.top hk t (by omega)
    · split
      · exact hlk hk
      · exact h.top hk (t - 1) (by omega)
  · obtain ⟨d1, d2, d3, d4⟩ := hjk
    rw [hlv, hlv] at d3
    have d4' : ∀ t, j < t → t < k → (if k < e then lv l k else if k = e then lev else lv l (k - 1)) ≤ (if t < e then lv l t else if t = e then lev else lv l (t - 1)) := fun t h1 h2 => by
      have := d4 t h1 h2
      rwa [hlv, hlv] at this
    clear d4
    rw [hnm] at hne ⊢
    rw [hnm]
    by_cases hk1 : k < e
    · rw [if_pos hk1] at hne ⊢ d3
      rw [if_pos (by omega)] at d3 ⊢
      refine h.names j k ⟨d1, by omega, d3, fun t h1 h2 => ?_⟩ hne
      have := d4' t h1 h2
      rwa [if_pos hk1, if_pos (by omega)] at this
    · rw [if_neg hk1] at hne ⊢ d3
      by_cases hk2 : k = e
      · rw [if_pos hk2] at hne ⊢ d3
        rw [if_pos (by omega)] at d3 ⊢
        have hge : ∀ t, j ≤ t → t < e → lev ≤ lv l t := fun t h1 h2 => by
          rcases Nat.lt_or_ge j t with h3 | h3
          · have := d4' t h3 (by omega)
            rwa [if_neg hk1, if_pos hk2, if_pos h2] at this
          · obtain rfl : t = j := by omega
            omega
        have hpj : p < j := by
          rcases Nat.lt_or_ge p j with h3 | h3
          · exact h3
          · have := hge p h3 (by omega); omega
        refine clash_no hcl hne ((mem_kids l p _).2 ⟨j, rfl, hpj, by omega, by omega, fun t h1 h2 => ?_⟩)
        rcases Nat.lt_or_ge i t with h3 | h3
        · have := hin t h3 (by omega)
          rcases Nat.lt_or_ge t j with h4 | h4
          · omega
          · have := hge t h4 (by omega); omega
        · have := hp2 t h1 h3; omega
      · rw [if_neg hk2] at hne ⊢ d3
        by_cases hj1 : j < e
        · rw [if_pos hj1] at d3 ⊢
          refine h.names j (k - 1) ⟨by omega, by omega, d3, fun t h1 h2 => ?_⟩ hne
          by_cases ht : t < e
          · have := d4' t h1 (by omega)
            rwa [if_neg hk1, if_neg hk2, if_pos ht] at this
          · have := d4' (t + 1) (by omega) (by omega)
            rwa [if_neg hk1, if_neg hk2, if_neg (by omega), if_neg (by omega), Nat.add_sub_cancel] at this
        · rw [if_neg hj1] at d3 ⊢
          by_cases hj2 : j = e
          · rw [if_pos hj2] at d3 ⊢
            intro hname
            have hge : ∀ t, e ≤ t → t ≤ k - 1 → lev ≤ lv l t := fun t h1 h2 => by
              rcases Nat.lt_or_ge t (k - 1) with h3 | h3
              · have := d4' (t + 1) (by omega) (by omega)
                rw [if_neg hk1, if_neg hk2, if_neg (by omega), if_neg (by omega), Nat.add_sub_cancel] at this
                omega
              · obtain rfl : t = k - 1 := by omega
                omega
            have h5 := hat (by omega)
            have h6 := hge e (Nat.le_refl _) (by omega)
            refine clash_no hcl (by rw [hname]; exact hne) ((mem_kids l p _).2 ⟨k - 1, rfl, by omega, by omega, by omega, fun t h1 h2 => ?_⟩) hname.symm
            rcases Nat.lt_or_ge i t with h3 | h3
            · rcases Nat.lt_or_ge t e with h4 | h4
              · have := hin t h3 h4; omega
              · have := hge t h4 h2; omega
            · have := hp2 t h1 h3; omega
          · rw [if_neg hj2] at d3 ⊢
            refine h.names (j - 1) (k - 1) ⟨by omega, by omega, d3, fun t h1 h2 => ?_⟩ hne
            have := d4' (t + 1) (by omega) (by omega)
            rwa [if_neg hk1, if_neg hk2, if_neg (by omega), if_neg (by omega), Nat.add_sub_cancel] at this
/-! A unit taken out, with all that is below it. -/
theorem rd_era (l : List S41) (i e : Nat) (hi : i ≤ l.length) (t : Nat) : rd_T41 (l.take i ++ l.drop e) (t : Int) = if t < i then rd_T41 l (t : Int) else rd_T41 l ((t - i + e : Nat) : Int) := by
  simp only [rd_T41, Int.toNat_natCast, List.getD_eq_getElem?_getD]
  by_cases h1 : t < i
  · rw [if_pos h1, List.getElem?_append_left (by rw [List.length_take]; omega), List.getElem?_take_of_lt h1]
  · rw [if_neg h1, List.getElem?_append_right (by rw [List.length_take]; omega), List.length_take, Nat.min_eq_left hi, List.getElem?_drop, Nat.add_comm]
theorem VOk.era {l : List S41} {kind : Int} (h : VOk l kind) {i : Nat} (hi : i < l.length) (h0 : i ≠ 0) : VOk (l.take i ++ l.drop (endOf l i)) kind := by
  have he := endOf_le hi
  have hin : ∀ t, i < t → t < endOf l i → lv l t > lv l i := fun t => endOf_in
  have hat : endOf l i < l.length → lv l (endOf l i) ≤ lv l i := endOf_at
  have hsi := h.steps.2 i hi h0
  generalize endOf l i = e at *
  have hrd := rd_era l i e (by omega)
  have hlv : ∀ t, lv (l.take i ++ l.drop e) t = if t < i then lv l t else lv l (t - i + e) := fun t => by
    unfold lv
    rw [hrd]
    split <;> rfl
  have hnm : ∀ t, nmP (l.take i ++ l.drop e) t = if t < i then nmP l t else nmP l (t - i + e) := fun t => by
    unfold nmP
    rw [hrd]
    split <;> rfl
  have hlen : (l.take i ++ l.drop e).length = i + (l.length - e) := by simp; omega
  have hl := h.len
  generalize l.take i ++ l.drop e = l' at *
  refine ⟨h.k0, ⟨by omega, by omega⟩, fun t ht => ?_, ⟨?_, fun t ht hne => ?_⟩, fun hk t ht => ?_, fun j k hjk hne => ?_⟩
  · rw [hrd]
    split
    · exact h.cell t (by omega)
    · exact h.cell _ (by omega)
  · rw [hlv, if_pos (by omega)]; exact h.steps.1
  · rw [hlv, hlv]
    by_cases h1 : t < i
    · rw [if_pos h1, if_pos (by omega)]
      exact h.steps.2 t (by omega) hne
    · rw [if_neg h1]
      have h5 := h.steps.2 (t - i + e) (by omega) (by omega)
      by_cases h2 : t = i
      · rw [if_pos (by omega)]
        have h4 := hat (by omega)
        rw [show t - i + e = e by omega] at h5 ⊢
        rw [h2]
        omega
      · rw [if_neg (by omega), show t - 1 - i + e = t - i + e - 1 by omega]
        exact h5
  · rw [hlv]
    split
    · exact h.top hk t (by omega)
    · exact h.top hk _ (by omega)
  · obtain ⟨d1, d2, d3, d4⟩ := hjk
    rw [hlv, hlv] at d3
    have d4' : ∀ t, j < t → t < k → (if k < i then lv l k else lv l (k - i + e)) ≤ (if t < i then lv l t else lv l (t - i + e)) := fun t h1 h2 => by
      have := d4 t h1 h2
      rwa [hlv, hlv] at this
    clear d4
    rw [hnm] at hne ⊢
    rw [hnm]
    by_cases hk1 : k < i
    · rw [if_pos hk1] at hne ⊢ d3
      rw [if_pos (by omega)] at d3 ⊢
      refine h.names j k ⟨d1, by omega, d3, fun t h1 h2 => ?_⟩ hne
      have := d4' t h1 h2
      rwa [if_pos hk1, if_pos (by omega)] at this
    · rw [if_neg hk1] at hne ⊢ d3
      have back : ∀ t, e ≤ t → t < k - i + e → j < t - e + i → lv l (k - i + e) ≤ lv l t := fun t h1 h2 h3 => by
        have := d4' (t - e + i) h3 (by omega)
        rwa [if_neg hk1, if_neg (by omega), show t - e + i - i + e = t by omega] at this
      by_cases hj1 : j < i
      · rw [if_pos hj1] at d3 ⊢
        have hle : lv l (k - i + e) ≤ lv l i := by
          have h4 := hat (by omega)
          by_cases h6 : k = i
          · rw [show k - i + e = e by omega]; exact h4
          · have := back e (Nat.le_refl _) (by omega) (by omega); omega
        refine h.names j (k - i + e) ⟨by omega, by omega, d3, fun t h1 h2 => ?_⟩ hne
        rcases Nat.lt_or_ge t i with h7 | h7
        · have := d4' t h1 (by omega)
          rwa [if_neg hk1, if_pos h7] at this
        · rcases Nat.lt_or_ge t e with h8 | h8
          · by_cases h9 : t = i
            · rw [h9]; exact hle
            · have := hin t (by omega) h8; omega
          · exact back t h8 h2 (by omega)
      · rw [if_neg hj1] at d3 ⊢
        exact h.names _ (k - i + e) ⟨by omega, by omega, d3, fun t h1 h2 => back t (by omega) h2 (by omega)⟩ hne
theorem VOk.one (kind : Int) (hk : 0 ≤ kind ∧ kind ≤ 2) : VOk [z41] kind := by
  have h0 : lv [z41] 0 = 0 := rfl
  refine ⟨hk, ⟨by simp, by simp⟩, fun i hi => ?_, ⟨h0, fun i hi hne => ?_⟩, fun h i hi => ?_, fun j i hji _ => ?_⟩
  · obtain rfl : i = 0 := by simpa using hi
    exact ⟨by decide, by decide⟩
  · have : i = 0 := by simpa using hi
    exact absurd this hne
  · obtain rfl : i = 0 := by simpa using hi
    rw [h0]; exact hk.1
  · have h1 : i = 0 := by simpa using hji.2.1
    have := hji.1
    omega
theorem rd_data (l : List S41) (i : Nat) (d : ByteArray) (hi : i < l.length) (t : Nat) : rd_T41 (withData l i d) (t : Int) = if t = i then ⟨(rd_T41 l (i : Int)).f0, d, (rd_T41 l (i : Int)).f2⟩ else rd_T41 l (t : Int) := by
  unfold withData
  simp only [rd_T41, Int.toNat_natCast, List.getD_eq_getElem?_getD, List.getElem?_set]
  by_cases h : t = i
  · subst h
    rw [if_pos rfl, if_pos hi, if_pos rfl]; rfl
  · rw [if_neg (fun e => h e.symm), if_neg h]
theorem VOk.withData {l : List S41} {kind : Int} (h : VOk l kind) {i : Nat} (hi : i < l.length) {d : ByteArray} (hd : d.size ≤ 400) : VOk (withData l i d) kind := by
  have hrd := rd_data l i d hi
  have hlv : ∀ t, lv (Files.withData l i d) t = lv l t := fun t => by
    unfold lv
    rw [hrd]
    split
    · rename_i e; rw [e]
    · rfl
  have hnm : ∀ t, nmP (Files.withData l i d) t = nmP l t := fun t => by
    unfold nmP
    rw [hrd]
    split
    · rename_i e; rw [e]
    · rfl
  have hlen : (Files.withData l i d).length = l.length := by unfold Files.withData; rw [List.length_set]
  generalize Files.withData l i d = l' at *
  refine ⟨h.k0, by rw [hlen]; exact h.len, fun t ht => ?_, ⟨by rw [hlv]; exact h.steps.1, fun t ht hne => by rw [hlv, hlv]; exact h.steps.2 t (by omega) hne⟩, fun hk t ht => by rw [hlv]; exact h.top hk t (by omega), fun j k hjk hne => ?_⟩
  · rw [hrd]
    split
    · exact ⟨(h.cell i hi).1, hd⟩
    · exact h.cell t (by omega)
  · rw [hnm] at hne ⊢
    rw [hnm]
    refine h.names j k ⟨hjk.1, by have := hjk.2.1; omega, by have := hjk.2.2.1; rwa [hlv, hlv] at this, fun t h1 h2 => ?_⟩ hne
    have := hjk.2.2.2 t h1 h2
    rwa [hlv, hlv] at this
/-- What Read tells of a whole valid file. -/
theorem readL_whole {l : List S41} {kind : Int} (h : VOk l kind) : readL l 0 true = l := by
  have hl := h.len
  have he : endOf l 0 = l.length := by
    have h1 := endOf_le (l := l) (i := 0) (by omega)
    rcases Nat.lt_or_ge (endOf l 0) l.length with h2 | h2
    · have h3 := endOf_at (l := l) (i := 0) h2
      rw [h.steps.1] at h3
      have := (h.steps.2 (endOf l 0) h2 (by omega)).1
      omega
    · omega
  unfold readL
  rw [if_pos rfl, he, List.take_length, List.drop_zero, h.steps.1]
  refine (List.map_congr_left fun x hx => ?_).trans (List.map_id _)
  obtain ⟨i, hi, rfl⟩ := List.getElem_of_mem hx
  have hb := lv_bound h.steps i hi
  unfold lv at hb
  rw [rd_get l i hi] at hb
  unfold lower
  have : wrap64 (l[i].f2 - 0) = l[i].f2 := by unfold wrap64; omega
  rw [this]
  rfl
end Go.Proofs.Ytehlmkgldcfciaa.Files
/- What is always so stays so, whatever is done. -/
set_option linter.unusedVariables false
set_option linter.unusedSimpArgs false
namespace Go.Proofs.Ytehlmkgldcfciaa.Files
open Go.Proofs.Ytehlmkgldcfciaa.Common Go.Maps Go.ChangeMaps Go.WideMaps Go.Proofs.Ytehlmkgldcfciaa.F
open Go.RowKit Go.Proofs.YtehlmkgldcfciaaW.PrintWords Go.Proofs.YtehlmkgldcfciaaW.PrintLast Go.Proofs.YtehlmkgldcfciaaW.PrintMore
structure GInv (c : Nat) (f : AF) : Prop where
  name : 1 ≤ f.F.name.size ∧ f.F.name.size ≤ 30
  users : (f.users.map (fun p => p.1.data.toList)).Nodup
  count : f.users.length ≤ c
  uok : ∀ p ∈ f.users, userB p.1 = true
  v : VOk f.units f.F.kind
  rules : f.rules.length ≤ 10
theorem GInv.F {c : Nat} {f : AF} (h : GInv c f) : FInv c f := ⟨h.name, h.v.uok, h.v.data, h.users, h.count⟩
structure TInv (c : Nat) (st : Fs) : Prop where
  files : ∀ f ∈ st, GInv c f
  count : st.length ≤ 30
theorem TInv.S {c : Nat} {st : Fs} (h : TInv c st) : SInv c st := ⟨fun f hf => (h.files f hf).F, h.count⟩
theorem TInv.nil (c : Nat) : TInv c [] := ⟨fun f hf => (by cases hf), by simp⟩
theorem GInv.mono {c c' : Nat} {f : AF} (h : GInv c f) (hc : c ≤ c') : GInv c' f := ⟨h.name, h.users, Nat.le_trans h.count hc, h.uok, h.v, h.rules⟩
theorem TInv.mono {c c' : Nat} {st : Fs} (h : TInv c st) (hc : c ≤ c') : TInv c' st := ⟨fun f hf => (h.files f hf).mono hc, h.count⟩
theorem TInv.set {c : Nat} {st : Fs} (h : TInv c st) (k : Nat) {f : AF} (hf : GInv c f) : TInv c (st.set k f) :=
  ⟨fun g hg => by
    rcases List.mem_or_eq_of_mem_set hg with h1 | h1
    · exact h.files g h1
    · rw [h1]; exact hf, by rw [List.length_set]; exact h.count⟩
theorem TInv.filter {c : Nat} {st : Fs} (h : TInv c st) (p : AF → Bool) : TInv c (st.filter p) :=
  ⟨fun g hg => h.files g (List.mem_filter.1 hg).1, Nat.le_trans (List.length_filter_le _ _) h.count⟩
theorem TInv.at_ {c : Nat} {st : Fs} (h : TInv c st) {k : Nat} {f : AF} (hk : st[k]? = some f) : GInv c f := h.files f (List.mem_of_getElem? hk)
theorem GInv.units {c : Nat} {f : AF} (h : GInv c f) (u : ByteArray) {l : List S41} (hl : VOk l f.F.kind) : GInv c { f with F := f.F.noted u, units := l } := ⟨h.name, h.users, h.count, h.uok, hl, h.rules⟩
theorem opened_at {st : Fs} {u n : ByteArray} {action : Int} {k : Nat} {f : AF} {dn : Int} (h : mOpened st u n action = .ok (k, f, dn)) : st[k]? = some f := by
  unfold mOpened at h
  cases hf : mFound st u n with
  | error E => rw [hf] at h; cases h
  | ok p =>
    obtain ⟨k', f'⟩ := p
    rw [hf] at h
    simp only at h
    cases hl : lookU f'.users u with
    | none => rw [hl] at h; cases h
    | some q =>
      obtain ⟨ac, ex⟩ := q
      rw [hl] at h
      injection h with h
      injection h with h1 h
      injection h with h2 h3
      subst h1 h2
      exact (found_ok hf).2.2.1
theorem unit_at {st : Fs} {u n : ByteArray} {at_ action : Int} {k i : Nat} {f : AF} {dn : Int} (h : mUnit st u n at_ action = .ok (k, f, i, dn)) : st[k]? = some f ∧ i < f.units.length := by
  unfold mUnit at h
  by_cases h0 : at_ < 0
  · rw [if_pos h0] at h; cases h
  · rw [if_neg h0] at h
    cases ho : mOpened st u n action with
    | error E' => rw [ho] at h; cases h
    | ok p =>
      obtain ⟨k', f', dn'⟩ := p
      rw [ho] at h
      simp only at h
      by_cases hl : (f'.units.length : Int) ≤ at_
      · rw [if_pos hl] at h; cases h
      · rw [if_neg hl] at h
        injection h with h
        injection h with h1 h
        injection h with h2 h
        injection h with h3 h4
        subst h1 h2
        exact ⟨opened_at ho, by omega⟩
section keep
variable {c : Nat} {st : Fs}
theorem inv_Create (h : TInv c st) (u n : ByteArray) (kind perm : Int) : TInv c (mCreate st u n kind perm).2 := by
  unfold mCreate
  by_cases h1 : createB u n kind perm = false
  · rw [if_pos h1]; exact h
  rw [if_neg h1]
  by_cases h2 : (posF st n).isSome
  · rw [if_pos h2]; exact h
  rw [if_neg h2]
  by_cases h3 : 30 ≤ st.length
  · rw [if_pos h3]; exact h
  rw [if_neg h3]
  obtain ⟨b1, b2, b3, b4⟩ := createB_parts (show createB u n kind perm = true by simpa using h1)
  refine ⟨fun f hf => ?_, ?_⟩
  · rcases List.mem_append.1 hf with hf | hf
    · exact h.files f hf
    · obtain rfl := List.mem_singleton.1 hf
      exact ⟨nameB_iff.1 b2, List.nodup_nil, Nat.zero_le _, fun p hp => (by cases hp), VOk.one kind b3, Nat.zero_le _⟩
  · show (st ++ [newF u n kind perm]).length ≤ 30
    simp
    omega
theorem inv_Delete (h : TInv c st) (u n : ByteArray) : TInv c (mDelete st u n).2 := by
  unfold mDelete
  cases hf : mFound st u n with
  | error E => exact h
  | ok p =>
    obtain ⟨k, f⟩ := p
    simp only
    split
    · exact h
    · split
      · exact h
      · exact h.filter _
theorem inv_Open (h : TInv c st) (u n : ByteArray) (a x : Int) : TInv (c + 1) (mOpen st u n a x).2 := by
  have h' := h.mono (Nat.le_succ c)
  unfold mOpen
  split
  · exact h'
  · cases hf : mFound st u n with
    | error E => exact h'
    | ok p =>
      obtain ⟨k, f⟩ := p
      simp only
      by_cases hl : (lookU f.users u).isSome
      · rw [if_pos hl]; exact h'
      rw [if_neg hl]
      split
      · exact h'
      · split
        · obtain ⟨hu, hn, hk, hnm⟩ := found_ok hf
          have hi := h.at_ hk
          have hl' : lookU f.users u = none := by simpa using hl
          have ho := hi.F.opened u a x hl'
          refine h'.set k ⟨hi.name, ho.users, ho.count, fun p hp => ?_, hi.v, hi.rules⟩
          rcases List.mem_append.1 hp with hp | hp
          · exact hi.uok p hp
          · obtain rfl := List.mem_singleton.1 hp
            exact userB_iff.2 hu
        · exact h'
theorem inv_Close (h : TInv c st) (u n : ByteArray) : TInv c (mClose st u n).2 := by
  unfold mClose
  cases hf : mFound st u n with
  | error E => exact h
  | ok p =>
    obtain ⟨k, f⟩ := p
    simp only
    have hi := h.at_ (found_ok hf).2.2.1
    cases hl : lookU f.users u with
    | none => exact h
    | some q =>
      have ho := hi.F.closed u
      exact h.set k ⟨hi.name, ho.users, ho.count, fun p hp => hi.uok p (List.mem_filter.1 hp).1, hi.v, hi.rules⟩
theorem inv_Read (h : TInv c st) (u n : ByteArray) (at_ : Int) (whole : Bool) : TInv c (mRead st u n at_ whole).2.2 := by
  unfold mRead
  cases hf : mUnit st u n at_ 1 with
  | error E => exact h
  | ok p =>
    obtain ⟨k, f, i, dn⟩ := p
    simp only
    have hi := h.at_ (unit_at hf).1
    split
    · exact h.set k ⟨hi.name, hi.users, hi.count, hi.uok, hi.v, hi.rules⟩
    · exact h
theorem inv_Insert (h : TInv c st) (u n : ByteArray) (at_ : Int) (child : Bool) (a b : ByteArray) : TInv c (mInsert st u n at_ child a b).2 := by
  unfold mInsert
  by_cases h1 : (decide (a.size ≤ 30) && decide (b.size ≤ 400)) = false
  · rw [if_pos h1]; exact h
  rw [if_neg h1]
  have hab : a.size ≤ 30 ∧ b.size ≤ 400 := by simpa using h1
  cases hf : mUnit st u n at_ 2 with
  | error E => exact h
  | ok p =>
    obtain ⟨k, f, i, dn⟩ := p
    simp only
    obtain ⟨hk, hil⟩ := unit_at hf
    have hi := h.at_ hk
    by_cases hbad : insBad f.F.kind (insLev f.units i child) = true
    · rw [if_pos hbad]; exact h
    rw [if_neg hbad]
    by_cases hs : clashB f.units (kids f.units (aboveOf f.units (insLev f.units i child) i)) a = true ∨ dn = 12 ∨ 100 ≤ f.units.length
    · rw [if_pos hs]; exact h
    rw [if_neg hs]
    exact h.set k (hi.units u (hi.v.ins hil hab.1 hab.2 (by simpa using hbad) (by
      cases e : clashB f.units (kids f.units (aboveOf f.units (insLev f.units i child) i)) a with
      | false => rfl
      | true => exact absurd (.inl e) hs) (Nat.lt_of_not_le fun e => hs (.inr (.inr e)))))
theorem inv_Replace (h : TInv c st) (u n : ByteArray) (at_ : Int) (d : ByteArray) : TInv c (mReplace st u n at_ d).2 := by
  unfold mReplace
  by_cases h1 : 400 < d.size
  · rw [if_pos h1]; exact h
  rw [if_neg h1]
  cases hf : mUnit st u n at_ 4 with
  | error E => exact h
  | ok p =>
    obtain ⟨k, f, i, dn⟩ := p
    simp only
    obtain ⟨hk, hil⟩ := unit_at hf
    have hi := h.at_ hk
    split
    · exact h.set k (hi.units u (hi.v.withData hil (by omega)))
    · exact h
theorem inv_Extend (h : TInv c st) (u n : ByteArray) (at_ : Int) (d : ByteArray) : TInv c (mExtend st u n at_ d).2 := by
  unfold mExtend
  by_cases h1 : 400 < d.size
  · rw [if_pos h1]; exact h
  rw [if_neg h1]
  cases hf : mUnit st u n at_ 8 with
  | error E => exact h
  | ok p =>
    obtain ⟨k, f, i, dn⟩ := p
    simp only
    obtain ⟨hk, hil⟩ := unit_at hf
    have hi := h.at_ hk
    split
    · by_cases h2 : 400 < (rd_T41 f.units (i : Int)).f1.size + d.size
      · rw [if_pos h2]; exact h
      · rw [if_neg h2]
        exact h.set k (hi.units u (hi.v.withData hil (by rw [ByteArray.size_append]; omega)))
    · exact h
theorem inv_Erase (h : TInv c st) (u n : ByteArray) (at_ : Int) : TInv c (mErase st u n at_).2 := by
  unfold mErase
  cases hf : mUnit st u n at_ 16 with
  | error E => exact h
  | ok p =>
    obtain ⟨k, f, i, dn⟩ := p
    simp only
    obtain ⟨hk, hil⟩ := unit_at hf
    have hi := h.at_ hk
    split
    · refine h.set k (hi.units u ?_)
      by_cases h0 : i = 0
      · rw [if_pos h0]; exact VOk.one _ hi.v.k0
      · rw [if_neg h0]; exact hi.v.era hil h0
    · exact h
theorem inv_Change (h : TInv c st) (u n : ByteArray) (perm : Int) (rules : List S34) : TInv c (mChange st u n perm rules).2 := by
  unfold mChange
  by_cases hok : changeOk perm rules = false
  · rw [if_pos hok]; exact h
  · rw [if_neg hok]
    obtain ⟨_, hr10, _⟩ := changeOk_parts (show changeOk perm rules = true by simpa using hok)
    cases hf : mOpened st u n 64 with
    | error E => exact h
    | ok p =>
      obtain ⟨k, f, dn⟩ := p
      simp only
      have hi := h.at_ (opened_at hf)
      split
      · exact h.set k ⟨hi.name, hi.users, hi.count, hi.uok, hi.v, hr10⟩
      · exact h
theorem inv_do (h : TInv c st) (do_ A B : Int) (u n : ByteArray) (flag : Bool) (x : S41) (rules : List S34) : TInv (c + 1) (mDo st do_ A B u n flag x rules) := by
  unfold mDo
  split
  · exact (inv_Create h u n A B).mono (Nat.le_succ c)
  split
  · exact (inv_Delete h u n).mono (Nat.le_succ c)
  split
  · exact inv_Open h u n A B
  split
  · exact (inv_Close h u n).mono (Nat.le_succ c)
  split
  · exact (inv_Read h u n A flag).mono (Nat.le_succ c)
  split
  · exact (inv_Insert h u n A flag x.f0 x.f1).mono (Nat.le_succ c)
  split
  · exact (inv_Replace h u n A x.f1).mono (Nat.le_succ c)
  split
  · exact (inv_Extend h u n A x.f1).mono (Nat.le_succ c)
  split
  · exact (inv_Erase h u n A).mono (Nat.le_succ c)
  split
  · exact (inv_Change h u n B rules).mono (Nat.le_succ c)
  · exact h.mono (Nat.le_succ c)
end keep
end Go.Proofs.Ytehlmkgldcfciaa.Files
/- A store copied: what its walk wants of the heap. -/
set_option linter.unusedVariables false
set_option linter.unusedSimpArgs false
namespace Go.Proofs.Ytehlmkgldcfciaa.Files
open Go.Proofs.Ytehlmkgldcfciaa.Common Go.Maps Go.ChangeMaps Go.WideMaps Go.Proofs.Ytehlmkgldcfciaa.F
open Go.RowKit Go.Proofs.YtehlmkgldcfciaaW.PrintWords Go.Proofs.YtehlmkgldcfciaaW.PrintLast Go.Proofs.YtehlmkgldcfciaaW.PrintMore
theorem Chg.ranges {W W' : World} {S : Nat → Prop} (h : Chg W W' S) {P : Program} {k : TypeId} {R : Value → Option (DataW Unit × List MemPlace)} {b r n : Nat} {D : DataW Unit} {left : Lit → Bool} {cnt : Nat} (hr : W.ranges P k R b r n D left cnt) (hb : ¬ S b) (hr' : ¬ S r) : W'.ranges P k R b r n D left cnt := by
  have h1 := hr.owns.lt
  have h2 := hr.lt
  obtain ⟨es, clock, since, seen, c0, hb0, F, hs, hD, hr0, rest⟩ := hr
  exact ⟨es, clock, since, seen, c0, (h.block b h1 hb).trans hb0, F, hs, hD, (h.block r h2 hr').trans hr0, rest⟩
/-- A file put into the store's map. -/
theorem StoreParts.put {W w1 w' : World} {ok : Nat → Prop} {sb mb fb n : Nat} {L : List (Nat × AF)} {D : DataW Unit} {own : Nat → Nat} {f : AF} (R : StoreParts W ok sb L mb D own) (hb1 : Below W.heap.size W w1) (hf : FileRep w1 (fun q => W.heap.size ≤ q) fb f) (hT : w1.mapTurned w' mb)
    (hM' : w'.ownsMap Try.prog 9 Rp mb n (D.put (.string f.key) (.lit (.int .i64 (fb : Nat))))) (hno : ∀ p ∈ L, p.2.F.name ≠ f.F.name) :
    StoreRep w' (okP ok W w') sb (L ++ [(fb, f)]) ∧ Chg W w' ok := by
  obtain ⟨A, rc, uv, ub, DU, P3⟩ := hf
  have hfb : W.heap.size ≤ fb := P3.okb
  have hlook := filesL_none R.mM hno
  have hmb := R.M.lt
  have hsb := R.S.lt
  have hne : sb ≠ mb := fun e => by
    have h1 := R.S
    obtain ⟨es, clock, hb, _⟩ := R.M
    rw [← e] at hb
    exact absurd (h1.symm.trans hb) (by simp)
  have hcT : Chg w1 w' (fun q => q = mb) := Chg.of_turned hT rfl
  have hcW : Chg W w' ok := ((Chg.of_below hb1 (fun _ => False)).mono (fun _ h => h.elim)).trans hcT (fun q hq => .inl (by rw [hq]; exact R.okm))
  have hsz := hcW.size
  have hfbs : ∀ p ∈ L, p.1 < W.heap.size ∧ p.1 ≠ mb := fun p hp => by
    obtain ⟨A, rc, uv, ub, DU, P⟩ := R.files p hp
    exact ⟨blk_lt P.F, Ne.symm (blk_map_ne P.F R.M)⟩
  refine ⟨⟨mb, D.put (.string f.key) (.lit (.int .i64 (fb : Nat))), fun q => if q = mb ∨ q = sb then mb else if q < W.heap.size then own q else fb, ?_⟩, hcW⟩
  have hmap : (L ++ [(fb, f)]).map (fun p => (p.2.key, (DataW.lit (.int .i64 (p.1 : Int)) : DataW Unit))) = L.map (fun p => (p.2.key, (DataW.lit (.int .i64 (p.1 : Int)) : DataW Unit))) ++ [(f.key, .lit (.int .i64 (fb : Nat)))] := by
    rw [List.map_append]; rfl
  refine ⟨⟨.inl R.oks, by omega⟩, ⟨.inl R.okm, by omega⟩, ?_, ownsMap_tight hM', ?_, ?_, ?_, fun q hq => hq.2, ?_, ?_⟩
  · exact (hcT.block sb (Nat.lt_of_lt_of_le hsb hb1.size) hne).trans ((hb1.block sb hsb).trans R.S)
  · rw [hmap]
    exact R.mM.put _ _ hlook
  · intro p hp
    rcases List.mem_append.1 hp with hp | hp
    · refine (((R.files p hp).step (Chg.of_below hb1 (fun _ => False)) (fun _ _ h => h)).step hcT (fun q hq e => (R.ownm p hp).1 (by rw [← e]; exact hq.2))).mono (fun q hq => ?_)
      have hqlt := R.lt q hq.1
      refine ⟨⟨.inl hq.1, by omega⟩, ?_⟩
      have h1 : ¬ (q = mb ∨ q = sb) := fun h => h.elim (fun e => (R.ownm p hp).1 (by rw [← e]; exact hq.2)) (fun e => (R.ownm p hp).2 (by rw [← e]; exact hq.2))
      show (if q = mb ∨ q = sb then mb else if q < W.heap.size then own q else fb) = p.1
      rw [if_neg h1, if_pos hqlt]
      exact hq.2
    · obtain rfl := List.mem_singleton.1 hp
      refine ⟨_, _, _, _, _, (P3.step hcT (fun q hq => by omega)).bound.mono (fun q hq => ⟨⟨.inr hq.1, hq.2⟩, ?_⟩)⟩
      show (if q = mb ∨ q = sb then mb else if q < W.heap.size then own q else fb) = fb
      have hq1 := hq.1
      rw [if_neg (by omega), if_neg (by omega)]
  · intro p hp
    have h2 : p.1 ≠ mb := by
      rcases List.mem_append.1 hp with hp | hp
      · exact (hfbs p hp).2
      · obtain rfl := List.mem_singleton.1 hp
        show fb ≠ mb
        omega
    show (if mb = mb ∨ mb = sb then mb else _) ≠ p.1 ∧ (if sb = mb ∨ sb = sb then mb else _) ≠ p.1
    rw [if_pos (.inl rfl), if_pos (.inr rfl)]
    exact ⟨Ne.symm h2, Ne.symm h2⟩
  · rw [List.map_append, List.nodup_append]
    refine ⟨R.fbs, by simp, fun a ha b hb e => ?_⟩
    obtain ⟨p, hp, rfl⟩ := List.mem_map.1 ha
    have := (hfbs p hp).1
    have hb' : b = fb := by simpa using hb
    omega
  · rw [List.map_append, List.nodup_append]
    refine ⟨R.names, by simp, fun a ha b hb e => ?_⟩
    obtain ⟨p, hp, rfl⟩ := List.mem_map.1 ha
    have hb' : b = f.key := by simpa using hb
    exact hno p hp (data_inj (e.trans hb'))
/-! One store's files in another order. -/
theorem look_perm {α : Type} {l m : List (Key × α)} (hp : l.Perm m) (hn : (l.map (·.1)).Nodup) (k : Key) : look l k = look m k := by
  have hm : (m.map (·.1)).Nodup := (hp.map _).nodup_iff.1 hn
  cases h : look l k with
  | none =>
    symm
    exact look_none.2 fun p hp2 => look_none.1 h p (hp.mem_iff.2 hp2)
  | some x => exact (look_of_mem hm (p := (k, x)) (hp.mem_iff.1 (look_mem h))).symm
theorem MapIs.perm {D : DataW Unit} {l m : List (Key × DataW Unit)} (h : MapIs D l) (hp : l.Perm m) (hn : (l.map (·.1)).Nodup) : MapIs D m :=
  ⟨fun k z => by rw [h.at_, look_perm hp hn], fun k => by rw [h.has, look_perm hp hn], by rw [h.size, hp.length_eq], h.tidy⟩
theorem StoreParts.reorder {W : World} {ok : Nat → Prop} {sb mb : Nat} {L L' : List (Nat × AF)} {D : DataW Unit} {own : Nat → Nat} (h : StoreParts W ok sb L mb D own) (hp : L.Perm L') : StoreParts W ok sb L' mb D own :=
  ⟨h.oks, h.okm, h.S, h.M, h.mM.perm (hp.map _) (by rw [List.map_map]; exact h.names), fun p hm => h.files p (hp.mem_iff.2 hm), fun p hm => h.ownm p (hp.mem_iff.2 hm), h.lt, (hp.map _).nodup_iff.1 h.fbs, (hp.map _).nodup_iff.1 h.names⟩
theorem perm_lift {α β : Type} (f : α → β) : ∀ (m : List β) (l : List α), (l.map f).Perm m → ∃ l', l.Perm l' ∧ l'.map f = m
  | [], l, h => by
    have : l = [] := by simpa using h.eq_nil
    exact ⟨[], by rw [this], rfl⟩
  | b :: m, l, h => by
    have hb : b ∈ l.map f := h.mem_iff.2 List.mem_cons_self
    obtain ⟨a, ha, rfl⟩ := List.mem_map.1 hb
    obtain ⟨s, t, rfl⟩ := List.append_of_mem ha
    have h2 : (f a :: (s ++ t).map f).Perm (f a :: m) := by
      refine List.Perm.trans ?_ h
      rw [List.map_append, List.map_append, List.map_cons]
      exact List.perm_middle.symm
    obtain ⟨l', hl1, hl2⟩ := perm_lift f m (s ++ t) h2.cons_inv
    exact ⟨a :: l', List.perm_middle.trans (hl1.cons a), by rw [List.map_cons, hl2]⟩
theorem perm_nodup {α : Type} : ∀ (l m : List α), l.Nodup → m.Nodup → (∀ a, a ∈ l ↔ a ∈ m) → l.Perm m
  | [], m, _, _, h => by
    cases m with
    | nil => exact List.Perm.refl _
    | cons b m => exact absurd ((h b).2 List.mem_cons_self) (by simp)
  | a :: l, m, hl, hm, h => by
    obtain ⟨s, t, rfl⟩ := List.append_of_mem ((h a).1 List.mem_cons_self)
    have hm' : (a :: (s ++ t)).Nodup := (List.perm_middle.nodup_iff).1 hm
    rw [List.nodup_cons] at hl hm'
    refine ((perm_nodup l (s ++ t) hl.2 hm'.2 fun b => ?_).cons a).trans List.perm_middle.symm
    have hb := h b
    rw [List.perm_middle.mem_iff, List.mem_cons, List.mem_cons] at hb
    constructor
    · intro hbl
      rcases hb.1 (.inr hbl) with e | e
      · subst e; exact absurd hbl hl.1
      · exact e
    · intro hbm
      rcases hb.2 (.inr hbm) with e | e
      · subst e; exact absurd hbm hm'.1
      · exact e
/-- A copy under way. -/
structure CopyRel (W : World) (L : List (Nat × AF)) (mb : Nat) (D : DataW Unit) (cb r n : Nat) (left : Lit → Bool) (cnt : Nat) (wr : World) (okc : Nat → Prop) (Lc : List (Nat × AF)) (mc : Nat) (Dc : DataW Unit) (ownc : Nat → Nat) : Prop where
  rg : wr.ranges Try.prog 9 Rp mb r n D left cnt
  low : Below W.heap.size W wr
  hr : W.heap.size ≤ r
  R : StoreParts wr okc cb Lc mc Dc ownc
  okc : ∀ q, okc q → W.heap.size ≤ q ∧ q ≠ r
  sub : ∀ p ∈ Lc, ∃ q ∈ L, q.2 = p.2 ∧ left (.string q.2.key) = false
  sup : ∀ q ∈ L, left (.string q.2.key) = false → ∃ p ∈ Lc, p.2 = q.2
theorem CopyRel.done {W wr : World} {L Lc : List (Nat × AF)} {mb cb r n cnt mc : Nat} {D Dc : DataW Unit} {left : Lit → Bool} {okc : Nat → Prop} {ownc : Nat → Nat} (h : CopyRel W L mb D cb r n left cnt wr okc Lc mc Dc ownc) (hn : (L.map (·.2.key)).Nodup) (hl : ∀ kl, left kl = false) : ∃ L', StoreRep wr okc cb L' ∧ L'.map (·.2) = L.map (·.2) := by
  have hnd : ∀ {l : List (Nat × AF)}, (l.map (·.2.key)).Nodup → (l.map (·.2)).Nodup := fun {l} h => by
    have h2 : ((l.map (·.2)).map AF.key).Nodup := by rw [List.map_map]; exact h
    exact List.Pairwise.of_map AF.key (fun a b hab e => hab (by rw [e])) h2
  obtain ⟨L', h1, h2⟩ := perm_lift (·.2) (L.map (·.2)) Lc (perm_nodup _ _ (hnd h.R.names) (hnd hn) fun f => by
    constructor
    · intro hf
      obtain ⟨p, hp, rfl⟩ := List.mem_map.1 hf
      obtain ⟨q, hq, e, _⟩ := h.sub p hp
      exact List.mem_map.2 ⟨q, hq, e⟩
    · intro hf
      obtain ⟨q, hq, rfl⟩ := List.mem_map.1 hf
      obtain ⟨p, hp, e⟩ := h.sup q hq (hl _)
      exact List.mem_map.2 ⟨p, hp, e⟩)
  exact ⟨L', ⟨mc, Dc, ownc, h.R.reorder h1⟩, h2⟩
theorem CopyRel.round {W wr w4 w17 w18 : World} {L Lc : List (Nat × AF)} {mb cb r n m cnt cnt4 mc xb fb : Nat} {D Dc : DataW Unit} {left : Lit → Bool} {okc : Nat → Prop} {ownc : Nat → Nat} {f : AF} (h : CopyRel W L mb D cb r n left cnt wr okc Lc mc Dc ownc) (hn : (L.map (·.2.key)).Nodup) (hmb : mb < W.heap.size)
    (hL : (fb, f) ∈ L) (hleft : left (.string f.key) = true) (hrg4 : w4.ranges Try.prog 9 Rp mb r n D (fun z => left z && !z.sameKey (.string f.key)) cnt4) (hg4 : wr.grownBy w4 (some r)) (hb17 : Below w4.heap.size w4 w17) (hf : FileRep w17 (fun q => w4.heap.size ≤ q) xb f)
    (hT : w17.mapTurned w18 mc) (hM : w18.ownsMap Try.prog 9 Rp mc m (Dc.put (.string f.key) (.lit (.int .i64 (xb : Nat))))) : ∃ okc' Lc' mc' Dc' ownc', CopyRel W L mb D cb r n (fun z => left z && !z.sameKey (.string f.key)) cnt4 w18 okc' Lc' mc' Dc' ownc' := by
  have hlowr := h.hr
  have R4 : StoreParts w4 okc cb Lc mc Dc ownc := h.R.other (Chg.of_grown hg4 (S := fun q => q = r) (fun k e => by injection e)) (fun q hq => (h.okc q hq).2)
  have hself : ∀ k : Key, (Lit.string k).sameKey (.string k) = true := fun k => WideAt.sameKey_self (a := .string k) trivial
  have hstay : ∀ k : Lit, left k = false → (left k && !k.sameKey (.string f.key)) = false := fun k e => by rw [e]; rfl
  have hno : ∀ p ∈ Lc, p.2.F.name ≠ f.F.name := fun p hp e => by
    obtain ⟨q, hq, e2, hl⟩ := h.sub p hp
    have : q.2.key = f.key := by rw [e2]; unfold AF.key; rw [e]
    rw [this, hleft] at hl
    cases hl
  obtain ⟨⟨mc', Dc', ownc', R'⟩, hc⟩ := R4.put hb17 hf hT hM hno
  have hmem : mb < w4.heap.size := hrg4.owns.lt
  refine ⟨_, _, mc', Dc', ownc', ⟨hc.ranges hrg4 (fun hq => by have := (h.okc mb hq).1; omega) (fun hq => (h.okc r hq).2 rfl), ?_, hlowr, R', fun q hq => ?_, fun p hp => ?_, fun q hq hl => ?_⟩⟩
  · have h1 : Chg W w4 (fun q => W.heap.size ≤ q) := ((Chg.of_below h.low (fun _ => False)).mono (fun _ h => h.elim)).trans (Chg.of_grown hg4 (S := fun q => q = r) (fun k e => by injection e)) (fun i hi => .inr (by rw [hi]; exact hlowr))
    have h2 := h1.trans hc (fun i hi => .inr (h.okc i hi).1)
    exact h2.below (Nat.le_refl _) (fun k hk => hk)
  · have hrl := hrg4.lt
    have hs1 := h.low.size
    have hs2 := hg4.size
    rcases hq.1 with h1 | h1
    · exact h.okc q h1
    · exact ⟨by omega, by omega⟩
  · rcases List.mem_append.1 hp with hp | hp
    · obtain ⟨q, hq, e2, hl⟩ := h.sub p hp
      exact ⟨q, hq, e2, hstay _ hl⟩
    · obtain rfl := List.mem_singleton.1 hp
      exact ⟨(fb, f), hL, rfl, by show (left (.string f.key) && !(Lit.string f.key).sameKey (.string f.key)) = false; rw [hself]; simp⟩
  · rcases Bool.and_eq_false_iff.1 hl with hl | hl
    · obtain ⟨p, hp, e⟩ := h.sup q hq hl
      exact ⟨p, List.mem_append_left _ hp, e⟩
    · have hs : (Lit.string q.2.key).sameKey (.string f.key) = true := by simpa using hl
      have hk := WideAt.sameKey_eq hs
      injection hk with hk
      have : q = (fb, f) := by
        obtain ⟨i, hi, rfl⟩ := List.getElem_of_mem hq
        obtain ⟨j, hj, hje⟩ := List.getElem_of_mem hL
        have h1 : (L.map (·.2.key))[i]? = some f.key := by rw [List.getElem?_map, List.getElem?_eq_getElem hi]; exact congrArg some hk
        have h2 : (L.map (·.2.key))[j]? = some f.key := by rw [List.getElem?_map, List.getElem?_eq_getElem hj, hje]; rfl
        obtain rfl := (List.getElem?_inj (by rw [List.length_map]; exact hi) hn).1 (h1.trans h2.symm)
        exact hje
      exact ⟨(xb, f), List.mem_append_right _ (List.mem_singleton.2 rfl), by rw [this]⟩
/-- What a map's entry is. -/
theorem copy_entry {W : World} {ok : Nat → Prop} {sb mb : Nat} {L : List (Nat × AF)} {D : DataW Unit} {own : Nat → Nat} (R : StoreParts W ok sb L mb D own) {x : ByteArray} {v : Value} {y1 : DataW Unit} {y2 : List MemPlace} (hv : Rp v = some (y1, y2)) (hat : ∀ zd, D.atKey (.string x.data.toList) zd = y1) :
    ∃ fb f, (fb, f) ∈ L ∧ f.F.name = x ∧ v = .pointer (some ⟨fb, 0, none⟩) := by
  cases hl : look (L.map fun p => (p.2.key, (DataW.lit (.int .i64 (p.1 : Int)) : DataW Unit))) x.data.toList with
  | none =>
    have h1 := hat .nil
    have h2 := hat (.lit (.bool true))
    rw [R.mM.at_, hl] at h1 h2
    rw [← h1] at h2
    cases h2
  | some d =>
    have h1 := hat .nil
    rw [R.mM.at_, hl] at h1
    obtain ⟨p, hp, e⟩ := List.mem_map.1 (look_mem hl)
    injection e with e1 e2
    have h2 : y1 = .lit (.int .i64 (p.1 : Int)) := h1.symm.trans e2.symm
    subst h2
    exact ⟨p.1, p.2, hp, data_inj e1, Rp_at hv⟩
theorem C_units {W : World} {A : Option Addr} {l : List S41} (h : Kd.C k41 W A l.length l) : Kd.C (Kd.raw 3) W A l.length (l.map uCells) := by
  obtain ⟨css, hcl, hcr, hck⟩ := C_raw h
  have : css = l.map uCells := by
    apply List.ext_getElem?
    intro j
    rw [List.getElem?_map]
    by_cases hj : j < l.length
    · obtain ⟨c0, h0, hK⟩ := hck j l[j] (List.getElem?_eq_getElem hj)
      rw [h0, k41_open hK, List.getElem?_eq_getElem hj]
      rfl
    · rw [List.getElem?_eq_none (by omega), List.getElem?_eq_none (by omega)]
      rfl
  rw [← this]
  exact hcr
/-- A file's copy, made of parts of its own. -/
theorem copy_file {W w13 w16 : World} {fb rc ub ub' n : Nat} {f : AF} {A A' : Option Addr} {rc' : Nat} {rc0 : Nat} {A0 : Option Addr} {uv uv' : Value} {DU : DataW Unit} {ok : Nat → Prop} (P : FileParts W ok fb f A rc uv ub DU) (hb13 : Below W.heap.size W w13)
    (hu : Kd.R k41 41 w13 W.heap.size (fun _ => True) uv' f.units) (hU : w13.ownsMap Try.prog 9 Ro ub' n DU) (hub : W.heap.size ≤ ub')
    (hb16 : Below (w13.alloc (.cells (f.F.cells (.slice A0 f.rules.length rc0) uv' ub') 74)).heap.size (w13.alloc (.cells (f.F.cells (.slice A0 f.rules.length rc0) uv' ub') 74)) w16) (hr : Kd.R k34 34 w16 W.heap.size (fun _ => True) (.slice A' f.rules.length rc') f.rules) :
    FileRep (w16.setCell ⟨w13.heap.size, 7, none⟩ (.slice A' f.rules.length rc')) (fun q => W.heap.size ≤ q) w13.heap.size f ∧ Below W.heap.size W (w16.setCell ⟨w13.heap.size, 7, none⟩ (.slice A' f.rules.length rc')) := by
  have hs13 := hb13.size
  have hb14 : Below w13.heap.size w13 (w13.alloc (.cells (f.F.cells (.slice A0 f.rules.length rc0) uv' ub') 74)) := (Below.refl _ _).alloc (Nat.le_refl _) _
  have hF14 : FileAt (w13.alloc (.cells (f.F.cells (.slice A0 f.rules.length rc0) uv' ub') 74)) w13.heap.size f.F (.slice A0 f.rules.length rc0) uv' ub' := heap_alloc_new w13 _
  have hF16 : FileAt w16 w13.heap.size f.F (.slice A0 f.rules.length rc0) uv' ub' := (hb16.block _ (by simp)).trans hF14
  have hF17 : FileAt (w16.setCell ⟨w13.heap.size, 7, none⟩ (.slice A' f.rules.length rc')) w13.heap.size f.F (.slice A' f.rules.length rc') uv' ub' := file_set hF16 7 _ rfl
  have hb136 : Below w13.heap.size w13 w16 := hb14.trans (hb16.mono (by simp))
  have hU16 : w16.ownsMap Try.prog 9 Ro ub' n DU := (Chg.of_below hb136 (fun _ => False)).map hU (fun h => h)
  have hu16 : Kd.R k41 41 w16 W.heap.size (fun _ => True) uv' f.units := Kd.R_below hu hb136
  refine ⟨⟨A', rc', uv', ub', DU, ⟨hs13, hF17, ?_, ?_, hub, ownsMap_tight (hU16.setCell (a := ⟨w13.heap.size, 7, none⟩) (blk_map_ne hF16 hU16) _), P.mU⟩⟩, ?_⟩
  · exact Kd.R_mono (Kd.R_lower (Kd.R_bound (Kd.R_set hr hF16 (by decide) 7 _)) (Nat.zero_le _)) (fun k hk => hk.2.1)
  · exact Kd.R_mono (Kd.R_lower (Kd.R_bound (Kd.R_set hu16 hF16 (by decide) 7 _)) (Nat.zero_le _)) (fun k hk => hk.2.1)
  · exact (hb13.trans (hb136.mono hs13)).setCell (p := ⟨w13.heap.size, 7, none⟩) hs13 _
theorem nodup_len {α : Type} : ∀ (l m : List α), l.Nodup → (∀ a, a ∈ l → a ∈ m) → l.length ≤ m.length
  | [], m, _, _ => Nat.zero_le _
  | a :: l, m, hl, h => by
    obtain ⟨s, t, rfl⟩ := List.append_of_mem (h a List.mem_cons_self)
    rw [List.nodup_cons] at hl
    have := nodup_len l (s ++ t) hl.2 (fun b hb => by
      have := h b (List.mem_cons_of_mem _ hb)
      rw [List.mem_append, List.mem_cons] at this
      rw [List.mem_append]
      rcases this with h1 | rfl | h1
      · exact .inl h1
      · exact absurd hb hl.1
      · exact .inr h1)
    simp only [List.length_append, List.length_cons] at *
    omega
theorem CopyRel.count {W wr : World} {L Lc : List (Nat × AF)} {mb cb r n cnt mc : Nat} {D Dc : DataW Unit} {left : Lit → Bool} {okc : Nat → Prop} {ownc : Nat → Nat} (h : CopyRel W L mb D cb r n left cnt wr okc Lc mc Dc ownc) : Maps.size Dc ≤ L.length := by
  rw [h.R.mM.size, List.length_map]
  have := nodup_len _ (L.map (·.2.key)) h.R.names (fun a ha => by
    obtain ⟨p, hp, rfl⟩ := List.mem_map.1 ha
    obtain ⟨q, hq, e, _⟩ := h.sub p hp
    exact List.mem_map.2 ⟨q, hq, by rw [e]⟩)
  rwa [List.length_map, List.length_map] at this
/-- How Copy ends. -/
def CopyOut (W : World) (st : Fs) (e : Ending) (w' : World) : Prop := ∃ cb okc Lc, e = .returned (.pointer (some ⟨cb, 0, none⟩)) ∧ StoreRep w' okc cb Lc ∧ Lc.map (·.2) = st ∧ Below W.heap.size W w' ∧ ∀ q, okc q → W.heap.size ≤ q
end Go.Proofs.Ytehlmkgldcfciaa.Files
/- The file store: Copy. -/
set_option linter.unusedVariables false
set_option linter.unusedSimpArgs false
namespace Go.Proofs.Ytehlmkgldcfciaa.Files
open Go.Proofs.Ytehlmkgldcfciaa.Common Go.Maps Go.ChangeMaps Go.WideMaps Go.Proofs.Ytehlmkgldcfciaa.F
open Go.RowKit Go.Proofs.YtehlmkgldcfciaaW.PrintWords Go.Proofs.YtehlmkgldcfciaaW.PrintLast Go.Proofs.YtehlmkgldcfciaaW.PrintMore
def Cop.T7 : Bool × List (List Nat × List Nat) := (true, [([], []), ([0], [0]), ([1], [1]), ([2], [2]), ([], []), ([4], [4]), ([5], [5]), ([6], [6]), ([7], [7]), ([], []), ([9], [9]), ([10], [10]), ([11], [11]), ([12, 8], [12]), ([3, 8, 13], [3, 8, 13]), ([14], [14]), ([15, 13, 0, 1, 2, 3, 4, 5, 6, 7, 8, 9, 10, 11, 12, 13, 14, 15], [15])])
def Cop.B7 : List Nat := [0, 1, 3, 7, 0, 16, 48, 112, 240, 0, 512, 1536, 3584, 8176, 16383, 32767, 65535]
theorem Cop.tab7 : rtab .any (opsOf Try.f18 7) = Cop.T7 := by kernel_rfl
theorem Cop.bits7 : waitsOk Cop.T7.2 Cop.B7 = true := by kernel_rfl
set_option maxRecDepth 100000 in
set_option maxHeartbeats 4000000 in
theorem S_Copy {W : World} {ok : Nat → Prop} {sb : Nat} {L : List (Nat × AF)} {st : Fs} {c : Nat} (hR : StoreRep W ok sb L) (hst : L.map (·.2) = st) (hI : TInv c st) :
    Calls Try.prog 18 #[.pointer (some ⟨sb, 0, none⟩)] W (CopyOut W st) := by
  obtain ⟨mb, D, own, R⟩ := hR
  have HRR := Aside0.mk R
  have c0 := R.S.cell
  have HST := Lib.hid hst
  have HSI := Aside0.mk hI
  have CL := Aside0.mk (no_live sb mb W c0)
  have CN := Aside0.mk (S_New W)
  have hsz : Maps.size D ≤ 1000 := by rw [R.mM.size, List.length_map]; have := hI.count; rw [← hst, List.length_map] at this; omega
  have hsbl := R.S.lt
  have hmbl := R.M.lt
  clear R hst hI
  go_enter Try.func18, Try.ntmps18
  go_wp2_with fail
  refine CL.out.mono ?_
  rintro e w' ⟨rfl, rfl⟩
  go_wp2_with fail
  refine CN.out.mono ?_
  rintro e w1 ⟨cb, okc, rfl, hR1, hb1, hok1⟩
  have HR1 := Aside0.mk hR1
  have HB1 := Aside0.mk hb1
  have HOK := Aside0.mk hok1
  have c1 : w1.cell? ⟨sb, 0, none⟩ = some (.map (some mb)) := (hb1.cell (p := ⟨sb, 0, none⟩) hsbl).trans c0
  have HM1 := Aside0.mk ((Chg.of_below hb1 (fun _ => False)).map HRR.out.M (fun h => h))
  clear hR1 hb1 hok1 CN CL
  go_wp2_with first | (at_range; refine wpList_range_own _ rfl _ 50 rfl 9 71 law9 Try.underlying50 _ mb (Maps.size D) D rfl HM1.out ?_; intro w3 hrg3 hg3 hs3)
  have HRG3 := Aside0.mk hrg3
  have HG3 := Aside0.mk hg3
  clear hrg3 hg3
  go_frame
  go_loopw [6] (fun _ wr => ∃ (left : Lit → Bool) (cnt : Nat) (okc : Nat → Prop) (Lc : List (Nat × AF)) (mc : Nat) (Dc : DataW Unit) (ownc : Nat → Nat), Aside0 (CopyRel W L mb D cb w1.heap.size (Maps.size D) left cnt wr okc Lc mc Dc ownc)) (fun _ wr => wr.rangeLeft mb w1.heap.size)
  case atStart =>
    obtain ⟨mc, Dc, ownc, R1⟩ := HR1.out
    have hb3 : Below w1.heap.size w1 w3 := ⟨HG3.out.os, HG3.out.tape, HG3.out.output, HG3.out.size, fun k hk => HG3.out.block k hk (fun e => by cases e)⟩
    refine ⟨_, _, okc, [], mc, Dc, ownc, ⟨⟨HRG3.out, HB1.out.trans (hb3.mono HB1.out.size), HB1.out.size, R1.below hb3, fun q hq => ⟨HOK.out q hq, fun e => ?_⟩, fun p hp => (by cases hp), fun q hq hl => ?_⟩⟩⟩
    · have := R1.lt q hq
      omega
    · exfalso
      rw [HRR.out.mM.has, look_of_mem (p := (q.2.key, .lit (.int .i64 q.1))) (by rw [List.map_map]; exact HRR.out.names) (List.mem_map.2 ⟨q, hq, rfl⟩)] at hl
      cases hl
  case round =>
    clear HRG3 HG3 HR1 HOK HM1 c1 c0
    obtain ⟨left, cnt, okc, Lc, mc, Dc, ownc, HC⟩ := hrel
    have HRG := Aside0.mk HC.out.rg
    go_wp2_with first | (at_next; refine wpList_next_ranges _ rfl _ rfl 9 law9 Rp Value.string (fun v : Value => v) (fun key kl h => key_shape h) (fun v y h => ⟨v, rfl⟩) mb w1.heap.size (Maps.size D) D left cnt rfl HRG.out ?_ ?_)
    · intro _ hl0
      obtain ⟨L', hL1, hL2⟩ := HC.out.done HRR.out.names hl0
      have HE := Aside0.mk (show CopyOut W st (.returned (.pointer (some ⟨cb, 0, none⟩))) wr from ⟨cb, okc, L', rfl, hL1, hL2.trans HST.out, HC.out.low, fun q hq => (HC.out.okc q hq).1⟩)
      clear hL1 hL2 hl0
      go_wp2
      go_ret
      exact HE.out
    · intro x v kl y1 y2 w4 cnt4 hkx hlk hvy hat hrg4 hlt4 hgr4 hsz4 hen
      obtain ⟨rfl, hxs⟩ := key_str hkx
      obtain ⟨fb, f, hfL, hnm, hv⟩ := copy_entry HRR.out hvy hat
      subst hv
      subst hnm
      have HFL := Aside0.mk hfL
      have HLK := Aside0.mk hlk
      have HRG4 := Aside0.mk hrg4
      have HGR4 := Aside0.mk hgr4
      have hb4 : Below W.heap.size W w4 := HC.out.low.grown hgr4 HC.out.low.size (fun k e => by injection e with e; rw [← e]; exact HC.out.hr)
      have HB4 := Aside0.mk hb4
      have hI : GInv c f := HSI.out.files f (by rw [← HST.out]; exact List.mem_map.2 ⟨(fb, f), hfL, rfl⟩)
      obtain ⟨A, rc, uv, ub, DU, P⟩ := HRR.out.files _ hfL
      have P4 := P.below hb4
      obtain ⟨Au, cu, huv⟩ := Kd.R_slice P4.units
      subst huv
      have HP4 := Aside0.mk P4
      have hkey := key_of hI.name.2
      have hul : f.units.length ≤ 100 := hI.v.len.2
      have hrl : f.rules.length * 24 ≤ 140737488355328 := by have := hI.rules; omega
      have hz0 : w4.cell? ⟨fb, 0, none⟩ = some (.string f.F.name) := (blk_cell P4.F 0).trans rfl
      have hz1 : w4.cell? ⟨fb, 1, none⟩ = some (.int .i64 f.F.kind) := (blk_cell P4.F 1).trans rfl
      have hz2 : w4.cell? ⟨fb, 2, none⟩ = some (.int .i64 f.F.perm) := (blk_cell P4.F 2).trans rfl
      have hz3 : w4.cell? ⟨fb, 3, none⟩ = some (.string f.F.owner) := (blk_cell P4.F 3).trans rfl
      have hz4 : w4.cell? ⟨fb, 4, none⟩ = some (.string f.F.last) := (blk_cell P4.F 4).trans rfl
      have hz5 : w4.cell? ⟨fb, 5, none⟩ = some (.int .i64 f.F.ch) := (blk_cell P4.F 5).trans rfl
      have hz6 : w4.cell? ⟨fb, 6, none⟩ = some (.int .i64 f.F.rd) := (blk_cell P4.F 6).trans rfl
      have hz7 : w4.cell? ⟨fb, 7, none⟩ = some (.slice A f.rules.length rc) := (blk_cell P4.F 7).trans rfl
      have hz8 : w4.cell? ⟨fb, 8, none⟩ = some (.slice Au f.units.length cu) := (blk_cell P4.F 8).trans rfl
      have hz9 : w4.cell? ⟨fb, 9, none⟩ = some (.map (some ub)) := (blk_cell P4.F 9).trans rfl
      have hfbl : fb < w4.heap.size := blk_lt P4.F
      clear P P4 hb4 hI hfL hlk hrg4 hgr4 hvy hat hkx HRG
      go_wp2_with fail
      refine start_ (n := 17) (S := fun w' => w'.cell? ⟨fb, 0, none⟩ = some (.string f.F.name) ∧ w'.cell? ⟨fb, 1, none⟩ = some (.int .i64 f.F.kind) ∧ w'.cell? ⟨fb, 2, none⟩ = some (.int .i64 f.F.perm) ∧ w'.cell? ⟨fb, 3, none⟩ = some (.string f.F.owner) ∧ w'.cell? ⟨fb, 4, none⟩ = some (.string f.F.last) ∧ w'.cell? ⟨fb, 5, none⟩ = some (.int .i64 f.F.ch) ∧ w'.cell? ⟨fb, 6, none⟩ = some (.int .i64 f.F.rd) ∧ w'.cell? ⟨fb, 7, none⟩ = some (.slice A f.rules.length rc) ∧ w'.cell? ⟨fb, 8, none⟩ = some (.slice Au f.units.length cu) ∧ w'.cell? ⟨fb, 9, none⟩ = some (.map (some ub))) (ds := [15]) #[false, false, false, false, false, false, false, false, false, false, false, false, false, false, false, false, false] (by kernel_rfl) rfl rfl ⟨hz0, hz1, hz2, hz3, hz4, hz5, hz6, hz7, hz8, hz9⟩ (fun hHeld => ?_)
      refine with_tabW Cop.tab7 Cop.bits7 (fun HT_ HW_ => ?_)
      have HWD := Aside0.mk (show Below w4.heap.size w4 w4.drew from (Below.refl _ _).drew)
      generalize w4.drew = wd at HWD hHeld ⊢
      refine pure_ (i := 0) (N := some 20) (v := ?_) (a' := ?_) #[true, false, false, false, false, false, false, false, false, false, false, false, false, false, false, false, false] rfl rfl (any_of HT_.out (by kernel_rfl)) (fun _ _ _ h => h) (Or.inl ⟨by rfl, ?_⟩) ?_ ?_
      rotate_left
      · intro w'
        go_simp
        with_reducible rfl
      rotate_left
      · simp only [Act.put, List.setIfInBounds_toArray, List.set_cons_zero, List.set_cons_succ, i64_w, i32_w]
        rfl
      refine pure_ (i := 1) (N := some 21) (v := ?_) (a' := ?_) #[true, true, false, false, false, false, false, false, false, false, false, false, false, false, false, false, false] rfl rfl (any_of HT_.out (by kernel_rfl)) (fun _ _ _ h => h) (Or.inl ⟨by rfl, ?_⟩) ?_ ?_
      rotate_left
      · intro w'
        go_simp
        with_reducible rfl
      rotate_left
      · simp only [Act.put, List.setIfInBounds_toArray, List.set_cons_zero, List.set_cons_succ, i64_w, i32_w]
        rfl
      refine pure_ (i := 2) (N := some 22) (v := ?_) (a' := ?_) #[true, true, true, false, false, false, false, false, false, false, false, false, false, false, false, false, false] rfl rfl (any_of HT_.out (by kernel_rfl)) (fun _ _ _ h => h) (Or.inl ⟨by rfl, ?_⟩) ?_ ?_
      rotate_left
      · intro w'
        go_simp
        with_reducible rfl
      rotate_left
      · simp only [Act.put, List.setIfInBounds_toArray, List.set_cons_zero, List.set_cons_succ, i64_w, i32_w]
        rfl
      refine pure_ (i := 4) (N := some 24) (v := ?_) (a' := ?_) #[true, true, true, false, true, false, false, false, false, false, false, false, false, false, false, false, false] rfl rfl (any_of HT_.out (by kernel_rfl)) (fun _ _ _ h => h) (Or.inl ⟨by rfl, ?_⟩) ?_ ?_
      rotate_left
      · intro w'
        go_simp
        with_reducible rfl
      rotate_left
      · simp only [Act.put, List.setIfInBounds_toArray, List.set_cons_zero, List.set_cons_succ, i64_w, i32_w]
        rfl
      refine pure_ (i := 5) (N := some 25) (v := ?_) (a' := ?_) #[true, true, true, false, true, true, false, false, false, false, false, false, false, false, false, false, false] rfl rfl (any_of HT_.out (by kernel_rfl)) (fun _ _ _ h => h) (Or.inl ⟨by rfl, ?_⟩) ?_ ?_
      rotate_left
      · intro w'
        go_simp
        with_reducible rfl
      rotate_left
      · simp only [Act.put, List.setIfInBounds_toArray, List.set_cons_zero, List.set_cons_succ, i64_w, i32_w]
        rfl
      refine pure_ (i := 6) (N := some 26) (v := ?_) (a' := ?_) #[true, true, true, false, true, true, true, false, false, false, false, false, false, false, false, false, false] rfl rfl (any_of HT_.out (by kernel_rfl)) (fun _ _ _ h => h) (Or.inl ⟨by rfl, ?_⟩) ?_ ?_
      rotate_left
      · intro w'
        go_simp
        with_reducible rfl
      rotate_left
      · simp only [Act.put, List.setIfInBounds_toArray, List.set_cons_zero, List.set_cons_succ, i64_w, i32_w]
        rfl
      refine pure_ (i := 9) (N := some 29) (v := ?_) (a' := ?_) #[true, true, true, false, true, true, true, false, false, true, false, false, false, false, false, false, false] rfl rfl (any_of HT_.out (by kernel_rfl)) (fun _ _ _ h => h) (Or.inl ⟨by rfl, ?_⟩) ?_ ?_
      rotate_left
      · intro w'
        go_simp
        with_reducible rfl
      rotate_left
      · simp only [Act.put, List.setIfInBounds_toArray, List.set_cons_zero, List.set_cons_succ, i64_w, i32_w]
        rfl
      refine pure_ (i := 10) (N := some 30) (v := ?_) (a' := ?_) #[true, true, true, false, true, true, true, false, false, true, true, false, false, false, false, false, false] rfl rfl (any_of HT_.out (by kernel_rfl)) (fun _ _ _ h => h) (Or.inl ⟨by rfl, ?_⟩) ?_ ?_
      rotate_left
      · intro w'
        go_simp
        with_reducible rfl
      rotate_left
      · simp only [Act.put, List.setIfInBounds_toArray, List.set_cons_zero, List.set_cons_succ, i64_w, i32_w]
        rfl
      refine pure_ (i := 11) (N := some 31) (v := ?_) (a' := ?_) #[true, true, true, false, true, true, true, false, false, true, true, true, false, false, false, false, false] rfl rfl (any_of HT_.out (by kernel_rfl)) (fun _ _ _ h => h) (Or.inl ⟨by rfl, ?_⟩) ?_ ?_
      rotate_left
      · intro w'
        go_simp
        with_reducible rfl
      rotate_left
      · simp only [Act.put, List.setIfInBounds_toArray, List.set_cons_zero, List.set_cons_succ, i64_w, i32_w]
        rfl
      refine take_ (i := 3) (N := some 23) (v := ?_) (a' := ?_) #[true, true, true, true, true, true, true, false, false, true, true, true, false, false, false, false, false] rfl rfl (take_ofW HT_.out HW_.out (by kernel_rfl)) (fun _ _ _ h => h) (Or.inl ⟨by rfl, ?_⟩) hHeld ?_ ?_
      rotate_left
      · rintro w' ⟨s0, s1, s2, s3, s4, s5, s6, s7, s8, s9⟩
        go_simp
        with_reducible rfl
      rotate_left
      · simp only [Act.put, List.setIfInBounds_toArray, List.set_cons_zero, List.set_cons_succ, i64_w, i32_w]
        rfl
      refine take_ (i := 7) (N := some 27) (v := ?_) (a' := ?_) #[true, true, true, true, true, true, true, true, false, true, true, true, false, false, false, false, false] rfl rfl (take_ofW HT_.out HW_.out (by kernel_rfl)) (fun _ _ _ h => h) (Or.inl ⟨by rfl, ?_⟩) hHeld ?_ ?_
      rotate_left
      · rintro w' ⟨s0, s1, s2, s3, s4, s5, s6, s7, s8, s9⟩
        go_simp
        with_reducible rfl
      rotate_left
      · simp only [Act.put, List.setIfInBounds_toArray, List.set_cons_zero, List.set_cons_succ, i64_w, i32_w]
        rfl
      refine take_ (i := 12) (N := some 32) (v := ?_) (a' := ?_) #[true, true, true, true, true, true, true, true, false, true, true, true, true, false, false, false, false] rfl rfl (take_ofW HT_.out HW_.out (by kernel_rfl)) (fun _ _ _ h => h) (Or.inl ⟨by rfl, ?_⟩) hHeld ?_ ?_
      rotate_left
      · rintro w' ⟨s0, s1, s2, s3, s4, s5, s6, s7, s8, s9⟩
        go_simp
        with_reducible rfl
      rotate_left
      · simp only [Act.put, List.setIfInBounds_toArray, List.set_cons_zero, List.set_cons_succ, i64_w, i32_w]
        rfl
      refine one_ (i := 8) (N := some 28) #[true, true, true, true, true, true, true, true, true, true, true, true, true, false, false, false, false] rfl rfl (one_of HT_.out (by kernel_rfl)) (by decide) (fun K hK => ?_)
      refine goes_ Try.func43 (by kernel_rfl) rfl #[.slice Au f.units.length cu] (by rfl) rfl rfl (by (try simp only [List.map_toArray, List.map_cons, List.map_nil]); first | done | rfl | (simp only []; rfl)) ?_
      with_reducible refine (files_Unit_43.raw Au cu f.units.length (f.units.map uCells) _ (C_units (Kd.C_below (Kd.R_reads' HP4.out.units).2.2 HWD.out)) (by omega)).mono ?_
      rintro e w8 ⟨v8, rfl, hr8, hb8⟩
      obtain ⟨A8, c8, hv8⟩ := Kd.R_slice hr8
      rw [List.length_map] at hv8
      subst hv8
      have HB8 := Aside0.mk (show Below w4.heap.size w4 w8 from HWD.out.trans (hb8.mono HWD.out.size))
      have HU8w := Aside0.mk (Kd.R_lower (units_of_raw hr8) HWD.out.size)
      have HBb8 := Aside0.mk hb8
      clear hr8 hb8
      refine ⟨_, rfl, ?_⟩
      refine hK.out _ _ ⟨pw_cell_below HBb8.out hHeld.1, pw_cell_below HBb8.out hHeld.2.1, pw_cell_below HBb8.out hHeld.2.2.1, pw_cell_below HBb8.out hHeld.2.2.2.1, pw_cell_below HBb8.out hHeld.2.2.2.2.1, pw_cell_below HBb8.out hHeld.2.2.2.2.2.1, pw_cell_below HBb8.out hHeld.2.2.2.2.2.2.1, pw_cell_below HBb8.out hHeld.2.2.2.2.2.2.2.1, pw_cell_below HBb8.out hHeld.2.2.2.2.2.2.2.2.1, pw_cell_below HBb8.out hHeld.2.2.2.2.2.2.2.2.2⟩ (fun hHeld => ?_)
      clear hK K
      refine norm_ (a' := ?_) ?_ ?_
      rotate_left
      · show Act.put _ (some 28) _ = _
        simp only [Act.put, List.setIfInBounds_toArray, List.set_cons_zero, List.set_cons_succ, i64_w, i32_w]
        rfl
      refine one_ (i := 13) (N := some 33) #[true, true, true, true, true, true, true, true, true, true, true, true, true, true, false, false, false] rfl rfl (one_of HT_.out (by kernel_rfl)) (by decide) (fun K hK => ?_)
      refine goes_ Try.func44 (by kernel_rfl) rfl #[.map (some ub)] (by rfl) rfl rfl (by (try simp only [List.map_toArray, List.map_cons, List.map_nil]); first | done | rfl | (simp only []; rfl)) ?_
      with_reducible refine (CloneUsers ub (Maps.size DU) DU _ ((Chg.of_below HB8.out (fun _ => False)).map HP4.out.U (fun h => h))).mono ?_
      rintro e w13 ⟨rfl, hu13, _, hb13⟩
      have HBb13 := Aside0.mk hb13
      have HB13 := Aside0.mk (show Below w4.heap.size w4 w13 from HB8.out.trans (hb13.mono HB8.out.size))
      have HU13 := Aside0.mk hu13
      have HU8 := Aside0.mk (Kd.R_below HU8w.out hb13)
      clear hb13 hu13
      refine ⟨_, rfl, ?_⟩
      refine hK.out _ _ ⟨pw_cell_below HBb13.out hHeld.1, pw_cell_below HBb13.out hHeld.2.1, pw_cell_below HBb13.out hHeld.2.2.1, pw_cell_below HBb13.out hHeld.2.2.2.1, pw_cell_below HBb13.out hHeld.2.2.2.2.1, pw_cell_below HBb13.out hHeld.2.2.2.2.2.1, pw_cell_below HBb13.out hHeld.2.2.2.2.2.2.1, pw_cell_below HBb13.out hHeld.2.2.2.2.2.2.2.1, pw_cell_below HBb13.out hHeld.2.2.2.2.2.2.2.2.1, pw_cell_below HBb13.out hHeld.2.2.2.2.2.2.2.2.2⟩ (fun hHeld => ?_)
      clear hK K
      refine norm_ (a' := ?_) ?_ ?_
      rotate_left
      · show Act.put _ (some 33) _ = _
        simp only [Act.put, List.setIfInBounds_toArray, List.set_cons_zero, List.set_cons_succ, i64_w, i32_w]
        rfl
      refine pure_ (i := 14) (N := some 34) (v := ?_) (a' := ?_) #[true, true, true, true, true, true, true, true, true, true, true, true, true, true, true, false, false] rfl rfl (any_of HT_.out (by kernel_rfl)) (fun _ _ _ h => h) (Or.inl ⟨by rfl, ?_⟩) ?_ ?_
      rotate_left
      · intro w'
        go_simp
        with_reducible rfl
      rotate_left
      · simp only [Act.put, List.setIfInBounds_toArray, List.set_cons_zero, List.set_cons_succ, i64_w, i32_w]
        rfl
      refine last_ (i := 15) (N := some 35) #[true, true, true, true, true, true, true, true, true, true, true, true, true, true, true, true, false] rfl rfl (one_of HT_.out (by kernel_rfl)) (by decide) (fun K hK => ?_)
      refine value_ (w1 := ?_) (v := ?_) (by rfl) rfl ?_ ?_
      rotate_left 2
      · go_simp
        constructor
        · rfl
        · rfl
      refine hK.out _ _ ?_
      clear hK K
      refine norm_ (a' := ?_) ?_ ?_
      rotate_left
      · show Act.put _ (some 35) _ = _
        simp only [Act.put, List.setIfInBounds_toArray, List.set_cons_zero, List.set_cons_succ, i64_w, i32_w]
        rfl
      refine pure_ (i := 16) (N := some 6) (v := ?_) (a' := ?_) #[true, true, true, true, true, true, true, true, true, true, true, true, true, true, true, true, true] rfl rfl (any_of HT_.out (by kernel_rfl)) (fun _ _ _ h => h) (Or.inl ⟨by rfl, ?_⟩) ?_ ?_
      rotate_left
      · intro w'
        go_simp
        with_reducible rfl
      rotate_left
      · simp only [Act.put, List.setIfInBounds_toArray, List.set_cons_zero, List.set_cons_succ, i64_w, i32_w]
        rfl
      refine done_ (done_of HT_.out (by kernel_rfl)) ?_
      have HF14 := Aside0.mk (show FileAt w13 fb f.F (.slice A f.rules.length rc) (.slice Au f.units.length cu) ub from (HB13.out.block fb hfbl).trans HP4.out.F)
      have d7 := Lib.cell?_alloc_some (.cells #[.string f.F.name, .int .i64 f.F.kind, .int .i64 f.F.perm, .string f.F.owner, .string f.F.last, .int .i64 f.F.ch, .int .i64 f.F.rd, .slice A f.rules.length rc, .slice A8 f.units.length c8, .map (some w8.heap.size)] 74) ((blk_cell HF14.out 7).trans rfl : w13.cell? ⟨fb, 7, none⟩ = some (.slice A f.rules.length rc))
      have hb14 : Below w4.heap.size w4 (w13.alloc (.cells #[.string f.F.name, .int .i64 f.F.kind, .int .i64 f.F.perm, .string f.F.owner, .string f.F.last, .int .i64 f.F.ch, .int .i64 f.F.rd, .slice A f.rules.length rc, .slice A8 f.units.length c8, .map (some w8.heap.size)] 74)) := HB13.out.alloc HB13.out.size _
      obtain ⟨css, hcl, hcr, hck⟩ := C_raw (Kd.C_below (Kd.R_reads' HP4.out.rules).2.2 hb14)
      have CC := Aside0.mk (files_Rule_40.raw A rc f.rules.length css _ hcr hrl)
      have HCK := Aside0.mk hck
      have HCL := Lib.hid hcl
      have HB14 := Aside0.mk hb14
      clear hcl hcr hck hb14
      go_wp2_with fail
      refine CC.out.mono ?_
      rintro e w16 ⟨v, rfl, hr16, hb16⟩
      have hr5 : Kd.R k34 34 w16 _ (fun _ => True) v f.rules := R_of_raw (d := k34) hr16 HCL.out (fun j x cs hj hcs => by
        obtain ⟨c0, h0, hK⟩ := HCK.out j x hj
        rw [hcs] at h0
        injection h0 with h0
        rw [h0, k34_open hK]
        exact k34_mkM _ _ _ x)
      obtain ⟨A5, c5, hv5⟩ := Kd.R_slice hr5
      subst hv5
      have HR5 := Aside0.mk (Kd.R_lower hr5 HB14.out.size)
      have HB16 := Aside0.mk hb16
      have hx16 : w16.heap[w13.heap.size]? = some (.cells #[.string f.F.name, .int .i64 f.F.kind, .int .i64 f.F.perm, .string f.F.owner, .string f.F.last, .int .i64 f.F.ch, .int .i64 f.F.rd, .slice A f.rules.length rc, .slice A8 f.units.length c8, .map (some w8.heap.size)] 74 (0, 0)) := (hb16.block _ (by simp)).trans (heap_alloc_new w13 _)
      have e7 : w16.cell? ⟨w13.heap.size, 7, none⟩ = some (.slice A f.rules.length rc) := (blk_cell hx16 7).trans rfl
      have f7 := blk_frozen hx16 7
      have HCF := Aside0.mk (copy_file HP4.out HB13.out HU8.out HU13.out HB8.out.size hb16 HR5.out)
      have R4 : StoreParts w4 okc cb Lc mc Dc ownc := HC.out.R.other (Chg.of_grown HGR4.out (S := fun q => q = w1.heap.size) (fun k e => by injection e)) (fun q hq => (HC.out.okc q hq).2)
      have R17 := R4.below HCF.out.2
      have g0 := R17.S.cell
      have HM17 := Aside0.mk R17.M
      have hcs : Maps.size Dc ≤ 1000 := by have h1 := HC.out.count; have h2 := HSI.out.count; rw [← HST.out, List.length_map] at h2; omega
      clear hr16 hr5 hb16 hx16 R4 R17
      go_wp2_with first | (at_mapUpdate; refine wpList_mapUpdate_in _ rfl _ _ _ 50 rfl 9 71 law9 Try.underlying50 _ mc (Maps.size Dc) Dc rfl HM17.out (by unfold maxLen; omega) _ _ _ rfl rfl hkey (.lit (.int .i64 (w13.heap.size : Nat))) [] rfl ?_; intro w18 hown18 hturn18)
      have HRD := Aside0.mk (HC.out.round HRR.out.names hmbl HFL.out HLK.out HRG4.out HGR4.out HCF.out.2 HCF.out.1 hturn18 hown18)
      clear hown18 hturn18
      simp only [Act.put]
      go_roundw
      case rel =>
        obtain ⟨okc', Lc', mc', Dc', ownc', h⟩ := HRD.out

        exact ⟨_, cnt4, okc', Lc', mc', Dc', ownc', ⟨h⟩⟩
      case measure =>
        obtain ⟨okc', Lc', mc', Dc', ownc', h⟩ := HRD.out
        rw [h.rg.left_eq, HC.out.rg.left_eq]
        exact hlt4
end Go.Proofs.Ytehlmkgldcfciaa.Files
/- The law FilesStay: acts as data, rows of words, a store under way, a copy that is read. -/
set_option linter.unusedVariables false
set_option linter.unusedSimpArgs false
namespace Go.Proofs.Ytehlmkgldcfciaa.Files
open Go.Proofs.Ytehlmkgldcfciaa.Common Go.Maps Go.ChangeMaps Go.WideMaps Go.Proofs.Ytehlmkgldcfciaa.F
open Go.RowKit Go.Proofs.YtehlmkgldcfciaaW.PrintWords Go.Proofs.YtehlmkgldcfciaaW.PrintLast Go.Proofs.YtehlmkgldcfciaaW.PrintMore
open Go.Sort Go.Shelf
/-! An act. -/
structure S44 where
  f0 : Int
  f1 : Int
  f2 : Int
  f3 : ByteArray
  f4 : ByteArray
  f5 : Bool
  f6 : S41
  f7 : List ByteArray
  f8 : List S34
def z44 : S44 := ⟨0, 0, 0, ⟨#[]⟩, ⟨#[]⟩, false, z41, [], []⟩
def k44 : Kd S44 := Kd.iso (Kd.pair (Kd.int .i64) (Kd.pair (Kd.int .i64) (Kd.pair (Kd.int .i64) (Kd.pair Kd.string (Kd.pair Kd.string (Kd.pair Kd.bool (Kd.pair k41 (Kd.pair (Kd.slice 9 Kd.string) (Kd.slice 34 k34))))))))) (fun x : S44 => (x.f0, x.f1, x.f2, x.f3, x.f4, x.f5, x.f6, x.f7, x.f8))
theorem k44_open {w : World} {x : S44} {cs : List Value} (h : k44.K w x cs) : ∃ pv Ar cr, cs = [.int .i64 x.f0, .int .i64 x.f1, .int .i64 x.f2, .string x.f3, .string x.f4, .bool x.f5, .string x.f6.f0, .string x.f6.f1, .int .i64 x.f6.f2, pv, .slice Ar x.f8.length cr] ∧ x.f8.length ≤ cr ∧ Kd.C k34 w Ar x.f8.length x.f8 ∧ ∃ Ap cp, pv = .slice Ap x.f7.length cp := by
  obtain ⟨_, _, rfl, rfl, _, _, rfl, rfl, _, _, rfl, rfl, _, _, rfl, rfl, _, _, rfl, rfl, _, _, rfl, rfl, _, _, rfl, h6, _, _, rfl, ⟨Ap, cp, rfl, _, _⟩, ⟨Ar, cr, rfl, hl, hr⟩⟩ := h
  obtain rfl := k41_open h6
  exact ⟨_, Ar, cr, rfl, hl, hr, Ap, cp, rfl⟩
def rd_T44 (xs : List S44) (i : Int) : S44 := xs.getD i.toNat z44
theorem at_T44 {w : World} {A : Option Addr} {n : Nat} {xs : List S44} (h : Kd.C k44 w A n xs) (i : Nat) (h1 : i < n) : ∃ ad Ap cp Ar cr, A = some ad ∧ (rd_T44 xs i).f8.length ≤ cr ∧ Kd.C k34 w Ar (rd_T44 xs i).f8.length (rd_T44 xs i).f8 ∧
    w.cell? (ad.add (i * 11)) = some (.int .i64 (rd_T44 xs i).f0) ∧ w.cell? ⟨(ad.add (i * 11)).block, (ad.add (i * 11)).off + 1, none⟩ = some (.int .i64 (rd_T44 xs i).f1) ∧ w.cell? ⟨(ad.add (i * 11)).block, (ad.add (i * 11)).off + 2, none⟩ = some (.int .i64 (rd_T44 xs i).f2) ∧
    w.cell? ⟨(ad.add (i * 11)).block, (ad.add (i * 11)).off + 3, none⟩ = some (.string (rd_T44 xs i).f3) ∧ w.cell? ⟨(ad.add (i * 11)).block, (ad.add (i * 11)).off + 4, none⟩ = some (.string (rd_T44 xs i).f4) ∧ w.cell? ⟨(ad.add (i * 11)).block, (ad.add (i * 11)).off + 5, none⟩ = some (.bool (rd_T44 xs i).f5) ∧
    w.cell? ⟨(ad.add (i * 11)).block, (ad.add (i * 11)).off + 6, none⟩ = some (.string (rd_T44 xs i).f6.f0) ∧ w.cell? ⟨(ad.add (i * 11)).block, (ad.add (i * 11)).off + 7, none⟩ = some (.string (rd_T44 xs i).f6.f1) ∧ w.cell? ⟨(ad.add (i * 11)).block, (ad.add (i * 11)).off + 8, none⟩ = some (.int .i64 (rd_T44 xs i).f6.f2) ∧
    w.cell? ⟨(ad.add (i * 11)).block, (ad.add (i * 11)).off + 9, none⟩ = some (.slice Ap (rd_T44 xs i).f7.length cp) ∧ w.cell? ⟨(ad.add (i * 11)).block, (ad.add (i * 11)).off + 10, none⟩ = some (.slice Ar (rd_T44 xs i).f8.length cr) := by
  obtain ⟨ad, c, e, _, hK, hc0⟩ := Kd.C_get h z44 (i : Int) (by omega) (by omega)
  rw [Int.toNat_natCast] at hK hc0
  have hc : ∀ j u, c[j]? = some u → w.cell? (ad.add (i * 11 + j)) = some u := hc0
  have hx : rd_T44 xs i = xs.getD i z44 := by unfold rd_T44; rw [Int.toNat_natCast]
  rw [← hx] at hK
  obtain ⟨pv, Ar, cr, rfl, hl, hr, Ap, cp, rfl⟩ := k44_open hK
  refine ⟨ad, Ap, cp, Ar, cr, e, hl, hr, hc 0 _ rfl, ?_, ?_, ?_, ?_, ?_, ?_, ?_, ?_, ?_, ?_⟩
  · rw [← add_field _ _ 1 (by omega)]; exact hc 1 _ rfl
  · rw [← add_field _ _ 2 (by omega)]; exact hc 2 _ rfl
  · rw [← add_field _ _ 3 (by omega)]; exact hc 3 _ rfl
  · rw [← add_field _ _ 4 (by omega)]; exact hc 4 _ rfl
  · rw [← add_field _ _ 5 (by omega)]; exact hc 5 _ rfl
  · rw [← add_field _ _ 6 (by omega)]; exact hc 6 _ rfl
  · rw [← add_field _ _ 7 (by omega)]; exact hc 7 _ rfl
  · rw [← add_field _ _ 8 (by omega)]; exact hc 8 _ rfl
  · rw [← add_field _ _ 9 (by omega)]; exact hc 9 _ rfl
  · rw [← add_field _ _ 10 (by omega)]; exact hc 10 _ rfl
/-! Rows of words. -/
def WordsOut (W : World) (l : List ByteArray) (e : Ending) (w' : World) : Prop := ∃ (v : Value) (ws : List ByteArray), e = .returned v ∧ ws.Perm l ∧ Kd.R Kd.string 9 w' W.heap.size (fun _ => True) v ws ∧ Below W.heap.size W w'
theorem WordsEnd.words {W : World} {l : List ByteArray} {e : Ending} {w' : World} (h : WordsEnd W l e w') : WordsOut W l e w' := by
  obtain ⟨v, rfl, hr, hb⟩ := h
  have hp : (sortedNames l).Perm (l.map (·.data.toList)) := List.mergeSort_perm _ _
  have hmap : ((l.map (·.data.toList)).map (fun s : List UInt8 => (⟨s.toArray⟩ : ByteArray))) = l := by
    rw [List.map_map]
    refine (List.map_congr_left fun x _ => ?_).trans (List.map_id _)
    cases x; rfl
  refine ⟨v, (sortedNames l).map (fun s => ⟨s.toArray⟩), rfl, ?_, Kd.R_of_own (enc := Value.string) ?_ (fun _ _ => trivial), hb⟩
  · rw [← hmap]
    rw [hmap]
    exact hp.map _ |>.trans (by rw [hmap])
  · have hlen : ((sortedNames l).map (fun s : List UInt8 => (⟨s.toArray⟩ : ByteArray))).length = l.length := by rw [List.length_map, hp.length_eq, List.length_map]
    rw [hlen]
    have : encs Value.string ((sortedNames l).map (fun s : List UInt8 => (⟨s.toArray⟩ : ByteArray))) = (sortedNames l).map encStr := by
      unfold encs
      rw [List.map_map]
      rfl
    rw [this]
    exact hr
theorem at_word {w : World} {base : Nat} {ok : Nat → Prop} {v : Value} {ws : List ByteArray} (h : Kd.R Kd.string 9 w base ok v ws) (hp : 0 < ws.length) : ∃ g c, v = .slice (some ⟨g, 0, none⟩) ws.length c ∧ ws.length ≤ c := by
  obtain ⟨inner, ho⟩ := Kd.R_own h
  rcases ho.2 with ⟨_, h0⟩ | ⟨g, cap, cur, hv, _, _, hnc, _⟩
  · omega
  · exact ⟨g, cap, hv, hnc⟩
theorem word_at {w : World} {base : Nat} {ok : Nat → Prop} {g n c : Nat} {ws : List ByteArray} (h : Kd.R Kd.string 9 w base ok (.slice (some ⟨g, 0, none⟩) n c) ws) (i : Nat) (hi : i < ws.length) : w.cell? ⟨g, i, none⟩ = some (.string ws[i]) := by
  obtain ⟨hn, _, hC⟩ := Kd.R_reads' h
  subst hn
  obtain ⟨ad, cs, e, _, hK, hc⟩ := Kd.C_get hC ⟨#[]⟩ (i : Int) (by omega) (by omega)
  cases e
  have hK' : cs = [.string (ws.getD i ⟨#[]⟩)] := hK
  have := hc 0 _ (by rw [hK']; rfl)
  rw [add_plain] at this
  have e2 : ws.getD i ⟨#[]⟩ = ws[i] := by rw [List.getD_eq_getElem?_getD, List.getElem?_eq_getElem hi]; rfl
  rw [← e2]
  have e3 : ((i : Int).toNat * Kd.string.sz + 0) = i := by rw [Int.toNat_natCast]; show i * 1 + 0 = i; omega
  rw [e3] at this
  exact this
/-! A store of the law's own. -/
def Hold (W : World) (sb c : Nat) (st : Fs) (wr : World) : Prop := ∃ ok L, StoreRep wr ok sb L ∧ L.map (·.2) = st ∧ TInv c st ∧ Below W.heap.size W wr ∧ ∀ q, ok q → W.heap.size ≤ q
theorem Hold.below {W wr w' : World} {sb c : Nat} {st : Fs} (h : Hold W sb c st wr) (hb : Below wr.heap.size wr w') : Hold W sb c st w' := by
  obtain ⟨ok, L, hR, hst, hI, hl, ho⟩ := h
  exact ⟨ok, L, hR.other (Chg.of_below hb (fun _ => False)) (fun _ _ h => h), hst, hI, hl.trans (hb.mono hl.size), ho⟩
theorem Hold.drew {W wr : World} {sb c : Nat} {st : Fs} (h : Hold W sb c st wr) : Hold W sb c st wr.drew := h.below (Below.refl _ _).drew
theorem Hold.low {W wr : World} {sb c : Nat} {st : Fs} (h : Hold W sb c st wr) : Below W.heap.size W wr := by
  obtain ⟨ok, L, hR, hst, hI, hl, ho⟩ := h
  exact hl
/-- What the law's do leaves. -/
def DoEnd (W : World) (sb c : Nat) (st' : Fs) (e : Ending) (w' : World) : Prop := e = .returned (.tuple #[]) ∧ Hold W sb c st' w'
theorem Hold.do_ {W wr : World} {sb c : Nat} {st : Fs} (h : Hold W sb c st wr) (hc : c < 1000) (x : S44) (pv : Value) (Ar : Option Addr) (cr : Nat) (hr : Kd.C k34 wr Ar x.f8.length x.f8) (hl : x.f8.length ≤ cr) :
    Calls Try.prog 16 #[.pointer (some ⟨sb, 0, none⟩), .agg (ActIs x.f0 x.f1 x.f2 x.f3 x.f4 x.f5 x.f6 pv (.slice Ar x.f8.length cr))] wr (DoEnd W sb (c + 1) (mDo st x.f0 x.f1 x.f2 x.f3 x.f4 x.f5 x.f6 x.f8)) := by
  obtain ⟨ok, L, hR, hst, hI, hlow, ho⟩ := h
  refine (do_c ok sb L st c x.f0 x.f1 x.f2 x.f3 x.f4 x.f5 x.f6 pv Ar cr x.f8 wr ⟨hR, hst, hI.S, hc, hr, hl⟩).mono ?_
  rintro e w' ⟨rfl, ok', L', h1, h2, h3, h4⟩
  refine ⟨rfl, ok', L', h1, h2, inv_do hI _ _ _ _ _ _ _ _, hlow.trans (h3.below hlow.size ho), fun q hq => ?_⟩
  rcases h4 q hq with h5 | h5
  · exact ho q h5
  · exact Nat.le_trans hlow.size h5
/-! A copy that is read. -/
theorem zip_find (n : ByteArray) (f' : AF) (hf' : f'.F.name = n) : ∀ (l : List AF) (s k : Nat) (f : AF), (l.zipIdx s).find? (fun p => decide (p.1.F.name = n)) = some (f, k) → s ≤ k ∧ ((l.set (k - s) f').zipIdx s).find? (fun p => decide (p.1.F.name = n)) = some (f', k)
  | [], s, k, f, h => by simp at h
  | a :: l, s, k, f, h => by
    rw [List.zipIdx_cons] at h
    by_cases ha : a.F.name = n
    · rw [List.find?_cons_of_pos (by simp [ha])] at h
      injection h with h
      injection h with h1 h2
      subst h2
      refine ⟨Nat.le_refl _, ?_⟩
      rw [Nat.sub_self, List.set_cons_zero, List.zipIdx_cons, List.find?_cons_of_pos (by simp [hf'])]
    · rw [List.find?_cons_of_neg (by simp [ha])] at h
      obtain ⟨h1, h2⟩ := zip_find n f' hf' l (s + 1) k f h
      refine ⟨by omega, ?_⟩
      rw [show k - s = (k - (s + 1)) + 1 by omega, List.set_cons_succ, List.zipIdx_cons, List.find?_cons_of_neg (by simp [ha])]
      exact h2
theorem posF_set {st : Fs} {n : ByteArray} {k : Nat} {f f' : AF} (h : posF st n = some (k, f)) (hf' : f'.F.name = f.F.name) : posF (st.set k f') n = some (k, f') := by
  have hn := (posF_some h).2
  unfold posF at h ⊢
  obtain ⟨p, hp, he⟩ := Option.map_eq_some_iff.1 h
  injection he with h1 h2
  obtain ⟨_, h3⟩ := zip_find n f' (hf'.trans hn) st 0 k f (by rw [hp]; subst h1 h2; rfl)
  rw [Nat.sub_zero] at h3
  rw [h3]
  rfl
theorem posF_of_name {st : Fs} {n : ByteArray} (h : n ∈ st.map (·.F.name)) : ∃ k f, posF st n = some (k, f) := by
  cases hp : posF st n with
  | some p => exact ⟨p.1, p.2, rfl⟩
  | none =>
    obtain ⟨f, hf, e⟩ := List.mem_map.1 h
    exact absurd e (posF_none hp f hf)
theorem lookU_some {l : List (ByteArray × (Int × Int))} {u : ByteArray} (h : u ∈ l.map (·.1)) : ∃ a b, lookU l u = some (a, b) := by
  cases hl : lookU l u with
  | some p => exact ⟨p.1, p.2, rfl⟩
  | none =>
    unfold lookU at hl
    rw [Option.map_eq_none_iff, List.find?_eq_none] at hl
    obtain ⟨p, hp, e⟩ := List.mem_map.1 h
    exact absurd (hl p hp) (by simp [e])
/-- The copy, and its users' names as a row of words. -/
structure Inner (wi : World) (xb : Nat) (n : ByteArray) (v : Value) (us : List ByteArray) (okx : Nat → Prop) (Lx : List (Nat × AF)) (k : Nat) (f : AF) (wr : World) : Prop where
  R : StoreRep wr okx xb Lx
  I : TInv 200 (Lx.map (·.2))
  pos : posF (Lx.map (·.2)) n = some (k, f)
  users : us.Perm (f.users.map (·.1))
  low : Below wi.heap.size wi wr
  ok : ∀ q, okx q → wi.heap.size ≤ q
  row : Kd.R Kd.string 9 wr 0 (fun q => ¬ okx q) v us
def InnerAt (wi : World) (xb : Nat) (n : ByteArray) (v : Value) (us : List ByteArray) (wr : World) : Prop := ∃ okx Lx k f, Inner wi xb n v us okx Lx k f wr
theorem InnerAt.drew {wi wr : World} {xb : Nat} {n : ByteArray} {v : Value} {us : List ByteArray} (h : InnerAt wi xb n v us wr) : InnerAt wi xb n v us wr.drew := by
  obtain ⟨okx, Lx, k, f, h⟩ := h
  have hb : Below wr.heap.size wr wr.drew := (Below.refl _ _).drew
  exact ⟨okx, Lx, k, f, h.R.other (Chg.of_below hb (fun _ => False)) (fun _ _ h => h), h.I, h.pos, h.users, h.low.trans (hb.mono h.low.size), h.ok, Kd.R_below h.row hb⟩
theorem InnerAt.below {wi wr w' : World} {xb : Nat} {n : ByteArray} {v : Value} {us : List ByteArray} (h : InnerAt wi xb n v us wr) (hb : Below wr.heap.size wr w') : InnerAt wi xb n v us w' := by
  obtain ⟨okx, Lx, k, f, h⟩ := h
  exact ⟨okx, Lx, k, f, h.R.other (Chg.of_below hb (fun _ => False)) (fun _ _ h => h), h.I, h.pos, h.users, h.low.trans (hb.mono h.low.size), h.ok, Kd.R_below h.row hb⟩
def ReadOut (wi wr : World) (xb : Nat) (n : ByteArray) (v : Value) (us : List ByteArray) (e : Ending) (w' : World) : Prop := ∃ (A : Option Addr) (c : Nat) (l : List S41) (E : Int), e = .returned (.tuple #[.slice A l.length c, .int .i64 E]) ∧ (E = 0 ∨ E = 12) ∧ (E = 0 → validB l 2 = true) ∧ l.length ≤ c ∧ Kd.C k41 w' A l.length l ∧ InnerAt wi xb n v us w'
theorem InnerAt.read {wi wr : World} {xb : Nat} {n : ByteArray} {v : Value} {us : List ByteArray} (h : InnerAt wi xb n v us wr) {u : ByteArray} (hu : u ∈ us) :
    Calls Try.prog 20 #[.pointer (some ⟨xb, 0, none⟩), .string u, .string n, .int .i64 0, .bool true] wr (ReadOut wi wr xb n v us) := by
  obtain ⟨okx, Lx, k, f, h⟩ := h
  have hk := posF_some h.pos
  have hg : GInv 200 f := h.I.at_ hk.1
  have hu2 : u ∈ f.users.map (·.1) := h.users.mem_iff.1 hu
  obtain ⟨a, b, hl⟩ := lookU_some hu2
  have hub : userB u = true := by
    obtain ⟨p, hp, e⟩ := List.mem_map.1 hu2
    rw [← e]; exact hg.uok p hp
  have hnb : nameB n = true := nameB_iff.2 (by rw [← hk.2]; exact hg.name)
  have hmf : mFound (Lx.map (·.2)) u n = .ok (k, f) := by unfold mFound; rw [hub, hnb, h.pos]; rfl
  have hmu : mUnit (Lx.map (·.2)) u n 0 1 = .ok (k, f, 0, denied a 1) := by
    unfold mUnit mOpened
    rw [hmf, if_neg (by omega)]
    simp only [hl]
    rw [if_neg (by have := hg.v.len.1; omega)]
    rfl
  refine (S_Read h.R rfl h.I.S u n 0 true).mono ?_
  rintro e w' ⟨v2, ⟨rfl, ok', L', h1, h2, h3, h4⟩, h5⟩
  obtain ⟨A, c, rfl, hlc, hC⟩ := Kd.R_reads h5
  have hinv := inv_Read h.I u n 0 true
  unfold mRead at h2 hinv hlc hC ⊢
  rw [hmu] at h2 hinv hlc hC ⊢
  simp only at h2 hinv hlc hC ⊢
  have hrow : Kd.R Kd.string 9 w' 0 (fun q => ¬ ok' q) v us := Kd.R_mono (Kd.R_bound (h3.row (Kd.R_bound h.row) (fun q hq => hq.1))) (fun q hq => by
    intro hq'
    rcases h4 q hq' with h6 | h6
    · exact hq.1.1 h6
    · have := hq.1.2.2.1
      omega)
  have hlow : Below wi.heap.size wi w' := h.low.trans (h3.below h.low.size h.ok)
  have hok : ∀ q, ok' q → wi.heap.size ≤ q := fun q hq => (h4 q hq).elim (h.ok q) (fun e => Nat.le_trans h.low.size e)
  rcases denied_cases a 1 with hd | hd
  · rw [hd] at h2 hinv hlc hC ⊢
    simp only [if_pos] at h2 hinv hlc hC ⊢
    refine ⟨A, c, _, 0, rfl, .inl rfl, fun _ => ?_, hlc, hC, ok', L', k, f.read, ⟨h1, by rw [h2]; exact hinv, by rw [h2]; exact posF_set h.pos rfl, h.users, hlow, hok, hrow⟩⟩
    rw [readL_whole hg.v]
    exact hg.v.wide.valid
  · rw [hd] at h2 hinv hlc hC ⊢
    simp only [show ¬ ((12 : Int) = 0) by decide, if_false] at h2 hinv hlc hC ⊢
    exact ⟨A, c, _, 12, rfl, .inr rfl, fun e => (by cases e), hlc, hC, ok', L', k, f, ⟨h1, by rw [h2]; exact hinv, by rw [h2]; exact h.pos, h.users, hlow, hok, hrow⟩⟩
/-- Copy, then Users: the start of a round. -/
theorem Hold.copy {W wr : World} {sb c : Nat} {st : Fs} (h : Hold W sb c st wr) : Calls Try.prog 18 #[.pointer (some ⟨sb, 0, none⟩)] wr (CopyOut wr st) := by
  obtain ⟨ok, L, hR, hst, hI, hl, ho⟩ := h
  exact S_Copy hR hst hI
def UsersOut (wi : World) (xb : Nat) (n : ByteArray) (e : Ending) (w' : World) : Prop := ∃ (v : Value) (us : List ByteArray), e = .returned v ∧ InnerAt wi xb n v us w'
theorem users_c {wi w1 : World} {xb c : Nat} {n : ByteArray} {okx : Nat → Prop} {Lx : List (Nat × AF)} {st : Fs} (hc : c ≤ 200) (hI : TInv c st) (hn : n ∈ st.map (·.F.name)) (hR : StoreRep w1 okx xb Lx) (hst : Lx.map (·.2) = st) (hb : Below wi.heap.size wi w1) (ho : ∀ q, okx q → wi.heap.size ≤ q) :
    Calls Try.prog 19 #[.pointer (some ⟨xb, 0, none⟩), .string n] w1 (UsersOut wi xb n) := by
  subst hst
  obtain ⟨k, f, hp⟩ := posF_of_name hn
  have hg : GInv c f := hI.at_ (posF_some hp).1
  have hlt : ∀ q, okx q → q < w1.heap.size := by obtain ⟨_, _, _, R⟩ := hR; exact R.lt
  have := S_Users hR rfl hI.S (by omega) n (by have := hg.name; rw [(posF_some hp).2] at this; omega)
  rw [hp] at this
  refine this.mono ?_
  intro e w' hw
  obtain ⟨v, us, rfl, hperm, hr, hbw⟩ := hw.words
  refine ⟨v, us, rfl, okx, Lx, k, f, ⟨hR.other (Chg.of_below hbw (fun _ => False)) (fun _ _ h => h), hI.mono hc, hp, hperm, hb.trans (hbw.mono hb.size), ho, ?_⟩⟩
  exact Kd.R_mono (Kd.R_lower (Kd.R_bound hr) (Nat.zero_le _)) (fun q hq hq2 => by have := hlt q hq2; have := hq.2.1; omega)
theorem Hold.names {W wr : World} {sb c : Nat} {st : Fs} (h : Hold W sb c st wr) : Calls Try.prog 17 #[.pointer (some ⟨sb, 0, none⟩)] wr (WordsOut wr (st.map (·.F.name))) := by
  obtain ⟨ok, L, hR, hst, hI, hl, ho⟩ := h
  exact (S_Names hR hst hI.S).mono fun e w' hw => hw.words
end Go.Proofs.Ytehlmkgldcfciaa.Files
/- The law FilesStay, walked. -/
set_option linter.unusedVariables false
set_option linter.unusedSimpArgs false
namespace Go.Proofs.Ytehlmkgldcfciaa.Files
open Go.Proofs.Ytehlmkgldcfciaa.Common Go.Maps Go.ChangeMaps Go.WideMaps Go.Proofs.Ytehlmkgldcfciaa.F
open Go.RowKit Go.Proofs.YtehlmkgldcfciaaW.PrintWords Go.Proofs.YtehlmkgldcfciaaW.PrintLast Go.Proofs.YtehlmkgldcfciaaW.PrintMore
def Stay.T19 : Bool × List (List Nat × List Nat) := (true, [([], []), ([], []), ([], []), ([1, 2], [1, 2]), ([3], [3]), ([], []), ([], []), ([5, 6], [5, 6]), ([7], [7]), ([0, 4, 8], [0, 4, 8]), ([9], [9]), ([10], [10]), ([10], [10]), ([11, 9, 0, 1, 2, 3, 4, 5, 6, 7, 8, 9, 10, 11], [11]), ([12, 13, 0, 1, 2, 3, 4, 5, 6, 7, 8, 9, 10, 11, 12, 13], [12])])
def Stay.B19 : List Nat := [0, 0, 0, 6, 14, 0, 0, 96, 224, 511, 1023, 2047, 2047, 4095, 16383]
theorem Stay.tab19 : rtab .any (opsOf Try.f5 19) = Stay.T19 := by kernel_rfl
theorem Stay.bits19 : waitsOk Stay.T19.2 Stay.B19 = true := by kernel_rfl
set_option maxRecDepth 100000 in
set_option maxHeartbeats 8000000 in
theorem FilesStay_c (A : Option Addr) (c : Nat) (l : List S44) (W : World) (hr : Kd.C k44 W A l.length l) (hc : l.length ≤ c) (hb : l.length * 152 ≤ 140737488351232) :
    Calls Try.prog 5 #[.slice A l.length c] W fun e w' => e = .returned (.bool true) ∧ Below W.heap.size W w' := by
  have HR := Aside0.mk hr
  have CN := Aside0.mk (S_New W)
  clear hr
  go_enter Try.func5, Try.ntmps5
  go_wp2_with fail
  refine CN.out.mono ?_
  rintro e w1 ⟨sb, okk, rfl, hR1, hb1, hok1⟩
  have HH := Aside0.mk (show Hold W sb 0 [] w1 from ⟨okk, [], hR1, rfl, TInv.nil 0, hb1, hok1⟩)
  clear hR1 hb1 hok1 CN
  go_wp2_with fail
  go_loopw [4] (fun s wr => ∃ (k : Nat) (st : Fs), s = .int .i64 k ∧ k ≤ 200 ∧ k ≤ l.length ∧ Aside0 (Hold W sb k st wr)) (fun s _ => 200 - (intOf s).toNat)
  case atStart => exact ⟨0, [], rfl, by omega, by omega, HH⟩
  case round =>
    clear HH
    obtain ⟨k, st, rfl, hk2, hkl, HH⟩ := hrel
    by_cases hlt : k < l.length ∧ k < 200
    · have h1z : (k : Int) < (l.length : Int) := by omega
      have h2z : (k : Int) < 200 := by omega
      have hk0 : decide ((k : Int) < 0) = false := decide_eq_false (by omega)
      obtain ⟨ad, Ap, cp, Ar, cr, rfl, hlr, hrr, hx0, hx1, hx2, hx3, hx4, hx5, hx6, hx7, hx8, hx9, hx10⟩ := at_T44 (Kd.C_below HR.out HH.out.low) k hlt.1
      generalize rd_T44 l (k : Int) = x at *
      have HRR := Aside0.mk hrr
      clear hrr
      have CD := Aside0.mk (HH.out.do_ (by omega) x (.slice Ap x.f7.length cp) Ar cr HRR.out hlr)
      unfold ActIs at CD
      go_wp2_with fail
      refine CD.out.mono ?_
      rintro e w5 ⟨rfl, h5⟩
      have HH5 := Aside0.mk h5
      clear h5 CD
      go_wp2_with fail
      go_roundw
      case rel => exact ⟨k + 1, _, by go_num, by omega, by omega, HH5⟩
      case measure => simp [intOf]; omega
    · have hcase : ¬ (k : Int) < (l.length : Int) ∨ ((k : Int) < (l.length : Int) ∧ ¬ (k : Int) < 200) := by omega
      clear hlt
      rcases hcase with h1z | ⟨h1z, h2z⟩
      all_goals
        go_wp2_with fail
        refine HH.out.names.mono ?_
        rintro e w5 ⟨v, ws, rfl, hperm, hrow, hb5⟩
        have HPM := Aside0.mk hperm
        obtain ⟨An, cn, rfl⟩ := Kd.R_slice hrow
        have HROW := Aside0.mk hrow
        have HH5 := Aside0.mk (HH.out.below hb5)
        have hwl : (ws.length : Int) ≤ 9223372036854775807 := by have := (Kd.R_reads' hrow).2.2.2.1; omega
        clear hperm hrow hb5
        go_wp2_with fail
        go_loopw [6] (fun s wr => ∃ i : Nat, s = .int .i64 i ∧ i ≤ ws.length ∧ Aside0 (Below w5.heap.size w5 wr)) (fun s _ => ws.length - (intOf s).toNat)
        case atStart => exact ⟨0, rfl, by omega, ⟨Below.refl _ _⟩⟩
        case round =>
          obtain ⟨i, rfl, hi, HB⟩ := hrel
          by_cases hlt : i < ws.length
          · have hltz : (i : Int) < (ws.length : Int) := by omega
            have hi0 : decide ((i : Int) < 0) = false := decide_eq_false (by omega)
            obtain ⟨g, cn', he, hcn⟩ := at_word HROW.out (by omega)
            injection he with he1 _ he2
            subst he1
            subst he2
            have HH6 := Aside0.mk (HH5.out.below HB.out)
            go_wp2_with fail
            refine HH6.out.copy.mono ?_
            rintro e w7 ⟨xb, okx, Lx, rfl, hRx, hstx, hbx, hox⟩
            have HR7 := Aside0.mk (Kd.R_below (Kd.R_below HROW.out HB.out) hbx)
            have hn7 : w7.cell? ⟨g, i, none⟩ = some (.string ws[i]) := word_at HR7.out i hlt
            have hmem : ws[i] ∈ st.map (·.F.name) := HPM.out.mem_iff.1 (List.getElem_mem hlt)
            have CU := Aside0.mk (by
              obtain ⟨_, _, _, _, hI, _⟩ := HH6.out
              exact users_c (wi := wr) hk2 hI hmem hRx hstx hbx hox)
            have HN := Aside0.mk (fun (w' : World) (h : Below wr.heap.size wr w') => word_at (Kd.R_below (Kd.R_below HROW.out HB.out) h) i hlt)
            generalize ws[i] = nm at *
            clear hRx hstx hbx hox hmem HR7
            go_wp2_with fail
            refine CU.out.mono ?_
            rintro e w8 ⟨v, us, rfl, hin⟩
            have HIN := Aside0.mk hin
            obtain ⟨okx2, Lx2, k2, f2, hI⟩ := hin
            obtain ⟨Av, cv, rfl⟩ := Kd.R_slice hI.row
            have hul : (us.length : Int) ≤ 9223372036854775807 := by have := (Kd.R_reads' hI.row).2.2.2.1; omega
            clear hI CU
            go_wp2_with fail
            go_loopw [9] (fun s w' => ∃ j : Nat, s = .int .i64 j ∧ j ≤ us.length ∧ Aside0 (InnerAt wr xb nm (.slice Av us.length cv) us w')) (fun s _ => us.length - (intOf s).toNat)
            case atStart => exact ⟨0, rfl, by omega, HIN⟩
            case round =>
              clear HIN
              obtain ⟨j, rfl, hj, HIN⟩ := hrel
              by_cases hltj : j < us.length
              · have hltjz : (j : Int) < (us.length : Int) := by omega
                have hj0 : decide ((j : Int) < 0) = false := decide_eq_false (by omega)
                have hin := HIN.out
                obtain ⟨okx3, Lx3, k3, f3, hI⟩ := hin
                obtain ⟨gv, cv', he, hcv⟩ := at_word hI.row (by omega)
                injection he with he1 _ he2
                subst he1
                subst he2
                have hzu : wr.cell? ⟨gv, j, none⟩ = some (.string us[j]) := word_at hI.row j hltj
                have hzn : wr.cell? ⟨g, i, none⟩ = some (.string nm) := HN.out wr hI.low
                have HMU := Aside0.mk (show us[j] ∈ us from List.getElem_mem hltj)
                clear hI
                generalize us[j] = un at *
                go_wp2_with fail
                refine start_ (n := 15) (S := fun w' => w'.cell? ⟨gv, j, none⟩ = some (.string un) ∧ w'.cell? ⟨g, i, none⟩ = some (.string nm)) (ds := [9]) #[false, false, false, false, false, false, false, false, false, false, false, false, false, false, false] (by kernel_rfl) rfl rfl ⟨hzu, hzn⟩ (fun hHeld => ?_)
                refine with_tabW Stay.tab19 Stay.bits19 (fun HT_ HW_ => ?_)
                have HWI := Aside0.mk HIN.out.drew
                generalize wr.drew = wd at HWI hHeld ⊢
                refine pure_ (i := 0) (N := some 56) (v := ?_) (a' := ?_) #[true, false, false, false, false, false, false, false, false, false, false, false, false, false, false] rfl rfl (any_of HT_.out (by kernel_rfl)) (fun _ _ _ h => h) (Or.inl ⟨by rfl, ?_⟩) ?_ ?_
                rotate_left
                · intro w'
                  go_simp
                  with_reducible rfl
                rotate_left
                · simp only [Act.put, List.setIfInBounds_toArray, List.set_cons_zero, List.set_cons_succ, i64_w, i32_w]
                  rfl
                refine pure_ (i := 1) (N := some 57) (v := ?_) (a' := ?_) #[true, true, false, false, false, false, false, false, false, false, false, false, false, false, false] rfl rfl (any_of HT_.out (by kernel_rfl)) (fun _ _ _ h => h) (Or.inl ⟨by rfl, ?_⟩) ?_ ?_
                rotate_left
                · intro w'
                  go_simp
                  with_reducible rfl
                rotate_left
                · simp only [Act.put, List.setIfInBounds_toArray, List.set_cons_zero, List.set_cons_succ, i64_w, i32_w]
                  rfl
                refine pure_ (i := 2) (N := some 58) (v := ?_) (a' := ?_) #[true, true, true, false, false, false, false, false, false, false, false, false, false, false, false] rfl rfl (any_of HT_.out (by kernel_rfl)) (fun _ _ _ h => h) (Or.inl ⟨by rfl, ?_⟩) ?_ ?_
                rotate_left
                · intro w'
                  go_simp
                  with_reducible rfl
                rotate_left
                · simp only [Act.put, List.setIfInBounds_toArray, List.set_cons_zero, List.set_cons_succ, i64_w, i32_w]
                  rfl
                refine pure_ (i := 3) (N := some 59) (v := ?_) (a' := ?_) #[true, true, true, true, false, false, false, false, false, false, false, false, false, false, false] rfl rfl (any_of HT_.out (by kernel_rfl)) (fun _ _ _ h => h) (Or.inl ⟨by rfl, ?_⟩) ?_ ?_
                rotate_left
                · intro w'
                  go_simp
                  with_reducible rfl
                rotate_left
                · simp only [Act.put, List.setIfInBounds_toArray, List.set_cons_zero, List.set_cons_succ, i64_w, i32_w]
                  rfl
                refine pure_ (i := 5) (N := some 61) (v := ?_) (a' := ?_) #[true, true, true, true, false, true, false, false, false, false, false, false, false, false, false] rfl rfl (any_of HT_.out (by kernel_rfl)) (fun _ _ _ h => h) (Or.inl ⟨by rfl, ?_⟩) ?_ ?_
                rotate_left
                · intro w'
                  go_simp
                  with_reducible rfl
                rotate_left
                · simp only [Act.put, List.setIfInBounds_toArray, List.set_cons_zero, List.set_cons_succ, i64_w, i32_w]
                  rfl
                refine pure_ (i := 6) (N := some 62) (v := ?_) (a' := ?_) #[true, true, true, true, false, true, true, false, false, false, false, false, false, false, false] rfl rfl (any_of HT_.out (by kernel_rfl)) (fun _ _ _ h => h) (Or.inl ⟨by rfl, ?_⟩) ?_ ?_
                rotate_left
                · intro w'
                  go_simp
                  with_reducible rfl
                rotate_left
                · simp only [Act.put, List.setIfInBounds_toArray, List.set_cons_zero, List.set_cons_succ, i64_w, i32_w]
                  rfl
                refine pure_ (i := 7) (N := some 63) (v := ?_) (a' := ?_) #[true, true, true, true, false, true, true, true, false, false, false, false, false, false, false] rfl rfl (any_of HT_.out (by kernel_rfl)) (fun _ _ _ h => h) (Or.inl ⟨by rfl, ?_⟩) ?_ ?_
                rotate_left
                · intro w'
                  go_simp
                  with_reducible rfl
                rotate_left
                · simp only [Act.put, List.setIfInBounds_toArray, List.set_cons_zero, List.set_cons_succ, i64_w, i32_w]
                  rfl
                refine take_ (i := 4) (N := some 60) (v := ?_) (a' := ?_) #[true, true, true, true, true, true, true, true, false, false, false, false, false, false, false] rfl rfl (take_ofW HT_.out HW_.out (by kernel_rfl)) (fun _ _ _ h => h) (Or.inl ⟨by rfl, ?_⟩) hHeld ?_ ?_
                rotate_left
                · rintro w' ⟨s0, s1⟩
                  go_simp
                  with_reducible rfl
                rotate_left
                · simp only [Act.put, List.setIfInBounds_toArray, List.set_cons_zero, List.set_cons_succ, i64_w, i32_w]
                  rfl
                refine take_ (i := 8) (N := some 64) (v := ?_) (a' := ?_) #[true, true, true, true, true, true, true, true, true, false, false, false, false, false, false] rfl rfl (take_ofW HT_.out HW_.out (by kernel_rfl)) (fun _ _ _ h => h) (Or.inl ⟨by rfl, ?_⟩) hHeld ?_ ?_
                rotate_left
                · rintro w' ⟨s0, s1⟩
                  go_simp
                  with_reducible rfl
                rotate_left
                · simp only [Act.put, List.setIfInBounds_toArray, List.set_cons_zero, List.set_cons_succ, i64_w, i32_w]
                  rfl
                refine last_ (i := 9) (N := some 65) #[true, true, true, true, true, true, true, true, true, true, false, false, false, false, false] rfl rfl (one_of HT_.out (by kernel_rfl)) (by decide) (fun K hK => ?_)
                refine goes_ Try.func20 (by kernel_rfl) rfl #[.pointer (some ⟨xb, 0, none⟩), .string un, .string nm, .int .i64 0, .bool true] (by rfl) rfl rfl (by (try simp only [List.map_toArray, List.map_cons, List.map_nil]); first | done | rfl | (simp only []; rfl)) ?_
                with_reducible refine (HWI.out.read HMU.out).mono ?_
                rintro e w9 ⟨Ar, cr, lr, E, rfl, hE, hval, hcr, hC9, hi9⟩
                have HVAL := Aside0.mk hval
                have HC9 := Aside0.mk hC9
                have HI9 := Aside0.mk hi9
                clear hval hC9 hi9
                refine ⟨_, rfl, ?_⟩
                refine hK.out _ _ ?_
                clear hK K
                refine norm_ (a' := ?_) ?_ ?_
                rotate_left
                · show Act.put _ (some 65) _ = _
                  simp only [Act.put, List.setIfInBounds_toArray, List.set_cons_zero, List.set_cons_succ, i64_w, i32_w]
                  rfl
                refine pure_ (i := 10) (N := some 55) (v := ?_) (a' := ?_) #[true, true, true, true, true, true, true, true, true, true, true, false, false, false, false] rfl rfl (any_of HT_.out (by kernel_rfl)) (fun _ _ _ h => h) (Or.inl ⟨by rfl, ?_⟩) ?_ ?_
                rotate_left
                · intro w'
                  go_simp
                  with_reducible rfl
                rotate_left
                · simp only [Act.put, List.setIfInBounds_toArray, List.set_cons_zero, List.set_cons_succ, i64_w, i32_w]
                  rfl
                refine pure_ (i := 11) (N := some 66) (v := ?_) (a' := ?_) #[true, true, true, true, true, true, true, true, true, true, true, true, false, false, false] rfl rfl (any_of HT_.out (by kernel_rfl)) (fun _ _ _ h => h) (Or.inl ⟨by rfl, ?_⟩) ?_ ?_
                rotate_left
                · intro w'
                  go_simp
                  with_reducible rfl
                rotate_left
                · simp only [Act.put, List.setIfInBounds_toArray, List.set_cons_zero, List.set_cons_succ, i64_w, i32_w]
                  rfl
                refine pure_ (i := 12) (N := some 67) (v := ?_) (a' := ?_) #[true, true, true, true, true, true, true, true, true, true, true, true, true, false, false] rfl rfl (any_of HT_.out (by kernel_rfl)) (fun _ _ _ h => h) (Or.inl ⟨by rfl, ?_⟩) ?_ ?_
                rotate_left
                · intro w'
                  go_simp
                  with_reducible rfl
                rotate_left
                · simp only [Act.put, List.setIfInBounds_toArray, List.set_cons_zero, List.set_cons_succ, i64_w, i32_w]
                  rfl
                refine pure_ (i := 13) (N := some 10) (v := ?_) (a' := ?_) #[true, true, true, true, true, true, true, true, true, true, true, true, true, true, false] rfl rfl (any_of HT_.out (by kernel_rfl)) (fun _ _ _ h => h) (Or.inl ⟨by rfl, ?_⟩) ?_ ?_
                rotate_left
                · intro w'
                  go_simp
                  with_reducible rfl
                rotate_left
                · simp only [Act.put, List.setIfInBounds_toArray, List.set_cons_zero, List.set_cons_succ, i64_w, i32_w]
                  rfl
                refine pure_ (i := 14) (N := some 11) (v := ?_) (a' := ?_) #[true, true, true, true, true, true, true, true, true, true, true, true, true, true, true] rfl rfl (any_of HT_.out (by kernel_rfl)) (fun _ _ _ h => h) (Or.inl ⟨by rfl, ?_⟩) ?_ ?_
                rotate_left
                · intro w'
                  go_simp
                  with_reducible rfl
                rotate_left
                · simp only [Act.put, List.setIfInBounds_toArray, List.set_cons_zero, List.set_cons_succ, i64_w, i32_w]
                  rfl
                refine done_ (done_of HT_.out (by kernel_rfl)) ?_
                rcases hE with rfl | rfl
                · have CV := Aside0.mk (Valid_c Ar cr lr 2 w9 HC9.out hcr)
                  rw [HVAL.out rfl] at CV
                  go_wp2_with fail
                  refine CV.out.mono ?_
                  rintro e w10 ⟨rfl, hb10⟩
                  have HI10 := Aside0.mk (HI9.out.below hb10)
                  clear hb10 CV
                  go_wp2_with fail
                  go_roundw
                  case rel => exact ⟨j + 1, by go_num, by omega, HI10⟩
                  case measure => simp [intOf]; omega
                · go_wp2_with fail
                  go_roundw
                  case rel => exact ⟨j + 1, by go_num, by omega, HI9⟩
                  case measure => simp [intOf]; omega
              · have hltjz : ¬ (j : Int) < (us.length : Int) := by omega
                have HL := Aside0.mk (by obtain ⟨_, _, _, _, hI⟩ := HIN.out; exact hI.low)
                go_wp2_with fail
                go_roundw
                case rel => exact ⟨i + 1, by go_num, by omega, ⟨HB.out.trans (HL.out.mono HB.out.size)⟩⟩
                case measure => simp [intOf]; omega
          · have hltz : ¬ (i : Int) < (ws.length : Int) := by omega
            have CS := Aside0.mk (sane_c wr)
            go_wp2_with fail
            refine CS.out.mono ?_
            rintro e w9 ⟨rfl, hb9⟩
            have HL := Aside0.mk ((HH5.out.below HB.out).below hb9).low
            go_wp2
            go_ret
            exact ⟨rfl, HL.out⟩
end Go.Proofs.Ytehlmkgldcfciaa.Files
