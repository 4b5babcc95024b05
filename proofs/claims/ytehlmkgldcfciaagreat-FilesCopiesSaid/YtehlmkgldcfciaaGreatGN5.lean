/- The parts of this proof that lie in one text. -/
import Derived.Test.YtehlmkgldcfciaaGreatGN4
import Derived.Test.YtehlmkgldcfciaaGreatGN1
/- The file store: Insert's other endings. -/
set_option linter.unusedVariables false
set_option linter.unusedSimpArgs false
namespace Go.Proofs.YtehlmkgldcfciaaGreat.Files
open Go.Proofs.YtehlmkgldcfciaaGreat.Common Go.Maps Go.ChangeMaps Go.WideMaps Go.Proofs.YtehlmkgldcfciaaGreat.F
open Go.RowKit Go.Proofs.YtehlmkgldcfciaaGreatW.PrintWords Go.Proofs.YtehlmkgldcfciaaGreatW.PrintLast Go.Proofs.YtehlmkgldcfciaaGreatW.PrintMore
def insErr (cb : Bool) (dn : Int) : Int := if cb then 7 else if dn = 0 then 9 else 12
set_option maxRecDepth 100000 in
set_option maxHeartbeats 2000000 in
theorem Insert_bad (sp : Value) (u n : ByteArray) (i fb rc ub : Nat) (child : Bool) (a b : ByteArray) (lev0 dn : Int) (f : AF) (A : Option Addr) (uv : Value) (DU : DataW Unit) (ok : Nat → Prop) (W : World) (HU : UnitOk W sp u n (i : Int) 2 fb dn) (P : FileParts W ok fb f A rc uv ub DU)
    (hi : i < f.units.length) (hl : f.units.length ≤ 1000) (h1 : a.size ≤ 30) (h2 : b.size ≤ 400) (hlv : ∀ j, 0 ≤ lv f.units j ∧ lv f.units j ≤ 1000) (hroot : lv f.units 0 = 0) (hbad : insBad f.F.kind (insLev f.units i child) = true) :
    Calls Tryz.prog 30 #[sp, .string u, .string n, .int .i64 (i : Int), .bool child, .agg #[.string a, .string b, .int .i64 lev0]] W fun e w' => e = .returned (.int .i64 1) ∧ Below W.heap.size W w' := by
  have hb0 : Below W.heap.size W (W.alloc (.cells #[.string a, .string b, .int .i64 lev0] 29)) := (Below.refl _ _).alloc (Nat.le_refl _) _
  have CU := Aside0.mk (HU _ hb0)
  have HP := Aside0.mk (P.below hb0)
  have HB0 := Aside0.mk hb0
  have hfl := blk_lt P.F
  have g1 : decide ((30 : Int) < (a.size : Int)) = false := decide_eq_false (by omega)
  have g2 : decide ((400 : Int) < (b.size : Int)) = false := decide_eq_false (by omega)
  obtain ⟨g, cu, huv, hlc, hcm⟩ := units_slice P.units (by omega)
  subst huv
  have HPW := Aside0.mk P
  have hgl : g < W.heap.size := own_lt (uRow_of_R P.units) g rfl
  have HBX := Aside0.mk (show (W.alloc (.cells #[.string a, .string b, .int .i64 lev0] 29)).heap[W.heap.size]? = some (.cells #[.string a, .string b, .int .i64 lev0] 29 (0, 0)) from heap_alloc_new _ _)
  have HSZ := Aside0.mk (show (W.alloc (.cells #[.string a, .string b, .int .i64 lev0] 29)).heap.size = W.heap.size + 1 by simp)
  clear hb0 P HU
  have HLV := Aside0.mk hlv
  have hlvi := hlv i
  have hlev0 : 0 ≤ lv f.units i := hlvi.1
  have hlev1 : lv f.units i ≤ 1000 := hlvi.2
  clear hlv hlvi
  go_enter Tryz.func30, Tryz.ntmps30
  go_wp2_with fail
  refine CU.out.mono ?_
  rintro e w2 ⟨rfl, hb2⟩
  have P2 := HP.out.below hb2
  have hbx2 : w2.heap[W.heap.size]? = some (.cells #[.string a, .string b, .int .i64 lev0] 29 (0, 0)) := (hb2.block _ (by rw [HSZ.out]; exact Nat.lt_succ_self _)).trans HBX.out
  have c8 : w2.cell? ⟨fb, 8, none⟩ = some (.slice (some ⟨g, 0, none⟩) f.units.length cu) := (blk_cell P2.F 8).trans rfl
  have b2 : w2.cell? ⟨W.heap.size, 2, none⟩ = some (.int .i64 lev0) := (blk_cell hbx2 2).trans rfl
  have fb2 := blk_frozen hbx2 2
  have xa : w2.cell? ⟨g, i * 3 + 2, none⟩ = some (.int .i64 (lv f.units i)) := by
    obtain ⟨_, _, hC⟩ := Kd.R_reads' P2.units
    obtain ⟨ad, he, _, _, h3⟩ := at_T29 (xs := f.units) hC (i : Int) (by omega) (by omega)
    cases he
    rw [Int.toNat_natCast, add_plain] at h3
    exact h3
  have hiz : (i : Int) < (f.units.length : Int) := by omega
  have HB2 := Aside0.mk (show Below W.heap.size W w2 from HB0.out.trans (hb2.mono HB0.out.size))
  have HX2 := Aside0.mk hbx2
  obtain ⟨lev, hlev⟩ : ∃ lev, lev = insLev f.units i child := ⟨_, rfl⟩
  have HBAD := Lib.hid (show (lev = 0) ∨ (lev ≠ 0 ∧ f.F.kind < 2 ∧ f.F.kind < lev) by
    unfold insBad at hbad
    rw [← hlev] at hbad
    simp only [Bool.or_eq_true, Bool.and_eq_true, decide_eq_true_eq] at hbad
    by_cases h : lev = 0
    · exact .inl h
    · exact .inr ⟨h, hbad.elim (fun e => absurd e h) (fun e => e)⟩)
  have HLE := Lib.hid hlev
  have HFP := Aside0.mk (HP.out.below hb2)
  have hlev1000 : lev ≤ 1001 := by rw [hlev]; unfold insLev; split <;> omega
  clear hbad hlev hb2 hbx2 P2 CU HBX
  cases child
  all_goals
    go_wp2_with fail
    first
    | (obtain ⟨w3, hw3⟩ : ∃ w3, w3 = (w2.setCell ⟨W.heap.size, 2, none⟩ (.int .i64 (lv f.units i))).setCell ⟨W.heap.size, 2, none⟩ (.int .i64 (lv f.units i + 1)) := ⟨_, rfl⟩
       rw [← hw3]
       have HX3 : Aside0 (w3.heap[W.heap.size]? = some (.cells #[.string a, .string b, .int .i64 lev] 29 (0, 0))) := ⟨by rw [hw3, HLE.out]; exact (blk_set (blk_set HX2.out 2 _) 2 _)⟩
       have HB3 : Aside0 (Below W.heap.size W w3) := ⟨by rw [hw3]; exact (HB2.out.setCell (p := ⟨W.heap.size, 2, none⟩) (Nat.le_refl _) _).setCell (p := ⟨W.heap.size, 2, none⟩) (Nat.le_refl _) _⟩)
    | (obtain ⟨w3, hw3⟩ : ∃ w3, w3 = w2.setCell ⟨W.heap.size, 2, none⟩ (.int .i64 (lv f.units i)) := ⟨_, rfl⟩
       rw [← hw3]
       have HX3 : Aside0 (w3.heap[W.heap.size]? = some (.cells #[.string a, .string b, .int .i64 lev] 29 (0, 0))) := ⟨by rw [hw3, HLE.out, show insLev f.units i false = lv f.units i by simp [insLev]]; exact (blk_set HX2.out 2 _)⟩
       have HB3 : Aside0 (Below W.heap.size W w3) := ⟨by rw [hw3]; exact HB2.out.setCell (p := ⟨W.heap.size, 2, none⟩) (Nat.le_refl _) _⟩)
    clear b2 fb2 xa c8 HX2 HB2 HFP hw3
    have P3 := HPW.out.below HB3.out
    have c8 : w3.cell? ⟨fb, 8, none⟩ = some (.slice (some ⟨g, 0, none⟩) f.units.length cu) := (blk_cell P3.F 8).trans rfl
    have c1 : w3.cell? ⟨fb, 1, none⟩ = some (.int .i64 f.F.kind) := (blk_cell P3.F 1).trans rfl
    have b2 : w3.cell? ⟨W.heap.size, 2, none⟩ = some (.int .i64 lev) := (blk_cell HX3.out 2).trans rfl
    have HP3 := Aside0.mk P3
    clear P3
    rcases HBAD.out with rfl | ⟨hb1, hb2, hb3⟩
    · go_quiet (fail)
      go_wp2
      go_ret
      exact ⟨rfl, pw_below_drewN HB3.out _⟩
    · have hl0 : (lev == 0) = false := beq_eq_false_iff_ne.2 hb1
      have hk1 : decide (f.F.kind < 2) = true := decide_eq_true hb2
      have hk2 : decide (f.F.kind < lev) = true := decide_eq_true hb3
      clear hb1
      go_quiet (fail)
      go_wp2
      go_ret
      exact ⟨rfl, pw_below_drewN HB3.out _⟩
set_option maxRecDepth 100000 in
set_option maxHeartbeats 2000000 in
theorem Insert_rest (sp : Value) (u n : ByteArray) (i fb rc ub : Nat) (child : Bool) (a b : ByteArray) (lev0 dn E : Int) (f : AF) (A : Option Addr) (uv : Value) (DU : DataW Unit) (ok : Nat → Prop) (W : World) (HU : UnitOk W sp u n (i : Int) 2 fb dn) (P : FileParts W ok fb f A rc uv ub DU)
    (hi : i < f.units.length) (hl : f.units.length ≤ 1000) (h1 : a.size ≤ 30) (h2 : b.size ≤ 400) (hlv : ∀ j, 0 ≤ lv f.units j ∧ lv f.units j ≤ 1000) (hroot : lv f.units 0 = 0) (hbad : insBad f.F.kind (insLev f.units i child) = false)
    (cb : Bool) (hcl : clashB f.units (kids f.units (aboveOf f.units (insLev f.units i child) i)) a = cb) (hdn : dn = 0 ∨ dn = 12) (hsome : cb = true ∨ dn = 12 ∨ 100 ≤ f.units.length) (hE : E = insErr cb dn) :
    Calls Tryz.prog 30 #[sp, .string u, .string n, .int .i64 (i : Int), .bool child, .agg #[.string a, .string b, .int .i64 lev0]] W fun e w' => e = .returned (.int .i64 E) ∧ Below W.heap.size W w' := by
  have HE := Lib.hid hE
  have HDN := Lib.hid hdn
  have HSO := Lib.hid hsome
  clear hE hdn hsome
  have hb0 : Below W.heap.size W (W.alloc (.cells #[.string a, .string b, .int .i64 lev0] 29)) := (Below.refl _ _).alloc (Nat.le_refl _) _
  have CU := Aside0.mk (HU _ hb0)
  have HP := Aside0.mk (P.below hb0)
  have HB0 := Aside0.mk hb0
  have hfl := blk_lt P.F
  have g1 : decide ((30 : Int) < (a.size : Int)) = false := decide_eq_false (by omega)
  have g2 : decide ((400 : Int) < (b.size : Int)) = false := decide_eq_false (by omega)
  obtain ⟨g, cu, huv, hlc, hcm⟩ := units_slice P.units (by omega)
  subst huv
  have HPW := Aside0.mk P
  have hgl : g < W.heap.size := own_lt (uRow_of_R P.units) g rfl
  have HBX := Aside0.mk (show (W.alloc (.cells #[.string a, .string b, .int .i64 lev0] 29)).heap[W.heap.size]? = some (.cells #[.string a, .string b, .int .i64 lev0] 29 (0, 0)) from heap_alloc_new _ _)
  have HSZ := Aside0.mk (show (W.alloc (.cells #[.string a, .string b, .int .i64 lev0] 29)).heap.size = W.heap.size + 1 by simp)
  clear hb0 P HU
  have HLV := Aside0.mk hlv
  have hlvi := hlv i
  have hlev0 : 0 ≤ lv f.units i := hlvi.1
  have hlev1 : lv f.units i ≤ 1000 := hlvi.2
  clear hlv hlvi
  go_enter Tryz.func30, Tryz.ntmps30
  go_wp2_with fail
  refine CU.out.mono ?_
  rintro e w2 ⟨rfl, hb2⟩
  have P2 := HP.out.below hb2
  have hbx2 : w2.heap[W.heap.size]? = some (.cells #[.string a, .string b, .int .i64 lev0] 29 (0, 0)) := (hb2.block _ (by rw [HSZ.out]; exact Nat.lt_succ_self _)).trans HBX.out
  have c8 : w2.cell? ⟨fb, 8, none⟩ = some (.slice (some ⟨g, 0, none⟩) f.units.length cu) := (blk_cell P2.F 8).trans rfl
  have b2 : w2.cell? ⟨W.heap.size, 2, none⟩ = some (.int .i64 lev0) := (blk_cell hbx2 2).trans rfl
  have fb2 := blk_frozen hbx2 2
  have xa : w2.cell? ⟨g, i * 3 + 2, none⟩ = some (.int .i64 (lv f.units i)) := by
    obtain ⟨_, _, hC⟩ := Kd.R_reads' P2.units
    obtain ⟨ad, he, _, _, h3⟩ := at_T29 (xs := f.units) hC (i : Int) (by omega) (by omega)
    cases he
    rw [Int.toNat_natCast, add_plain] at h3
    exact h3
  have hiz : (i : Int) < (f.units.length : Int) := by omega
  have HB2 := Aside0.mk (show Below W.heap.size W w2 from HB0.out.trans (hb2.mono HB0.out.size))
  have HX2 := Aside0.mk hbx2
  obtain ⟨lev, hlev⟩ : ∃ lev, lev = insLev f.units i child := ⟨_, rfl⟩
  have hbad' := hbad
  unfold insBad at hbad'
  rw [← hlev] at hbad'
  simp only [Bool.or_eq_false_iff, Bool.and_eq_false_iff, decide_eq_false_iff_not] at hbad'
  have hpos : 0 < lev := by
    have h0 : 0 ≤ lev := by rw [hlev]; unfold insLev; split <;> omega
    omega
  have HK : Aside0 (f.F.kind < 2 → ¬ lev > f.F.kind) := ⟨fun h => by rcases hbad'.2 with h2 | h2 <;> omega⟩
  have HLE := Lib.hid hlev
  have HCL := Lib.hid hcl
  have HFP := Aside0.mk (HP.out.below hb2)
  have hlev1000 : lev ≤ 1001 := by rw [hlev]; unfold insLev; split <;> omega
  clear hbad hbad' hlev hcl hb2 hbx2 P2 CU HBX
  cases child
  all_goals
    go_wp2_with fail
    first
    | (obtain ⟨w3, hw3⟩ : ∃ w3, w3 = (w2.setCell ⟨W.heap.size, 2, none⟩ (.int .i64 (lv f.units i))).setCell ⟨W.heap.size, 2, none⟩ (.int .i64 (lv f.units i + 1)) := ⟨_, rfl⟩
       rw [← hw3]
       have HX3 : Aside0 (w3.heap[W.heap.size]? = some (.cells #[.string a, .string b, .int .i64 lev] 29 (0, 0))) := ⟨by rw [hw3, HLE.out]; exact (blk_set (blk_set HX2.out 2 _) 2 _)⟩
       have HB3 : Aside0 (Below W.heap.size W w3) := ⟨by rw [hw3]; exact (HB2.out.setCell (p := ⟨W.heap.size, 2, none⟩) (Nat.le_refl _) _).setCell (p := ⟨W.heap.size, 2, none⟩) (Nat.le_refl _) _⟩)
    | (obtain ⟨w3, hw3⟩ : ∃ w3, w3 = w2.setCell ⟨W.heap.size, 2, none⟩ (.int .i64 (lv f.units i)) := ⟨_, rfl⟩
       rw [← hw3]
       have HX3 : Aside0 (w3.heap[W.heap.size]? = some (.cells #[.string a, .string b, .int .i64 lev] 29 (0, 0))) := ⟨by rw [hw3, HLE.out, show insLev f.units i false = lv f.units i by simp [insLev]]; exact (blk_set HX2.out 2 _)⟩
       have HB3 : Aside0 (Below W.heap.size W w3) := ⟨by rw [hw3]; exact HB2.out.setCell (p := ⟨W.heap.size, 2, none⟩) (Nat.le_refl _) _⟩)
    clear b2 fb2 xa c8 HX2 HB2 HFP hw3
    have P3 := HPW.out.below HB3.out
    have c8 : w3.cell? ⟨fb, 8, none⟩ = some (.slice (some ⟨g, 0, none⟩) f.units.length cu) := (blk_cell P3.F 8).trans rfl
    have c1 : w3.cell? ⟨fb, 1, none⟩ = some (.int .i64 f.F.kind) := (blk_cell P3.F 1).trans rfl
    have b2 : w3.cell? ⟨W.heap.size, 2, none⟩ = some (.int .i64 lev) := (blk_cell HX3.out 2).trans rfl
    have hl0 : (lev == 0) = false := beq_eq_false_iff_ne.2 (by omega)
    have HP3 := Aside0.mk P3
    clear P3
    have hkk : (decide (f.F.kind < 2) = true ∧ decide (f.F.kind < lev) = false) ∨ decide (f.F.kind < 2) = false := by
      rcases Decidable.em (f.F.kind < 2) with hk | hk
      · exact .inl ⟨decide_eq_true hk, decide_eq_false (by have := HK.out hk; omega)⟩
      · exact .inr (decide_eq_false hk)
    rcases hkk with ⟨hk1, hk2⟩ | hk1
    all_goals
      go_quiet (fail)
      clear hk1
      go_wp2_with fail
  all_goals
    have HWV := Aside0.mk (fun j => show wrap64 (lv f.units j + 1) = lv f.units j + 1 by have := HLV.out j; unfold wrap64; omega)
    clear c8 c1 b2
    go_loopw [16] (fun s wr => ∃ j : Nat, j ≤ i ∧ s = .int .i64 j ∧ Aside0 (Below w3.heap.size w3 wr) ∧ Aside0 (aboveOf f.units lev j = aboveOf f.units lev i)) (fun s _ => (intOf s).toNat)
    case atStart => exact ⟨i, Nat.le_refl _, rfl, ⟨pw_below_drewN (Below.refl _ _) _⟩, ⟨rfl⟩⟩
    case round =>
      obtain ⟨j, hji, rfl, HBR, HJ⟩ := hrel
      have HB4 := Aside0.mk (show Below W.heap.size W wr from HB3.out.trans (HBR.out.mono HB3.out.size))
      have HX4 := Aside0.mk ((HBR.out.block _ (blk_lt HX3.out)).trans HX3.out)
      have P4 := HPW.out.below HB4.out
      have c8 : wr.cell? ⟨fb, 8, none⟩ = some (.slice (some ⟨g, 0, none⟩) f.units.length cu) := (blk_cell P4.F 8).trans rfl
      have b2 : wr.cell? ⟨W.heap.size, 2, none⟩ = some (.int .i64 lev) := (blk_cell HX4.out 2).trans rfl
      have hjl : j < f.units.length := by omega
      have xj : wr.cell? ⟨g, j * 3 + 2, none⟩ = some (.int .i64 (lv f.units j)) := by
        obtain ⟨_, _, hC⟩ := Kd.R_reads' P4.units
        obtain ⟨ad, he, _, _, h3⟩ := at_T29 (xs := f.units) hC (j : Int) (by omega) (by omega)
        cases he
        rw [Int.toNat_natCast, add_plain] at h3
        exact h3
      have hjz : (j : Int) < (f.units.length : Int) := by omega
      have hjz0 : decide ((j : Int) < 0) = false := decide_eq_false (by omega)
      clear P4
      by_cases hge : lev ≤ lv f.units j
      · have hg1 : decide (lev ≤ lv f.units j) = true := decide_eq_true hge
        obtain ⟨j, rfl⟩ : ∃ j2, j = j2 + 1 := ⟨j - 1, by
          have : j ≠ 0 := fun e => by rw [e, hroot] at hge; omega
          omega⟩
        have HA := Aside0.mk (show aboveOf f.units lev (j + 1) = aboveOf f.units lev j by show (if lv f.units (j + 1) ≥ lev then _ else _) = _; rw [if_pos hge])
        clear hge
        go_wp2_with fail
        go_quiet (fail)
        go_wp2_with fail
        go_roundw
        case rel => exact ⟨j, by omega, by go_num, ⟨pw_below_drewN HBR.out _⟩, ⟨by rw [← HA.out]; exact HJ.out⟩⟩
        case measure => simp [intOf]
      · have hg1 : decide (lev ≤ lv f.units j) = false := decide_eq_false hge
        have HA := Aside0.mk (show aboveOf f.units lev j = j by
          cases j with
          | zero => rfl
          | succ j => show (if lv f.units (j + 1) ≥ lev then _ else _) = _; rw [if_neg hge])
        replace HJ := Aside0.mk (show j = aboveOf f.units lev i from HA.out.symm.trans HJ.out)
        clear hge
        go_wp2_with fail
        go_quiet (fail)
        have HB5 := Aside0.mk (show Below W.heap.size W (wr.drewN nq) from pw_below_drewN HB4.out _)
        have HX5 := Aside0.mk (show (wr.drewN nq).heap[W.heap.size]? = _ from HX4.out)
        generalize wr.drewN nq = w5 at HB5 HX5 ⊢
        go_wp2_with fail
        clear c8 b2 xj
        have hz8 : w5.cell? ⟨fb, 8, none⟩ = some (.slice (some ⟨g, 0, none⟩) f.units.length cu) := (blk_cell (HPW.out.below HB5.out).F 8).trans rfl
        have hz0 : w5.cell? ⟨W.heap.size, 0, none⟩ = some (.string a) := (blk_cell HX5.out 0).trans rfl
        refine start_ (n := 14) (S := fun w' => w'.cell? ⟨fb, 8, none⟩ = some (.slice (some ⟨g, 0, none⟩) f.units.length cu) ∧ w'.cell? ⟨W.heap.size, 0, none⟩ = some (.string a)) (ds := [12]) #[false, false, false, false, false, false, false, false, false, false, false, false, false, false] (by kernel_rfl) rfl rfl ⟨hz8, hz0⟩ (fun hHeld => ?_)
        refine with_tabW Ins.tab14 Ins.bits14 (fun HT_ HW_ => ?_)
        have HWD := Aside0.mk (show Below W.heap.size W w5.drew from HB5.out.drew)
        have HBL := Aside0.mk (show W.heap.size < w5.drew.heap.size from blk_lt HX5.out)
        have HXD := Aside0.mk (show w5.drew.heap[W.heap.size]? = _ from HX5.out)
        generalize w5.drew = wd at HWD HBL HXD hHeld ⊢
        refine pure_ (i := 0) (N := some 89) (v := ?_) (a' := ?_) #[true, false, false, false, false, false, false, false, false, false, false, false, false, false] rfl rfl (any_of HT_.out (by kernel_rfl)) (fun _ _ _ h => h) (Or.inl ⟨by rfl, ?_⟩) ?_ ?_
        rotate_left
        · intro w'
          go_simp
          with_reducible rfl
        rotate_left
        · simp only [Act.put, List.setIfInBounds_toArray, List.set_cons_zero, List.set_cons_succ, i64_w, i32_w]
          rfl
        refine pure_ (i := 1) (N := some 90) (v := ?_) (a' := ?_) #[true, true, false, false, false, false, false, false, false, false, false, false, false, false] rfl rfl (any_of HT_.out (by kernel_rfl)) (fun _ _ _ h => h) (Or.inl ⟨by rfl, ?_⟩) ?_ ?_
        rotate_left
        · intro w'
          go_simp
          with_reducible rfl
        rotate_left
        · simp only [Act.put, List.setIfInBounds_toArray, List.set_cons_zero, List.set_cons_succ, i64_w, i32_w]
          rfl
        refine pure_ (i := 2) (N := some 91) (v := ?_) (a' := ?_) #[true, true, true, false, false, false, false, false, false, false, false, false, false, false] rfl rfl (any_of HT_.out (by kernel_rfl)) (fun _ _ _ h => h) (Or.inl ⟨by rfl, ?_⟩) ?_ ?_
        rotate_left
        · intro w'
          go_simp
          with_reducible rfl
        rotate_left
        · simp only [Act.put, List.setIfInBounds_toArray, List.set_cons_zero, List.set_cons_succ, i64_w, i32_w]
          rfl
        refine pure_ (i := 4) (N := some 93) (v := ?_) (a' := ?_) #[true, true, true, false, true, false, false, false, false, false, false, false, false, false] rfl rfl (any_of HT_.out (by kernel_rfl)) (fun _ _ _ h => h) (Or.inl ⟨by rfl, ?_⟩) ?_ ?_
        rotate_left
        · intro w'
          go_simp
          with_reducible rfl
        rotate_left
        · simp only [Act.put, List.setIfInBounds_toArray, List.set_cons_zero, List.set_cons_succ, i64_w, i32_w]
          rfl
        refine pure_ (i := 5) (N := some 94) (v := ?_) (a' := ?_) #[true, true, true, false, true, true, false, false, false, false, false, false, false, false] rfl rfl (any_of HT_.out (by kernel_rfl)) (fun _ _ _ h => h) (Or.inl ⟨by rfl, ?_⟩) ?_ ?_
        rotate_left
        · intro w'
          go_simp
          with_reducible rfl
        rotate_left
        · simp only [Act.put, List.setIfInBounds_toArray, List.set_cons_zero, List.set_cons_succ, i64_w, i32_w]
          rfl
        refine pure_ (i := 6) (N := some 95) (v := ?_) (a' := ?_) #[true, true, true, false, true, true, true, false, false, false, false, false, false, false] rfl rfl (any_of HT_.out (by kernel_rfl)) (fun _ _ _ h => h) (Or.inl ⟨by rfl, ?_⟩) ?_ ?_
        rotate_left
        · intro w'
          go_simp
          with_reducible rfl
        rotate_left
        · simp only [Act.put, List.setIfInBounds_toArray, List.set_cons_zero, List.set_cons_succ, i64_w, i32_w]
          rfl
        refine pure_ (i := 8) (N := some 97) (v := ?_) (a' := ?_) #[true, true, true, false, true, true, true, false, true, false, false, false, false, false] rfl rfl (any_of HT_.out (by kernel_rfl)) (fun _ _ _ h => h) (Or.inl ⟨by rfl, ?_⟩) ?_ ?_
        rotate_left
        · intro w'
          go_simp
          with_reducible rfl
        rotate_left
        · simp only [Act.put, List.setIfInBounds_toArray, List.set_cons_zero, List.set_cons_succ, i64_w, i32_w]
          rfl
        refine pure_ (i := 10) (N := some 99) (v := ?_) (a' := ?_) #[true, true, true, false, true, true, true, false, true, false, true, false, false, false] rfl rfl (any_of HT_.out (by kernel_rfl)) (fun _ _ _ h => h) (Or.inl ⟨by rfl, ?_⟩) ?_ ?_
        rotate_left
        · intro w'
          go_simp
          with_reducible rfl
        rotate_left
        · simp only [Act.put, List.setIfInBounds_toArray, List.set_cons_zero, List.set_cons_succ, i64_w, i32_w]
          rfl
        refine take_ (i := 3) (N := some 92) (v := ?_) (a' := ?_) #[true, true, true, true, true, true, true, false, true, false, true, false, false, false] rfl rfl (take_ofW HT_.out HW_.out (by kernel_rfl)) (fun _ _ _ h => h) (Or.inl ⟨by rfl, ?_⟩) hHeld ?_ ?_
        rotate_left
        · rintro w' ⟨s0, s1⟩
          go_simp
          with_reducible rfl
        rotate_left
        · simp only [Act.put, List.setIfInBounds_toArray, List.set_cons_zero, List.set_cons_succ, i64_w, i32_w]
          rfl
        refine take_ (i := 7) (N := some 96) (v := ?_) (a' := ?_) #[true, true, true, true, true, true, true, true, true, false, true, false, false, false] rfl rfl (take_ofW HT_.out HW_.out (by kernel_rfl)) (fun _ _ _ h => h) (Or.inl ⟨by rfl, ?_⟩) hHeld ?_ ?_
        rotate_left
        · rintro w' ⟨s0, s1⟩
          go_simp
          with_reducible rfl
        rotate_left
        · simp only [Act.put, List.setIfInBounds_toArray, List.set_cons_zero, List.set_cons_succ, i64_w, i32_w]
          rfl
        refine take_ (i := 11) (N := some 100) (v := ?_) (a' := ?_) #[true, true, true, true, true, true, true, true, true, false, true, true, false, false] rfl rfl (take_ofW HT_.out HW_.out (by kernel_rfl)) (fun _ _ _ h => h) (Or.inl ⟨by rfl, ?_⟩) hHeld ?_ ?_
        rotate_left
        · rintro w' ⟨s0, s1⟩
          go_simp
          with_reducible rfl
        rotate_left
        · simp only [Act.put, List.setIfInBounds_toArray, List.set_cons_zero, List.set_cons_succ, i64_w, i32_w]
          rfl
        refine one_ (i := 9) (N := some 98) #[true, true, true, true, true, true, true, true, true, true, true, true, false, false] rfl rfl (one_of HT_.out (by kernel_rfl)) (by decide) (fun K hK => ?_)
        refine goes_ Tryz.func64 (by kernel_rfl) rfl #[.slice (some ⟨g, 0, none⟩) f.units.length cu, .int .i64 (j : Int)] (by rfl) rfl rfl (by (try simp only [List.map_toArray, List.map_cons, List.map_nil]); first | done | rfl | (simp only []; rfl)) ?_
        with_reducible refine (children_c (some ⟨g, 0, none⟩) cu j f.units _ (Kd.R_reads' (HPW.out.below HWD.out).units).2.2 hlc hjl (by omega) (HWV.out j)).mono ?_
        rintro e w6 ⟨v6, rfl, hr6, hb6⟩
        obtain ⟨A6, c6, rfl, hc6, hC6⟩ := Kd.R_reads hr6
        have HB6 := Aside0.mk hb6
        have HC6 := Aside0.mk hC6
        have HW6 := Aside0.mk (HWD.out.trans (hb6.mono HWD.out.size))
        have CC := Aside0.mk (clash_c cu c6 (some ⟨g, 0, none⟩) A6 f.units (kids f.units j) a w6 (Kd.R_reads' (HPW.out.below HW6.out).units).2.2 hlc hC6 hc6 (kids_in hjl))
        rw [show clashB f.units (kids f.units j) a = cb by rw [HJ.out, HLE.out]; exact HCL.out] at CC
        clear hr6 hb6 hC6
        have hb6s := HB6.out.size
        refine ⟨_, rfl, ?_⟩
        refine hK.out _ _ ⟨pw_cell_below HB6.out hHeld.1, pw_cell_below HB6.out hHeld.2⟩ (fun hHeld => ?_)
        clear hK K
        refine norm_ (a' := ?_) ?_ ?_
        rotate_left
        · show Act.put _ (some 98) _ = _
          simp only [Act.put, List.setIfInBounds_toArray, List.set_cons_zero, List.set_cons_succ, i64_w, i32_w]
          rfl
        refine last_ (i := 12) (N := some 101) #[true, true, true, true, true, true, true, true, true, true, true, true, true, false] rfl rfl (one_of HT_.out (by kernel_rfl)) (by decide) (fun K hK => ?_)
        refine goes_ Tryz.func71 (by kernel_rfl) rfl #[.slice (some ⟨g, 0, none⟩) f.units.length cu, .slice A6 (kids f.units j).length c6, .string a] (by rfl) rfl rfl (by (try simp only [List.map_toArray, List.map_cons, List.map_nil]); first | done | rfl | (simp only []; rfl)) ?_
        with_reducible refine CC.out.mono ?_
        rintro e w7 ⟨rfl, hb7⟩
        have HB7 := Aside0.mk (HW6.out.trans (hb7.mono HW6.out.size))
        have HX7 := Aside0.mk ((hb7.block _ (Nat.lt_of_lt_of_le HBL.out hb6s)).trans ((HB6.out.block _ HBL.out).trans HXD.out))
        clear hb7
        refine ⟨_, rfl, ?_⟩
        refine hK.out _ _ ?_
        clear hK K
        refine norm_ (a' := ?_) ?_ ?_
        rotate_left
        · show Act.put _ (some 101) _ = _
          simp only [Act.put, List.setIfInBounds_toArray, List.set_cons_zero, List.set_cons_succ, i64_w, i32_w]
          rfl
        refine pure_ (i := 13) (N := some 88) (v := ?_) (a' := ?_) #[true, true, true, true, true, true, true, true, true, true, true, true, true, true] rfl rfl (any_of HT_.out (by kernel_rfl)) (fun _ _ _ h => h) (Or.inl ⟨by rfl, ?_⟩) ?_ ?_
        rotate_left
        · intro w'
          go_simp
          with_reducible rfl
        rotate_left
        · simp only [Act.put, List.setIfInBounds_toArray, List.set_cons_zero, List.set_cons_succ, i64_w, i32_w]
          rfl
        refine done_ (done_of HT_.out (by kernel_rfl)) ?_
        have hz8 : w7.cell? ⟨fb, 8, none⟩ = some (.slice (some ⟨g, 0, none⟩) f.units.length cu) := (blk_cell (HPW.out.below HB7.out).F 8).trans rfl
        clear hz0
        cases cb
        · rcases HDN.out with rfl | rfl
          · have hfull : 100 ≤ f.units.length := by
              rcases HSO.out with h | h | h
              · cases h
              · cases h
              · exact h
            have hfz : decide ((100 : Int) ≤ (f.units.length : Int)) = true := decide_eq_true (by omega)
            have hfz2 : (100 : Int) ≤ (f.units.length : Int) := by omega
            go_wp2
            go_ret
            exact ⟨by rw [HE.out]; rfl, HB7.out⟩
          · go_wp2
            go_ret
            exact ⟨by rw [HE.out]; rfl, HB7.out⟩
        · go_wp2
          go_ret
          exact ⟨by rw [HE.out]; rfl, HB7.out⟩
end Go.Proofs.YtehlmkgldcfciaaGreat.Files
/- The file store as a machine over its files, and each method as a step of it. -/
set_option linter.unusedVariables false
set_option linter.unusedSimpArgs false
namespace Go.Proofs.YtehlmkgldcfciaaGreat.Files
open Go.Proofs.YtehlmkgldcfciaaGreat.Common Go.Maps Go.ChangeMaps Go.WideMaps Go.Proofs.YtehlmkgldcfciaaGreat.F
open Go.RowKit Go.Proofs.YtehlmkgldcfciaaGreatW.PrintWords Go.Proofs.YtehlmkgldcfciaaGreatW.PrintLast Go.Proofs.YtehlmkgldcfciaaGreatW.PrintMore
abbrev Fs := List AF
def posF (st : Fs) (n : ByteArray) : Option (Nat × AF) := (st.zipIdx.find? fun p => decide (p.1.F.name = n)).map fun p => (p.2, p.1)
def mFound (st : Fs) (u n : ByteArray) : Except Int (Nat × AF) := if (userB u && nameB n) = false then .error 1 else match posF st n with | none => .error 3 | some p => .ok p
def mOpened (st : Fs) (u n : ByteArray) (action : Int) : Except Int (Nat × AF × Int) := match mFound st u n with
  | .error E => .error E
  | .ok (k, f) => match lookU f.users u with | none => .error 8 | some (a, _) => .ok (k, f, denied a action)
def mUnit (st : Fs) (u n : ByteArray) (at_ action : Int) : Except Int (Nat × AF × Nat × Int) := if at_ < 0 then .error 1 else match mOpened st u n action with
  | .error E => .error E
  | .ok (k, f, dn) => if (f.units.length : Int) ≤ at_ then .error 3 else .ok (k, f, at_.toNat, dn)
def mCreate (st : Fs) (u n : ByteArray) (kind perm : Int) : Int × Fs := if createB u n kind perm = false then (1, st) else if (posF st n).isSome then (7, st) else if 30 ≤ st.length then (9, st) else (0, st ++ [newF u n kind perm])
def mDelete (st : Fs) (u n : ByteArray) : Int × Fs := match mFound st u n with
  | .error E => (E, st)
  | .ok (k, f) => if 0 < f.users.length then (8, st) else if mayB f.F f.rules u 128 = false then (12, st) else (0, st.filter fun g => !decide (g.F.name = n))
def okSets (a x : Int) : Bool := setB a && setB x && decide (bits .andNot .i64 x a = 0)
def mOpen (st : Fs) (u n : ByteArray) (a x : Int) : Int × Fs := if okSets a x = false then (1, st) else match mFound st u n with
  | .error E => (E, st)
  | .ok (k, f) => if (lookU f.users u).isSome then (8, st) else if mayB f.F f.rules u a = false then (12, st) else if freeB f.users a x then (0, st.set k (f.opened u a x)) else (12, st)
def mClose (st : Fs) (u n : ByteArray) : Int × Fs := match mFound st u n with
  | .error E => (E, st)
  | .ok (k, f) => match lookU f.users u with | none => (8, st) | some _ => (0, st.set k (f.closed u))
def mRead (st : Fs) (u n : ByteArray) (at_ : Int) (whole : Bool) : List S29 × Int × Fs := match mUnit st u n at_ 1 with
  | .error E => ([], E, st)
  | .ok (k, f, i, dn) => if dn = 0 then (readL f.units i whole, 0, st.set k f.read) else ([], dn, st)
def mInsert (st : Fs) (u n : ByteArray) (at_ : Int) (child : Bool) (a b : ByteArray) : Int × Fs := if (decide (a.size ≤ 30) && decide (b.size ≤ 400)) = false then (1, st) else match mUnit st u n at_ 2 with
  | .error E => (E, st)
  | .ok (k, f, i, dn) => if insBad f.F.kind (insLev f.units i child) then (1, st) else
    let cb := clashB f.units (kids f.units (aboveOf f.units (insLev f.units i child) i)) a
    if cb = true ∨ dn = 12 ∨ 100 ≤ f.units.length then (insErr cb dn, st) else (0, st.set k (f.ins u i ⟨a, b, insLev f.units i child⟩))
def mReplace (st : Fs) (u n : ByteArray) (at_ : Int) (d : ByteArray) : Int × Fs := if 400 < d.size then (1, st) else match mUnit st u n at_ 4 with
  | .error E => (E, st)
  | .ok (k, f, i, dn) => if dn = 0 then (0, st.set k (f.data u i d)) else (dn, st)
def mExtend (st : Fs) (u n : ByteArray) (at_ : Int) (d : ByteArray) : Int × Fs := if 400 < d.size then (1, st) else match mUnit st u n at_ 8 with
  | .error E => (E, st)
  | .ok (k, f, i, dn) => if dn = 0 then (if 400 < (rd_T29 f.units (i : Int)).f1.size + d.size then (9, st) else (0, st.set k (f.data u i ((rd_T29 f.units (i : Int)).f1 ++ d)))) else (dn, st)
def mErase (st : Fs) (u n : ByteArray) (at_ : Int) : Int × Fs := match mUnit st u n at_ 16 with
  | .error E => (E, st)
  | .ok (k, f, i, dn) => if dn = 0 then (0, st.set k (f.erased u i)) else (dn, st)
def mChange (st : Fs) (u n : ByteArray) (perm : Int) (rules : List S100) : Int × Fs := if changeOk perm rules = false then (1, st) else match mOpened st u n 64 with
  | .error E => (E, st)
  | .ok (k, f, dn) => if dn = 0 then (0, st.set k (f.change perm rules)) else (dn, st)
structure FInv (c : Nat) (f : AF) : Prop where
  name : 1 ≤ f.F.name.size ∧ f.F.name.size ≤ 30
  units : UOk f.units
  data : ∀ x ∈ f.units, x.f1.size ≤ 400
  users : (f.users.map (fun p => p.1.data.toList)).Nodup
  count : f.users.length ≤ c
structure SInv (c : Nat) (st : Fs) : Prop where
  files : ∀ f ∈ st, FInv c f
  count : st.length ≤ 30
theorem userB_iff {u : ByteArray} : userB u = true ↔ 1 ≤ u.size ∧ u.size ≤ 20 := by unfold userB; simp
theorem nameB_iff {u : ByteArray} : nameB u = true ↔ 1 ≤ u.size ∧ u.size ≤ 30 := by unfold nameB; simp
theorem posF_some {st : Fs} {n : ByteArray} {k : Nat} {f : AF} (h : posF st n = some (k, f)) : st[k]? = some f ∧ f.F.name = n := by
  unfold posF at h
  obtain ⟨p, hp, he⟩ := Option.map_eq_some_iff.1 h
  injection he with h1 h2
  have hm := List.mem_of_find?_eq_some hp
  have hd := List.find?_some hp
  have := List.mem_zipIdx' hm
  obtain ⟨h3, h4⟩ := this
  subst h1 h2
  exact ⟨by rw [List.getElem?_eq_getElem h3, h4], by simpa using hd⟩
theorem posF_none {st : Fs} {n : ByteArray} (h : posF st n = none) : ∀ f ∈ st, f.F.name ≠ n := by
  unfold posF at h
  rw [Option.map_eq_none_iff, List.find?_eq_none] at h
  intro f hf e
  obtain ⟨k, hk, he⟩ := List.getElem_of_mem hf
  have := h (f, k) (by rw [List.mem_zipIdx_iff_getElem?]; simp [List.getElem?_eq_getElem hk, he])
  simp [e] at this
section steps
variable {W : World} {ok : Nat → Prop} {sb : Nat} {L : List (Nat × AF)} {st : Fs} {c : Nat}
theorem at_L (hst : L.map (·.2) = st) {k : Nat} {f : AF} (h : st[k]? = some f) : ∃ fb, L[k]? = some (fb, f) := by
  subst hst
  rw [List.getElem?_map] at h
  obtain ⟨p, hp, rfl⟩ := Option.map_eq_some_iff.1 h
  exact ⟨p.1, hp⟩
theorem found_err (hR : StoreRep W ok sb L) (hst : L.map (·.2) = st) {u n : ByteArray} {E : Int} (h : mFound st u n = .error E) : FoundErr W (.pointer (some ⟨sb, 0, none⟩)) u n E := by
  obtain ⟨mb, D, own, R⟩ := hR
  unfold mFound at h
  by_cases hb : (userB u && nameB n) = false
  · rw [if_pos hb] at h
    injection h with h
    subst h
    refine ⟨by decide, fun W' hbw => ?_⟩
    have c0 := (R.below hbw).S.cell
    cases hu : userB u with
    | false => exact found_user sb mb u n W' c0 hu
    | true => exact found_name sb mb u n W' c0 hu (by rw [hu] at hb; simpa using hb)
  · rw [if_neg hb] at h
    simp only [Bool.not_eq_false, Bool.and_eq_true] at hb
    cases hp : posF st n with
    | some p => rw [hp] at h; cases h
    | none =>
      rw [hp] at h
      injection h with h
      subst h
      refine ⟨by decide, fun W' hbw => ?_⟩
      have R' := R.below hbw
      refine found_none sb mb D u n W' ⟨R'.S.cell, R'.M, userB_iff.1 hb.1, nameB_iff.1 hb.2⟩ ?_
      rw [R.mM.at_, filesL_none R.mM (fun p hp2 => posF_none hp p.2 (by rw [← hst]; exact List.mem_map.2 ⟨p, hp2, rfl⟩))]
      all_goals rfl
theorem found_ok {u n : ByteArray} {k : Nat} {f : AF} (h : mFound st u n = .ok (k, f)) : (1 ≤ u.size ∧ u.size ≤ 20) ∧ (1 ≤ n.size ∧ n.size ≤ 30) ∧ st[k]? = some f ∧ f.F.name = n := by
  unfold mFound at h
  by_cases hb : (userB u && nameB n) = false
  · rw [if_pos hb] at h; cases h
  · rw [if_neg hb] at h
    simp only [Bool.not_eq_false, Bool.and_eq_true] at hb
    cases hp : posF st n with
    | none => rw [hp] at h; cases h
    | some p =>
      rw [hp] at h
      injection h with h
      subst h
      exact ⟨userB_iff.1 hb.1, nameB_iff.1 hb.2, (posF_some hp).1, (posF_some hp).2⟩
theorem denied_cases (a action : Int) : denied a action = 0 ∨ denied a action = 12 := by unfold denied; split <;> simp
end steps
end Go.Proofs.YtehlmkgldcfciaaGreat.Files
