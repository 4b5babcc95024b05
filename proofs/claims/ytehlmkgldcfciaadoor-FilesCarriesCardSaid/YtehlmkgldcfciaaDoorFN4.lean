/- The parts of this proof that lie in one text. -/
import Derived.Test.YtehlmkgldcfciaaDoorFN1
import Derived.Deep.QuietTactic
import Derived.BigQuiet
import Derived.Test.YtehlmkgldcfciaaDoorFx0
import Derived.Test.YtehlmkgldcfciaaDoorFx3
/- The file store: Insert. -/
set_option linter.unusedVariables false
set_option linter.unusedSimpArgs false
namespace Go.Proofs.YtehlmkgldcfciaaDoor.Files
open Go.Proofs.YtehlmkgldcfciaaDoor.Common Go.Maps Go.ChangeMaps Go.WideMaps Go.Proofs.YtehlmkgldcfciaaDoor.F
open Go.RowKit Go.Proofs.YtehlmkgldcfciaaDoorW.PrintWords Go.Proofs.YtehlmkgldcfciaaDoorW.PrintLast Go.Proofs.YtehlmkgldcfciaaDoorW.PrintMore
def Ins.T14 : Bool × List (List Nat × List Nat) := (true, [([], []), ([0], [0]), ([1], [1]), ([2], [2]), ([], []), ([4], [4]), ([5], [5]), ([6], [6]), ([], []), ([7, 8], [7, 8]), ([], []), ([10], [10]), ([3, 9, 11, 9], [3, 9, 11]), ([12, 12], [12])])
def Ins.B14 : List Nat := [0, 1, 3, 7, 0, 16, 48, 112, 0, 496, 0, 1024, 4095, 8191]
theorem Ins.tab14 : rtab .any (opsOf Tryd.f21 14) = Ins.T14 := by kernel_rfl
theorem Ins.bits14 : waitsOk Ins.T14.2 Ins.B14 = true := by kernel_rfl
def Ins.T20 : Bool × List (List Nat × List Nat) := (true, [([], []), ([], []), ([1], [1]), ([2], [2]), ([3], [3]), ([], []), ([5], [5]), ([6], [6]), ([7], [7]), ([], []), ([8, 9], [8, 9]), ([], []), ([11], [11]), ([4, 10, 12, 10], [4, 10, 12]), ([0, 0, 1, 2, 3, 4, 5, 6, 7, 8, 9, 10, 11, 12, 13], [0]), ([14, 0, 1, 2, 3, 4, 5, 6, 7, 8, 9, 10, 11, 12, 13], [14]), ([15, 13, 13, 0, 1, 2, 3, 4, 5, 6, 7, 8, 9, 10, 11, 12, 13], [13, 15])])
def Ins.B20 : List Nat := [0, 0, 2, 6, 14, 0, 32, 96, 224, 0, 992, 0, 2048, 8190, 16383, 32767, 65535]
theorem Ins.tab20 : rtab .any (opsOf Tryd.f21 20) = Ins.T20 := by kernel_rfl
theorem Ins.bits20 : waitsOk Ins.T20.2 Ins.B20 = true := by kernel_rfl
/-- Where the unit above a level stands. -/
def aboveOf (l : List S46) (lev : Int) : Nat → Nat
  | 0 => 0
  | i + 1 => if lv l (i + 1) ≥ lev then aboveOf l lev i else i + 1
theorem aboveOf_le (l : List S46) (lev : Int) : ∀ i, aboveOf l lev i ≤ i
  | 0 => Nat.le_refl _
  | i + 1 => by
    unfold aboveOf
    have := aboveOf_le l lev i
    split <;> omega
def insLev (l : List S46) (i : Nat) (child : Bool) : Int := lv l i + (if child then 1 else 0)
def insBad (kind lev : Int) : Bool := decide (lev = 0) || (decide (kind < 2) && decide (lev > kind))
def AF.ins (f : AF) (u : ByteArray) (i : Nat) (x : S46) : AF := { f with F := f.F.noted u, units := f.units.take (endOf f.units i) ++ x :: f.units.drop (endOf f.units i) }
def InsEnd' (W : World) (ok : Nat → Prop) (fb rc ub : Nat) (f' : AF) (A : Option Addr) (DU : DataW Unit) (e : Ending) (w' : World) : Prop :=
  e = .returned (.int .i64 0) ∧ ∃ uv, FileParts w' (fun k => ok k ∨ W.heap.size ≤ k) fb f' A rc uv ub DU ∧ Chg W w' ok
def InsIn (x : S46) : List Value := [.string x.f0, .string x.f1, .int .i64 x.f2]
/-- A name or data that is too long. -/
theorem Insert_arg (sp : Value) (u n : ByteArray) (at_ : Int) (child : Bool) (a b : ByteArray) (lev0 : Int) (W : World) (h : (decide (a.size ≤ 30) && decide (b.size ≤ 400)) = false) :
    Calls Tryd.prog 21 #[sp, .string u, .string n, .int .i64 at_, .bool child, .agg #[.string a, .string b, .int .i64 lev0]] W fun e w' => e = .returned (.int .i64 1) ∧ Below W.heap.size W w' := by
  by_cases h1 : a.size ≤ 30
  · have h2 : ¬ b.size ≤ 400 := by simp [h1] at h; omega
    have g1 : decide ((30 : Int) < (a.size : Int)) = false := decide_eq_false (by omega)
    have g2 : decide ((400 : Int) < (b.size : Int)) = true := decide_eq_true (by omega)
    clear h h1 h2
    go_enter Tryd.func21, Tryd.ntmps21
    go_wp2
    go_ret
    exact ⟨rfl, (Below.refl _ _).alloc (Nat.le_refl _) _⟩
  · have g1 : decide ((30 : Int) < (a.size : Int)) = true := decide_eq_true (by omega)
    clear h h1
    go_enter Tryd.func21, Tryd.ntmps21
    go_wp2
    go_ret
    exact ⟨rfl, (Below.refl _ _).alloc (Nat.le_refl _) _⟩
theorem Insert_err (sp : Value) (u n : ByteArray) (at_ : Int) (child : Bool) (a b : ByteArray) (lev0 E : Int) (W : World) (h1 : a.size ≤ 30) (h2 : b.size ≤ 400) (HU : UnitErr W sp u n at_ 2 E) :
    Calls Tryd.prog 21 #[sp, .string u, .string n, .int .i64 at_, .bool child, .agg #[.string a, .string b, .int .i64 lev0]] W fun e w' => e = .returned (.int .i64 E) ∧ Below W.heap.size W w' := by
  obtain ⟨hE, hu⟩ := HU
  have hb0 : Below W.heap.size W (W.alloc (.cells #[.string a, .string b, .int .i64 lev0] 46)) := (Below.refl _ _).alloc (Nat.le_refl _) _
  have CU := Aside0.mk (hu _ hb0)
  have HB0 := Aside0.mk hb0
  have g1 : decide ((30 : Int) < (a.size : Int)) = false := decide_eq_false (by omega)
  have g2 : decide ((400 : Int) < (b.size : Int)) = false := decide_eq_false (by omega)
  have hE' : (E == 0) = false := by simpa using hE
  clear hu hb0 h1 h2 hE
  go_enter Tryd.func21, Tryd.ntmps21
  go_wp2_with first | (go_at_call 40; refine CU.out.mono ?_; rintro e w2 ⟨dn, rfl, hb2⟩)
  go_ret
  exact ⟨rfl, HB0.out.trans (hb2.mono HB0.out.size)⟩
set_option maxRecDepth 100000 in
set_option maxHeartbeats 2000000 in
theorem Insert_ok (sp : Value) (u n : ByteArray) (i fb rc ub : Nat) (child : Bool) (a b : ByteArray) (lev0 dn : Int) (f : AF) (A : Option Addr) (uv : Value) (DU : DataW Unit) (ok : Nat → Prop) (W : World) (HU : UnitOk W sp u n (i : Int) 2 fb dn) (P : FileParts W ok fb f A rc uv ub DU)
    (hi : i < f.units.length) (hl : f.units.length ≤ 1000) (h1 : a.size ≤ 30) (h2 : b.size ≤ 400) (hlv : ∀ j, 0 ≤ lv f.units j ∧ lv f.units j ≤ 1000) (hroot : lv f.units 0 = 0) (hbad : insBad f.F.kind (insLev f.units i child) = false)
    (hcl : clashB f.units (kids f.units (aboveOf f.units (insLev f.units i child) i)) a = false) (hdn : dn = 0) (hfull : f.units.length < 100) :
    Calls Tryd.prog 21 #[sp, .string u, .string n, .int .i64 (i : Int), .bool child, .agg #[.string a, .string b, .int .i64 lev0]] W (InsEnd' W ok fb rc ub (f.ins u i ⟨a, b, insLev f.units i child⟩) A DU) := by
  subst hdn
  have hb0 : Below W.heap.size W (W.alloc (.cells #[.string a, .string b, .int .i64 lev0] 46)) := (Below.refl _ _).alloc (Nat.le_refl _) _
  have CU := Aside0.mk (HU _ hb0)
  have HP := Aside0.mk (P.below hb0)
  have HB0 := Aside0.mk hb0
  have hfl := blk_lt P.F
  have g1 : decide ((30 : Int) < (a.size : Int)) = false := decide_eq_false (by omega)
  have g2 : decide ((400 : Int) < (b.size : Int)) = false := decide_eq_false (by omega)
  obtain ⟨g, cu, huv, hlc, hcm⟩ := units_slice P.units (by omega)
  subst huv
  have HPW := Aside0.mk P
  have hgl : g < W.heap.size := own_lt (uRow_of_R P.units) g rfl
  have HBX := Aside0.mk (show (W.alloc (.cells #[.string a, .string b, .int .i64 lev0] 46)).heap[W.heap.size]? = some (.cells #[.string a, .string b, .int .i64 lev0] 46 (0, 0)) from heap_alloc_new _ _)
  have HSZ := Aside0.mk (show (W.alloc (.cells #[.string a, .string b, .int .i64 lev0] 46)).heap.size = W.heap.size + 1 by simp)
  clear hb0 P HU
  have HLV := Aside0.mk hlv
  have hlvi := hlv i
  have hlev0 : 0 ≤ lv f.units i := hlvi.1
  have hlev1 : lv f.units i ≤ 1000 := hlvi.2
  clear hlv hlvi
  go_enter Tryd.func21, Tryd.ntmps21
  go_wp2_with fail
  refine CU.out.mono ?_
  rintro e w2 ⟨rfl, hb2⟩
  have P2 := HP.out.below hb2
  have hbx2 : w2.heap[W.heap.size]? = some (.cells #[.string a, .string b, .int .i64 lev0] 46 (0, 0)) := (hb2.block _ (by rw [HSZ.out]; exact Nat.lt_succ_self _)).trans HBX.out
  have c8 : w2.cell? ⟨fb, 8, none⟩ = some (.slice (some ⟨g, 0, none⟩) f.units.length cu) := (blk_cell P2.F 8).trans rfl
  have b2 : w2.cell? ⟨W.heap.size, 2, none⟩ = some (.int .i64 lev0) := (blk_cell hbx2 2).trans rfl
  have fb2 := blk_frozen hbx2 2
  have xa : w2.cell? ⟨g, i * 3 + 2, none⟩ = some (.int .i64 (lv f.units i)) := by
    obtain ⟨_, _, hC⟩ := Kd.R_reads' P2.units
    obtain ⟨ad, he, _, _, h3⟩ := at_T46 (xs := f.units) hC (i : Int) (by omega) (by omega)
    cases he
    rw [Int.toNat_natCast, add_plain] at h3
    exact h3
  have hiz : (i : Int) < (f.units.length : Int) := by omega
  have HB2 := Aside0.mk (show Below W.heap.size W w2 from HB0.out.trans (hb2.mono HB0.out.size))
  have HX2 := Aside0.mk hbx2
  obtain ⟨lev, hlev⟩ : ∃ lev, lev = insLev f.units i child := ⟨_, rfl⟩
  have hbad' := hbad
  unfold insBad at hbad'
  rw [← hlev] at hbad'
  simp only [Bool.or_eq_false_iff, Bool.and_eq_false_iff, decide_eq_false_iff_not] at hbad'
  have hpos : 0 < lev := by
    have h0 : 0 ≤ lev := by rw [hlev]; unfold insLev; split <;> omega
    omega
  have HK : Aside0 (f.F.kind < 2 → ¬ lev > f.F.kind) := ⟨fun h => by rcases hbad'.2 with h2 | h2 <;> omega⟩
  have HLE := Lib.hid hlev
  have HCL := Lib.hid hcl
  have HFP := Aside0.mk (HP.out.below hb2)
  have hlev1000 : lev ≤ 1001 := by rw [hlev]; unfold insLev; split <;> omega
  clear hbad hbad' hlev hcl hb2 hbx2 P2 CU HBX
  cases child
  all_goals
    go_wp2_with fail
    first
    | (obtain ⟨w3, hw3⟩ : ∃ w3, w3 = (w2.setCell ⟨W.heap.size, 2, none⟩ (.int .i64 (lv f.units i))).setCell ⟨W.heap.size, 2, none⟩ (.int .i64 (lv f.units i + 1)) := ⟨_, rfl⟩
       rw [← hw3]
       have HX3 : Aside0 (w3.heap[W.heap.size]? = some (.cells #[.string a, .string b, .int .i64 lev] 46 (0, 0))) := ⟨by rw [hw3, HLE.out]; exact (blk_set (blk_set HX2.out 2 _) 2 _)⟩
       have HB3 : Aside0 (Below W.heap.size W w3) := ⟨by rw [hw3]; exact (HB2.out.setCell (p := ⟨W.heap.size, 2, none⟩) (Nat.le_refl _) _).setCell (p := ⟨W.heap.size, 2, none⟩) (Nat.le_refl _) _⟩)
    | (obtain ⟨w3, hw3⟩ : ∃ w3, w3 = w2.setCell ⟨W.heap.size, 2, none⟩ (.int .i64 (lv f.units i)) := ⟨_, rfl⟩
       rw [← hw3]
       have HX3 : Aside0 (w3.heap[W.heap.size]? = some (.cells #[.string a, .string b, .int .i64 lev] 46 (0, 0))) := ⟨by rw [hw3, HLE.out, show insLev f.units i false = lv f.units i by simp [insLev]]; exact (blk_set HX2.out 2 _)⟩
       have HB3 : Aside0 (Below W.heap.size W w3) := ⟨by rw [hw3]; exact HB2.out.setCell (p := ⟨W.heap.size, 2, none⟩) (Nat.le_refl _) _⟩)
    clear b2 fb2 xa c8 HX2 HB2 HFP hw3
    have P3 := HPW.out.below HB3.out
    have c8 : w3.cell? ⟨fb, 8, none⟩ = some (.slice (some ⟨g, 0, none⟩) f.units.length cu) := (blk_cell P3.F 8).trans rfl
    have c1 : w3.cell? ⟨fb, 1, none⟩ = some (.int .i64 f.F.kind) := (blk_cell P3.F 1).trans rfl
    have b2 : w3.cell? ⟨W.heap.size, 2, none⟩ = some (.int .i64 lev) := (blk_cell HX3.out 2).trans rfl
    have hl0 : (lev == 0) = false := beq_eq_false_iff_ne.2 (by omega)
    have HP3 := Aside0.mk P3
    clear P3
    have hkk : (decide (f.F.kind < 2) = true ∧ decide (f.F.kind < lev) = false) ∨ decide (f.F.kind < 2) = false := by
      rcases Decidable.em (f.F.kind < 2) with hk | hk
      · exact .inl ⟨decide_eq_true hk, decide_eq_false (by have := HK.out hk; omega)⟩
      · exact .inr (decide_eq_false hk)
    rcases hkk with ⟨hk1, hk2⟩ | hk1
    all_goals
      go_quiet (fail)
      clear hk1
      go_wp2_with fail
  all_goals
    have HWV := Aside0.mk (fun j => show wrap64 (lv f.units j + 1) = lv f.units j + 1 by have := HLV.out j; unfold wrap64; omega)
    clear c8 c1 b2
    go_loopw [16] (fun s wr => ∃ j : Nat, j ≤ i ∧ s = .int .i64 j ∧ Aside0 (Below w3.heap.size w3 wr) ∧ Aside0 (aboveOf f.units lev j = aboveOf f.units lev i)) (fun s _ => (intOf s).toNat)
    case atStart => exact ⟨i, Nat.le_refl _, rfl, ⟨pw_below_drewN (Below.refl _ _) _⟩, ⟨rfl⟩⟩
    case round =>
      obtain ⟨j, hji, rfl, HBR, HJ⟩ := hrel
      have HB4 := Aside0.mk (show Below W.heap.size W wr from HB3.out.trans (HBR.out.mono HB3.out.size))
      have HX4 := Aside0.mk ((HBR.out.block _ (blk_lt HX3.out)).trans HX3.out)
      have P4 := HPW.out.below HB4.out
      have c8 : wr.cell? ⟨fb, 8, none⟩ = some (.slice (some ⟨g, 0, none⟩) f.units.length cu) := (blk_cell P4.F 8).trans rfl
      have b2 : wr.cell? ⟨W.heap.size, 2, none⟩ = some (.int .i64 lev) := (blk_cell HX4.out 2).trans rfl
      have hjl : j < f.units.length := by omega
      have xj : wr.cell? ⟨g, j * 3 + 2, none⟩ = some (.int .i64 (lv f.units j)) := by
        obtain ⟨_, _, hC⟩ := Kd.R_reads' P4.units
        obtain ⟨ad, he, _, _, h3⟩ := at_T46 (xs := f.units) hC (j : Int) (by omega) (by omega)
        cases he
        rw [Int.toNat_natCast, add_plain] at h3
        exact h3
      have hjz : (j : Int) < (f.units.length : Int) := by omega
      have hjz0 : decide ((j : Int) < 0) = false := decide_eq_false (by omega)
      clear P4
      by_cases hge : lev ≤ lv f.units j
      · have hg1 : decide (lev ≤ lv f.units j) = true := decide_eq_true hge
        obtain ⟨j, rfl⟩ : ∃ j2, j = j2 + 1 := ⟨j - 1, by
          have : j ≠ 0 := fun e => by rw [e, hroot] at hge; omega
          omega⟩
        have HA := Aside0.mk (show aboveOf f.units lev (j + 1) = aboveOf f.units lev j by show (if lv f.units (j + 1) ≥ lev then _ else _) = _; rw [if_pos hge])
        clear hge
        go_wp2_with fail
        go_quiet (fail)
        go_wp2_with fail
        go_roundw
        case rel => exact ⟨j, by omega, by go_num, ⟨pw_below_drewN HBR.out _⟩, ⟨by rw [← HA.out]; exact HJ.out⟩⟩
        case measure => simp [intOf]
      · have hg1 : decide (lev ≤ lv f.units j) = false := decide_eq_false hge
        have HA := Aside0.mk (show aboveOf f.units lev j = j by
          cases j with
          | zero => rfl
          | succ j => show (if lv f.units (j + 1) ≥ lev then _ else _) = _; rw [if_neg hge])
        replace HJ := Aside0.mk (show j = aboveOf f.units lev i from HA.out.symm.trans HJ.out)
        clear hge
        go_wp2_with fail
        go_quiet (fail)
        have HB5 := Aside0.mk (show Below W.heap.size W (wr.drewN nq) from pw_below_drewN HB4.out _)
        have HX5 := Aside0.mk (show (wr.drewN nq).heap[W.heap.size]? = _ from HX4.out)
        generalize wr.drewN nq = w5 at HB5 HX5 ⊢
        go_wp2_with fail
        clear c8 b2 xj
        have hz8 : w5.cell? ⟨fb, 8, none⟩ = some (.slice (some ⟨g, 0, none⟩) f.units.length cu) := (blk_cell (HPW.out.below HB5.out).F 8).trans rfl
        have hz0 : w5.cell? ⟨W.heap.size, 0, none⟩ = some (.string a) := (blk_cell HX5.out 0).trans rfl
        refine start_ (n := 14) (S := fun w' => w'.cell? ⟨fb, 8, none⟩ = some (.slice (some ⟨g, 0, none⟩) f.units.length cu) ∧ w'.cell? ⟨W.heap.size, 0, none⟩ = some (.string a)) (ds := [12]) #[false, false, false, false, false, false, false, false, false, false, false, false, false, false] (by kernel_rfl) rfl rfl ⟨hz8, hz0⟩ (fun hHeld => ?_)
        refine with_tabW Ins.tab14 Ins.bits14 (fun HT_ HW_ => ?_)
        have HWD := Aside0.mk (show Below W.heap.size W w5.drew from HB5.out.drew)
        have HBL := Aside0.mk (show W.heap.size < w5.drew.heap.size from blk_lt HX5.out)
        have HXD := Aside0.mk (show w5.drew.heap[W.heap.size]? = _ from HX5.out)
        generalize w5.drew = wd at HWD HBL HXD hHeld ⊢
        refine pure_ (i := 0) (N := some 89) (v := ?_) (a' := ?_) #[true, false, false, false, false, false, false, false, false, false, false, false, false, false] rfl rfl (any_of HT_.out (by kernel_rfl)) (fun _ _ _ h => h) (Or.inl ⟨by rfl, ?_⟩) ?_ ?_
        rotate_left
        · intro w'
          go_simp
          with_reducible rfl
        rotate_left
        · simp only [Act.put, List.setIfInBounds_toArray, List.set_cons_zero, List.set_cons_succ, i64_w, i32_w]
          rfl
        refine pure_ (i := 1) (N := some 90) (v := ?_) (a' := ?_) #[true, true, false, false, false, false, false, false, false, false, false, false, false, false] rfl rfl (any_of HT_.out (by kernel_rfl)) (fun _ _ _ h => h) (Or.inl ⟨by rfl, ?_⟩) ?_ ?_
        rotate_left
        · intro w'
          go_simp
          with_reducible rfl
        rotate_left
        · simp only [Act.put, List.setIfInBounds_toArray, List.set_cons_zero, List.set_cons_succ, i64_w, i32_w]
          rfl
        refine pure_ (i := 2) (N := some 91) (v := ?_) (a' := ?_) #[true, true, true, false, false, false, false, false, false, false, false, false, false, false] rfl rfl (any_of HT_.out (by kernel_rfl)) (fun _ _ _ h => h) (Or.inl ⟨by rfl, ?_⟩) ?_ ?_
        rotate_left
        · intro w'
          go_simp
          with_reducible rfl
        rotate_left
        · simp only [Act.put, List.setIfInBounds_toArray, List.set_cons_zero, List.set_cons_succ, i64_w, i32_w]
          rfl
        refine pure_ (i := 4) (N := some 93) (v := ?_) (a' := ?_) #[true, true, true, false, true, false, false, false, false, false, false, false, false, false] rfl rfl (any_of HT_.out (by kernel_rfl)) (fun _ _ _ h => h) (Or.inl ⟨by rfl, ?_⟩) ?_ ?_
        rotate_left
        · intro w'
          go_simp
          with_reducible rfl
        rotate_left
        · simp only [Act.put, List.setIfInBounds_toArray, List.set_cons_zero, List.set_cons_succ, i64_w, i32_w]
          rfl
        refine pure_ (i := 5) (N := some 94) (v := ?_) (a' := ?_) #[true, true, true, false, true, true, false, false, false, false, false, false, false, false] rfl rfl (any_of HT_.out (by kernel_rfl)) (fun _ _ _ h => h) (Or.inl ⟨by rfl, ?_⟩) ?_ ?_
        rotate_left
        · intro w'
          go_simp
          with_reducible rfl
        rotate_left
        · simp only [Act.put, List.setIfInBounds_toArray, List.set_cons_zero, List.set_cons_succ, i64_w, i32_w]
          rfl
        refine pure_ (i := 6) (N := some 95) (v := ?_) (a' := ?_) #[true, true, true, false, true, true, true, false, false, false, false, false, false, false] rfl rfl (any_of HT_.out (by kernel_rfl)) (fun _ _ _ h => h) (Or.inl ⟨by rfl, ?_⟩) ?_ ?_
        rotate_left
        · intro w'
          go_simp
          with_reducible rfl
        rotate_left
        · simp only [Act.put, List.setIfInBounds_toArray, List.set_cons_zero, List.set_cons_succ, i64_w, i32_w]
          rfl
        refine pure_ (i := 8) (N := some 97) (v := ?_) (a' := ?_) #[true, true, true, false, true, true, true, false, true, false, false, false, false, false] rfl rfl (any_of HT_.out (by kernel_rfl)) (fun _ _ _ h => h) (Or.inl ⟨by rfl, ?_⟩) ?_ ?_
        rotate_left
        · intro w'
          go_simp
          with_reducible rfl
        rotate_left
        · simp only [Act.put, List.setIfInBounds_toArray, List.set_cons_zero, List.set_cons_succ, i64_w, i32_w]
          rfl
        refine pure_ (i := 10) (N := some 99) (v := ?_) (a' := ?_) #[true, true, true, false, true, true, true, false, true, false, true, false, false, false] rfl rfl (any_of HT_.out (by kernel_rfl)) (fun _ _ _ h => h) (Or.inl ⟨by rfl, ?_⟩) ?_ ?_
        rotate_left
        · intro w'
          go_simp
          with_reducible rfl
        rotate_left
        · simp only [Act.put, List.setIfInBounds_toArray, List.set_cons_zero, List.set_cons_succ, i64_w, i32_w]
          rfl
        refine take_ (i := 3) (N := some 92) (v := ?_) (a' := ?_) #[true, true, true, true, true, true, true, false, true, false, true, false, false, false] rfl rfl (take_ofW HT_.out HW_.out (by kernel_rfl)) (fun _ _ _ h => h) (Or.inl ⟨by rfl, ?_⟩) hHeld ?_ ?_
        rotate_left
        · rintro w' ⟨s0, s1⟩
          go_simp
          with_reducible rfl
        rotate_left
        · simp only [Act.put, List.setIfInBounds_toArray, List.set_cons_zero, List.set_cons_succ, i64_w, i32_w]
          rfl
        refine take_ (i := 7) (N := some 96) (v := ?_) (a' := ?_) #[true, true, true, true, true, true, true, true, true, false, true, false, false, false] rfl rfl (take_ofW HT_.out HW_.out (by kernel_rfl)) (fun _ _ _ h => h) (Or.inl ⟨by rfl, ?_⟩) hHeld ?_ ?_
        rotate_left
        · rintro w' ⟨s0, s1⟩
          go_simp
          with_reducible rfl
        rotate_left
        · simp only [Act.put, List.setIfInBounds_toArray, List.set_cons_zero, List.set_cons_succ, i64_w, i32_w]
          rfl
        refine take_ (i := 11) (N := some 100) (v := ?_) (a' := ?_) #[true, true, true, true, true, true, true, true, true, false, true, true, false, false] rfl rfl (take_ofW HT_.out HW_.out (by kernel_rfl)) (fun _ _ _ h => h) (Or.inl ⟨by rfl, ?_⟩) hHeld ?_ ?_
        rotate_left
        · rintro w' ⟨s0, s1⟩
          go_simp
          with_reducible rfl
        rotate_left
        · simp only [Act.put, List.setIfInBounds_toArray, List.set_cons_zero, List.set_cons_succ, i64_w, i32_w]
          rfl
        refine one_ (i := 9) (N := some 98) #[true, true, true, true, true, true, true, true, true, true, true, true, false, false] rfl rfl (one_of HT_.out (by kernel_rfl)) (by decide) (fun K hK => ?_)
        refine goes_ Tryd.func23 (by kernel_rfl) rfl #[.slice (some ⟨g, 0, none⟩) f.units.length cu, .int .i64 (j : Int)] (by rfl) rfl rfl (by (try simp only [List.map_toArray, List.map_cons, List.map_nil]); first | done | rfl | (simp only []; rfl)) ?_
        with_reducible refine (children_c (some ⟨g, 0, none⟩) cu j f.units _ (Kd.R_reads' (HPW.out.below HWD.out).units).2.2 hlc hjl (by omega) (HWV.out j)).mono ?_
        rintro e w6 ⟨v6, rfl, hr6, hb6⟩
        obtain ⟨A6, c6, rfl, hc6, hC6⟩ := Kd.R_reads hr6
        have HB6 := Aside0.mk hb6
        have HC6 := Aside0.mk hC6
        have HW6 := Aside0.mk (HWD.out.trans (hb6.mono HWD.out.size))
        have CC := Aside0.mk (clash_c cu c6 (some ⟨g, 0, none⟩) A6 f.units (kids f.units j) a w6 (Kd.R_reads' (HPW.out.below HW6.out).units).2.2 hlc hC6 hc6 (kids_in hjl))
        rw [show clashB f.units (kids f.units j) a = false by rw [HJ.out, HLE.out]; exact HCL.out] at CC
        clear hr6 hb6 hC6
        have hb6s := HB6.out.size
        refine ⟨_, rfl, ?_⟩
        refine hK.out _ _ ⟨pw_cell_below HB6.out hHeld.1, pw_cell_below HB6.out hHeld.2⟩ (fun hHeld => ?_)
        clear hK K
        refine norm_ (a' := ?_) ?_ ?_
        rotate_left
        · show Act.put _ (some 98) _ = _
          simp only [Act.put, List.setIfInBounds_toArray, List.set_cons_zero, List.set_cons_succ, i64_w, i32_w]
          rfl
        refine last_ (i := 12) (N := some 101) #[true, true, true, true, true, true, true, true, true, true, true, true, true, false] rfl rfl (one_of HT_.out (by kernel_rfl)) (by decide) (fun K hK => ?_)
        refine goes_ Tryd.func24 (by kernel_rfl) rfl #[.slice (some ⟨g, 0, none⟩) f.units.length cu, .slice A6 (kids f.units j).length c6, .string a] (by rfl) rfl rfl (by (try simp only [List.map_toArray, List.map_cons, List.map_nil]); first | done | rfl | (simp only []; rfl)) ?_
        with_reducible refine CC.out.mono ?_
        rintro e w7 ⟨rfl, hb7⟩
        have HB7 := Aside0.mk (HW6.out.trans (hb7.mono HW6.out.size))
        have HX7 := Aside0.mk ((hb7.block _ (Nat.lt_of_lt_of_le HBL.out hb6s)).trans ((HB6.out.block _ HBL.out).trans HXD.out))
        clear hb7
        refine ⟨_, rfl, ?_⟩
        refine hK.out _ _ ?_
        clear hK K
        refine norm_ (a' := ?_) ?_ ?_
        rotate_left
        · show Act.put _ (some 101) _ = _
          simp only [Act.put, List.setIfInBounds_toArray, List.set_cons_zero, List.set_cons_succ, i64_w, i32_w]
          rfl
        refine pure_ (i := 13) (N := some 88) (v := ?_) (a' := ?_) #[true, true, true, true, true, true, true, true, true, true, true, true, true, true] rfl rfl (any_of HT_.out (by kernel_rfl)) (fun _ _ _ h => h) (Or.inl ⟨by rfl, ?_⟩) ?_ ?_
        rotate_left
        · intro w'
          go_simp
          with_reducible rfl
        rotate_left
        · simp only [Act.put, List.setIfInBounds_toArray, List.set_cons_zero, List.set_cons_succ, i64_w, i32_w]
          rfl
        refine done_ (done_of HT_.out (by kernel_rfl)) ?_
        clear hz8 hz0
        have hz8 : w7.cell? ⟨fb, 8, none⟩ = some (.slice (some ⟨g, 0, none⟩) f.units.length cu) := (blk_cell (HPW.out.below HB7.out).F 8).trans rfl
        have hz0 : w7.cell? ⟨W.heap.size, 0, none⟩ = some (.string a) := (blk_cell HX7.out 0).trans rfl
        have hz1 : w7.cell? ⟨W.heap.size, 1, none⟩ = some (.string b) := (blk_cell HX7.out 1).trans rfl
        have hz2 : w7.cell? ⟨W.heap.size, 2, none⟩ = some (.int .i64 lev) := (blk_cell HX7.out 2).trans rfl
        have hfz : decide ((100 : Int) ≤ (f.units.length : Int)) = false := decide_eq_false (by omega)
        go_wp2_with fail
        refine start_ (n := 17) (S := fun w' => w'.cell? ⟨fb, 8, none⟩ = some (.slice (some ⟨g, 0, none⟩) f.units.length cu) ∧ w'.cell? ⟨W.heap.size, 0, none⟩ = some (.string a) ∧ w'.cell? ⟨W.heap.size, 1, none⟩ = some (.string b) ∧ w'.cell? ⟨W.heap.size, 2, none⟩ = some (.int .i64 lev)) (ds := [13, 16]) #[false, false, false, false, false, false, false, false, false, false, false, false, false, false, false, false, false] (by kernel_rfl) rfl rfl ⟨hz8, hz0, hz1, hz2⟩ (fun hHeld => ?_)
        refine with_tabW Ins.tab20 Ins.bits20 (fun HT_ HW_ => ?_)
        have HWD := Aside0.mk (show Below W.heap.size W w7.drew from HB7.out.drew)
        generalize w7.drew = wd at HWD hHeld ⊢
        refine pure_ (i := 0) (N := some 113) (v := ?_) (a' := ?_) #[true, false, false, false, false, false, false, false, false, false, false, false, false, false, false, false, false] rfl rfl (any_of HT_.out (by kernel_rfl)) (fun _ _ _ h => h) (Or.inl ⟨by rfl, ?_⟩) ?_ ?_
        rotate_left
        · intro w'
          go_simp
          with_reducible rfl
        rotate_left
        · simp only [Act.put, List.setIfInBounds_toArray, List.set_cons_zero, List.set_cons_succ, i64_w, i32_w]
          rfl
        refine pure_ (i := 1) (N := some 114) (v := ?_) (a' := ?_) #[true, true, false, false, false, false, false, false, false, false, false, false, false, false, false, false, false] rfl rfl (any_of HT_.out (by kernel_rfl)) (fun _ _ _ h => h) (Or.inl ⟨by rfl, ?_⟩) ?_ ?_
        rotate_left
        · intro w'
          go_simp
          with_reducible rfl
        rotate_left
        · simp only [Act.put, List.setIfInBounds_toArray, List.set_cons_zero, List.set_cons_succ, i64_w, i32_w]
          rfl
        refine pure_ (i := 2) (N := some 115) (v := ?_) (a' := ?_) #[true, true, true, false, false, false, false, false, false, false, false, false, false, false, false, false, false] rfl rfl (any_of HT_.out (by kernel_rfl)) (fun _ _ _ h => h) (Or.inl ⟨by rfl, ?_⟩) ?_ ?_
        rotate_left
        · intro w'
          go_simp
          with_reducible rfl
        rotate_left
        · simp only [Act.put, List.setIfInBounds_toArray, List.set_cons_zero, List.set_cons_succ, i64_w, i32_w]
          rfl
        refine pure_ (i := 3) (N := some 116) (v := ?_) (a' := ?_) #[true, true, true, true, false, false, false, false, false, false, false, false, false, false, false, false, false] rfl rfl (any_of HT_.out (by kernel_rfl)) (fun _ _ _ h => h) (Or.inl ⟨by rfl, ?_⟩) ?_ ?_
        rotate_left
        · intro w'
          go_simp
          with_reducible rfl
        rotate_left
        · simp only [Act.put, List.setIfInBounds_toArray, List.set_cons_zero, List.set_cons_succ, i64_w, i32_w]
          rfl
        refine pure_ (i := 5) (N := some 118) (v := ?_) (a' := ?_) #[true, true, true, true, false, true, false, false, false, false, false, false, false, false, false, false, false] rfl rfl (any_of HT_.out (by kernel_rfl)) (fun _ _ _ h => h) (Or.inl ⟨by rfl, ?_⟩) ?_ ?_
        rotate_left
        · intro w'
          go_simp
          with_reducible rfl
        rotate_left
        · simp only [Act.put, List.setIfInBounds_toArray, List.set_cons_zero, List.set_cons_succ, i64_w, i32_w]
          rfl
        refine pure_ (i := 6) (N := some 119) (v := ?_) (a' := ?_) #[true, true, true, true, false, true, true, false, false, false, false, false, false, false, false, false, false] rfl rfl (any_of HT_.out (by kernel_rfl)) (fun _ _ _ h => h) (Or.inl ⟨by rfl, ?_⟩) ?_ ?_
        rotate_left
        · intro w'
          go_simp
          with_reducible rfl
        rotate_left
        · simp only [Act.put, List.setIfInBounds_toArray, List.set_cons_zero, List.set_cons_succ, i64_w, i32_w]
          rfl
        refine pure_ (i := 7) (N := some 120) (v := ?_) (a' := ?_) #[true, true, true, true, false, true, true, true, false, false, false, false, false, false, false, false, false] rfl rfl (any_of HT_.out (by kernel_rfl)) (fun _ _ _ h => h) (Or.inl ⟨by rfl, ?_⟩) ?_ ?_
        rotate_left
        · intro w'
          go_simp
          with_reducible rfl
        rotate_left
        · simp only [Act.put, List.setIfInBounds_toArray, List.set_cons_zero, List.set_cons_succ, i64_w, i32_w]
          rfl
        refine pure_ (i := 9) (N := some 122) (v := ?_) (a' := ?_) #[true, true, true, true, false, true, true, true, false, true, false, false, false, false, false, false, false] rfl rfl (any_of HT_.out (by kernel_rfl)) (fun _ _ _ h => h) (Or.inl ⟨by rfl, ?_⟩) ?_ ?_
        rotate_left
        · intro w'
          go_simp
          with_reducible rfl
        rotate_left
        · simp only [Act.put, List.setIfInBounds_toArray, List.set_cons_zero, List.set_cons_succ, i64_w, i32_w]
          rfl
        refine take_ (i := 4) (N := some 117) (v := ?_) (a' := ?_) #[true, true, true, true, true, true, true, true, false, true, false, false, false, false, false, false, false] rfl rfl (take_ofW HT_.out HW_.out (by kernel_rfl)) (fun _ _ _ h => h) (Or.inl ⟨by rfl, ?_⟩) hHeld ?_ ?_
        rotate_left
        · rintro w' ⟨s0, s1, s2, s3⟩
          go_simp
          with_reducible rfl
        rotate_left
        · simp only [Act.put, List.setIfInBounds_toArray, List.set_cons_zero, List.set_cons_succ, i64_w, i32_w]
          rfl
        refine take_ (i := 8) (N := some 121) (v := ?_) (a' := ?_) #[true, true, true, true, true, true, true, true, true, true, false, false, false, false, false, false, false] rfl rfl (take_ofW HT_.out HW_.out (by kernel_rfl)) (fun _ _ _ h => h) (Or.inl ⟨by rfl, ?_⟩) hHeld ?_ ?_
        rotate_left
        · rintro w' ⟨s0, s1, s2, s3⟩
          go_simp
          with_reducible rfl
        rotate_left
        · simp only [Act.put, List.setIfInBounds_toArray, List.set_cons_zero, List.set_cons_succ, i64_w, i32_w]
          rfl
        refine take_ (i := 11) (N := some 124) (v := ?_) (a' := ?_) #[true, true, true, true, true, true, true, true, true, true, false, true, false, false, false, false, false] rfl rfl (take_ofW HT_.out HW_.out (by kernel_rfl)) (fun _ _ _ h => h) (Or.inl ⟨by rfl, ?_⟩) hHeld ?_ ?_
        rotate_left
        · rintro w' ⟨s0, s1, s2, s3⟩
          go_simp
          with_reducible rfl
        rotate_left
        · simp only [Act.put, List.setIfInBounds_toArray, List.set_cons_zero, List.set_cons_succ, i64_w, i32_w]
          rfl
        refine join_ (σ := Nat) 4 #[true, true, true, true, true, true, true, true, true, true, true, true, true, false, false, false, false] (fun s => [(123, .int .i64 (endOf f.units i : Int)), (125, .slice (some ⟨s, 0, none⟩) 1 1)]) (fun s w' => Below wd.heap.size wd w' ∧ w'.heap[s]? = some (.cells #[.string a, .string b, .int .i64 lev] 46 (0, 0)) ∧ wd.heap.size ≤ s ∧ w'.cell? ⟨fb, 8, none⟩ = some (.slice (some ⟨g, 0, none⟩) f.units.length cu) ∧ w'.cell? ⟨W.heap.size, 0, none⟩ = some (.string a) ∧ w'.cell? ⟨W.heap.size, 1, none⟩ = some (.string b) ∧ w'.cell? ⟨W.heap.size, 2, none⟩ = some (.int .i64 lev)) ?_ ?_
        rotate_left
        · intro hCont
          refine two_ (i := 10) (j := 12) (Ni := some 123) (Nj := some 125) #[true, true, true, true, true, true, true, true, true, true, true, true, false, false, false, false, false] #[true, true, true, true, true, true, true, true, true, true, false, true, true, false, false, false, false] rfl rfl rfl rfl (two_of HT_.out (by kernel_rfl)) (by decide) (by decide) (fun K hK => ?_) (fun K hK => ?_)
          · skip
            refine goes_ Tryd.func42 (by kernel_rfl) rfl #[.slice (some ⟨g, 0, none⟩) f.units.length cu, .int .i64 (i : Int)] (by rfl) rfl rfl (by (try simp only [List.map_toArray, List.map_cons, List.map_nil]); first | done | rfl | (simp only []; rfl)) ?_
            with_reducible refine (beyond_c (some ⟨g, 0, none⟩) cu i f.units _ (Kd.R_reads' (HPW.out.below HWD.out).units).2.2 hlc hi).mono ?_
            rintro e w10 ⟨rfl, hd10⟩
            have HB10 := Aside0.mk hd10.below
            clear hd10
            refine ⟨_, rfl, ?_⟩
            refine hK.out _ _ ⟨pw_cell_below HB10.out hHeld.1, pw_cell_below HB10.out hHeld.2.1, pw_cell_below HB10.out hHeld.2.2.1, pw_cell_below HB10.out hHeld.2.2.2⟩ (fun hHeld => ?_)
            clear hK K
            refine norm_ (a' := ?_) ?_ ?_
            rotate_left
            · show Act.put _ (some 123) _ = _
              simp only [Act.put, List.setIfInBounds_toArray, List.set_cons_zero, List.set_cons_succ, i64_w, i32_w]
              rfl
            refine one_ (i := 12) (N := some 125) #[true, true, true, true, true, true, true, true, true, true, true, true, true, false, false, false, false] rfl rfl (one_of HT_.out (by kernel_rfl)) (by decide) (fun K hK => ?_)
            refine value_ (w1 := w10.alloc (Obj.cells #[Value.string a, Value.string b, Value.int .i64 lev] 46)) (v := .slice (some ⟨w10.heap.size, 0, none⟩) 1 1) (by rfl) rfl ?_ ?_
            · go_simp
            have HB11 := Aside0.mk (show Below w10.heap.size w10 (w10.alloc (Obj.cells #[Value.string a, Value.string b, Value.int .i64 lev] 46)) from (Below.refl _ _).alloc (Nat.le_refl _) _)
            have HV11 := Aside0.mk (heap_alloc_new w10 (Obj.cells #[Value.string a, Value.string b, Value.int .i64 lev] 46))
            generalize w10.alloc (Obj.cells #[Value.string a, Value.string b, Value.int .i64 lev] 46) = w11 at HB11 HV11 ⊢
            refine hK.out _ _ ⟨pw_cell_below HB11.out hHeld.1, pw_cell_below HB11.out hHeld.2.1, pw_cell_below HB11.out hHeld.2.2.1, pw_cell_below HB11.out hHeld.2.2.2⟩ (fun hHeld => ?_)
            clear hK K
            refine norm_ (a' := ?_) ?_ ?_
            rotate_left
            · show Act.put _ (some 125) _ = _
              simp only [Act.put, List.setIfInBounds_toArray, List.set_cons_zero, List.set_cons_succ, i64_w, i32_w]
              rfl
            exact norm_ (by simp only [putAll, Act.put, List.setIfInBounds_toArray, List.set_cons_zero, List.set_cons_succ]) (hCont w10.heap.size _ ⟨HB10.out.trans (HB11.out.mono HB10.out.size), HV11.out, HB10.out.size, hHeld.1, hHeld.2.1, hHeld.2.2.1, hHeld.2.2.2⟩)
          · skip
            refine value_ (w1 := wd.alloc (Obj.cells #[Value.string a, Value.string b, Value.int .i64 lev] 46)) (v := .slice (some ⟨wd.heap.size, 0, none⟩) 1 1) (by rfl) rfl ?_ ?_
            · go_simp
            have HB11 := Aside0.mk (show Below wd.heap.size wd (wd.alloc (Obj.cells #[Value.string a, Value.string b, Value.int .i64 lev] 46)) from (Below.refl _ _).alloc (Nat.le_refl _) _)
            have HV11 := Aside0.mk (heap_alloc_new wd (Obj.cells #[Value.string a, Value.string b, Value.int .i64 lev] 46))
            generalize wd.alloc (Obj.cells #[Value.string a, Value.string b, Value.int .i64 lev] 46) = w11 at HB11 HV11 ⊢
            refine hK.out _ _ ⟨pw_cell_below HB11.out hHeld.1, pw_cell_below HB11.out hHeld.2.1, pw_cell_below HB11.out hHeld.2.2.1, pw_cell_below HB11.out hHeld.2.2.2⟩ (fun hHeld => ?_)
            clear hK K
            refine norm_ (a' := ?_) ?_ ?_
            rotate_left
            · show Act.put _ (some 125) _ = _
              simp only [Act.put, List.setIfInBounds_toArray, List.set_cons_zero, List.set_cons_succ, i64_w, i32_w]
              rfl
            refine one_ (i := 10) (N := some 123) #[true, true, true, true, true, true, true, true, true, true, true, true, true, false, false, false, false] rfl rfl (one_of HT_.out (by kernel_rfl)) (by decide) (fun K hK => ?_)
            refine goes_ Tryd.func42 (by kernel_rfl) rfl #[.slice (some ⟨g, 0, none⟩) f.units.length cu, .int .i64 (i : Int)] (by rfl) rfl rfl (by (try simp only [List.map_toArray, List.map_cons, List.map_nil]); first | done | rfl | (simp only []; rfl)) ?_
            with_reducible refine (beyond_c (some ⟨g, 0, none⟩) cu i f.units _ (Kd.R_reads' (HPW.out.below (HWD.out.trans (HB11.out.mono HWD.out.size))).units).2.2 hlc hi).mono ?_
            rintro e w10 ⟨rfl, hd10⟩
            have HB10 := Aside0.mk hd10.below
            clear hd10
            refine ⟨_, rfl, ?_⟩
            refine hK.out _ _ ⟨pw_cell_below HB10.out hHeld.1, pw_cell_below HB10.out hHeld.2.1, pw_cell_below HB10.out hHeld.2.2.1, pw_cell_below HB10.out hHeld.2.2.2⟩ (fun hHeld => ?_)
            clear hK K
            refine norm_ (a' := ?_) ?_ ?_
            rotate_left
            · show Act.put _ (some 123) _ = _
              simp only [Act.put, List.setIfInBounds_toArray, List.set_cons_zero, List.set_cons_succ, i64_w, i32_w]
              rfl
            exact norm_ (by simp only [putAll, Act.put, List.setIfInBounds_toArray, List.set_cons_zero, List.set_cons_succ]) (hCont wd.heap.size _ ⟨HB11.out.trans (HB10.out.mono HB11.out.size), (HB10.out.block _ (blk_lt HV11.out)).trans HV11.out, Nat.le_refl _, hHeld.1, hHeld.2.1, hHeld.2.2.1, hHeld.2.2.2⟩)
        rintro gb w12 ⟨hb12, hv12, hgb12, hs0, hs1, hs2, hs3⟩
        have hHeld : w12.cell? ⟨fb, 8, none⟩ = some (.slice (some ⟨g, 0, none⟩) f.units.length cu) ∧ w12.cell? ⟨W.heap.size, 0, none⟩ = some (.string a) ∧ w12.cell? ⟨W.heap.size, 1, none⟩ = some (.string b) ∧ w12.cell? ⟨W.heap.size, 2, none⟩ = some (.int .i64 lev) := ⟨hs0, hs1, hs2, hs3⟩
        have HB12 := Aside0.mk (HWD.out.trans (hb12.mono HWD.out.size))
        have HV12 := Aside0.mk hv12
        have HGB := Aside0.mk hgb12
        clear hb12 hv12 hgb12 hs0 hs1 hs2 hs3
        refine norm_ (a' := ?_) ?_ ?_
        rotate_left
        · simp only [putAll, Act.put, List.setIfInBounds_toArray, List.set_cons_zero, List.set_cons_succ]
          rfl
        refine last_ (i := 13) (N := some 126) #[true, true, true, true, true, true, true, true, true, true, true, true, true, true, false, false, false] rfl rfl (one_of HT_.out (by kernel_rfl)) (by decide) (fun K hK => ?_)
        refine goes_ Tryd.func41 (by kernel_rfl) rfl #[.slice (some ⟨g, 0, none⟩) f.units.length cu, .int .i64 (endOf f.units i : Int), .slice (some ⟨gb, 0, none⟩) 1 1] (by rfl) rfl rfl (by (try simp only [List.map_toArray, List.map_cons, List.map_nil]); first | done | rfl | (simp only []; rfl)) ?_
        with_reducible refine (Ins_units g cu (endOf f.units i) gb ok f.units ⟨a, b, lev⟩ _ (HPW.out.below HB12.out).units (endOf_le hi).2 hl HV12.out (by have := HGB.out; have := HWD.out.size; omega)).mono ?_
        rintro e w13 ⟨g13, c13, rfl, hr13, hg13, hor13, hc13⟩
        have P12 := HPW.out.below HB12.out
        have hfg : some fb ≠ some g := fun e_ => by injection e_ with e_; subst e_; obtain ⟨cells_, hcc_⟩ := own_typed (uRow_of_R P12.units) fb rfl; rw [P12.F] at hcc_; cases hcc_
        have F13 : FileAt w13 fb f.F (.slice A f.rules.length rc) (.slice (some ⟨g, 0, none⟩) f.units.length cu) ub := (hg13.block fb (blk_lt P12.F) hfg).trans P12.F
        have d8 : w13.cell? ⟨fb, 8, none⟩ = some (.slice (some ⟨g, 0, none⟩) f.units.length cu) := (blk_cell F13 8).trans rfl
        have f8 := blk_frozen F13 8
        have HR13 := Aside0.mk hr13
        have HG13 := Aside0.mk hg13
        have HO13 := Aside0.mk hor13
        have HF13 := Aside0.mk F13
        clear hr13 hg13 hor13 F13 P12 hfg hc13
        refine ⟨_, rfl, ?_⟩
        refine hK.out _ _ ?_
        clear hK K
        refine norm_ (a' := ?_) ?_ ?_
        rotate_left
        · show Act.put _ (some 126) _ = _
          simp only [Act.put, List.setIfInBounds_toArray, List.set_cons_zero, List.set_cons_succ, i64_w, i32_w]
          rfl
        refine pure_ (i := 14) (N := some 127) (v := ?_) (a' := ?_) #[true, true, true, true, true, true, true, true, true, true, true, true, true, true, true, false, false] rfl rfl (any_of HT_.out (by kernel_rfl)) (fun _ _ _ h => h) (Or.inl ⟨by rfl, ?_⟩) ?_ ?_
        rotate_left
        · intro w'
          go_simp
          with_reducible rfl
        rotate_left
        · simp only [Act.put, List.setIfInBounds_toArray, List.set_cons_zero, List.set_cons_succ, i64_w, i32_w]
          rfl
        refine pure_ (i := 15) (N := some 128) (v := ?_) (a' := ?_) #[true, true, true, true, true, true, true, true, true, true, true, true, true, true, true, true, false] rfl rfl (any_of HT_.out (by kernel_rfl)) (fun _ _ _ h => h) (Or.inl ⟨by rfl, ?_⟩) ?_ ?_
        rotate_left
        · intro w'
          go_simp
          with_reducible rfl
        rotate_left
        · simp only [Act.put, List.setIfInBounds_toArray, List.set_cons_zero, List.set_cons_succ, i64_w, i32_w]
          rfl
        refine last_ (i := 16) (N := none) #[true, true, true, true, true, true, true, true, true, true, true, true, true, true, true, true, true] rfl rfl (one_of HT_.out (by kernel_rfl)) (by decide) (fun K hK => ?_)
        refine skip_ (w1 := ?_) (by rfl) rfl ?_ ?_
        rotate_left
        · go_simp
          rfl
        refine hK.out _ _ ?_
        clear hK K
        refine done_ (done_of HT_.out (by kernel_rfl)) ?_
        go_wp2_with fail
        have HC13 := Aside0.mk (show Chg W w13 (fun k => some k = (Value.slice (some ⟨g, 0, none⟩) f.units.length cu).ownBlock) from (Chg.of_below HB12.out (fun _ => False)).mono (fun _ h => h.elim) |>.trans (Chg.of_grown HG13.out (fun k e => e)) (fun k e => .inl e))
        have PN := HPW.out.newUnits HC13.out HR13.out (fun k hk => by
          subst hk
          rcases HO13.out with e | e
          · exact .inl (HPW.out.units.1 k (by rw [e]; rfl))
          · exact .inr (by have := HB12.out.size; omega))
        have CG := Aside0.mk (changed_c fb ub f.F _ _ u _ PN.1.F)
        have HPN := Aside0.mk PN
        clear PN
        refine CG.out.mono ?_
        rintro e w14 ⟨rfl, rfl⟩
        go_wp2
        go_ret
        have h14 := HPN.out.1.noted u
        refine ⟨rfl, .slice (some ⟨g13, 0, none⟩) (f.units.length + 1) c13, ?_, HPN.out.2.trans h14.2 (fun k hk => hk)⟩
        have h15 := h14.1
        rw [HLE.out] at h15
        exact h15
end Go.Proofs.YtehlmkgldcfciaaDoor.Files
/- The file store: one file's step is the store's step; a file made; a file opened. -/
set_option linter.unusedVariables false
set_option linter.unusedSimpArgs false
namespace Go.Proofs.YtehlmkgldcfciaaDoor.Files
open Go.Proofs.YtehlmkgldcfciaaDoor.Common Go.Maps Go.ChangeMaps Go.WideMaps Go.Proofs.YtehlmkgldcfciaaDoor.F
open Go.RowKit Go.Proofs.YtehlmkgldcfciaaDoorW.PrintWords Go.Proofs.YtehlmkgldcfciaaDoorW.PrintLast Go.Proofs.YtehlmkgldcfciaaDoorW.PrintMore
/-- What a store's step may have made its own. -/
def okP (ok : Nat → Prop) (W w' : World) : Nat → Prop := fun q => (ok q ∨ W.heap.size ≤ q) ∧ q < w'.heap.size
theorem filesL_look {L : List (Nat × AF)} {D : DataW Unit} (hm : MapIs D (L.map fun p => (p.2.key, .lit (.int .i64 p.1)))) (hn : (L.map (·.2.key)).Nodup) {fb : Nat} {f : AF} (hp : (fb, f) ∈ L) : D.atKey (.string f.F.name.data.toList) .nil = .lit (.int .i64 (fb : Nat)) := by
  rw [hm.at_]
  have h2 : ((L.map fun p => (p.2.key, (DataW.lit (.int .i64 (p.1 : Int)) : DataW Unit))).map (·.1)).Nodup := by
    rw [List.map_map]; exact hn
  have := look_of_mem h2 (p := (f.key, .lit (.int .i64 (fb : Int)))) (List.mem_map.2 ⟨(fb, f), hp, rfl⟩)
  rw [show f.F.name.data.toList = f.key from rfl, this]
  all_goals rfl
theorem filesL_none {L : List (Nat × AF)} {D : DataW Unit} (hm : MapIs D (L.map fun p => (p.2.key, .lit (.int .i64 p.1)))) {n : ByteArray} (hn : ∀ p ∈ L, p.2.F.name ≠ n) : look (L.map fun p => (p.2.key, (DataW.lit (.int .i64 (p.1 : Int)) : DataW Unit))) n.data.toList = none :=
  look_none.2 fun p hp => by
    obtain ⟨q, hq, rfl⟩ := List.mem_map.1 hp
    exact fun e => hn q hq (data_inj e)
theorem StoreParts.below {W w' : World} {ok : Nat → Prop} {sb mb : Nat} {L : List (Nat × AF)} {D : DataW Unit} {own : Nat → Nat} (h : StoreParts W ok sb L mb D own) (hb : Below W.heap.size W w') : StoreParts w' ok sb L mb D own :=
  ⟨h.oks, h.okm, (hb.block sb (h.lt sb h.oks)).trans h.S, (Chg.of_below hb (fun _ => False)).map h.M (fun h => h), h.mM, fun p hp => (h.files p hp).step (Chg.of_below hb (fun _ => False)) (fun _ _ h => h), h.ownm, fun k hk => Nat.lt_of_lt_of_le (h.lt k hk) hb.size, h.fbs, h.names⟩
/-- The store stays what it is while other blocks are written. -/
theorem StoreParts.other {W w' : World} {ok S : Nat → Prop} {sb mb : Nat} {L : List (Nat × AF)} {D : DataW Unit} {own : Nat → Nat} (h : StoreParts W ok sb L mb D own) (hc : Chg W w' S) (hs : ∀ k, ok k → ¬ S k) : StoreParts w' ok sb L mb D own :=
  ⟨h.oks, h.okm, (hc.block sb (h.lt sb h.oks) (hs sb h.oks)).trans h.S, hc.map h.M (hs mb h.okm), h.mM, fun p hp => (h.files p hp).step hc (fun k hk => hs k hk.1), h.ownm, fun k hk => Nat.lt_of_lt_of_le (h.lt k hk) hc.size, h.fbs, h.names⟩
theorem StoreRep.other {W w' : World} {ok S : Nat → Prop} {sb : Nat} {L : List (Nat × AF)} (h : StoreRep W ok sb L) (hc : Chg W w' S) (hs : ∀ k, ok k → ¬ S k) : StoreRep w' ok sb L := by
  obtain ⟨mb, D, own, h⟩ := h
  exact ⟨mb, D, own, h.other hc hs⟩
theorem set_same {α : Type} {l : List α} {k : Nat} {x : α} (h : l[k]? = some x) : l.set k x = l := by
  apply List.ext_getElem?
  intro j
  rw [List.getElem?_set]
  split
  · rename_i e
    subst e
    split
    · exact h.symm
    · rename_i h2
      rw [List.getElem?_eq_none (by omega)]
  · rfl
theorem mem_set_of {α : Type} {l : List α} {k : Nat} {x y : α} (h : x ∈ l.set k y) : x = y ∨ ∃ j, j ≠ k ∧ l[j]? = some x := by
  obtain ⟨j, hj, e⟩ := List.getElem_of_mem h
  rw [List.length_set] at hj
  by_cases hjk : j = k
  · subst hjk
    rw [List.getElem_set_self] at e
    exact .inl e.symm
  · rw [List.getElem_set_ne (Ne.symm hjk)] at e
    exact .inr ⟨j, hjk, by rw [List.getElem?_eq_getElem hj, e]⟩
theorem StoreParts.step {W w' : World} {ok : Nat → Prop} {sb mb fb k : Nat} {L : List (Nat × AF)} {D : DataW Unit} {own : Nat → Nat} {f f' : AF} (h : StoreParts W ok sb L mb D own) (hk : L[k]? = some (fb, f)) (hkey : f'.key = f.key)
    (hf : FileRep w' (fun q => (ok q ∧ own q = fb) ∨ W.heap.size ≤ q) fb f') (hc : Chg W w' (fun q => ok q ∧ own q = fb)) : StoreRep w' (okP ok W w') sb (L.set k (fb, f')) ∧ Chg W w' ok := by
  have hmem : (fb, f) ∈ L := List.mem_of_getElem? hk
  have hkl : k < L.length := (List.getElem?_eq_some_iff.1 hk).1
  have e1 : (L.set k (fb, f')).map (fun p => (p.2.key, (DataW.lit (.int .i64 (p.1 : Int)) : DataW Unit))) = L.map fun p => (p.2.key, .lit (.int .i64 p.1)) := by
    rw [List.map_set, hkey]
    refine set_same ?_
    rw [List.getElem?_map, hk]; rfl
  have e2 : (L.set k (fb, f')).map (·.1) = L.map (·.1) := by
    rw [List.map_set]
    refine set_same ?_
    rw [List.getElem?_map, hk]; rfl
  have e3 : (L.set k (fb, f')).map (·.2.key) = L.map (·.2.key) := by
    rw [List.map_set, hkey]
    refine set_same ?_
    rw [List.getElem?_map, hk]; rfl
  have hom := h.ownm _ hmem
  have hoks : okP ok W w' sb := ⟨.inl h.oks, Nat.lt_of_lt_of_le (h.lt sb h.oks) hc.size⟩
  have hokm : okP ok W w' mb := ⟨.inl h.okm, Nat.lt_of_lt_of_le (h.lt mb h.okm) hc.size⟩
  refine ⟨⟨mb, D, fun q => if q < W.heap.size then own q else fb, ⟨hoks, hokm, ?_, ?_, ?_, ?_, ?_, fun q hq => hq.2, ?_, ?_⟩⟩, hc.mono (fun q hq => hq.1)⟩
  · exact (hc.block sb (h.lt sb h.oks) (fun hq => hom.2 hq.2)).trans h.S
  · exact hc.map h.M (fun hq => hom.1 hq.2)
  · rw [e1]; exact h.mM
  · intro p hp
    rcases mem_set_of hp with rfl | ⟨j, hj, hjp⟩
    · obtain ⟨A, rc, uv, ub, DU, P⟩ := hf
      refine ⟨A, rc, uv, ub, DU, P.bound.mono (fun q hq => ?_)⟩
      obtain ⟨hq1 | hq1, hq2⟩ := hq
      · exact ⟨⟨.inl hq1.1, hq2⟩, by show (if q < W.heap.size then own q else fb) = fb; rw [if_pos (h.lt q hq1.1)]; exact hq1.2⟩
      · exact ⟨⟨.inr hq1, hq2⟩, by show (if q < W.heap.size then own q else fb) = fb; rw [if_neg (by omega)]⟩
    · have hjl : j < L.length := (List.getElem?_eq_some_iff.1 hjp).1
      have hne : p.1 ≠ fb := by
        intro e
        have h1 : (L.map (·.1))[j]? = some p.1 := by rw [List.getElem?_map, hjp]; rfl
        have h2 : (L.map (·.1))[k]? = some fb := by rw [List.getElem?_map, hk]; rfl
        have := (List.getElem?_inj (by rw [List.length_map]; exact hjl) h.fbs).1 (h1.trans (by rw [e]; exact h2.symm))
        exact hj this
      refine ((h.files p (List.mem_of_getElem? hjp)).step hc (fun q hq hq2 => hne (hq.2.symm.trans hq2.2))).mono (fun q hq => ?_)
      exact ⟨⟨.inl hq.1, Nat.lt_of_lt_of_le (h.lt q hq.1) hc.size⟩, by show (if q < W.heap.size then own q else fb) = p.1; rw [if_pos (h.lt q hq.1)]; exact hq.2⟩
  · intro p hp
    have hp1 : p.1 ∈ L.map (·.1) := by rw [← e2]; exact List.mem_map.2 ⟨p, hp, rfl⟩
    obtain ⟨q, hq, hqe⟩ := List.mem_map.1 hp1
    have := h.ownm q hq
    show (if mb < W.heap.size then own mb else fb) ≠ p.1 ∧ (if sb < W.heap.size then own sb else fb) ≠ p.1
    rw [if_pos (h.lt mb h.okm), if_pos (h.lt sb h.oks), ← hqe]
    exact this
  · rw [e2]; exact h.fbs
  · rw [e3]; exact h.names
/-- How a store's method ends. -/
def SOut (W : World) (ok : Nat → Prop) (sb : Nat) (v : Value) (st' : List AF) (e : Ending) (w' : World) : Prop := e = .returned v ∧ ∃ ok' L', StoreRep w' ok' sb L' ∧ L'.map (·.2) = st' ∧ Chg W w' ok ∧ ∀ q, ok' q → ok q ∨ W.heap.size ≤ q
theorem SOut.below {W w' : World} {ok : Nat → Prop} {sb : Nat} {L : List (Nat × AF)} {v : Value} (h : StoreRep W ok sb L) (hb : Below W.heap.size W w') : SOut W ok sb v (L.map (·.2)) (.returned v) w' :=
  ⟨rfl, ok, L, h.other (Chg.of_below hb (fun _ => False)) (fun _ _ h => h), rfl, Chg.of_below hb _, fun q hq => .inl hq⟩
theorem SOut.step {W w' : World} {ok : Nat → Prop} {sb mb fb k : Nat} {L : List (Nat × AF)} {D : DataW Unit} {own : Nat → Nat} {f f' : AF} {v : Value} (h : StoreParts W ok sb L mb D own) (hk : L[k]? = some (fb, f)) (hkey : f'.key = f.key)
    (hf : FileRep w' (fun q => (ok q ∧ own q = fb) ∨ W.heap.size ≤ q) fb f') (hc : Chg W w' (fun q => ok q ∧ own q = fb)) : SOut W ok sb v ((L.map (·.2)).set k f') (.returned v) w' := by
  obtain ⟨h1, h2⟩ := h.step hk hkey hf hc
  exact ⟨rfl, _, _, h1, by rw [List.map_set], h2, fun q hq => hq.1⟩
end Go.Proofs.YtehlmkgldcfciaaDoor.Files
/- The file store: New, Create and Open as steps of the store. -/
set_option linter.unusedVariables false
set_option linter.unusedSimpArgs false
namespace Go.Proofs.YtehlmkgldcfciaaDoor.Files
open Go.Proofs.YtehlmkgldcfciaaDoor.Common Go.Maps Go.ChangeMaps Go.WideMaps Go.Proofs.YtehlmkgldcfciaaDoor.F
open Go.RowKit Go.Proofs.YtehlmkgldcfciaaDoorW.PrintWords Go.Proofs.YtehlmkgldcfciaaDoorW.PrintLast Go.Proofs.YtehlmkgldcfciaaDoorW.PrintMore
def NewOut (w : World) (e : Ending) (w' : World) : Prop := ∃ sb ok, e = .returned (.pointer (some ⟨sb, 0, none⟩)) ∧ StoreRep w' ok sb [] ∧ Below w.heap.size w w' ∧ ∀ q, ok q → w.heap.size ≤ q
theorem S_New (w : World) : Calls Tryd.prog 18 #[] w (NewOut w) := by
  refine (New_c w).mono ?_
  rintro e w' ⟨rfl, rfl⟩
  have hM := (World.ownsMap_made w Tryd.prog 9 Rp).alloc (.cells #[.map (some w.heap.size)] 77)
  have hsz : ((w.alloc (.map #[] 0)).alloc (.cells #[.map (some w.heap.size)] 77)).heap.size = w.heap.size + 2 := by simp
  have hS : Boxed ((w.alloc (.map #[] 0)).alloc (.cells #[.map (some w.heap.size)] 77)) (w.heap.size + 1) 77 (.map (some w.heap.size)) := by
    have := Boxed.new (w.alloc (.map #[] 0)) 77 (.map (some w.heap.size))
    rwa [World.size_alloc] at this
  refine ⟨w.heap.size + 1, fun q => w.heap.size ≤ q ∧ q < w.heap.size + 2, rfl, ⟨w.heap.size, .map [], fun _ => 0, ?_⟩, ((Below.refl _ _).alloc (Nat.le_refl _) _).alloc (by simp) _, fun q hq => hq.1⟩
  exact ⟨⟨by omega, by omega⟩, ⟨by omega, by omega⟩, hS, ownsMap_tight hM, MapIs.nil, (fun p hp => by cases hp), (fun p hp => by cases hp), fun k hk => by rw [hsz]; exact hk.2, List.nodup_nil, List.nodup_nil⟩
/-- A file that has just been made. -/
def newF (u n : ByteArray) (kind perm : Int) : AF := ⟨⟨n, kind, perm, u, ByteArray.empty, 0, 0⟩, [], [⟨ByteArray.empty, ByteArray.empty, 0⟩], []⟩
theorem new_parts (W : World) (u n : ByteArray) (kind perm : Int) (W3 : World) (h : ((W.alloc (.cells #[.string ByteArray.empty, .string ByteArray.empty, .int .i64 0] 46)).alloc (.map #[] 0)).alloc (.cells (FS.cells ⟨n, kind, perm, u, ByteArray.empty, 0, 0⟩ (.slice none 0 0) (.slice (some ⟨W.heap.size, 0, none⟩) 1 1) (W.heap.size + 1)) 86) = W3) :
    FileParts W3 (fun q => W.heap.size ≤ q) (W.heap.size + 2) (newF u n kind perm) none 0 (.slice (some ⟨W.heap.size, 0, none⟩) 1 1) (W.heap.size + 1) (.map []) ∧ Below W.heap.size W W3 ∧ W3.heap.size = W.heap.size + 3 := by
  subst h
  have hU := (World.ownsMap_made (W.alloc (.cells #[.string ByteArray.empty, .string ByteArray.empty, .int .i64 0] 46)) Tryd.prog 9 Ro).alloc (.cells (FS.cells ⟨n, kind, perm, u, ByteArray.empty, 0, 0⟩ (.slice none 0 0) (.slice (some ⟨W.heap.size, 0, none⟩) 1 1) (W.heap.size + 1)) 86)
  rw [World.size_alloc] at hU
  have hF := heap_alloc_new ((W.alloc (.cells #[.string ByteArray.empty, .string ByteArray.empty, .int .i64 0] 46)).alloc (.map #[] 0)) (.cells (FS.cells ⟨n, kind, perm, u, ByteArray.empty, 0, 0⟩ (.slice none 0 0) (.slice (some ⟨W.heap.size, 0, none⟩) 1 1) (W.heap.size + 1)) 86)
  rw [World.size_alloc, World.size_alloc] at hF
  refine ⟨⟨by omega, hF, Kd.R_nil _ _ _ _ _, ?_, by omega, ownsMap_tight hU, MapIs.nil⟩, (((Below.refl _ _).alloc (Nat.le_refl _) _).alloc (by simp) _).alloc (by simp <;> omega) _, by simp⟩
  refine R_of_uRow' ⟨rfl, .inr ⟨W.heap.size, 1, #[.string ByteArray.empty, .string ByteArray.empty, .int .i64 0], rfl, Nat.zero_le _, ?_, Nat.le_refl _, by decide, rfl, rfl⟩⟩ (fun k hk => by
    have : W.heap.size = k := by simpa [Value.ownBlock] using hk
    omega)
  rw [Below.heap_alloc _ _ _ (by simp <;> omega), Below.heap_alloc _ _ _ (by simp)]
  exact heap_alloc_new W _
theorem S_Create_ok (sb : Nat) (ok : Nat → Prop) (L : List (Nat × AF)) (u n : ByteArray) (kind perm : Int) (W : World) (hR : StoreRep W ok sb L)
    (hu : 1 ≤ u.size ∧ u.size ≤ 20) (hn : 1 ≤ n.size ∧ n.size ≤ 30) (hkd : 0 ≤ kind ∧ kind ≤ 2) (hpm : 0 ≤ perm ∧ perm ≤ 255) (hno : ∀ p ∈ L, p.2.F.name ≠ n) (hlen : L.length < 30) :
    Calls Tryd.prog 19 #[.pointer (some ⟨sb, 0, none⟩), .string u, .string n, .int .i64 kind, .int .i64 perm] W (SOut W ok sb (.int .i64 0) (L.map (·.2) ++ [newF u n kind perm])) := by
  obtain ⟨mb, D, own, R⟩ := hR
  have hlook := filesL_none R.mM hno
  have hD : D.atKey (.string n.data.toList) .nil = .nil := by rw [R.mM.at_, hlook]; rfl
  have hsz : Maps.size D = L.length := by rw [R.mM.size, List.length_map]
  refine (Create_c sb mb _ D u n kind perm W R.S.cell R.M (by omega) hu hn hkd hpm hD (by omega)).mono ?_
  rintro e w' ⟨rfl, W3, hW3, hM', hT⟩
  obtain ⟨P3, hb3, hs3⟩ := new_parts W u n kind perm W3 hW3
  have hmb := R.M.lt
  have hsb := R.S.lt
  have hne : sb ≠ mb := fun e => by
    have h1 := R.S
    obtain ⟨es, clock, hb, _⟩ := R.M
    rw [← e] at hb
    exact absurd (h1.symm.trans hb) (by simp)
  have hcT : Chg W3 w' (fun q => q = mb) := Chg.of_turned hT rfl
  have hsz' : w'.heap.size = W3.heap.size := by
    obtain ⟨_, _, _, _, _, rfl⟩ := hT
    simp [setBlock]
  have hcW : Chg W w' ok := ((Chg.of_below hb3 (fun _ => False)).mono (fun _ h => h.elim)).trans hcT (fun q hq => .inl (by rw [hq]; exact R.okm))
  have hfbs : ∀ p ∈ L, p.1 < W.heap.size ∧ p.1 ≠ mb := fun p hp => by
    obtain ⟨A, rc, uv, ub, DU, P⟩ := R.files p hp
    exact ⟨blk_lt P.F, Ne.symm (blk_map_ne P.F R.M)⟩
  refine ⟨rfl, okP ok W w', L ++ [(W.heap.size + 2, newF u n kind perm)], ⟨mb, D.put (.string n.data.toList) (.lit (.int .i64 (W.heap.size + 2 : Nat))), fun q => if q = mb ∨ q = sb then mb else if q < W.heap.size then own q else W.heap.size + 2, ?_⟩, by simp, hcW, fun q hq => hq.1⟩
  have hmap : (L ++ [(W.heap.size + 2, newF u n kind perm)]).map (fun p => (p.2.key, (DataW.lit (.int .i64 (p.1 : Int)) : DataW Unit))) = L.map (fun p => (p.2.key, (DataW.lit (.int .i64 (p.1 : Int)) : DataW Unit))) ++ [(n.data.toList, .lit (.int .i64 (W.heap.size + 2 : Nat)))] := by
    rw [List.map_append]; rfl
  refine ⟨⟨.inl R.oks, by omega⟩, ⟨.inl R.okm, by omega⟩, ?_, ownsMap_tight hM', ?_, ?_, ?_, fun q hq => hq.2, ?_, ?_⟩
  · exact (hcT.block sb (by omega) hne).trans ((hb3.block sb hsb).trans R.S)
  · rw [hmap]
    exact R.mM.put _ _ hlook
  · intro p hp
    rcases List.mem_append.1 hp with hp | hp
    · refine (((R.files p hp).step (Chg.of_below hb3 (fun _ => False)) (fun _ _ h => h)).step hcT (fun q hq e => (R.ownm p hp).1 (by rw [← e]; exact hq.2))).mono (fun q hq => ?_)
      have hqlt := R.lt q hq.1
      refine ⟨⟨.inl hq.1, by omega⟩, ?_⟩
      have h1 : ¬ (q = mb ∨ q = sb) := fun h => h.elim (fun e => (R.ownm p hp).1 (by rw [← e]; exact hq.2)) (fun e => (R.ownm p hp).2 (by rw [← e]; exact hq.2))
      show (if q = mb ∨ q = sb then mb else if q < W.heap.size then own q else W.heap.size + 2) = p.1
      rw [if_neg h1, if_pos hqlt]
      exact hq.2
    · obtain rfl := List.mem_singleton.1 hp
      refine ⟨_, _, _, _, _, (P3.step hcT (fun q hq => by omega)).bound.mono (fun q hq => ⟨⟨.inr hq.1, hq.2⟩, ?_⟩)⟩
      show (if q = mb ∨ q = sb then mb else if q < W.heap.size then own q else W.heap.size + 2) = W.heap.size + 2
      have hq1 := hq.1
      rw [if_neg (by omega), if_neg (by omega)]
  · intro p hp
    have h2 : p.1 ≠ mb := by
      rcases List.mem_append.1 hp with hp | hp
      · exact (hfbs p hp).2
      · obtain rfl := List.mem_singleton.1 hp
        show W.heap.size + 2 ≠ mb
        omega
    show (if mb = mb ∨ mb = sb then mb else _) ≠ p.1 ∧ (if sb = mb ∨ sb = sb then mb else _) ≠ p.1
    rw [if_pos (.inl rfl), if_pos (.inr rfl)]
    exact ⟨Ne.symm h2, Ne.symm h2⟩
  · rw [List.map_append, List.nodup_append]
    refine ⟨R.fbs, by simp, fun a ha b hb e => ?_⟩
    obtain ⟨p, hp, rfl⟩ := List.mem_map.1 ha
    have := (hfbs p hp).1
    have hb' : b = W.heap.size + 2 := by simpa using hb
    omega
  · rw [List.map_append, List.nodup_append]
    refine ⟨R.names, by simp, fun a ha b hb e => ?_⟩
    obtain ⟨p, hp, rfl⟩ := List.mem_map.1 ha
    have hb' : b = n.data.toList := by simpa [newF, AF.key] using hb
    exact hno p hp (data_inj (e.trans hb'))
/-- Whether nobody's opening stands against another one. -/
def freeB (l : List (ByteArray × (Int × Int))) (actions exclusive : Int) : Bool := l.all fun p => decide (bits .and .i64 p.2.2 actions = 0) && decide (bits .and .i64 exclusive p.2.1 = 0)
theorem openD_inj {p q : Int × Int} (h : openD p = openD q) : p = q := by
  unfold openD at h
  simp only [DataW.agg.injEq, List.cons.injEq, DataW.lit.injEq, Lit.int.injEq, true_and, and_true] at h
  exact Prod.ext h.1 h.2
theorem users_keys (l : List (ByteArray × (Int × Int))) : (usersL l).map (·.1) = l.map (fun p => p.1.data.toList) := by simp [usersL]
theorem free_iff {DU : DataW Unit} {l : List (ByteArray × (Int × Int))} (h : MapIs DU (usersL l)) (hn : (l.map (fun p => p.1.data.toList)).Nodup) (actions exclusive : Int) : Free DU actions exclusive ↔ freeB l actions exclusive = true := by
  unfold Free freeB
  rw [List.all_eq_true]
  constructor
  · intro hf p hp
    have h1 : look (usersL l) p.1.data.toList = some (openD p.2) := look_of_mem (by rw [users_keys]; exact hn) (p := (p.1.data.toList, openD p.2)) (List.mem_map.2 ⟨p, hp, rfl⟩)
    have h2 := hf p.1.data.toList p.2.1 p.2.2 (fun zd => by rw [h.at_, h1]; rfl)
    simp [h2.1, h2.2]
  · intro hf k a b hz
    have h1 := hz .nil
    rw [h.at_] at h1
    cases hl : look (usersL l) k with
    | none => rw [hl] at h1; cases h1
    | some d =>
      rw [hl] at h1
      obtain ⟨p, hp, he⟩ := List.mem_map.1 (look_mem hl)
      injection he with he1 he2
      have h3 : openD p.2 = openD (a, b) := he2.trans h1
      have h4 := openD_inj h3
      have h5 := hf p hp
      rw [h4] at h5
      simpa using h5
def AF.opened (f : AF) (u : ByteArray) (a x : Int) : AF := { f with users := f.users ++ [(u, (a, x))] }
theorem S_Open (sb fb k : Nat) (ok : Nat → Prop) (L : List (Nat × AF)) (f : AF) (u n : ByteArray) (actions exclusive : Int) (W : World) (hR : StoreRep W ok sb L) (hk : L[k]? = some (fb, f)) (hnm : f.F.name = n)
    (hu : 1 ≤ u.size ∧ u.size ≤ 20) (hn : 1 ≤ n.size ∧ n.size ≤ 30) (hact : 0 ≤ actions ∧ actions ≤ 255) (hexc : 0 ≤ exclusive ∧ exclusive ≤ 255) (hsub : bits .andNot .i64 exclusive actions = 0)
    (hhas : lookU f.users u = none) (hmay : mayB f.F f.rules u actions = true) (hnd : (f.users.map (fun p => p.1.data.toList)).Nodup) (hul : f.users.length < 1000) :
    Calls Tryd.prog 20 #[.pointer (some ⟨sb, 0, none⟩), .string u, .string n, .int .i64 actions, .int .i64 exclusive] W
      (SOut W ok sb (.int .i64 (if freeB f.users actions exclusive then 0 else 12)) (if freeB f.users actions exclusive then (L.map (·.2)).set k (f.opened u actions exclusive) else L.map (·.2))) := by
  have hR0 := hR
  obtain ⟨mb, D, own, R⟩ := hR
  obtain ⟨A, rc, uv, ub, DU, P⟩ := R.files _ (List.mem_of_getElem? hk)
  have hD := filesL_look R.mM R.names (List.mem_of_getElem? hk)
  rw [hnm] at hD
  have hlook : look (usersL f.users) u.data.toList = none := by rw [look_users, hhas]; rfl
  have hh : Maps.has DU (.string u.data.toList) = false := by rw [P.mU.has, hlook]; rfl
  have hsz : Maps.size DU = f.users.length := by rw [P.mU.size]; simp [usersL]
  obtain ⟨_, hrc, hrC⟩ := Kd.R_reads' P.rules
  refine (Open_c sb mb _ fb ub _ rc D DU f.F A f.rules uv u n actions exclusive W R.S.cell R.M hu hn hD P.F P.U (by omega) hrC hrc hact hexc hsub hh hmay).mono ?_
  rintro e w' (⟨rfl, hf, hM', w3, hb3, hT⟩ | ⟨rfl, hf, hb⟩)
  · rw [(free_iff P.mU hnd actions exclusive).1 hf]
    have hcT : Chg w3 w' (fun q => q = ub) := Chg.of_turned hT rfl
    have hcW : Chg W w' (fun q => q = ub) := ((Chg.of_below hb3 (fun _ => False)).mono (fun _ h => h.elim)).trans hcT (fun q hq => .inl hq)
    have hF' : FileAt w' fb f.F (.slice A f.rules.length rc) uv ub := (hcW.block fb (blk_lt P.F) (Ne.symm (blk_map_ne P.F P.U))).trans P.F
    have hne : ∀ q cells t, W.heap[q]? = some (.cells cells t (0, 0)) → q ≠ ub := fun q cells t h => Ne.symm (blk_map_ne h P.U)
    have hrow : ∀ {α : Type} {d : Kd α} {e0 : Nat} {v : Value} {xs : List α}, d.R e0 W 0 (fun q => ok q ∧ own q = fb) v xs → d.R e0 w' 0 (fun q => ok q ∧ own q = fb) v xs := fun h =>
      Kd.R_mono (hcW.row (Kd.R_bound h) (fun q hq => by
        obtain ⟨_, _, _, t, _, cells, hc⟩ := hq
        exact hne q cells t hc)) (fun q hq => hq.1)
    have hput := P.mU.put u.data.toList (openD (actions, exclusive)) hlook
    have e : usersL (f.opened u actions exclusive).users = usersL f.users ++ [(u.data.toList, openD (actions, exclusive))] := by simp [usersL, AF.opened]
    have P' : FileParts w' (fun q => ok q ∧ own q = fb) fb (f.opened u actions exclusive) A rc uv ub _ := ⟨P.okb, hF', hrow P.rules, hrow P.units, P.oku, ownsMap_tight hM', by rw [e]; exact hput⟩
    exact SOut.step R hk rfl ⟨A, rc, uv, ub, _, P'.mono (fun q hq => .inl hq)⟩ (hcW.mono (fun q hq => by rw [hq]; exact P.oku))
  · have : freeB f.users actions exclusive = false := by
      cases h : freeB f.users actions exclusive with
      | false => rfl
      | true => exact absurd ((free_iff P.mU hnd actions exclusive).2 h) hf
    rw [this]
    exact SOut.below hR0 hb
end Go.Proofs.YtehlmkgldcfciaaDoor.Files
/- The file store: Insert and Read as steps of the store; the example of the chapter. -/
set_option linter.unusedVariables false
set_option linter.unusedSimpArgs false
namespace Go.Proofs.YtehlmkgldcfciaaDoor.Files
open Go.Proofs.YtehlmkgldcfciaaDoor.Common Go.Maps Go.ChangeMaps Go.WideMaps Go.Proofs.YtehlmkgldcfciaaDoor.F
open Go.RowKit Go.Proofs.YtehlmkgldcfciaaDoorW.PrintWords Go.Proofs.YtehlmkgldcfciaaDoorW.PrintLast Go.Proofs.YtehlmkgldcfciaaDoorW.PrintMore
theorem StoreParts.way {W : World} {ok : Nat → Prop} {sb mb fb k : Nat} {L : List (Nat × AF)} {D : DataW Unit} {own : Nat → Nat} {f : AF} {u n : ByteArray} (R : StoreParts W ok sb L mb D own) (hk : L[k]? = some (fb, f)) (hnm : f.F.name = n) (hu : 1 ≤ u.size ∧ u.size ≤ 20) (hn : 1 ≤ n.size ∧ n.size ≤ 30) :
    FoundOk W (.pointer (some ⟨sb, 0, none⟩)) u n fb ∧ FileRep W (fun q => ok q ∧ own q = fb) fb f := by
  have hD := filesL_look R.mM R.names (List.mem_of_getElem? hk)
  rw [hnm] at hD
  exact ⟨View.found ⟨R.S.cell, R.M, hu, hn⟩ hD, R.files _ (List.mem_of_getElem? hk)⟩
/-- What walks want of a file's units. -/
structure UOk (l : List S46) : Prop where
  pos : 1 ≤ l.length
  len : l.length ≤ 100
  lev : ∀ j, 0 ≤ lv l j ∧ lv l j ≤ 1000
  root : lv l 0 = 0
theorem S_Insert_ok (sb fb k i : Nat) (ok : Nat → Prop) (L : List (Nat × AF)) (f : AF) (u n : ByteArray) (child : Bool) (a b : ByteArray) (lev0 ac ex : Int) (W : World) (hR : StoreRep W ok sb L) (hk : L[k]? = some (fb, f)) (hnm : f.F.name = n)
    (hu : 1 ≤ u.size ∧ u.size ≤ 20) (hn : 1 ≤ n.size ∧ n.size ≤ 30) (hlook : lookU f.users u = some (ac, ex)) (hU : UOk f.units) (hi : i < f.units.length) (h1 : a.size ≤ 30) (h2 : b.size ≤ 400) (hbad : insBad f.F.kind (insLev f.units i child) = false)
    (hcl : clashB f.units (kids f.units (aboveOf f.units (insLev f.units i child) i)) a = false) (hdn : denied ac 2 = 0) (hfull : f.units.length < 100) :
    Calls Tryd.prog 21 #[.pointer (some ⟨sb, 0, none⟩), .string u, .string n, .int .i64 (i : Int), .bool child, .agg #[.string a, .string b, .int .i64 lev0]] W (SOut W ok sb (.int .i64 0) ((L.map (·.2)).set k (f.ins u i ⟨a, b, insLev f.units i child⟩))) := by
  obtain ⟨mb, D, own, R⟩ := hR
  obtain ⟨HF, A, rc, uv, ub, DU, P⟩ := R.way hk hnm hu hn
  have HO := opened_ok _ u n 2 W _ fb rc ub f A uv DU ac ex HF P (by omega) hlook
  rw [hdn] at HO
  have HU := unit_ok _ u n (i : Int) 2 0 W _ fb rc ub f A uv DU HO P (by omega) (by omega)
  refine (Insert_ok _ u n i fb rc ub child a b lev0 0 f A uv DU _ W HU P hi (by have := hU.len; omega) h1 h2 hU.lev hU.root hbad hcl rfl hfull).mono ?_
  rintro e w' ⟨rfl, uv', hP, hC⟩
  exact SOut.step R hk rfl ⟨A, rc, uv', ub, DU, hP⟩ hC
def RdOut (W : World) (ok : Nat → Prop) (sb : Nat) (l : List S46) (E : Int) (st' : List AF) (e : Ending) (w' : World) : Prop := ∃ v, SOut W ok sb (.tuple #[v, .int .i64 E]) st' e w' ∧ Kd.R k46 46 w' W.heap.size (fun _ => True) v l
theorem S_Read_ok (sb fb k i : Nat) (ok : Nat → Prop) (L : List (Nat × AF)) (f : AF) (u n : ByteArray) (whole : Bool) (ac ex : Int) (W : World) (hR : StoreRep W ok sb L) (hk : L[k]? = some (fb, f)) (hnm : f.F.name = n)
    (hu : 1 ≤ u.size ∧ u.size ≤ 20) (hn : 1 ≤ n.size ∧ n.size ≤ 30) (hlook : lookU f.users u = some (ac, ex)) (hU : UOk f.units) (hi : i < f.units.length) (hdn : denied ac 1 = 0) :
    Calls Tryd.prog 22 #[.pointer (some ⟨sb, 0, none⟩), .string u, .string n, .int .i64 (i : Int), .bool whole] W (RdOut W ok sb (readL f.units i whole) 0 ((L.map (·.2)).set k f.read)) := by
  obtain ⟨mb, D, own, R⟩ := hR
  obtain ⟨HF, A, rc, uv, ub, DU, P⟩ := R.way hk hnm hu hn
  have HO := opened_ok _ u n 1 W _ fb rc ub f A uv DU ac ex HF P (by omega) hlook
  rw [hdn] at HO
  have HU := unit_ok _ u n (i : Int) 1 0 W _ fb rc ub f A uv DU HO P (by omega) (by omega)
  refine (Read_ok _ u n i fb rc ub whole f A uv DU _ W HU P hi (by have := hU.len; omega)).mono ?_
  rintro e w' ⟨v, rfl, hr, hP, hC⟩
  exact ⟨v, SOut.step R hk rfl ⟨A, rc, uv, ub, DU, hP.mono (fun q hq => .inl hq)⟩ (hC.mono (fun q hq => by rw [hq]; exact P.okb)), hr⟩
/-! The example of the chapter. -/
def su : ByteArray := ⟨#[117]⟩
def sf : ByteArray := ⟨#[102]⟩
def sa : ByteArray := ⟨#[97]⟩
def sb_ : ByteArray := ⟨#[98]⟩
def s1 : ByteArray := ⟨#[49]⟩
def s2 : ByteArray := ⟨#[50]⟩
def F0 : AF := newF su sf 2 255
def F1 : AF := F0.opened su 255 0
def F2 : AF := F1.ins su 0 ⟨sa, s1, insLev F1.units 0 true⟩
def F3 : AF := F2.ins su 1 ⟨sb_, s2, insLev F2.units 1 false⟩
theorem F1_units : F1.units = [⟨ByteArray.empty, ByteArray.empty, 0⟩] := rfl
theorem F2_units : F2.units = [⟨ByteArray.empty, ByteArray.empty, 0⟩, ⟨sa, s1, 1⟩] := rfl
theorem F3_units : F3.units = [⟨ByteArray.empty, ByteArray.empty, 0⟩, ⟨sa, s1, 1⟩, ⟨sb_, s2, 1⟩] := rfl
theorem uok_of {l : List S46} (h0 : 1 ≤ l.length) (h1 : l.length ≤ 100) (h2 : ∀ x ∈ l, 0 ≤ x.f2 ∧ x.f2 ≤ 1000) (h3 : lv l 0 = 0) : UOk l := ⟨h0, h1, fun j => by
  unfold lv
  by_cases h : j < l.length
  · rw [rd_get l j h]; exact h2 _ (List.getElem_mem h)
  · have : rd_T46 l (j : Int) = z46 := by simp [rd_T46, List.getElem?_eq_none (by omega : l.length ≤ j)]
    rw [this]
    decide, h3⟩
end Go.Proofs.YtehlmkgldcfciaaDoor.Files
/- The file store: the example of the chapter is right. -/
set_option linter.unusedVariables false
set_option linter.unusedSimpArgs false
namespace Go.Proofs.YtehlmkgldcfciaaDoor.Files
open Go.Proofs.YtehlmkgldcfciaaDoor.Common Go.Maps Go.ChangeMaps Go.WideMaps Go.Proofs.YtehlmkgldcfciaaDoor.F
open Go.RowKit Go.Proofs.YtehlmkgldcfciaaDoorW.PrintWords Go.Proofs.YtehlmkgldcfciaaDoorW.PrintLast Go.Proofs.YtehlmkgldcfciaaDoorW.PrintMore
theorem SOut.one {W : World} {ok : Nat → Prop} {sb : Nat} {v : Value} {f : AF} {e : Ending} {w' : World} {base : Nat} (h : SOut W ok sb v [f] e w') (hB : base ≤ W.heap.size) (hok : ∀ q, ok q → base ≤ q) :
    e = .returned v ∧ ∃ ok' fb, StoreRep w' ok' sb [(fb, f)] ∧ Below base W w' ∧ (∀ q, ok' q → base ≤ q) ∧ base ≤ w'.heap.size := by
  obtain ⟨rfl, ok', L', hR, hL, hc, hq⟩ := h
  match L', hL with
  | [(fb, g)], hL =>
    have hg : g = f := by simpa using hL
    subst hg
    exact ⟨rfl, ok', fb, hR, hc.below hB hok, fun q h => (hq q h).elim (hok q) (fun h => by omega), by have := hc.size; omega⟩
theorem uok1 : UOk F1.units := uok_of (by decide) (by decide) (by rw [F1_units]; intro x hx; obtain rfl := List.mem_singleton.1 hx; decide) rfl
theorem uok2 : UOk F2.units := uok_of (by decide) (by decide) (by
  rw [F2_units]
  intro x hx
  rcases List.mem_cons.1 hx with rfl | hx
  · decide
  · obtain rfl := List.mem_singleton.1 hx
    decide) rfl
theorem uok3 : UOk F3.units := uok_of (by decide) (by decide) (by
  rw [F3_units]
  intro x hx
  rcases List.mem_cons.1 hx with rfl | hx
  · decide
  · rcases List.mem_cons.1 hx with rfl | hx
    · decide
    · obtain rfl := List.mem_singleton.1 hx
      decide) rfl
theorem read3 : readL F3.units 0 true = [⟨ByteArray.empty, ByteArray.empty, 0⟩, ⟨sa, s1, 1⟩, ⟨sb_, s2, 1⟩] := by
  rw [F3_units]
  simp [readL, endOf, runLen, lower, lv, rd_T46, wrap64]
set_option maxRecDepth 100000 in
set_option maxHeartbeats 1000000 in
theorem sane_c (w : World) : Calls Tryd.prog 6 #[] w fun e w' => e = .returned (.bool true) ∧ Below w.heap.size w w' := by
  go_enter Tryd.func6, Tryd.ntmps6
  go_wp2_with fail
  refine (S_New w).mono ?_
  rintro e w1 ⟨sb, ok1, rfl, hR1, hb1, hok1⟩
  have hz1 := hb1.size
  have HB1 := Aside0.mk hb1
  have CC := Aside0.mk (S_Create_ok sb ok1 [] su sf 2 255 w1 hR1 (by decide) (by decide) (by decide) (by decide) (fun p hp => by cases hp) (by decide))
  clear hb1 hR1
  go_wp2_with fail
  refine CC.out.mono ?_
  intro e w2 ho2
  obtain ⟨rfl, ok2, fb2, hR2, hb2, hok2, hz2⟩ := SOut.one (f := F0) ho2 hz1 hok1
  have HB2 := Aside0.mk (HB1.out.trans hb2)
  have CO := S_Open sb fb2 0 ok2 [(fb2, F0)] F0 su sf 255 0 w2 hR2 rfl rfl (by decide) (by decide) (by decide) (by decide) (by decide) rfl rfl (by decide) (by decide)
  rw [if_pos (show freeB F0.users 255 0 = true from rfl), if_pos (show freeB F0.users 255 0 = true from rfl)] at CO
  have CO' := Aside0.mk CO
  clear CC CO hb2 hR2 ho2 hok1 hz1
  go_wp2_with fail
  refine CO'.out.mono ?_
  intro e w3 ho3
  obtain ⟨rfl, ok3, fb3, hR3, hb3, hok3, hz3⟩ := SOut.one (f := F1) ho3 hz2 hok2
  have HB3 := Aside0.mk (HB2.out.trans hb3)
  have C1 := S_Insert_ok sb fb3 0 0 ok3 [(fb3, F1)] F1 su sf true sa s1 0 255 0 w3 hR3 rfl rfl (by decide) (by decide) rfl uok1 (by decide) (by decide) (by decide) rfl rfl rfl (by decide)
  have C1' := Aside0.mk C1
  clear CO' C1 hb3 hR3 ho3 hok2 hz2
  go_wp2_with fail
  refine C1'.out.mono ?_
  intro e w4 ho4
  obtain ⟨rfl, ok4, fb4, hR4, hb4, hok4, hz4⟩ := SOut.one (f := F2) ho4 hz3 hok3
  have HB4 := Aside0.mk (HB3.out.trans hb4)
  have C2 := Aside0.mk (S_Insert_ok sb fb4 0 1 ok4 [(fb4, F2)] F2 su sf false sb_ s2 0 255 0 w4 hR4 rfl rfl (by decide) (by decide) rfl uok2 (by decide) (by decide) (by decide) rfl rfl rfl (by decide))
  clear C1' hb4 hR4 ho4 hok3 hz3
  go_wp2_with fail
  refine C2.out.mono ?_
  intro e w5 ho5
  obtain ⟨rfl, ok5, fb5, hR5, hb5, hok5, hz5⟩ := SOut.one (f := F3) ho5 hz4 hok4
  have HB5 := Aside0.mk (HB4.out.trans hb5)
  have C3 := Aside0.mk (S_Read_ok sb fb5 0 0 ok5 [(fb5, F3)] F3 su sf true 255 0 w5 hR5 rfl rfl (by decide) (by decide) rfl uok3 (by decide) rfl)
  clear C2 hb5 hR5 ho5 hok4 hz4
  go_wp2_with fail
  refine C3.out.mono ?_
  rintro e w6 ⟨v, ho6, hr6⟩
  obtain ⟨rfl, ok6, fb6, hR6, hb6, hok6, hz6⟩ := SOut.one (f := F3.read) ho6 hz5 hok5
  have HB6 := Aside0.mk (HB5.out.trans hb6)
  have hr6' : Kd.R k46 46 w6 w5.heap.size (fun _ => True) v [⟨ByteArray.empty, ByteArray.empty, 0⟩, ⟨sa, s1, 1⟩, ⟨sb_, s2, 1⟩] := by rw [← read3]; exact hr6
  obtain ⟨g, c, rfl, hc, _⟩ := units_slice hr6' (by decide)
  obtain ⟨_, _, hC⟩ := Kd.R_reads' hr6'
  have x4 : w6.cell? ⟨g, 4, none⟩ = some (.string ⟨#[49]⟩) := by
    obtain ⟨ad, he, _, h2, _⟩ := at_T46 hC 1 (by decide) (by decide)
    cases he
    exact h2
  have x7 : w6.cell? ⟨g, 7, none⟩ = some (.string ⟨#[50]⟩) := by
    obtain ⟨ad, he, _, h2, _⟩ := at_T46 hC 2 (by decide) (by decide)
    cases he
    exact h2
  have x8 : w6.cell? ⟨g, 8, none⟩ = some (.int .i64 1) := by
    obtain ⟨ad, he, _, _, h2⟩ := at_T46 hC 2 (by decide) (by decide)
    cases he
    exact h2
  clear C3 hb6 hR6 ho6 hok5 hz5 hr6 hr6' hC
  go_wp2
  go_ret
  exact ⟨rfl, HB6.out⟩
end Go.Proofs.YtehlmkgldcfciaaDoor.Files
/- files.Join, walked. -/
set_option linter.unusedVariables false
set_option linter.unusedSimpArgs false
namespace Go.Proofs.YtehlmkgldcfciaaDoor.Files
open Go.Proofs.YtehlmkgldcfciaaDoor.Common Go.RowKit Go.Lib Go.Shelf Go.Proofs.YtehlmkgldcfciaaDoor.F Go.Proofs.YtehlmkgldcfciaaDoorW.PrintWords Go.Proofs.YtehlmkgldcfciaaDoorW.PrintLast Go.Proofs.YtehlmkgldcfciaaDoorW.PrintMore
set_option maxRecDepth 100000 in
set_option maxHeartbeats 2000000 in
theorem Join_c (A : Option Addr) (c : Nat) (parts : List ByteArray) (w : World) (hT : Tab10 w) (hr : Kd.C Kd.string w A parts.length parts) (hc : parts.length ≤ c) (hl : parts.length ≤ 140737488355328) (hs : (textOf parts).size ≤ 2000000) :
    Calls Tryd.prog 5 #[.slice A parts.length c] w (JoinEnd w parts.length (joinGo ((textOf parts).size + 1) [] (textOf parts))) := by
  have HT := Aside0.mk hT
  have hlen2 : (strings_Join.j parts ⟨#[]⟩).length = (textOf parts).size := by unfold textOf; simp [ByteArray.size]
  have hf : strings_Join.f parts ⟨#[]⟩ = some (textOf parts) := by
    unfold strings_Join.f textOf
    rw [if_pos ⟨hl, by omega⟩]
  have CJ := Aside0.mk (strings_Join.calls A c parts ⟨#[]⟩ (textOf parts) w hr hc hf)
  clear hf hlen2 hr hT
  generalize hRS : joinGo ((textOf parts).size + 1) [] (textOf parts) = RES
  have HRS := Lib.hid hRS
  clear hRS
  generalize textOf parts = S at *
  go_enter Tryd.func5, Tryd.ntmps5
  go_wp2_with fail
  refine CJ.out.mono ?_
  rintro e w1 ⟨rfl, hb1⟩
  have HI0 := Aside0.mk (show JoinIn w w1 RES S [] (.slice none 0 0) from ⟨hb1, Kd.R_nil _ _ _ _ _, .inl rfl, hs, S.size + 1, Nat.lt_succ_self _, HRS.out⟩)
  clear hb1 CJ
  go_wp2_with fail
  go_loopw [5, 6] (fun vs vo wr => ∃ (cur : ByteArray) (out : List S46), vs = .string cur ∧ Aside0 (JoinIn w wr RES cur out vo)) (fun vs _ _ => (match vs with | .string x => x.size | _ => 0))
  case atStart => exact ⟨S, [], rfl, HI0⟩
  case round =>
    clear HI0
    obtain ⟨cur, out, rfl, HI⟩ := hrel
    obtain ⟨Ao, co, hvo, hco, hCo⟩ := Kd.R_reads HI.out.row
    subst hvo
    have hol := valid_len HI.out.ok
    by_cases hcur : cur = ⟨#[]⟩
    · have hE : (cur.toList == []) = true := by rw [hcur, ByteArray.toList_eq]; rfl
      have hres : RES = some out := by
        obtain ⟨k, hk, hrun⟩ := HI.out.run
        obtain ⟨k, rfl⟩ : ∃ m, k = m + 1 := ⟨k - 1, by omega⟩
        rw [joinGo, if_pos hcur] at hrun
        exact hrun.symm
      have HE := Aside0.mk (show JoinEnd w parts.length RES (.returned (.tuple #[.slice Ao out.length co, .int .i64 (parts.length : Int), .int .i64 0])) wr from .inr ⟨out, _, hres, rfl, HI.out.row, HI.out.low⟩)
      clear hcur hres hCo
      go_wp2
      refine bodyPost_ret (v := .tuple #[.slice Ao out.length co, .int .i64 (parts.length : Int), .int .i64 0]) (by simp [results, Tryd.f5, go_sem]) rfl ?_
      exact HE.out
    have hE : (cur.toList == []) = false := by
      have := beq_no hcur
      rwa [ByteArray.toList_eq (⟨#[]⟩ : ByteArray)] at this
    have hsm := HI.out.small
    obtain ⟨k, hk, hrun⟩ := HI.out.run
    obtain ⟨k, rfl⟩ : ∃ m, k = m + 1 := ⟨k - 1, by omega⟩
    have hrun' : RES = match headF cur with
      | none => none
      | some h =>
        if h.whole = true ∧ h.name.toNat + h.data.toNat ≤ (bodyOf cur h).size then
          (if validB (out ++ [nextOf (bodyOf cur h) h]) 2 then joinGo k (out ++ [nextOf (bodyOf cur h) h]) ((bodyOf cur h).extract (h.name.toNat + h.data.toNat) (bodyOf cur h).size) else none)
        else if beginsF out cur (partOf (bodyOf cur h) h) (h.whole && decide (h.long.toNat + h.name.toNat ≤ cur.size)) then some out else none := by
      rw [← hrun, joinGo, if_neg hcur]
      all_goals rfl
    have HRUN := Lib.hid hrun'
    clear hrun hrun' hcur
    have CH := Aside0.mk (head_c cur wr (HT.out.below HI.out.low) hsm)
    cases hh : headF cur with
    | none =>
      rw [hh] at CH
      have HN := Lib.hid (show RES = none by rw [HRUN.out, hh])
      clear HRUN hh hCo
      unfold headV at CH
      go_wp2_with fail
      refine CH.out.mono ?_
      rintro e w2 ⟨rfl, hb2⟩
      have HL := Aside0.mk (HI.out.below hb2).low
      clear hb2 CH
      go_wp2
      refine bodyPost_ret (v := .tuple #[.slice none 0 0, .int .i64 0, .int .i64 4]) (by simp [results, Tryd.f5, go_sem]) rfl ?_
      exact .inl ⟨HN.out, rfl, HL.out⟩
    | some h =>
      rw [hh] at CH
      have hok := headF_ok hh
      have HR1 := Lib.hid (show RES = if h.whole = true ∧ h.name.toNat + h.data.toNat ≤ (bodyOf cur h).size then
          (if validB (out ++ [nextOf (bodyOf cur h) h]) 2 then joinGo k (out ++ [nextOf (bodyOf cur h) h]) ((bodyOf cur h).extract (h.name.toNat + h.data.toNat) (bodyOf cur h).size) else none)
        else if beginsF out cur (partOf (bodyOf cur h) h) (h.whole && decide (h.long.toNat + h.name.toNat ≤ cur.size)) then some out else none by rw [HRUN.out, hh])
      clear HRUN hh
      obtain ⟨level, name, data, long, whole⟩ := h
      obtain ⟨⟨l0, l1⟩, ⟨n0, n1⟩, ⟨d0, d1⟩, g1, g2, g3⟩ := hok
      dsimp only at l0 l1 n0 n1 d0 d1 g1 g2 g3
      obtain ⟨nn, rfl⟩ := Int.eq_ofNat_of_zero_le n0
      obtain ⟨dd, rfl⟩ := Int.eq_ofNat_of_zero_le d0
      obtain ⟨ll, rfl⟩ := Int.eq_ofNat_of_zero_le (show 0 ≤ long by omega)
      unfold headV at CH
      unfold bodyOf nextOf partOf at HR1
      dsimp only [Int.toNat_natCast] at HR1 CH
      cases whole with
      | false =>
        have HR2 := Lib.hid (show RES = if beginsF out cur ⟨⟨#[]⟩, ⟨#[]⟩, level⟩ false then some out else none by rw [HR1.out]; simp)
        clear HR1
        go_wp2_with fail
        refine CH.out.mono ?_
        rintro e w2 ⟨rfl, hb2⟩
        have HI2 := Aside0.mk (HI.out.below hb2)
        clear hb2 CH
        go_wp2_with fail
        have hb3 : Below w2.heap.size w2 (w2.alloc (.cells #[.string ⟨#[]⟩, .string ⟨#[]⟩, .int .i64 level] 46)) := (Below.refl _ _).alloc (Nat.le_refl _) _
        have HI3 := Aside0.mk (HI2.out.below hb3)
        obtain ⟨_, _, hC3⟩ := Kd.R_reads' HI3.out.row
        have CB := Aside0.mk (begins_c Ao co out cur ⟨⟨#[]⟩, ⟨#[]⟩, level⟩ false _ (HT.out.below HI3.out.low) hC3 hco hol hsm)
        clear hb3 hC3
        have HR3 := HR2
        clear HR2
        cases hbb : beginsF out cur ⟨⟨#[]⟩, ⟨#[]⟩, level⟩ false with
        | false =>
          rw [hbb] at CB
          have HN := Lib.hid (show RES = none by rw [HR3.out, hbb]; rfl)
          clear HR3
          refine CB.out.mono ?_
          rintro e w4 ⟨rfl, hb4⟩
          have HL := Aside0.mk (HI3.out.below hb4).low
          clear hb4 CB hbb
          go_wp2
          refine bodyPost_ret (v := .tuple #[.slice none 0 0, .int .i64 0, .int .i64 4]) (by simp [results, Tryd.f5, go_sem]) rfl ?_
          exact .inl ⟨HN.out, rfl, HL.out⟩
        | true =>
          rw [hbb] at CB
          have HN := Lib.hid (show RES = some out by rw [HR3.out, hbb]; rfl)
          clear HR3
          refine CB.out.mono ?_
          rintro e w4 ⟨rfl, hb4⟩
          have HI4 := Aside0.mk (HI3.out.below hb4)
          clear hb4 CB hbb
          go_wp2
          refine bodyPost_ret (v := .tuple #[.slice Ao out.length co, .int .i64 (parts.length : Int), .int .i64 0]) (by simp [results, Tryd.f5, go_sem]) rfl ?_
          exact .inr ⟨out, _, HN.out, rfl, HI4.out.row, HI4.out.low⟩
      | true =>
        have hll : ll ≤ cur.size := by have := g2 rfl; omega
        have hbs : (cur.extract ll cur.size).size = cur.size - ll := by rw [ByteArray.size_extract]; omega
        have hll0 : (0 : Int) ≤ (ll : Int) := by omega
        have hllz : (ll : Int) ≤ (cur.size : Int) := by omega
        have hl1 : 1 ≤ ll := by omega
        have HR2 := Lib.hid (show RES = if nn + dd ≤ cur.size - ll then
            (if validB (out ++ [⟨(cur.extract ll cur.size).extract 0 nn, (cur.extract ll cur.size).extract nn (nn + dd), level⟩]) 2 then joinGo k (out ++ [⟨(cur.extract ll cur.size).extract 0 nn, (cur.extract ll cur.size).extract nn (nn + dd), level⟩]) ((cur.extract ll cur.size).extract (nn + dd) (cur.size - ll)) else none)
          else if beginsF out cur ⟨(cur.extract ll cur.size).extract 0 (min nn (cur.size - ll)), ⟨#[]⟩, level⟩ (decide (ll + nn ≤ cur.size)) then some out else none by rw [HR1.out]; simp [hbs])
        clear HR1 g2
        by_cases hfit : nn + dd ≤ cur.size - ll
        · have HR3 := Lib.hid (show RES = if validB (out ++ [⟨(cur.extract ll cur.size).extract 0 nn, (cur.extract ll cur.size).extract nn (nn + dd), level⟩]) 2 then joinGo k (out ++ [⟨(cur.extract ll cur.size).extract 0 nn, (cur.extract ll cur.size).extract nn (nn + dd), level⟩]) ((cur.extract ll cur.size).extract (nn + dd) (cur.size - ll)) else none by rw [HR2.out, if_pos hfit])
          clear HR2
          have hmin : min (nn : Int) ((cur.size - ll : Nat) : Int) = (nn : Int) := by omega
          have hgq : decide ((nn : Int) + (dd : Int) ≤ ((cur.size - ll : Nat) : Int)) = true := decide_eq_true (by omega)
          go_wp2_with fail
          refine CH.out.mono ?_
          rintro e w2 ⟨rfl, hb2⟩
          have HI2 := Aside0.mk (HI.out.below hb2)
          clear hb2 CH
          have HI3 := Aside0.mk (fun cs => HI2.out.below ((Below.refl _ w2).alloc (Nat.le_refl _) (.cells cs 46)))
          go_wp2_with first | (at_builtin; refine Kd.R_append k46 (w0 := w) w.heap.size rfl (.tmp 61) (.tmp 63) 23 46 (.agg #[.string ⟨#[]⟩, .string ⟨#[]⟩, .int .i64 0]) 40 rfl Tryd.underlying23 (by kernel_rfl) rfl (by decide) (by decide) (.slice Ao out.length co) out ⟨(cur.extract ll cur.size).extract 0 nn, (cur.extract ll cur.size).extract nn (nn + dd), level⟩ [.string ((cur.extract ll cur.size).extract 0 nn), .string ((cur.extract ll cur.size).extract nn (nn + dd)), .int .i64 level] (fun _ => True) (fun _ => False) rfl (by rw [World.size_alloc]; rfl) (k46_mkM _ _ _ _) (fun _ h => h.elim) (fun _ _ => trivial) (HI3.out _).row (HI3.out _).low (HI3.out _).low.size (by omega) ?_; intro v1 w8 hr8 hb8 _ _; obtain ⟨A1, c1, hv1, hc1, hC1⟩ := Kd.R_reads hr8; rw [show (out ++ [(⟨(cur.extract ll cur.size).extract 0 nn, (cur.extract ll cur.size).extract nn (nn + dd), level⟩ : S46)]).length = out.length + 1 from List.length_append] at hv1; subst hv1; have HR8 := Aside0.mk hr8; have HB8 := Aside0.mk hb8; have HC8 := Aside0.mk hC1; clear hr8 hb8 hC1)
          generalize hx : (⟨(cur.extract ll cur.size).extract 0 nn, (cur.extract ll cur.size).extract nn (nn + dd), level⟩ : S46) = x at *
          have hlx : (out ++ [x]).length = out.length + 1 := List.length_append
          have CV0 := Valid_c A1 c1 (out ++ [x]) 2 w8 HC8.out hc1
          rw [hlx] at CV0
          have CV := Aside0.mk CV0
          clear CV0
          cases hv : validB (out ++ [x]) 2 with
          | false =>
            rw [hv] at CV
            have HN := Lib.hid (show RES = none by rw [HR3.out, hv]; rfl)
            clear HR3
            refine CV.out.mono ?_
            rintro e w9 ⟨rfl, hb9⟩
            have HL := Aside0.mk (show Below w.heap.size w w9 from HB8.out.trans (hb9.mono HB8.out.size))
            clear hb9 CV hv
            go_wp2
            refine bodyPost_ret (v := .tuple #[.slice none 0 0, .int .i64 0, .int .i64 4]) (by simp [results, Tryd.f5, go_sem]) rfl ?_
            exact .inl ⟨HN.out, rfl, HL.out⟩
          | true =>
            rw [hv] at CV
            have HN := Lib.hid (show RES = joinGo k (out ++ [x]) ((cur.extract ll cur.size).extract (nn + dd) (cur.size - ll)) by rw [HR3.out, hv]; rfl)
            clear HR3
            have HV := Lib.hid hv
            refine CV.out.mono ?_
            rintro e w9 ⟨rfl, hb9⟩
            have hsz9 : ((cur.extract ll cur.size).extract (nn + dd) (cur.size - ll)).size < cur.size := by rw [ByteArray.size_extract, hbs]; omega
            have HI9 := Aside0.mk (show JoinIn w w9 RES ((cur.extract ll cur.size).extract (nn + dd) (cur.size - ll)) (out ++ [x]) (.slice A1 (out.length + 1) c1) from ⟨HB8.out.trans (hb9.mono HB8.out.size), Kd.R_below HR8.out hb9, .inr HV.out, by omega, k, by omega, HN.out.symm⟩)
            clear hb9 CV hv
            go_wp2_with fail
            go_roundw
            case rel => exact ⟨_, _, rfl, HI9⟩
            case measure => exact hsz9
        · have hgq : decide ((nn : Int) + (dd : Int) ≤ ((cur.size - ll : Nat) : Int)) = false := decide_eq_false (by omega)
          have hmin : min (nn : Int) ((cur.size - ll : Nat) : Int) = ((min nn (cur.size - ll) : Nat) : Int) := by omega
          have HR3 := Lib.hid (show RES = if beginsF out cur ⟨(cur.extract ll cur.size).extract 0 (min nn (cur.size - ll)), ⟨#[]⟩, level⟩ (decide (ll + nn ≤ cur.size)) then some out else none by rw [HR2.out, if_neg hfit])
          have hmq : min nn (cur.size - ll) ≤ cur.size - ll := by omega
          have hnamed : decide ((ll : Int) + (nn : Int) ≤ (cur.size : Int)) = decide (ll + nn ≤ cur.size) := decide_eq_decide.2 (by omega)
          clear HR2
          generalize min nn (cur.size - ll) = mm at *
          generalize decide (ll + nn ≤ cur.size) = nb at *
          go_wp2_with fail
          refine CH.out.mono ?_
          rintro e w2 ⟨rfl, hb2⟩
          have HI2 := Aside0.mk (HI.out.below hb2)
          clear hb2 CH
          go_wp2_with fail
          have hb3 : Below w2.heap.size w2 (w2.alloc (.cells #[.string ((cur.extract ll cur.size).extract 0 mm), .string ⟨#[]⟩, .int .i64 level] 46)) := (Below.refl _ _).alloc (Nat.le_refl _) _
          have HI3 := Aside0.mk (HI2.out.below hb3)
          obtain ⟨_, _, hC3⟩ := Kd.R_reads' HI3.out.row
          have CB := Aside0.mk (begins_c Ao co out cur ⟨(cur.extract ll cur.size).extract 0 mm, ⟨#[]⟩, level⟩ nb _ (HT.out.below HI3.out.low) hC3 hco hol hsm)
          clear hb3 hC3
          cases hbb : beginsF out cur ⟨(cur.extract ll cur.size).extract 0 mm, ⟨#[]⟩, level⟩ nb with
          | false =>
            rw [hbb] at CB
            have HN := Lib.hid (show RES = none by rw [HR3.out, hbb]; rfl)
            clear HR3
            refine CB.out.mono ?_
            rintro e w4 ⟨rfl, hb4⟩
            have HL := Aside0.mk (HI3.out.below hb4).low
            clear hb4 CB hbb
            go_wp2
            refine bodyPost_ret (v := .tuple #[.slice none 0 0, .int .i64 0, .int .i64 4]) (by simp [results, Tryd.f5, go_sem]) rfl ?_
            exact .inl ⟨HN.out, rfl, HL.out⟩
          | true =>
            rw [hbb] at CB
            have HN := Lib.hid (show RES = some out by rw [HR3.out, hbb]; rfl)
            clear HR3
            refine CB.out.mono ?_
            rintro e w4 ⟨rfl, hb4⟩
            have HI4 := Aside0.mk (HI3.out.below hb4)
            clear hb4 CB hbb
            go_wp2
            refine bodyPost_ret (v := .tuple #[.slice Ao out.length co, .int .i64 (parts.length : Int), .int .i64 0]) (by simp [results, Tryd.f5, go_sem]) rfl ?_
            exact .inr ⟨out, _, HN.out, rfl, HI4.out.row, HI4.out.low⟩
end Go.Proofs.YtehlmkgldcfciaaDoor.Files
