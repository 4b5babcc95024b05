/- The parts of this proof that lie in one text. -/
import Derived.Test.YtehlmkgldcfciaaGreatGN8
import Derived.Test.YtehlmkgldcfciaaGreatWRepsOne
import Derived.BigQuiet
import Derived.Test.YtehlmkgldcfciaaGreatGN1
/- The reference's store: Insert. -/
set_option linter.unusedVariables false
set_option linter.unusedSimpArgs false
namespace Go.Proofs.YtehlmkgldcfciaaGreat.Files
open Go.Proofs.YtehlmkgldcfciaaGreat.Common Go.Maps Go.ChangeMaps Go.WideMaps Go.Proofs.YtehlmkgldcfciaaGreat.F
open Go.RowKit Go.Proofs.YtehlmkgldcfciaaGreatW.PrintWords Go.Proofs.YtehlmkgldcfciaaGreatW.PrintLast Go.Proofs.YtehlmkgldcfciaaGreatW.PrintMore
def RIns.T17 : Bool × List (List Nat × List Nat) := (true, [([], []), ([], []), ([1], [1]), ([0, 2], [0, 2]), ([], []), ([], []), ([4, 5], [4, 5]), ([3, 6, 3], [3, 6]), ([7, 7, 0, 1, 2, 3, 4, 5, 6, 7], [0, 7])])
def RIns.B17 : List Nat := [0, 0, 2, 7, 0, 0, 48, 127, 255]
theorem RIns.tab17 : rtab .any (opsOf Tryz.f31 17) = RIns.T17 := by kernel_rfl
theorem RIns.bits17 : waitsOk RIns.T17.2 RIns.B17 = true := by kernel_rfl
set_option maxRecDepth 100000 in
set_option maxHeartbeats 8000000 in
theorem rInsert_c (rb c : Nat) (ok : Nat → Prop) (st : Fs) (A : Option Addr) (u n : ByteArray) (at_ : Int) (child : Bool) (a b : ByteArray) (lev0 : Int) (W : World) (h : RParts W ok rb st A c) (hI : RInv st) :
    Calls Tryz.prog 31 #[.pointer (some ⟨rb, 0, none⟩), .string u, .string n, .int .i64 at_, .bool child, .agg #[.string a, .string b, .int .i64 lev0]] W (ROut W ok rb (.int .i64 (mInsert st u n at_ child a b).1) (mInsert st u n at_ child a b).2) := by
  have HBX := Aside0.mk (show Below W.heap.size W (W.alloc (.cells #[.string a, .string b, .int .i64 lev0] 62)) from (Below.refl _ _).alloc (Nat.le_refl _) _)
  have HKX := Aside0.mk (show (W.alloc (.cells #[.string a, .string b, .int .i64 lev0] 62)).heap[W.heap.size]? = some (.cells #[.string a, .string b, .int .i64 lev0] 62 (0, 0)) by simpa using heap_alloc_new W _)
  have C56 := Aside0.mk (rbad_c rb u n (W.alloc (.cells #[.string a, .string b, .int .i64 lev0] 62)) (h.below HBX.out).c0)
  have CB := Aside0.mk (fun W' (hb : Below W.heap.size W W') => begin_c rb c ok st A u n W' (h.below hb))
  have CU := Aside0.mk (fun W' (hb : Below W.heap.size W W') => runit_c a b lev0 W')
  have HRR := Aside0.mk (show RRep W ok rb st from ⟨A, c, h⟩)
  cases hbad : (userB u && nameB n) with
  | false =>
    rw [hbad] at C56
    have HM := Aside0.mk (show mInsert st u n at_ child a b = (1, st) by unfold mInsert; split <;> first | rfl | rw [mUnit_bad hbad])
    clear h hbad CB hI
    go_enter Tryz.func31, Tryz.ntmps31
    go_wp2_with first | (go_at_call 56; refine C56.out.mono ?_; rintro e w' ⟨rfl, rfl⟩)
    refine bodyPost_ret (v := .int .i64 1) (by simp [results, Tryz.f31, go_sem]) rfl ?_
    exact ROut.stay HRR.out HBX.out (by rw [HM.out]) (by rw [HM.out])
  | true =>
    rw [hbad] at C56
    by_cases hr : at_ < 0
    · have g1 : decide (at_ < 0) = true := decide_eq_true hr
      have HM := Aside0.mk (show mInsert st u n at_ child a b = (1, st) by unfold mInsert; split <;> first | rfl | rw [mUnit_neg hr])
      clear h hbad CB hI hr
      go_enter Tryz.func31, Tryz.ntmps31
      go_wp2_with first | (go_at_call 56; refine C56.out.mono ?_; rintro e w' ⟨rfl, rfl⟩)
      refine bodyPost_ret (v := .int .i64 1) (by simp [results, Tryz.f31, go_sem]) rfl ?_
      exact ROut.stay HRR.out HBX.out (by rw [HM.out]) (by rw [HM.out])
    have g1 : decide (at_ < 0) = false := decide_eq_false hr
    have HN0 := Aside0.mk hr
    clear hr
    cases hun : (decide (a.size ≤ 30) && decide (b.size ≤ 400)) with
    | false =>
      rw [hun] at CU
      have HM := Aside0.mk (show mInsert st u n at_ child a b = (1, st) by unfold mInsert; rw [if_pos hun])
      clear h hbad CB hI hun
      go_enter Tryz.func31, Tryz.ntmps31
      go_wp2_with first | (go_at_call 56; refine C56.out.mono ?_; rintro e w' ⟨rfl, rfl⟩) | (go_at_call 74; refine (CU.out _ HBX.out).mono ?_; rintro e w1 ⟨rfl, hbu⟩; have HBU := Aside0.mk (HBX.out.trans (hbu.mono HBX.out.size)); have HKU := Aside0.mk ((hbu.block W.heap.size (by simp)).trans HKX.out); clear hbu)
      refine bodyPost_ret (v := .int .i64 1) (by simp [results, Tryz.f31, go_sem]) rfl ?_
      exact ROut.stay HRR.out HBU.out (by rw [HM.out]) (by rw [HM.out])
    | true =>
    rw [hun] at CU
    have HMS := Aside0.mk (show mInsert st u n at_ child a b = _ from if_neg (by rw [hun]; simp))
    clear hun
    cases hB : mBegin st u n with
    | error E =>
      rw [hB] at CB
      have hE := mBegin_E hB
      have HM := Aside0.mk (show mInsert st u n at_ child a b = (E, st) by rw [HMS.out, mUnit_err HN0.out (mOpened_err hbad hB 2)])
      clear h hbad hI hB
      go_enter Tryz.func31, Tryz.ntmps31
      go_wp2_with first | (go_at_call 56; refine C56.out.mono ?_; rintro e w' ⟨rfl, rfl⟩) | (go_at_call 74; refine (CU.out _ HBX.out).mono ?_; rintro e w1 ⟨rfl, hbu⟩; have HBU := Aside0.mk (HBX.out.trans (hbu.mono HBX.out.size)); have HKU := Aside0.mk ((hbu.block W.heap.size (by simp)).trans HKX.out); clear hbu)
      refine (CB.out _ HBU.out).mono ?_
      rintro e w2 ⟨hb2, rfl⟩
      have HB2 := Aside0.mk (HBU.out.trans (hb2.mono HBU.out.size))
      clear hb2
      go_wp2
      refine bodyPost_ret (v := .int .i64 E) (by simp [results, Tryz.f31, go_sem]) rfl ?_
      exact ROut.stay HRR.out HB2.out (by rw [HM.out]) (by rw [HM.out])
    | ok p =>
    obtain ⟨k, f, ac⟩ := p
    rw [hB] at CB
    obtain ⟨hk, hnm⟩ := mBegin_at hB
    have HMU := Aside0.mk (mOpened_ok hbad hB 2)
    obtain ⟨g, Ar, cr, Au, cu, Ao, co, T⟩ := h.row hk
    have hil : k < st.length := (List.getElem?_eq_some_iff.1 hk).1
    have hlz : (k : Int) < (st.length : Int) := by omega
    have hk0 : decide ((k : Int) < 0) = false := decide_eq_false (by omega)
    have HC1 := Aside0.mk h.c1
    have hA := T.hA
    subst hA
    have HX1 := Aside0.mk T.x.2.1
    have HX8 := Aside0.mk T.x.2.2.2.2.2.2.2.2.1
    have HH := Aside0.mk h
    have HT := Aside0.mk T
    have HK := Aside0.mk hk
    have hrb := h.lt rb h.okr
    have hgl := h.glt T
    have HUI := Aside0.mk (hI.units f (List.mem_of_getElem? hk))
    have HKI := Aside0.mk (hI.kinds f (List.mem_of_getElem? hk))
    have HUC := Aside0.mk (fun X (hb : Below W.heap.size W X) => Kd.C_below T.In.uC.2 hb)
    have hcu := T.In.uC.1
    have hul := HUI.out.1.len
    clear h hbad hI hB hk hnm T
    by_cases hpl : (f.units.length : Int) ≤ at_
    · have g3 : decide ((f.units.length : Int) ≤ at_) = true := decide_eq_true hpl
      have HM := Aside0.mk (show mInsert st u n at_ child a b = (3, st) by rw [HMS.out, mUnit_none HN0.out HMU.out hpl])
      clear hpl
      go_enter Tryz.func31, Tryz.ntmps31
      go_wp2_with first | (go_at_call 56; refine C56.out.mono ?_; rintro e w' ⟨rfl, rfl⟩) | (go_at_call 74; refine (CU.out _ HBX.out).mono ?_; rintro e w1 ⟨rfl, hbu⟩; have HBU := Aside0.mk (HBX.out.trans (hbu.mono HBX.out.size)); have HKU := Aside0.mk ((hbu.block W.heap.size (by simp)).trans HKX.out); clear hbu)
      refine (CB.out _ HBU.out).mono ?_
      rintro e w2 ⟨hb2, rfl⟩
      have HB2 := Aside0.mk (HBU.out.trans (hb2.mono HBU.out.size))
      have hbk := (hb2.block W.heap.size (blk_lt HKU.out)).trans HKU.out
      have HKB := Aside0.mk hbk
      have q0 : w2.cell? ⟨W.heap.size, 0, none⟩ = some (.string a) := (blk_cell hbk 0).trans rfl
      have q1 : w2.cell? ⟨W.heap.size, 1, none⟩ = some (.string b) := (blk_cell hbk 1).trans rfl
      have q2 : w2.cell? ⟨W.heap.size, 2, none⟩ = some (.int .i64 lev0) := (blk_cell hbk 2).trans rfl
      have qf := blk_frozen hbk 2
      have d1 := (HB2.out.cell (p := ⟨rb, 1, none⟩) hrb).trans HC1.out
      have dk := (HB2.out.cell (p := ⟨g, k * 10 + 1, none⟩) hgl).trans HX1.out
      have d8 := (HB2.out.cell (p := ⟨g, k * 10 + 8, none⟩) hgl).trans HX8.out
      clear hb2 hbk
      go_wp2
      refine bodyPost_ret (v := .int .i64 3) (by simp [results, Tryz.f31, go_sem]) rfl ?_
      exact ROut.stay HRR.out HB2.out (by rw [HM.out]) (by rw [HM.out])
    have g3 : decide ((f.units.length : Int) ≤ at_) = false := decide_eq_false hpl
    have HMK := Aside0.mk (mUnit_ok HN0.out HMU.out hpl)
    obtain ⟨i, rfl⟩ : ∃ i : Nat, at_ = (i : Int) := ⟨at_.toNat, by have := HN0.out; omega⟩
    have hil2 : i < f.units.length := by omega
    rw [Int.toNat_natCast] at HMK
    have hiz : (i : Int) < (f.units.length : Int) := by omega
    have hi0 : decide ((i : Int) < 0) = false := decide_eq_false (by omega)
    clear hpl
    obtain ⟨lev, hlev⟩ : ∃ lev, lev = insLev f.units i child := ⟨_, rfl⟩
    have HLV := Aside0.mk hlev
    have HLB := Aside0.mk (HUI.out.1.lev)
    have HMI := Aside0.mk (show mInsert st u n (i : Int) child a b = if insBad f.F.kind lev then (1, st) else if clashB f.units (kids f.units (aboveOf f.units lev i)) a = true ∨ denied ac 2 = 12 ∨ 100 ≤ f.units.length then (insErr (clashB f.units (kids f.units (aboveOf f.units lev i)) a) (denied ac 2), st) else (0, st.set k (f.ins u i ⟨a, b, lev⟩)) by rw [HMS.out, HMK.out, hlev])
    obtain ⟨lv0, hlv0⟩ : ∃ x, x = lv f.units i := ⟨_, rfl⟩
    have HLV0 := Aside0.mk hlv0
    have hl0 : 0 ≤ lv0 ∧ lv0 ≤ 1000 := by rw [hlv0]; exact HLB.out i
    have hlvw : wrap64 (lv0 + 1) = lv0 + 1 := by unfold wrap64; omega
    have hlev2 : lev = lv0 + (if child then 1 else 0) := by rw [hlev, hlv0]; rfl
    clear hlev hlv0
    -- THE LEVEL NOTED, THE KIND READ: the tests
    have HGO := Aside0.mk (fun (X : World) (hb : Below W.heap.size W X) => (show ∃ ad, Au = some ad ∧ X.cell? ⟨(ad.add (i * 3)).block, (ad.add (i * 3)).off + 2, none⟩ = some (.int .i64 lv0) by
      obtain ⟨ad, e, _, _, h2⟩ := at_units (HUC.out X hb) i hil2
      refine ⟨ad, e, ?_⟩
      rw [h2, HLV0.out]
      unfold lv
      rw [rd_get _ _ hil2]))
    have HBADT := Aside0.mk (bad_tests f.F.kind lev HKI.out (by rw [hlev2]; split <;> omega))
    by_cases h1 : lev = 0
    · have HM := Aside0.mk (show mInsert st u n (i : Int) child a b = (1, st) by rw [HMI.out, if_pos (HBADT.out.2 (Or.inl h1))])
      cases child with
      | false =>
        have hlev3 : lev = lv0 := by rw [hlev2]; simp
        subst hlev3
        have t1 : (lev == 0) = true := by simpa using h1
        clear h1 hlev2
        go_enter Tryz.func31, Tryz.ntmps31
        go_wp2_with first | (go_at_call 56; refine C56.out.mono ?_; rintro e w' ⟨rfl, rfl⟩) | (go_at_call 74; refine (CU.out _ HBX.out).mono ?_; rintro e w1 ⟨rfl, hbu⟩; have HBU := Aside0.mk (HBX.out.trans (hbu.mono HBX.out.size)); have HKU := Aside0.mk ((hbu.block W.heap.size (by simp)).trans HKX.out); clear hbu)
        refine (CB.out _ HBU.out).mono ?_
        rintro e w2 ⟨hb2, rfl⟩
        have HB2 := Aside0.mk (HBU.out.trans (hb2.mono HBU.out.size))
        have hbk := (hb2.block W.heap.size (blk_lt HKU.out)).trans HKU.out
        have HKB := Aside0.mk hbk
        have q0 : w2.cell? ⟨W.heap.size, 0, none⟩ = some (.string a) := (blk_cell hbk 0).trans rfl
        have q1 : w2.cell? ⟨W.heap.size, 1, none⟩ = some (.string b) := (blk_cell hbk 1).trans rfl
        have q2 : w2.cell? ⟨W.heap.size, 2, none⟩ = some (.int .i64 lev0) := (blk_cell hbk 2).trans rfl
        have qf := blk_frozen hbk 2
        have d1 := (HB2.out.cell (p := ⟨rb, 1, none⟩) hrb).trans HC1.out
        have dk := (HB2.out.cell (p := ⟨g, k * 10 + 1, none⟩) hgl).trans HX1.out
        have d8 := (HB2.out.cell (p := ⟨g, k * 10 + 8, none⟩) hgl).trans HX8.out
        clear hb2 hbk
        obtain ⟨ad, hAd, y2⟩ := HGO.out w2 HB2.out
        subst hAd
        go_wp2
        refine bodyPost_ret (v := .int .i64 1) (by simp [results, Tryz.f31, go_sem]) rfl ?_
        exact ROut.stay HRR.out (below_box HB2.out _ _) (by rw [HM.out]) (by rw [HM.out])
      | true =>
        have hlev3 : lev = lv0 + 1 := by rw [hlev2]; simp
        subst hlev3
        have t1 : (lv0 + 1 == 0) = true := by simpa using h1
        clear h1 hlev2
        go_enter Tryz.func31, Tryz.ntmps31
        go_wp2_with first | (go_at_call 56; refine C56.out.mono ?_; rintro e w' ⟨rfl, rfl⟩) | (go_at_call 74; refine (CU.out _ HBX.out).mono ?_; rintro e w1 ⟨rfl, hbu⟩; have HBU := Aside0.mk (HBX.out.trans (hbu.mono HBX.out.size)); have HKU := Aside0.mk ((hbu.block W.heap.size (by simp)).trans HKX.out); clear hbu)
        refine (CB.out _ HBU.out).mono ?_
        rintro e w2 ⟨hb2, rfl⟩
        have HB2 := Aside0.mk (HBU.out.trans (hb2.mono HBU.out.size))
        have hbk := (hb2.block W.heap.size (blk_lt HKU.out)).trans HKU.out
        have HKB := Aside0.mk hbk
        have q0 : w2.cell? ⟨W.heap.size, 0, none⟩ = some (.string a) := (blk_cell hbk 0).trans rfl
        have q1 : w2.cell? ⟨W.heap.size, 1, none⟩ = some (.string b) := (blk_cell hbk 1).trans rfl
        have q2 : w2.cell? ⟨W.heap.size, 2, none⟩ = some (.int .i64 lev0) := (blk_cell hbk 2).trans rfl
        have qf := blk_frozen hbk 2
        have d1 := (HB2.out.cell (p := ⟨rb, 1, none⟩) hrb).trans HC1.out
        have dk := (HB2.out.cell (p := ⟨g, k * 10 + 1, none⟩) hgl).trans HX1.out
        have d8 := (HB2.out.cell (p := ⟨g, k * 10 + 8, none⟩) hgl).trans HX8.out
        clear hb2 hbk
        obtain ⟨ad, hAd, y2⟩ := HGO.out w2 HB2.out
        subst hAd
        go_wp2
        refine bodyPost_ret (v := .int .i64 1) (by simp [results, Tryz.f31, go_sem]) rfl ?_
        exact ROut.stay HRR.out (below_box (below_box HB2.out _ _) _ _) (by rw [HM.out]) (by rw [HM.out])
    by_cases h2 : f.F.kind = 0
    · have HM := Aside0.mk (show mInsert st u n (i : Int) child a b = (1, st) by rw [HMI.out, if_pos (HBADT.out.2 (Or.inr (Or.inl h2)))])
      cases child with
      | false =>
        have hlev3 : lev = lv0 := by rw [hlev2]; simp
        subst hlev3
        have t1 : (lev == 0) = false := by simpa using h1
        have t2 : (f.F.kind == 0) = true := by simpa using h2
        clear h1 h2 hlev2
        go_enter Tryz.func31, Tryz.ntmps31
        go_wp2_with first | (go_at_call 56; refine C56.out.mono ?_; rintro e w' ⟨rfl, rfl⟩) | (go_at_call 74; refine (CU.out _ HBX.out).mono ?_; rintro e w1 ⟨rfl, hbu⟩; have HBU := Aside0.mk (HBX.out.trans (hbu.mono HBX.out.size)); have HKU := Aside0.mk ((hbu.block W.heap.size (by simp)).trans HKX.out); clear hbu)
        refine (CB.out _ HBU.out).mono ?_
        rintro e w2 ⟨hb2, rfl⟩
        have HB2 := Aside0.mk (HBU.out.trans (hb2.mono HBU.out.size))
        have hbk := (hb2.block W.heap.size (blk_lt HKU.out)).trans HKU.out
        have HKB := Aside0.mk hbk
        have q0 : w2.cell? ⟨W.heap.size, 0, none⟩ = some (.string a) := (blk_cell hbk 0).trans rfl
        have q1 : w2.cell? ⟨W.heap.size, 1, none⟩ = some (.string b) := (blk_cell hbk 1).trans rfl
        have q2 : w2.cell? ⟨W.heap.size, 2, none⟩ = some (.int .i64 lev0) := (blk_cell hbk 2).trans rfl
        have qf := blk_frozen hbk 2
        have d1 := (HB2.out.cell (p := ⟨rb, 1, none⟩) hrb).trans HC1.out
        have dk := (HB2.out.cell (p := ⟨g, k * 10 + 1, none⟩) hgl).trans HX1.out
        have d8 := (HB2.out.cell (p := ⟨g, k * 10 + 8, none⟩) hgl).trans HX8.out
        clear hb2 hbk
        obtain ⟨ad, hAd, y2⟩ := HGO.out w2 HB2.out
        subst hAd
        go_wp2
        refine bodyPost_ret (v := .int .i64 1) (by simp [results, Tryz.f31, go_sem]) rfl ?_
        exact ROut.stay HRR.out (below_box HB2.out _ _) (by rw [HM.out]) (by rw [HM.out])
      | true =>
        have hlev3 : lev = lv0 + 1 := by rw [hlev2]; simp
        subst hlev3
        have t1 : (lv0 + 1 == 0) = false := by simpa using h1
        have t2 : (f.F.kind == 0) = true := by simpa using h2
        clear h1 h2 hlev2
        go_enter Tryz.func31, Tryz.ntmps31
        go_wp2_with first | (go_at_call 56; refine C56.out.mono ?_; rintro e w' ⟨rfl, rfl⟩) | (go_at_call 74; refine (CU.out _ HBX.out).mono ?_; rintro e w1 ⟨rfl, hbu⟩; have HBU := Aside0.mk (HBX.out.trans (hbu.mono HBX.out.size)); have HKU := Aside0.mk ((hbu.block W.heap.size (by simp)).trans HKX.out); clear hbu)
        refine (CB.out _ HBU.out).mono ?_
        rintro e w2 ⟨hb2, rfl⟩
        have HB2 := Aside0.mk (HBU.out.trans (hb2.mono HBU.out.size))
        have hbk := (hb2.block W.heap.size (blk_lt HKU.out)).trans HKU.out
        have HKB := Aside0.mk hbk
        have q0 : w2.cell? ⟨W.heap.size, 0, none⟩ = some (.string a) := (blk_cell hbk 0).trans rfl
        have q1 : w2.cell? ⟨W.heap.size, 1, none⟩ = some (.string b) := (blk_cell hbk 1).trans rfl
        have q2 : w2.cell? ⟨W.heap.size, 2, none⟩ = some (.int .i64 lev0) := (blk_cell hbk 2).trans rfl
        have qf := blk_frozen hbk 2
        have d1 := (HB2.out.cell (p := ⟨rb, 1, none⟩) hrb).trans HC1.out
        have dk := (HB2.out.cell (p := ⟨g, k * 10 + 1, none⟩) hgl).trans HX1.out
        have d8 := (HB2.out.cell (p := ⟨g, k * 10 + 8, none⟩) hgl).trans HX8.out
        clear hb2 hbk
        obtain ⟨ad, hAd, y2⟩ := HGO.out w2 HB2.out
        subst hAd
        go_wp2
        refine bodyPost_ret (v := .int .i64 1) (by simp [results, Tryz.f31, go_sem]) rfl ?_
        exact ROut.stay HRR.out (below_box (below_box HB2.out _ _) _ _) (by rw [HM.out]) (by rw [HM.out])
    by_cases h3 : f.F.kind = 1 ∧ 1 < lev
    · have HM := Aside0.mk (show mInsert st u n (i : Int) child a b = (1, st) by rw [HMI.out, if_pos (HBADT.out.2 (Or.inr (Or.inr h3)))])
      cases child with
      | false =>
        have hlev3 : lev = lv0 := by rw [hlev2]; simp
        subst hlev3
        have t1 : (lev == 0) = false := by simpa using h1
        have t2 : (f.F.kind == 0) = false := by simpa using h2
        have t3 : (f.F.kind == 1) = true := by simpa using h3.1
        have t4 : decide (1 < lev) = true := decide_eq_true h3.2
        have t5 : 1 < lev := h3.2
        clear h1 h2 h3 hlev2
        go_enter Tryz.func31, Tryz.ntmps31
        go_wp2_with first | (go_at_call 56; refine C56.out.mono ?_; rintro e w' ⟨rfl, rfl⟩) | (go_at_call 74; refine (CU.out _ HBX.out).mono ?_; rintro e w1 ⟨rfl, hbu⟩; have HBU := Aside0.mk (HBX.out.trans (hbu.mono HBX.out.size)); have HKU := Aside0.mk ((hbu.block W.heap.size (by simp)).trans HKX.out); clear hbu)
        refine (CB.out _ HBU.out).mono ?_
        rintro e w2 ⟨hb2, rfl⟩
        have HB2 := Aside0.mk (HBU.out.trans (hb2.mono HBU.out.size))
        have hbk := (hb2.block W.heap.size (blk_lt HKU.out)).trans HKU.out
        have HKB := Aside0.mk hbk
        have q0 : w2.cell? ⟨W.heap.size, 0, none⟩ = some (.string a) := (blk_cell hbk 0).trans rfl
        have q1 : w2.cell? ⟨W.heap.size, 1, none⟩ = some (.string b) := (blk_cell hbk 1).trans rfl
        have q2 : w2.cell? ⟨W.heap.size, 2, none⟩ = some (.int .i64 lev0) := (blk_cell hbk 2).trans rfl
        have qf := blk_frozen hbk 2
        have d1 := (HB2.out.cell (p := ⟨rb, 1, none⟩) hrb).trans HC1.out
        have dk := (HB2.out.cell (p := ⟨g, k * 10 + 1, none⟩) hgl).trans HX1.out
        have d8 := (HB2.out.cell (p := ⟨g, k * 10 + 8, none⟩) hgl).trans HX8.out
        clear hb2 hbk
        obtain ⟨ad, hAd, y2⟩ := HGO.out w2 HB2.out
        subst hAd
        go_wp2
        refine bodyPost_ret (v := .int .i64 1) (by simp [results, Tryz.f31, go_sem]) rfl ?_
        exact ROut.stay HRR.out (below_box HB2.out _ _) (by rw [HM.out]) (by rw [HM.out])
      | true =>
        have hlev3 : lev = lv0 + 1 := by rw [hlev2]; simp
        subst hlev3
        have t1 : (lv0 + 1 == 0) = false := by simpa using h1
        have t2 : (f.F.kind == 0) = false := by simpa using h2
        have t3 : (f.F.kind == 1) = true := by simpa using h3.1
        have t4 : decide (1 < lv0 + 1) = true := decide_eq_true h3.2
        have t5 : 1 < lv0 + 1 := h3.2
        clear h1 h2 h3 hlev2
        go_enter Tryz.func31, Tryz.ntmps31
        go_wp2_with first | (go_at_call 56; refine C56.out.mono ?_; rintro e w' ⟨rfl, rfl⟩) | (go_at_call 74; refine (CU.out _ HBX.out).mono ?_; rintro e w1 ⟨rfl, hbu⟩; have HBU := Aside0.mk (HBX.out.trans (hbu.mono HBX.out.size)); have HKU := Aside0.mk ((hbu.block W.heap.size (by simp)).trans HKX.out); clear hbu)
        refine (CB.out _ HBU.out).mono ?_
        rintro e w2 ⟨hb2, rfl⟩
        have HB2 := Aside0.mk (HBU.out.trans (hb2.mono HBU.out.size))
        have hbk := (hb2.block W.heap.size (blk_lt HKU.out)).trans HKU.out
        have HKB := Aside0.mk hbk
        have q0 : w2.cell? ⟨W.heap.size, 0, none⟩ = some (.string a) := (blk_cell hbk 0).trans rfl
        have q1 : w2.cell? ⟨W.heap.size, 1, none⟩ = some (.string b) := (blk_cell hbk 1).trans rfl
        have q2 : w2.cell? ⟨W.heap.size, 2, none⟩ = some (.int .i64 lev0) := (blk_cell hbk 2).trans rfl
        have qf := blk_frozen hbk 2
        have d1 := (HB2.out.cell (p := ⟨rb, 1, none⟩) hrb).trans HC1.out
        have dk := (HB2.out.cell (p := ⟨g, k * 10 + 1, none⟩) hgl).trans HX1.out
        have d8 := (HB2.out.cell (p := ⟨g, k * 10 + 8, none⟩) hgl).trans HX8.out
        clear hb2 hbk
        obtain ⟨ad, hAd, y2⟩ := HGO.out w2 HB2.out
        subst hAd
        go_wp2
        refine bodyPost_ret (v := .int .i64 1) (by simp [results, Tryz.f31, go_sem]) rfl ?_
        exact ROut.stay HRR.out (below_box (below_box HB2.out _ _) _ _) (by rw [HM.out]) (by rw [HM.out])
    have HNB := Aside0.mk (show ¬ insBad f.F.kind lev = true from fun hb => by rcases HBADT.out.1 hb with h | h | h; exact h1 h; exact h2 h; exact h3 h)
    have t1 : (lev == 0) = false := by simpa using h1
    have t2 : (f.F.kind == 0) = false := by simpa using h2
    have hlev1 : 1 ≤ lev := by have : 0 ≤ lev := by rw [hlev2]; split <;> omega
                               omega
    have HLE := Aside0.mk (show lev ≤ lv f.units i + 1 by rw [← HLV0.out, hlev2]; split <;> omega)
    obtain ⟨E, hE⟩ : ∃ E, E = endOf f.units i := ⟨_, rfl⟩
    have HE := Aside0.mk hE
    have HEL := Aside0.mk (show E ≤ f.units.length by rw [hE]; exact (endOf_le hil2).2)
    have hEz : (E : Int) ≤ (f.units.length : Int) := by have := HEL.out; omega
    have hEc : E ≤ cu := by have := HEL.out; omega
    have hE0 : (0 : Int) ≤ (E : Int) := by omega
    have HTK := Aside0.mk (fun (m : Nat) w (hb : Below W.heap.size W w) (hm : m ≤ f.units.length) => take_row (m := m) (HUC.out w hb) (n := f.units.length) (by simp) hm)
    have HDR := Aside0.mk (fun (m : Nat) w (hb : Below W.heap.size W w) (hm : m ≤ f.units.length) => drop_row (m := m) (c := cu) (HUC.out w hb) (n := f.units.length) (by simp) hm hcu)
    obtain ⟨N, hN⟩ : ∃ N, N = (f.ins u i ⟨a, b, lev⟩).units.length := ⟨_, rfl⟩
    have HN := Aside0.mk hN
    have HLEN := Aside0.mk (show ((f.units.map toU).take E ++ [(⟨a, b, lev⟩ : S62)] ++ (f.units.map toU).drop E).length = N by rw [hN, hE]; unfold AF.ins; simp)
    obtain ⟨P, hP⟩ : ∃ P, P = aboveOf f.units lev i := ⟨_, rfl⟩
    have HPE := Aside0.mk hP.symm
    have HPI := Aside0.mk (show P ≤ i by rw [hP]; exact aboveOf_le' _ _ _)
    have HPL := Aside0.mk (show P < f.units.length by have := HPI.out; omega)
    have HPV := Aside0.mk (show lv f.units P = lev - 1 by rw [hP]; exact aboveOf_lv HUI.out.2.2.2 hlev1 hil2 HLE.out)
    obtain ⟨EP, hEP⟩ : ∃ EP, EP = endOf f.units P := ⟨_, rfl⟩
    have HEP := Aside0.mk hEP
    have HEP1 := Aside0.mk (show P + 1 ≤ EP by rw [hEP]; exact (endOf_le HPL.out).1)
    have HEPL := Aside0.mk (show EP ≤ f.units.length by rw [hEP]; exact (endOf_le HPL.out).2)
    have hEP100 : EP ≤ 100 := by have := HEPL.out; omega
    have hPw : wrap64 ((P : Int) + 1) = ((P + 1 : Nat) : Int) := by have := HPI.out; unfold wrap64; omega
    have HH3 := Aside0.mk h3
    have HROOT := Aside0.mk HUI.out.1.root
    clear hE hN hP hEP h1 h2 h3
    have t34 : (f.F.kind == 1) = false ∨ ((f.F.kind == 1) = true ∧ decide (1 < lev) = false) := by
      by_cases hk1 : f.F.kind = 1
      · exact .inr ⟨by simpa using hk1, decide_eq_false (fun h => HH3.out ⟨hk1, h⟩)⟩
      · exact .inl (by simpa using hk1)
    have HT34 := Aside0.mk t34
    clear t34
    cases child with
    | false =>
      have hlv : lv0 = lev := by rw [hlev2]; simp
      clear hlvw
      have HLV2 := Aside0.mk hlev2
      clear hlev2
      go_enter Tryz.func31, Tryz.ntmps31
      go_wp2_with first | (go_at_call 56; refine C56.out.mono ?_; rintro e w' ⟨rfl, rfl⟩) | (go_at_call 74; refine (CU.out _ HBX.out).mono ?_; rintro e w1 ⟨rfl, hbu⟩; have HBU := Aside0.mk (HBX.out.trans (hbu.mono HBX.out.size)); have HKU := Aside0.mk ((hbu.block W.heap.size (by simp)).trans HKX.out); clear hbu)
      refine (CB.out _ HBU.out).mono ?_
      rintro e w2 ⟨hb2, rfl⟩
      have HB2 := Aside0.mk (HBU.out.trans (hb2.mono HBU.out.size))
      have hbk := (hb2.block W.heap.size (blk_lt HKU.out)).trans HKU.out
      have HKB := Aside0.mk hbk
      have q0 : w2.cell? ⟨W.heap.size, 0, none⟩ = some (.string a) := (blk_cell hbk 0).trans rfl
      have q1 : w2.cell? ⟨W.heap.size, 1, none⟩ = some (.string b) := (blk_cell hbk 1).trans rfl
      have q2 : w2.cell? ⟨W.heap.size, 2, none⟩ = some (.int .i64 lev0) := (blk_cell hbk 2).trans rfl
      have qf := blk_frozen hbk 2
      have d1 := (HB2.out.cell (p := ⟨rb, 1, none⟩) hrb).trans HC1.out
      have dk := (HB2.out.cell (p := ⟨g, k * 10 + 1, none⟩) hgl).trans HX1.out
      have d8 := (HB2.out.cell (p := ⟨g, k * 10 + 8, none⟩) hgl).trans HX8.out
      clear hb2 hbk
      obtain ⟨ad, hAd, y2⟩ := HGO.out w2 HB2.out
      subst hAd
      rw [hlv] at y2
      clear hlv
      rcases HT34.out with t3 | ⟨t3, t4⟩
      all_goals
        go_wp2_with fail
        refine (under_c (some ad) cu i f.units _ (HUC.out _ (below_box HB2.out 2 (.int .i64 lev))) hcu hil2).mono ?_
        rintro e W4 ⟨rfl, ⟨mu, rfl⟩⟩
        have HB4W := Aside0.mk (pw_below_drewN (below_box HB2.out 2 (.int .i64 lev)) mu)
        have HK4W := Aside0.mk (show ((w2.setCell ⟨W.heap.size, 2, none⟩ (.int .i64 lev)).drewN mu).heap[W.heap.size]? = some (.cells #[.string a, .string b, .int .i64 lev] 62 (0, 0)) from blk_set HKB.out 2 (.int .i64 lev))
        rw [← HE.out]
        generalize (w2.setCell ⟨W.heap.size, 2, none⟩ (.int .i64 lev)).drewN mu = W4 at HB4W HK4W ⊢
        clear q0 q1 q2 qf d1 dk d8 y2
        go_wp2_with (first
          | ((with_reducible refine gate_dst (N := 97) rfl ?_); refine Kd.R_lit k62 (w0 := W) W.heap.size 62 ?hg (N := 97) ?hd (xs := ([] : List S62)) (inner := []) (ok := fun _ => True) (okp := fun _ => True) ?hr ?hp (fun _ hk => hk) trivial HB4W.out HB4W.out.size (by simp) ?_; (case hd => rfl); (case hg => rfl); (case hr => first | (go_simp; done) | (go_simp; rfl)); (case hp => exact (Reps.none _ _)); intro v1 x1 ho hb hgr hfr; have HB1 := Aside0.mk hb; have HK1 := Aside0.mk ((hgr.block W.heap.size (blk_lt HK4W.out) (by simp)).trans HK4W.out); have HN1 := Aside0.mk (fun q (h : v1.ownBlock = some q) (e : q = W.heap.size) => (show False by obtain ⟨b_, h1, h2⟩ := hfr; rw [h1] at h; injection h with h; have := blk_lt HK4W.out; omega)); have HO1 := Aside0.mk ho; clear ho hb hgr hfr)
          | ((with_reducible refine gate_builtin (b := .append) (xs := #[.tmp 97, .tmp 100]) rfl ?_); at_builtin; refine Kd.R_append_rows k62 (Rr := k62.K x1) (w0 := W) W.heap.size rfl (.tmp 97) (.tmp 100) 55 62 (.agg #[.string ⟨#[]⟩, .string ⟨#[]⟩, .int .i64 0]) 40 rfl Tryz.underlying55 (by kernel_rfl) rfl (by decide) (by omega) v1 [] ((f.units.map toU).take E) _ E _ (fun _ => True) (fun _ => False) rfl rfl HO1.out (HTK.out E _ HB1.out HEL.out) (fun x cs h => by rw [k62_open h]; exact k62_mkM _ _ _ _) (fun _ h => h.elim) (fun _ _ => trivial) HB1.out HB1.out.size (by simp only [List.length_nil]; omega) ?_; intro v3 x3 ho hb hgr hfr; rw [List.nil_append] at ho; have HB3 := Aside0.mk hb; have HK3 := Aside0.mk ((hgr.block W.heap.size (blk_lt HK1.out) (fun e => HN1.out _ e.symm rfl)).trans HK1.out); have HN3 := Aside0.mk (fun q (h : v3.ownBlock = some q) (e : q = W.heap.size) => (show False by rcases hfr with hfr | ⟨b_, h1, h2⟩; (rw [hfr] at h; exact HN1.out q h e); (rw [h1] at h; injection h with h; have := blk_lt HK1.out; omega))); have HO3 := Aside0.mk ho; clear ho hb hgr hfr))
        have b0 : x3.cell? ⟨W.heap.size, 0, none⟩ = some (.string a) := (blk_cell HK3.out 0).trans rfl
        have b1 : x3.cell? ⟨W.heap.size, 1, none⟩ = some (.string b) := (blk_cell HK3.out 1).trans rfl
        have b2 : x3.cell? ⟨W.heap.size, 2, none⟩ = some (.int .i64 lev) := (blk_cell HK3.out 2).trans rfl
        refine start_ (n := 9) (S := fun w' => w'.cell? ⟨W.heap.size, 0, none⟩ = some (.string a) ∧ w'.cell? ⟨W.heap.size, 1, none⟩ = some (.string b) ∧ w'.cell? ⟨W.heap.size, 2, none⟩ = some (.int .i64 lev)) (ds := []) #[false, false, false, false, false, false, false, false, false] (by kernel_rfl) rfl rfl ⟨b0, b1, b2⟩ (fun hHeld => ?_)
        refine with_tabW RIns.tab17 RIns.bits17 (fun HT_ HW_ => ?_)
        have HWD := Aside0.mk (show Below W.heap.size W x3.drew from HB3.out.drew)
        have HKD := Aside0.mk (show x3.drew.heap[W.heap.size]? = _ from HK3.out)
        have HOD := Aside0.mk (Kd.R_drew HO3.out)
        generalize x3.drew = wd at HWD HKD HOD hHeld ⊢
        refine pure_ (i := 0) (N := some 102) (v := ?_) (a' := ?_) #[true, false, false, false, false, false, false, false, false] rfl rfl (any_of HT_.out (by kernel_rfl)) (fun _ _ _ h => h) (Or.inl ⟨by rfl, ?_⟩) ?_ ?_
        rotate_left
        · intro w'
          go_simp
          with_reducible rfl
        rotate_left
        · simp only [Act.put, List.setIfInBounds_toArray, List.set_cons_zero, List.set_cons_succ, i64_w, i32_w]
          rfl
        refine pure_ (i := 4) (N := some 106) (v := ?_) (a' := ?_) #[true, false, false, false, true, false, false, false, false] rfl rfl (any_of HT_.out (by kernel_rfl)) (fun _ _ _ h => h) (Or.inl ⟨by rfl, ?_⟩) ?_ ?_
        rotate_left
        · intro w'
          go_simp
          with_reducible rfl
        rotate_left
        · simp only [Act.put, List.setIfInBounds_toArray, List.set_cons_zero, List.set_cons_succ, i64_w, i32_w]
          rfl
        refine pure_ (i := 5) (N := some 107) (v := ?_) (a' := ?_) #[true, false, false, false, true, true, false, false, false] rfl rfl (any_of HT_.out (by kernel_rfl)) (fun _ _ _ h => h) (Or.inl ⟨by rfl, ?_⟩) ?_ ?_
        rotate_left
        · intro w'
          go_simp
          with_reducible rfl
        rotate_left
        · simp only [Act.put, List.setIfInBounds_toArray, List.set_cons_zero, List.set_cons_succ, i64_w, i32_w]
          rfl
        refine pure_ (i := 6) (N := some 108) (v := ?_) (a' := ?_) #[true, false, false, false, true, true, true, false, false] rfl rfl (any_of HT_.out (by kernel_rfl)) (fun _ _ _ h => h) (Or.inl ⟨by rfl, ?_⟩) ?_ ?_
        rotate_left
        · intro w'
          go_simp
          with_reducible rfl
        rotate_left
        · simp only [Act.put, List.setIfInBounds_toArray, List.set_cons_zero, List.set_cons_succ, i64_w, i32_w]
          rfl
        refine take_ (i := 1) (N := some 103) (v := ?_) (a' := ?_) #[true, true, false, false, true, true, true, false, false] rfl rfl (take_ofW HT_.out HW_.out (by kernel_rfl)) (fun _ _ _ h => h) (Or.inl ⟨by rfl, ?_⟩) hHeld ?_ ?_
        rotate_left
        · rintro w' ⟨s0, s1, s2⟩
          go_simp
          with_reducible rfl
        rotate_left
        · simp only [Act.put, List.setIfInBounds_toArray, List.set_cons_zero, List.set_cons_succ, i64_w, i32_w]
          rfl
        refine one_ (i := 2) (N := some 104) #[true, true, true, false, true, true, true, false, false] rfl rfl (one_of HT_.out (by kernel_rfl)) (by decide) (fun K hK => ?_)
        refine Kd.R_lit_step k62 (w0 := W) W.heap.size 62 ?hg (N := 104) ?hd (xs := ([(⟨a, b, lev⟩ : S62)] : List S62)) (inner := [.string a, .string b, .int .i64 lev]) (ok := fun _ => True) (okp := fun _ => True) ?hr ?hp (fun _ hk => hk) trivial HWD.out HWD.out.size (by simp) ?_; (case hd => rfl); (case hg => rfl); (case hr => first | (go_simp; done) | (go_simp; rfl)); (case hp => exact (Reps.c3 (k62_mkM _ _ _ (⟨a, b, lev⟩ : S62)) (Reps.none _ _)))
        intro v4 x4 ho hb hgr hfr
        have HB4 := Aside0.mk hb
        have HK4 := Aside0.mk ((hgr.block W.heap.size (blk_lt HKD.out) (by simp)).trans HKD.out)
        have HO3b := Aside0.mk (Kd.R_grown HOD.out hgr (fun q _ e => by cases e))
        have HS4 := Aside0.mk hgr.size
        obtain ⟨A4, c4, hv4⟩ := Kd.R_slice ho
        have hv4 : v4 = .slice A4 1 c4 := hv4
        subst hv4
        have HO4 := Aside0.mk ho
        clear ho hb hgr hfr
        refine hK.out _ _ ⟨(blk_cell HK4.out 0).trans rfl, (blk_cell HK4.out 1).trans rfl, (blk_cell HK4.out 2).trans rfl⟩ (fun hHeld => ?_)
        clear hK K
        refine norm_ (a' := ?_) ?_ ?_
        rotate_left
        · show Act.put _ (some 104) _ = _
          simp only [Act.put, List.setIfInBounds_toArray, List.set_cons_zero, List.set_cons_succ, i64_w, i32_w]
          rfl
        refine one_ (i := 3) (N := some 105) #[true, true, true, true, true, true, true, false, false] rfl rfl (one_of HT_.out (by kernel_rfl)) (by decide) (fun K hK => ?_)
        refine Kd.R_append_rows_step k62 (Rr := k62.K x4) (w0 := W) W.heap.size (by rfl) (.tmp 102) (.tmp 104) 55 62 (.agg #[.string ⟨#[]⟩, .string ⟨#[]⟩, .int .i64 0]) 40 rfl Tryz.underlying55 (by kernel_rfl) rfl (by decide) (by omega) v3 ((f.units.map toU).take E) [(⟨a, b, lev⟩ : S62)] A4 1 c4 (fun _ => True) (fun _ => False) rfl rfl HO3b.out (Kd.R_reads' HO4.out).2.2 (fun x cs h => by rw [k62_open h]; exact k62_mkM _ _ _ _) (fun _ h => h.elim) (fun _ _ => trivial) HB4.out HB4.out.size (by rw [List.length_take, List.length_map]; omega) ?_
        intro v5 x5 ho hb hgr hfr
        have HB5 := Aside0.mk hb
        have HK5 := Aside0.mk ((hgr.block W.heap.size (blk_lt HK4.out) (fun e => HN3.out _ e.symm rfl)).trans HK4.out)
        have HN5 := Aside0.mk (fun q (h : v5.ownBlock = some q) (e : q = W.heap.size) => (show False by rcases hfr with hfr | ⟨b_, h1, h2⟩; (rw [hfr] at h; exact HN3.out q h e); (rw [h1] at h; injection h with h; have := blk_lt HK4.out; omega)))
        have HO5 := Aside0.mk ho
        clear ho hb hgr hfr
        refine hK.out _ _ ⟨(blk_cell HK5.out 0).trans rfl, (blk_cell HK5.out 1).trans rfl, (blk_cell HK5.out 2).trans rfl⟩ (fun hHeld => ?_)
        clear hK K
        refine norm_ (a' := ?_) ?_ ?_
        rotate_left
        · show Act.put _ (some 105) _ = _
          simp only [Act.put, List.setIfInBounds_toArray, List.set_cons_zero, List.set_cons_succ, i64_w, i32_w]
          rfl
        refine one_ (i := 7) (N := some 109) #[true, true, true, true, true, true, true, true, false] rfl rfl (one_of HT_.out (by kernel_rfl)) (by decide) (fun K hK => ?_)
        refine Kd.R_append_rows_step k62 (Rr := k62.K x5) (w0 := W) W.heap.size (by rfl) (.tmp 105) (.tmp 108) 55 62 (.agg #[.string ⟨#[]⟩, .string ⟨#[]⟩, .int .i64 0]) 40 rfl Tryz.underlying55 (by kernel_rfl) rfl (by decide) (by omega) v5 ((f.units.map toU).take E ++ [(⟨a, b, lev⟩ : S62)]) ((f.units.map toU).drop E) _ (f.units.length - E) _ (fun _ => True) (fun _ => False) rfl rfl HO5.out (HDR.out E _ HB5.out HEL.out) (fun x cs h => by rw [k62_open h]; exact k62_mkM _ _ _ _) (fun _ h => h.elim) (fun _ _ => trivial) HB5.out HB5.out.size (by rw [List.length_append, List.length_take, List.length_map]; simp only [List.length_cons, List.length_nil]; omega) ?_
        intro v6 x6 ho hb hgr hfr
        have HB6 := Aside0.mk hb
        have HK6 := Aside0.mk ((hgr.block W.heap.size (blk_lt HK5.out) (fun e => HN5.out _ e.symm rfl)).trans HK5.out)
        obtain ⟨A6, c6, hv6⟩ := Kd.R_slice ho
        rw [HLEN.out] at hv6
        subst hv6
        have HO6 := Aside0.mk ho
        clear ho hb hgr hfr
        refine hK.out _ _ ⟨(blk_cell HK6.out 0).trans rfl, (blk_cell HK6.out 1).trans rfl, (blk_cell HK6.out 2).trans rfl⟩ (fun hHeld => ?_)
        clear hK K
        refine norm_ (a' := ?_) ?_ ?_
        rotate_left
        · show Act.put _ (some 109) _ = _
          simp only [Act.put, List.setIfInBounds_toArray, List.set_cons_zero, List.set_cons_succ, i64_w, i32_w]
          rfl
        refine pure_ (i := 8) (N := some 19) (v := ?_) (a' := ?_) #[true, true, true, true, true, true, true, true, true] rfl rfl (any_of HT_.out (by kernel_rfl)) (fun _ _ _ h => h) (Or.inl ⟨by rfl, ?_⟩) ?_ ?_
        rotate_left
        · intro w'
          go_simp
          with_reducible rfl
        rotate_left
        · simp only [Act.put, List.setIfInBounds_toArray, List.set_cons_zero, List.set_cons_succ, i64_w, i32_w]
          rfl
        refine done_ (done_of HT_.out (by kernel_rfl)) ?_
        generalize (if cu = E then some ad else some (ad.add (E * 3))) = pE
        go_wp2_with fail
        go_loopw [20] (fun s wr => ∃ j : Nat, s = .int .i64 j ∧ j ≤ i ∧ Aside0 (aboveOf f.units lev j = P) ∧ Aside0 (Below x6.heap.size x6 wr)) (fun s _ => (intOf s).toNat)
        case atStart => exact ⟨i, rfl, Nat.le_refl _, HPE, ⟨Below.refl _ _⟩⟩
        case round =>
          obtain ⟨j, rfl, hji, HJ, HBX20⟩ := hrel
          have HBW := Aside0.mk (HB6.out.trans (HBX20.out.mono HB6.out.size))
          have hjl : j < f.units.length := by omega
          have hjz : (j : Int) < (f.units.length : Int) := by omega
          have hj0 : decide ((j : Int) < 0) = false := decide_eq_false (by omega)
          obtain ⟨ad', he', _, _, z2⟩ := at_units (HUC.out _ HBW.out) j hjl
          injection he' with he'
          subst he'
          have hbk7 := (HBX20.out.block W.heap.size (blk_lt HK6.out)).trans HK6.out
          have e2 : wr.cell? ⟨W.heap.size, 2, none⟩ = some (.int .i64 lev) := (blk_cell hbk7 2).trans rfl
          have HLJ := Aside0.mk (show lv f.units j = f.units[j].f2 by unfold lv; rw [rd_get _ _ hjl])
          generalize f.units[j].f2 = lj at z2 HLJ
          clear hbk7
          by_cases hc : lev ≤ lj
          · have gc : decide (lev ≤ lj) = true := decide_eq_true hc
            obtain ⟨j', rfl⟩ : ∃ j', j = j' + 1 := by
              rcases j with _ | j'
              · exfalso
                have := HLJ.out
                rw [HROOT.out] at this
                omega
              · exact ⟨j', rfl⟩
            have HJ2 := Aside0.mk (show aboveOf f.units lev j' = P by rw [← HJ.out]; exact (aboveOf_step (by rw [HLJ.out]; exact hc)).symm)
            have hjw : wrap64 (((j' + 1 : Nat) : Int) - 1) = (j' : Int) := by unfold wrap64; omega
            have hjw2 : wrap64 (((j' : Int) + 1) - 1) = (j' : Int) := by unfold wrap64; omega
            have HBX21 := Aside0.mk (pw_below_drewN HBX20.out 1)
            go_wp2_with fail
            go_region
            go_wp2_with fail
            go_roundw
            case rel => exact ⟨j', by first | rfl | go_num, by omega, HJ2, HBX21⟩
            case measure => (simp [intOf]; try omega)
          · have gc : decide (lev ≤ lj) = false := decide_eq_false hc
            have hjP := HJ.out
            rw [aboveOf_here (show lv f.units j < lev by rw [HLJ.out]; omega)] at hjP
            have hjP := hjP.symm
            subst hjP
            have HBX20' := Aside0.mk (pw_below_drewN HBX20.out 1)
            clear HBX20 HBW
            have HBX20 := HBX20'
            clear HBX20'
            go_wp2_with fail
            go_region
            go_wp2_with fail
            go_loopw [21] (fun s wr => ∃ t : Nat, s = .int .i64 t ∧ P + 1 ≤ t ∧ t ≤ EP ∧ Aside0 (Below x6.heap.size x6 wr) ∧ Aside0 (∀ q, P < q → q < t → dupAt f.units lev a q = false)) (fun s _ => EP - (intOf s).toNat)
            case atStart => exact ⟨P + 1, by go_num, by omega, HEP1.out, HBX20, ⟨fun q h1 h2 => by omega⟩⟩
            case round =>
              obtain ⟨t, rfl, ht1, ht2, HBX6, HND⟩ := hrel
              have HBW := Aside0.mk (HB6.out.trans (HBX6.out.mono HB6.out.size))
              go_wp2_with fail
              refine (under_c (some ad) cu P f.units _ (HUC.out _ HBW.out) hcu HPL.out).mono ?_
              rintro e w7 ⟨rfl, ⟨m7, rfl⟩⟩
              rw [← HEP.out]
              have HBX7 := Aside0.mk (pw_below_drewN HBX6.out m7)
              generalize wr.drewN m7 = w7 at HBX7 ⊢
              have HBW7 := Aside0.mk (HB6.out.trans (HBX7.out.mono HB6.out.size))
              have hbk7 := (HBX7.out.block W.heap.size (blk_lt HK6.out)).trans HK6.out
              clear HBX6 HBW
              by_cases hlt : t < EP
              · have hltz : (t : Int) < (EP : Int) := by omega
                have htl : t < f.units.length := by have := HEPL.out; omega
                have htz : (t : Int) < (f.units.length : Int) := by omega
                have ht0 : decide ((t : Int) < 0) = false := decide_eq_false (by omega)
                obtain ⟨ad', he', z0, _, z2⟩ := at_units (HUC.out _ HBW7.out) t htl
                injection he' with he'
                subst he'
                have e2 : w7.cell? ⟨W.heap.size, 2, none⟩ = some (.int .i64 lev) := (blk_cell hbk7 2).trans rfl
                have e0 : w7.cell? ⟨W.heap.size, 0, none⟩ = some (.string a) := (blk_cell hbk7 0).trans rfl
                have HDUP := Aside0.mk (show dupAt f.units lev a t = (decide (f.units[t].f2 = lev) && !decide (a = ⟨#[]⟩) && decide (f.units[t].f0 = a)) by unfold dupAt lv nm; rw [rd_get _ _ htl])
                generalize hl_ : f.units[t].f2 = lt_ at z2 HDUP
                generalize hn_ : f.units[t].f0 = nt_ at z0 HDUP
                clear hl_ hn_ hbk7
                by_cases c1 : lt_ = lev
                · have s1 : (lt_ == lev) = true := by simpa using c1
                  by_cases c2 : a = ⟨#[]⟩
                  · have s2 : (a.toList == []) = true := by rw [c2, ByteArray.toList_eq]; rfl
                    have HND2 := Aside0.mk (nodup_next HND.out (show dupAt f.units lev a t = false by rw [HDUP.out, decide_eq_true c2]; simp))
                    clear c1 c2
                    go_wp2_with fail
                    go_quiet (fail)
                    go_wp2_with fail
                    go_roundw
                    case rel => exact ⟨t + 1, by go_num, by omega, by omega, ⟨pw_below_drewN HBX7.out _⟩, HND2⟩
                    case measure => (simp [intOf]; try omega)
                  · have s2 : (a.toList == []) = false := by
                      have := beq_no c2
                      rw [ByteArray.toList_eq ⟨#[]⟩] at this
                      exact this
                    by_cases c3 : nt_ = a
                    · have s3 : (nt_.toList == a.toList) = true := by rw [c3]; exact beq_yes _
                      have HM := Aside0.mk (show mInsert st u n (i : Int) false a b = (7, st) by
                        have := HMI.out
                        rw [HPE.out, clash_yes (t := t) HPL.out HPV.out (by omega) (by rw [← HEP.out]; exact hlt) (by rw [HDUP.out, decide_eq_true c1, decide_eq_false c2, decide_eq_true c3]; rfl), if_neg (HNB.out)] at this
                        rw [this, if_pos (.inl rfl)]
                        rfl)
                      clear c1 c2 c3
                      go_wp2_with fail
                      go_quiet (fail)
                      go_wp2
                      refine bodyPost_ret (v := .int .i64 7) (by simp [results, Tryz.f31, go_sem]) rfl ?_
                      exact ROut.stay HRR.out (pw_below_drewN HBW7.out _) (by rw [HM.out]) (by rw [HM.out])
                    · have s3 := beq_no c3
                      have HND2 := Aside0.mk (nodup_next HND.out (show dupAt f.units lev a t = false by rw [HDUP.out, decide_eq_false c3]; simp))
                      clear c1 c2 c3
                      go_wp2_with fail
                      go_quiet (fail)
                      go_wp2_with fail
                      go_roundw
                      case rel => exact ⟨t + 1, by go_num, by omega, by omega, ⟨pw_below_drewN HBX7.out _⟩, HND2⟩
                      case measure => (simp [intOf]; try omega)
                · have s1 : (lt_ == lev) = false := by simpa using c1
                  have HND2 := Aside0.mk (nodup_next HND.out (show dupAt f.units lev a t = false by rw [HDUP.out, decide_eq_false c1]; rfl))
                  clear c1
                  go_wp2_with fail
                  go_quiet (fail)
                  go_wp2_with fail
                  go_roundw
                  case rel => exact ⟨t + 1, by go_num, by omega, by omega, ⟨pw_below_drewN HBX7.out _⟩, HND2⟩
                  case measure => (simp [intOf]; try omega)
              · have hltz : ¬ (t : Int) < (EP : Int) := by omega
                have hcb := clash_none HPL.out HPV.out (fun q h1 h2 => HND.out q h1 (by rw [← HEP.out] at h2; omega))
                have HMI2 := Aside0.mk (show mInsert st u n (i : Int) false a b = if denied ac 2 = 12 ∨ 100 ≤ f.units.length then (insErr false (denied ac 2), st) else (0, st.set k (f.ins u i ⟨a, b, lev⟩)) by
                  have := HMI.out
                  rw [HPE.out, hcb, if_neg HNB.out] at this
                  rw [this]
                  simp)
                clear hcb
                rcases denied_cases ac 2 with hd0 | hd12
                · have gW : decide (bits .and .i64 2 ac = 2) = true := by rw [within_den ac 2 1 (by decide) rfl, hd0]; rfl
                  by_cases hfull : f.units.length = 100
                  · have HM := Aside0.mk (show mInsert st u n (i : Int) false a b = (9, st) by rw [HMI2.out, if_pos (.inr (by omega)), hd0]; rfl)
                    have s9 : ((f.units.length : Int) == 100) = true := by rw [hfull]; rfl
                    clear hd0 hfull hlt
                    go_wp2_with fail
                    refine (rwithin_c 2 ac _).mono ?_
                    rintro e w' ⟨rfl, rfl⟩
                    go_wp2
                    refine bodyPost_ret (v := .int .i64 9) (by simp [results, Tryz.f31, go_sem]) rfl ?_
                    exact ROut.stay HRR.out HBW7.out (by rw [HM.out]) (by rw [HM.out])
                  · have HM := Aside0.mk (show mInsert st u n (i : Int) false a b = (0, st.set k (f.ins u i ⟨a, b, lev⟩)) by rw [HMI2.out, if_neg (by omega)])
                    have s9 : ((f.units.length : Int) == 100) = false := by simp; omega
                    have s9b : ¬ (f.units.length : Int) = 100 := by omega
                    have CC := Aside0.mk (show Calls Tryz.prog 75 #[.pointer (some ⟨rb, 0, none⟩), .int .i64 (k : Int), .string u, .slice A6 N c6] w7 (ROut W ok rb (.int .i64 0) (st.set k (f.ins u i ⟨a, b, lev⟩))) by
                      have := rchanged_out (who := u) (l := (f.ins u i ⟨a, b, lev⟩).units) (Al := A6) (cl := c6) HH.out HK.out HT.out HBW7.out (by
                        rw [← HN.out]
                        have h := Kd.R_below HO6.out HBX7.out
                        unfold AF.ins
                        simp only [List.map_append, List.map_cons, List.map_take, List.map_drop]
                        rw [← HE.out]
                        rw [List.append_assoc] at h
                        exact h)
                      rw [← HN.out] at this
                      exact this)
                    clear hd0 hfull hlt
                    go_wp2_with fail
                    refine (rwithin_c 2 ac _).mono ?_
                    rintro e w' ⟨rfl, rfl⟩
                    go_wp2_with fail
                    refine CC.out.mono ?_
                    rintro e w9 ⟨rfl, hR'⟩
                    have HR9 := Aside0.mk hR'
                    clear hR'
                    go_wp2
                    refine bodyPost_ret (v := .int .i64 0) (by simp [results, Tryz.f31, go_sem]) rfl ?_
                    rw [HM.out]
                    exact ⟨rfl, HR9.out⟩
                · have gW : decide (bits .and .i64 2 ac = 2) = false := by rw [within_den ac 2 1 (by decide) rfl, hd12]; rfl
                  have HM := Aside0.mk (show mInsert st u n (i : Int) false a b = (12, st) by rw [HMI2.out, if_pos (.inl hd12), hd12]; rfl)
                  clear hd12 hlt
                  go_wp2_with fail
                  refine (rwithin_c 2 ac _).mono ?_
                  rintro e w' ⟨rfl, rfl⟩
                  go_wp2
                  refine bodyPost_ret (v := .int .i64 12) (by simp [results, Tryz.f31, go_sem]) rfl ?_
                  exact ROut.stay HRR.out HBW7.out (by rw [HM.out]) (by rw [HM.out])
    | true =>
      have hlvw : wrap64 (lv0 + 1) = lev := by rw [hlvw, hlev2]; rfl
      have HLV2 := Aside0.mk hlev2
      clear hlev2
      go_enter Tryz.func31, Tryz.ntmps31
      go_wp2_with first | (go_at_call 56; refine C56.out.mono ?_; rintro e w' ⟨rfl, rfl⟩) | (go_at_call 74; refine (CU.out _ HBX.out).mono ?_; rintro e w1 ⟨rfl, hbu⟩; have HBU := Aside0.mk (HBX.out.trans (hbu.mono HBX.out.size)); have HKU := Aside0.mk ((hbu.block W.heap.size (by simp)).trans HKX.out); clear hbu)
      refine (CB.out _ HBU.out).mono ?_
      rintro e w2 ⟨hb2, rfl⟩
      have HB2 := Aside0.mk (HBU.out.trans (hb2.mono HBU.out.size))
      have hbk := (hb2.block W.heap.size (blk_lt HKU.out)).trans HKU.out
      have HKB := Aside0.mk hbk
      have q0 : w2.cell? ⟨W.heap.size, 0, none⟩ = some (.string a) := (blk_cell hbk 0).trans rfl
      have q1 : w2.cell? ⟨W.heap.size, 1, none⟩ = some (.string b) := (blk_cell hbk 1).trans rfl
      have q2 : w2.cell? ⟨W.heap.size, 2, none⟩ = some (.int .i64 lev0) := (blk_cell hbk 2).trans rfl
      have qf := blk_frozen hbk 2
      have d1 := (HB2.out.cell (p := ⟨rb, 1, none⟩) hrb).trans HC1.out
      have dk := (HB2.out.cell (p := ⟨g, k * 10 + 1, none⟩) hgl).trans HX1.out
      have d8 := (HB2.out.cell (p := ⟨g, k * 10 + 8, none⟩) hgl).trans HX8.out
      clear hb2 hbk
      obtain ⟨ad, hAd, y2⟩ := HGO.out w2 HB2.out
      subst hAd
      have HT35 := Aside0.mk (show (f.F.kind == 1) = false ∨ ((f.F.kind == 1) = true ∧ decide (1 < lv0 + 1) = false) by have := HLV2.out; simp at this; rw [← this]; exact HT34.out)
      rcases HT35.out with t3 | ⟨t3, t4⟩
      all_goals
        go_wp2_with fail
        rw [show lv0 + 1 = lev by have := HLV2.out; simp at this; omega]
        refine (under_c (some ad) cu i f.units _ (HUC.out _ (below_box (below_box HB2.out 2 (.int .i64 lv0)) 2 (.int .i64 lev))) hcu hil2).mono ?_
        rintro e W4 ⟨rfl, ⟨mu, rfl⟩⟩
        have HB4W := Aside0.mk (pw_below_drewN (below_box (below_box HB2.out 2 (.int .i64 lv0)) 2 (.int .i64 lev)) mu)
        have HK4W := Aside0.mk (show (((w2.setCell ⟨W.heap.size, 2, none⟩ (.int .i64 lv0)).setCell ⟨W.heap.size, 2, none⟩ (.int .i64 lev)).drewN mu).heap[W.heap.size]? = some (.cells #[.string a, .string b, .int .i64 lev] 62 (0, 0)) from blk_set (blk_set HKB.out 2 (.int .i64 lv0)) 2 (.int .i64 lev))
        rw [← HE.out]
        generalize ((w2.setCell ⟨W.heap.size, 2, none⟩ (.int .i64 lv0)).setCell ⟨W.heap.size, 2, none⟩ (.int .i64 lev)).drewN mu = W4 at HB4W HK4W ⊢
        clear q0 q1 q2 qf d1 dk d8 y2
        go_wp2_with (first
          | ((with_reducible refine gate_dst (N := 97) rfl ?_); refine Kd.R_lit k62 (w0 := W) W.heap.size 62 ?hg (N := 97) ?hd (xs := ([] : List S62)) (inner := []) (ok := fun _ => True) (okp := fun _ => True) ?hr ?hp (fun _ hk => hk) trivial HB4W.out HB4W.out.size (by simp) ?_; (case hd => rfl); (case hg => rfl); (case hr => first | (go_simp; done) | (go_simp; rfl)); (case hp => exact (Reps.none _ _)); intro v1 x1 ho hb hgr hfr; have HB1 := Aside0.mk hb; have HK1 := Aside0.mk ((hgr.block W.heap.size (blk_lt HK4W.out) (by simp)).trans HK4W.out); have HN1 := Aside0.mk (fun q (h : v1.ownBlock = some q) (e : q = W.heap.size) => (show False by obtain ⟨b_, h1, h2⟩ := hfr; rw [h1] at h; injection h with h; have := blk_lt HK4W.out; omega)); have HO1 := Aside0.mk ho; clear ho hb hgr hfr)
          | ((with_reducible refine gate_builtin (b := .append) (xs := #[.tmp 97, .tmp 100]) rfl ?_); at_builtin; refine Kd.R_append_rows k62 (Rr := k62.K x1) (w0 := W) W.heap.size rfl (.tmp 97) (.tmp 100) 55 62 (.agg #[.string ⟨#[]⟩, .string ⟨#[]⟩, .int .i64 0]) 40 rfl Tryz.underlying55 (by kernel_rfl) rfl (by decide) (by omega) v1 [] ((f.units.map toU).take E) _ E _ (fun _ => True) (fun _ => False) rfl rfl HO1.out (HTK.out E _ HB1.out HEL.out) (fun x cs h => by rw [k62_open h]; exact k62_mkM _ _ _ _) (fun _ h => h.elim) (fun _ _ => trivial) HB1.out HB1.out.size (by simp only [List.length_nil]; omega) ?_; intro v3 x3 ho hb hgr hfr; rw [List.nil_append] at ho; have HB3 := Aside0.mk hb; have HK3 := Aside0.mk ((hgr.block W.heap.size (blk_lt HK1.out) (fun e => HN1.out _ e.symm rfl)).trans HK1.out); have HN3 := Aside0.mk (fun q (h : v3.ownBlock = some q) (e : q = W.heap.size) => (show False by rcases hfr with hfr | ⟨b_, h1, h2⟩; (rw [hfr] at h; exact HN1.out q h e); (rw [h1] at h; injection h with h; have := blk_lt HK1.out; omega))); have HO3 := Aside0.mk ho; clear ho hb hgr hfr))
        have b0 : x3.cell? ⟨W.heap.size, 0, none⟩ = some (.string a) := (blk_cell HK3.out 0).trans rfl
        have b1 : x3.cell? ⟨W.heap.size, 1, none⟩ = some (.string b) := (blk_cell HK3.out 1).trans rfl
        have b2 : x3.cell? ⟨W.heap.size, 2, none⟩ = some (.int .i64 lev) := (blk_cell HK3.out 2).trans rfl
        refine start_ (n := 9) (S := fun w' => w'.cell? ⟨W.heap.size, 0, none⟩ = some (.string a) ∧ w'.cell? ⟨W.heap.size, 1, none⟩ = some (.string b) ∧ w'.cell? ⟨W.heap.size, 2, none⟩ = some (.int .i64 lev)) (ds := []) #[false, false, false, false, false, false, false, false, false] (by kernel_rfl) rfl rfl ⟨b0, b1, b2⟩ (fun hHeld => ?_)
        refine with_tabW RIns.tab17 RIns.bits17 (fun HT_ HW_ => ?_)
        have HWD := Aside0.mk (show Below W.heap.size W x3.drew from HB3.out.drew)
        have HKD := Aside0.mk (show x3.drew.heap[W.heap.size]? = _ from HK3.out)
        have HOD := Aside0.mk (Kd.R_drew HO3.out)
        generalize x3.drew = wd at HWD HKD HOD hHeld ⊢
        refine pure_ (i := 0) (N := some 102) (v := ?_) (a' := ?_) #[true, false, false, false, false, false, false, false, false] rfl rfl (any_of HT_.out (by kernel_rfl)) (fun _ _ _ h => h) (Or.inl ⟨by rfl, ?_⟩) ?_ ?_
        rotate_left
        · intro w'
          go_simp
          with_reducible rfl
        rotate_left
        · simp only [Act.put, List.setIfInBounds_toArray, List.set_cons_zero, List.set_cons_succ, i64_w, i32_w]
          rfl
        refine pure_ (i := 4) (N := some 106) (v := ?_) (a' := ?_) #[true, false, false, false, true, false, false, false, false] rfl rfl (any_of HT_.out (by kernel_rfl)) (fun _ _ _ h => h) (Or.inl ⟨by rfl, ?_⟩) ?_ ?_
        rotate_left
        · intro w'
          go_simp
          with_reducible rfl
        rotate_left
        · simp only [Act.put, List.setIfInBounds_toArray, List.set_cons_zero, List.set_cons_succ, i64_w, i32_w]
          rfl
        refine pure_ (i := 5) (N := some 107) (v := ?_) (a' := ?_) #[true, false, false, false, true, true, false, false, false] rfl rfl (any_of HT_.out (by kernel_rfl)) (fun _ _ _ h => h) (Or.inl ⟨by rfl, ?_⟩) ?_ ?_
        rotate_left
        · intro w'
          go_simp
          with_reducible rfl
        rotate_left
        · simp only [Act.put, List.setIfInBounds_toArray, List.set_cons_zero, List.set_cons_succ, i64_w, i32_w]
          rfl
        refine pure_ (i := 6) (N := some 108) (v := ?_) (a' := ?_) #[true, false, false, false, true, true, true, false, false] rfl rfl (any_of HT_.out (by kernel_rfl)) (fun _ _ _ h => h) (Or.inl ⟨by rfl, ?_⟩) ?_ ?_
        rotate_left
        · intro w'
          go_simp
          with_reducible rfl
        rotate_left
        · simp only [Act.put, List.setIfInBounds_toArray, List.set_cons_zero, List.set_cons_succ, i64_w, i32_w]
          rfl
        refine take_ (i := 1) (N := some 103) (v := ?_) (a' := ?_) #[true, true, false, false, true, true, true, false, false] rfl rfl (take_ofW HT_.out HW_.out (by kernel_rfl)) (fun _ _ _ h => h) (Or.inl ⟨by rfl, ?_⟩) hHeld ?_ ?_
        rotate_left
        · rintro w' ⟨s0, s1, s2⟩
          go_simp
          with_reducible rfl
        rotate_left
        · simp only [Act.put, List.setIfInBounds_toArray, List.set_cons_zero, List.set_cons_succ, i64_w, i32_w]
          rfl
        refine one_ (i := 2) (N := some 104) #[true, true, true, false, true, true, true, false, false] rfl rfl (one_of HT_.out (by kernel_rfl)) (by decide) (fun K hK => ?_)
        refine Kd.R_lit_step k62 (w0 := W) W.heap.size 62 ?hg (N := 104) ?hd (xs := ([(⟨a, b, lev⟩ : S62)] : List S62)) (inner := [.string a, .string b, .int .i64 lev]) (ok := fun _ => True) (okp := fun _ => True) ?hr ?hp (fun _ hk => hk) trivial HWD.out HWD.out.size (by simp) ?_; (case hd => rfl); (case hg => rfl); (case hr => first | (go_simp; done) | (go_simp; rfl)); (case hp => exact (Reps.c3 (k62_mkM _ _ _ (⟨a, b, lev⟩ : S62)) (Reps.none _ _)))
        intro v4 x4 ho hb hgr hfr
        have HB4 := Aside0.mk hb
        have HK4 := Aside0.mk ((hgr.block W.heap.size (blk_lt HKD.out) (by simp)).trans HKD.out)
        have HO3b := Aside0.mk (Kd.R_grown HOD.out hgr (fun q _ e => by cases e))
        have HS4 := Aside0.mk hgr.size
        obtain ⟨A4, c4, hv4⟩ := Kd.R_slice ho
        have hv4 : v4 = .slice A4 1 c4 := hv4
        subst hv4
        have HO4 := Aside0.mk ho
        clear ho hb hgr hfr
        refine hK.out _ _ ⟨(blk_cell HK4.out 0).trans rfl, (blk_cell HK4.out 1).trans rfl, (blk_cell HK4.out 2).trans rfl⟩ (fun hHeld => ?_)
        clear hK K
        refine norm_ (a' := ?_) ?_ ?_
        rotate_left
        · show Act.put _ (some 104) _ = _
          simp only [Act.put, List.setIfInBounds_toArray, List.set_cons_zero, List.set_cons_succ, i64_w, i32_w]
          rfl
        refine one_ (i := 3) (N := some 105) #[true, true, true, true, true, true, true, false, false] rfl rfl (one_of HT_.out (by kernel_rfl)) (by decide) (fun K hK => ?_)
        refine Kd.R_append_rows_step k62 (Rr := k62.K x4) (w0 := W) W.heap.size (by rfl) (.tmp 102) (.tmp 104) 55 62 (.agg #[.string ⟨#[]⟩, .string ⟨#[]⟩, .int .i64 0]) 40 rfl Tryz.underlying55 (by kernel_rfl) rfl (by decide) (by omega) v3 ((f.units.map toU).take E) [(⟨a, b, lev⟩ : S62)] A4 1 c4 (fun _ => True) (fun _ => False) rfl rfl HO3b.out (Kd.R_reads' HO4.out).2.2 (fun x cs h => by rw [k62_open h]; exact k62_mkM _ _ _ _) (fun _ h => h.elim) (fun _ _ => trivial) HB4.out HB4.out.size (by rw [List.length_take, List.length_map]; omega) ?_
        intro v5 x5 ho hb hgr hfr
        have HB5 := Aside0.mk hb
        have HK5 := Aside0.mk ((hgr.block W.heap.size (blk_lt HK4.out) (fun e => HN3.out _ e.symm rfl)).trans HK4.out)
        have HN5 := Aside0.mk (fun q (h : v5.ownBlock = some q) (e : q = W.heap.size) => (show False by rcases hfr with hfr | ⟨b_, h1, h2⟩; (rw [hfr] at h; exact HN3.out q h e); (rw [h1] at h; injection h with h; have := blk_lt HK4.out; omega)))
        have HO5 := Aside0.mk ho
        clear ho hb hgr hfr
        refine hK.out _ _ ⟨(blk_cell HK5.out 0).trans rfl, (blk_cell HK5.out 1).trans rfl, (blk_cell HK5.out 2).trans rfl⟩ (fun hHeld => ?_)
        clear hK K
        refine norm_ (a' := ?_) ?_ ?_
        rotate_left
        · show Act.put _ (some 105) _ = _
          simp only [Act.put, List.setIfInBounds_toArray, List.set_cons_zero, List.set_cons_succ, i64_w, i32_w]
          rfl
        refine one_ (i := 7) (N := some 109) #[true, true, true, true, true, true, true, true, false] rfl rfl (one_of HT_.out (by kernel_rfl)) (by decide) (fun K hK => ?_)
        refine Kd.R_append_rows_step k62 (Rr := k62.K x5) (w0 := W) W.heap.size (by rfl) (.tmp 105) (.tmp 108) 55 62 (.agg #[.string ⟨#[]⟩, .string ⟨#[]⟩, .int .i64 0]) 40 rfl Tryz.underlying55 (by kernel_rfl) rfl (by decide) (by omega) v5 ((f.units.map toU).take E ++ [(⟨a, b, lev⟩ : S62)]) ((f.units.map toU).drop E) _ (f.units.length - E) _ (fun _ => True) (fun _ => False) rfl rfl HO5.out (HDR.out E _ HB5.out HEL.out) (fun x cs h => by rw [k62_open h]; exact k62_mkM _ _ _ _) (fun _ h => h.elim) (fun _ _ => trivial) HB5.out HB5.out.size (by rw [List.length_append, List.length_take, List.length_map]; simp only [List.length_cons, List.length_nil]; omega) ?_
        intro v6 x6 ho hb hgr hfr
        have HB6 := Aside0.mk hb
        have HK6 := Aside0.mk ((hgr.block W.heap.size (blk_lt HK5.out) (fun e => HN5.out _ e.symm rfl)).trans HK5.out)
        obtain ⟨A6, c6, hv6⟩ := Kd.R_slice ho
        rw [HLEN.out] at hv6
        subst hv6
        have HO6 := Aside0.mk ho
        clear ho hb hgr hfr
        refine hK.out _ _ ⟨(blk_cell HK6.out 0).trans rfl, (blk_cell HK6.out 1).trans rfl, (blk_cell HK6.out 2).trans rfl⟩ (fun hHeld => ?_)
        clear hK K
        refine norm_ (a' := ?_) ?_ ?_
        rotate_left
        · show Act.put _ (some 109) _ = _
          simp only [Act.put, List.setIfInBounds_toArray, List.set_cons_zero, List.set_cons_succ, i64_w, i32_w]
          rfl
        refine pure_ (i := 8) (N := some 19) (v := ?_) (a' := ?_) #[true, true, true, true, true, true, true, true, true] rfl rfl (any_of HT_.out (by kernel_rfl)) (fun _ _ _ h => h) (Or.inl ⟨by rfl, ?_⟩) ?_ ?_
        rotate_left
        · intro w'
          go_simp
          with_reducible rfl
        rotate_left
        · simp only [Act.put, List.setIfInBounds_toArray, List.set_cons_zero, List.set_cons_succ, i64_w, i32_w]
          rfl
        refine done_ (done_of HT_.out (by kernel_rfl)) ?_
        generalize (if cu = E then some ad else some (ad.add (E * 3))) = pE
        have hPi := HPE.out
        rw [aboveOf_here (show lv f.units i < lev by rw [← HLV0.out]; have := HLV2.out; simp at this; omega)] at hPi
        subst hPi
        clear hPw
        go_wp2_with fail
        go_loopw [21] (fun s wr => ∃ t : Nat, s = .int .i64 t ∧ i + 1 ≤ t ∧ t ≤ EP ∧ Aside0 (Below x6.heap.size x6 wr) ∧ Aside0 (∀ q, i < q → q < t → dupAt f.units lev a q = false)) (fun s _ => EP - (intOf s).toNat)
        case atStart => exact ⟨i + 1, by go_num, by omega, HEP1.out, ⟨Below.refl _ _⟩, ⟨fun q h1 h2 => by omega⟩⟩
        case round =>
          obtain ⟨t, rfl, ht1, ht2, HBX6, HND⟩ := hrel
          have HBW := Aside0.mk (HB6.out.trans (HBX6.out.mono HB6.out.size))
          go_wp2_with fail
          refine (under_c (some ad) cu i f.units _ (HUC.out _ HBW.out) hcu HPL.out).mono ?_
          rintro e w7 ⟨rfl, ⟨m7, rfl⟩⟩
          rw [← HEP.out]
          have HBX7 := Aside0.mk (pw_below_drewN HBX6.out m7)
          generalize wr.drewN m7 = w7 at HBX7 ⊢
          have HBW7 := Aside0.mk (HB6.out.trans (HBX7.out.mono HB6.out.size))
          have hbk7 := (HBX7.out.block W.heap.size (blk_lt HK6.out)).trans HK6.out
          clear HBX6 HBW
          by_cases hlt : t < EP
          · have hltz : (t : Int) < (EP : Int) := by omega
            have htl : t < f.units.length := by have := HEPL.out; omega
            have htz : (t : Int) < (f.units.length : Int) := by omega
            have ht0 : decide ((t : Int) < 0) = false := decide_eq_false (by omega)
            obtain ⟨ad', he', z0, _, z2⟩ := at_units (HUC.out _ HBW7.out) t htl
            injection he' with he'
            subst he'
            have e2 : w7.cell? ⟨W.heap.size, 2, none⟩ = some (.int .i64 lev) := (blk_cell hbk7 2).trans rfl
            have e0 : w7.cell? ⟨W.heap.size, 0, none⟩ = some (.string a) := (blk_cell hbk7 0).trans rfl
            have HDUP := Aside0.mk (show dupAt f.units lev a t = (decide (f.units[t].f2 = lev) && !decide (a = ⟨#[]⟩) && decide (f.units[t].f0 = a)) by unfold dupAt lv nm; rw [rd_get _ _ htl])
            generalize hl_ : f.units[t].f2 = lt_ at z2 HDUP
            generalize hn_ : f.units[t].f0 = nt_ at z0 HDUP
            clear hl_ hn_ hbk7
            by_cases c1 : lt_ = lev
            · have s1 : (lt_ == lev) = true := by simpa using c1
              by_cases c2 : a = ⟨#[]⟩
              · have s2 : (a.toList == []) = true := by rw [c2, ByteArray.toList_eq]; rfl
                have HND2 := Aside0.mk (nodup_next HND.out (show dupAt f.units lev a t = false by rw [HDUP.out, decide_eq_true c2]; simp))
                clear c1 c2
                go_wp2_with fail
                go_quiet (fail)
                go_wp2_with fail
                go_roundw
                case rel => exact ⟨t + 1, by go_num, by omega, by omega, ⟨pw_below_drewN HBX7.out _⟩, HND2⟩
                case measure => (simp [intOf]; try omega)
              · have s2 : (a.toList == []) = false := by
                  have := beq_no c2
                  rw [ByteArray.toList_eq ⟨#[]⟩] at this
                  exact this
                by_cases c3 : nt_ = a
                · have s3 : (nt_.toList == a.toList) = true := by rw [c3]; exact beq_yes _
                  have HM := Aside0.mk (show mInsert st u n (i : Int) true a b = (7, st) by
                    have := HMI.out
                    rw [HPE.out, clash_yes (t := t) HPL.out HPV.out (by omega) (by rw [← HEP.out]; exact hlt) (by rw [HDUP.out, decide_eq_true c1, decide_eq_false c2, decide_eq_true c3]; rfl), if_neg (HNB.out)] at this
                    rw [this, if_pos (.inl rfl)]
                    rfl)
                  clear c1 c2 c3
                  go_wp2_with fail
                  go_quiet (fail)
                  go_wp2
                  refine bodyPost_ret (v := .int .i64 7) (by simp [results, Tryz.f31, go_sem]) rfl ?_
                  exact ROut.stay HRR.out (pw_below_drewN HBW7.out _) (by rw [HM.out]) (by rw [HM.out])
                · have s3 := beq_no c3
                  have HND2 := Aside0.mk (nodup_next HND.out (show dupAt f.units lev a t = false by rw [HDUP.out, decide_eq_false c3]; simp))
                  clear c1 c2 c3
                  go_wp2_with fail
                  go_quiet (fail)
                  go_wp2_with fail
                  go_roundw
                  case rel => exact ⟨t + 1, by go_num, by omega, by omega, ⟨pw_below_drewN HBX7.out _⟩, HND2⟩
                  case measure => (simp [intOf]; try omega)
            · have s1 : (lt_ == lev) = false := by simpa using c1
              have HND2 := Aside0.mk (nodup_next HND.out (show dupAt f.units lev a t = false by rw [HDUP.out, decide_eq_false c1]; rfl))
              clear c1
              go_wp2_with fail
              go_quiet (fail)
              go_wp2_with fail
              go_roundw
              case rel => exact ⟨t + 1, by go_num, by omega, by omega, ⟨pw_below_drewN HBX7.out _⟩, HND2⟩
              case measure => (simp [intOf]; try omega)
          · have hltz : ¬ (t : Int) < (EP : Int) := by omega
            have hcb := clash_none HPL.out HPV.out (fun q h1 h2 => HND.out q h1 (by rw [← HEP.out] at h2; omega))
            have HMI2 := Aside0.mk (show mInsert st u n (i : Int) true a b = if denied ac 2 = 12 ∨ 100 ≤ f.units.length then (insErr false (denied ac 2), st) else (0, st.set k (f.ins u i ⟨a, b, lev⟩)) by
              have := HMI.out
              rw [HPE.out, hcb, if_neg HNB.out] at this
              rw [this]
              simp)
            clear hcb
            rcases denied_cases ac 2 with hd0 | hd12
            · have gW : decide (bits .and .i64 2 ac = 2) = true := by rw [within_den ac 2 1 (by decide) rfl, hd0]; rfl
              by_cases hfull : f.units.length = 100
              · have HM := Aside0.mk (show mInsert st u n (i : Int) true a b = (9, st) by rw [HMI2.out, if_pos (.inr (by omega)), hd0]; rfl)
                have s9 : ((f.units.length : Int) == 100) = true := by rw [hfull]; rfl
                clear hd0 hfull hlt
                go_wp2_with fail
                refine (rwithin_c 2 ac _).mono ?_
                rintro e w' ⟨rfl, rfl⟩
                go_wp2
                refine bodyPost_ret (v := .int .i64 9) (by simp [results, Tryz.f31, go_sem]) rfl ?_
                exact ROut.stay HRR.out HBW7.out (by rw [HM.out]) (by rw [HM.out])
              · have HM := Aside0.mk (show mInsert st u n (i : Int) true a b = (0, st.set k (f.ins u i ⟨a, b, lev⟩)) by rw [HMI2.out, if_neg (by omega)])
                have s9 : ((f.units.length : Int) == 100) = false := by simp; omega
                have s9b : ¬ (f.units.length : Int) = 100 := by omega
                have CC := Aside0.mk (show Calls Tryz.prog 75 #[.pointer (some ⟨rb, 0, none⟩), .int .i64 (k : Int), .string u, .slice A6 N c6] w7 (ROut W ok rb (.int .i64 0) (st.set k (f.ins u i ⟨a, b, lev⟩))) by
                  have := rchanged_out (who := u) (l := (f.ins u i ⟨a, b, lev⟩).units) (Al := A6) (cl := c6) HH.out HK.out HT.out HBW7.out (by
                    rw [← HN.out]
                    have h := Kd.R_below HO6.out HBX7.out
                    unfold AF.ins
                    simp only [List.map_append, List.map_cons, List.map_take, List.map_drop]
                    rw [← HE.out]
                    rw [List.append_assoc] at h
                    exact h)
                  rw [← HN.out] at this
                  exact this)
                clear hd0 hfull hlt
                go_wp2_with fail
                refine (rwithin_c 2 ac _).mono ?_
                rintro e w' ⟨rfl, rfl⟩
                go_wp2_with fail
                refine CC.out.mono ?_
                rintro e w9 ⟨rfl, hR'⟩
                have HR9 := Aside0.mk hR'
                clear hR'
                go_wp2
                refine bodyPost_ret (v := .int .i64 0) (by simp [results, Tryz.f31, go_sem]) rfl ?_
                rw [HM.out]
                exact ⟨rfl, HR9.out⟩
            · have gW : decide (bits .and .i64 2 ac = 2) = false := by rw [within_den ac 2 1 (by decide) rfl, hd12]; rfl
              have HM := Aside0.mk (show mInsert st u n (i : Int) true a b = (12, st) by rw [HMI2.out, if_pos (.inl hd12), hd12]; rfl)
              clear hd12 hlt
              go_wp2_with fail
              refine (rwithin_c 2 ac _).mono ?_
              rintro e w' ⟨rfl, rfl⟩
              go_wp2
              refine bodyPost_ret (v := .int .i64 12) (by simp [results, Tryz.f31, go_sem]) rfl ?_
              exact ROut.stay HRR.out HBW7.out (by rw [HM.out]) (by rw [HM.out])
end Go.Proofs.YtehlmkgldcfciaaGreat.Files
