/- The parts of this proof that lie in one text. -/
import Derived.Test.YtehlmkgldcfciaaGreatGN11
import Derived.Test.YtehlmkgldcfciaaGreatGN1
import Derived.Test.YtehlmkgldcfciaaGreatGN7
import Derived.Test.YtehlmkgldcfciaaGreatWRepsOne
import Derived.Test.YtehlmkgldcfciaaGreatGN8
import Derived.BigQuiet
/- The reference's store: Open. -/
set_option linter.unusedVariables false
set_option linter.unusedSimpArgs false
namespace Go.Proofs.YtehlmkgldcfciaaGreat.Files
open Go.Proofs.YtehlmkgldcfciaaGreat.Common Go.Maps Go.ChangeMaps Go.WideMaps Go.Proofs.YtehlmkgldcfciaaGreat.F
open Go.RowKit Go.Proofs.YtehlmkgldcfciaaGreatW.PrintWords Go.Proofs.YtehlmkgldcfciaaGreatW.PrintLast Go.Proofs.YtehlmkgldcfciaaGreatW.PrintMore
def freeP (a x : Int) (p : ByteArray × (Int × Int)) : Bool := decide (bits .and .i64 p.2.2 a = 0) && decide (bits .and .i64 x p.2.1 = 0)
theorem sub_within (x a : Int) (hx : setB x = true) : decide (bits .and .i64 x a = x) = decide (bits .andNot .i64 x a = 0) := by
  unfold setB at hx
  simp only [Bool.and_eq_true, decide_eq_true_eq] at hx
  obtain ⟨m, rfl⟩ : ∃ m : Nat, x = (m : Int) := ⟨x.toNat, by omega⟩
  have e1 : bits .and .i64 (m : Int) a = IntKind.i64.wrap ((BitVec.ofInt 64 (m : Int) &&& BitVec.ofInt 64 a).toNat : Int) := rfl
  have e2 : bits .andNot .i64 (m : Int) a = IntKind.i64.wrap ((BitVec.ofInt 64 (m : Int) &&& ~~~ (BitVec.ofInt 64 a)).toNat : Int) := rfl
  have hm : (BitVec.ofInt 64 (m : Int)).toNat = m := by rw [BitVec.ofInt_natCast, BitVec.toNat_ofNat, Nat.mod_eq_of_lt (by omega)]
  have h1 : (BitVec.ofInt 64 (m : Int) &&& BitVec.ofInt 64 a).toNat ≤ m := by rw [BitVec.toNat_and, hm]; exact Nat.and_le_left
  have h2 : (BitVec.ofInt 64 (m : Int) &&& ~~~ (BitVec.ofInt 64 a)).toNat ≤ m := by rw [BitVec.toNat_and, hm]; exact Nat.and_le_left
  rw [e1, e2, wrap_small _ (by omega), wrap_small _ (by omega)]
  generalize BitVec.ofInt 64 a = Y at *
  generalize hX : BitVec.ofInt 64 (m : Int) = X at *
  rw [decide_eq_decide]
  constructor
  · intro h
    have h3 : X &&& Y = X := BitVec.eq_of_toNat_eq (by omega)
    have h4 : X &&& ~~~ Y = 0#64 := by
      rw [← h3]
      apply BitVec.eq_of_getLsbD_eq
      intro i hi
      simp only [BitVec.getLsbD_and, BitVec.getLsbD_not, BitVec.getLsbD_zero, hi, decide_true, Bool.true_and]
      cases X.getLsbD i <;> cases Y.getLsbD i <;> rfl
    rw [h4]; rfl
  · intro h
    have h3 : X &&& ~~~ Y = 0#64 := BitVec.eq_of_toNat_eq (by rw [show (0#64).toNat = 0 from rfl]; omega)
    have h4 : X &&& Y = X := by
      apply BitVec.eq_of_getLsbD_eq
      intro i hi
      have := congrArg (fun z => z.getLsbD i) h3
      simp only [BitVec.getLsbD_and, BitVec.getLsbD_not, BitVec.getLsbD_zero, hi, decide_true, Bool.true_and] at this ⊢
      cases h5 : X.getLsbD i <;> cases h6 : Y.getLsbD i <;> simp_all
    rw [h4, hm]
theorem k95_own {W : World} {base : Nat} {ok ok' : Nat → Prop} {v : Value} {xs : List S95} (h : k95.R 95 W base ok v xs) (h' : ∀ q, v.ownBlock = some q → ok' q) : k95.R 95 W base ok' v xs :=
  ⟨h', h.2.imp_ (fun x cs h => by rw [k95_openM h]; exact k95_mkM _ _ _ _)⟩
theorem R_ltx {α : Type} {d : Kd α} {e : Nat} {w : World} {base : Nat} {ok : Nat → Prop} {v : Value} {xs : List α} (h : d.R e w base ok v xs) : ∀ q, v.ownBlock = some q → q < w.heap.size := by
  obtain ⟨_, inner, hown, _⟩ := h
  exact fun q hq => own_lt hown q hq
def ROpen.T16 : Bool × List (List Nat × List Nat) := (true, [([], []), ([0], [0]), ([1], [1]), ([2], [2]), ([], []), ([], []), ([], []), ([6], [6]), ([5, 7], [5, 7]), ([], []), ([], []), ([], []), ([9, 10, 11], [9, 10, 11]), ([12], [12]), ([8, 13, 8], [8, 13]), ([3, 4, 0, 1, 2, 3, 4, 5, 6, 7, 8, 9, 10, 11, 12, 13, 14], [3, 4]), ([15, 0, 1, 2, 3, 4, 5, 6, 7, 8, 9, 10, 11, 12, 13, 14], [15]), ([16, 14, 14, 0, 1, 2, 3, 4, 5, 6, 7, 8, 9, 10, 11, 12, 13, 14], [14, 16])])
def ROpen.B16 : List Nat := [0, 1, 3, 7, 0, 0, 0, 64, 224, 0, 0, 0, 3584, 7680, 16352, 32767, 65535, 131071]
theorem ROpen.tab16 : rtab .any (opsOf Tryz.f21 16) = ROpen.T16 := by kernel_rfl
theorem ROpen.bits16 : waitsOk ROpen.T16.2 ROpen.B16 = true := by kernel_rfl
set_option maxRecDepth 100000 in
set_option maxHeartbeats 4000000 in
theorem rOpen_c (rb c : Nat) (ok : Nat → Prop) (st : Fs) (A : Option Addr) (u n : ByteArray) (a x : Int) (W : World) (h : RParts W ok rb st A c) (hI : RInv st) :
    Calls Tryz.prog 21 #[.pointer (some ⟨rb, 0, none⟩), .string u, .string n, .int .i64 a, .int .i64 x] W (ROut W ok rb (.int .i64 (mOpen st u n a x).1) (mOpen st u n a x).2) := by
  have C56 := Aside0.mk (rbad_c rb u n W h.c0)
  have CF := Aside0.mk (find_c rb c ok st A n W h)
  have HRR := Aside0.mk (show RRep W ok rb st from ⟨A, c, h⟩)
  have c1 := h.c1
  have CA := Aside0.mk (rset_c a W)
  have CX := Aside0.mk (rset_c x W)
  have CW := Aside0.mk (rwithin_c x a W)
  cases hbad : (userB u && nameB n) with
  | false =>
    rw [hbad] at C56
    have HM := Aside0.mk (show mOpen st u n a x = (1, st) by unfold mOpen; split <;> first | rfl | rw [mFound_bad hbad])
    clear h hbad c1 CF hI
    go_enter Tryz.func21, Tryz.ntmps21
    go_wp2_with first | (go_at_call 56; refine C56.out.mono ?_; rintro e w' ⟨rfl, rfl⟩)
    refine bodyPost_ret (v := .int .i64 1) (by simp [results, Tryz.f21, go_sem]) rfl ?_
    exact ROut.stay HRR.out (Below.refl _ _) (by rw [HM.out]) (by rw [HM.out])
  | true =>
    rw [hbad] at C56
    cases ha : setB a with
    | false =>
      rw [ha] at CA
      have HM := Aside0.mk (show mOpen st u n a x = (1, st) by unfold mOpen okSets; rw [ha]; rfl)
      clear h hbad c1 CF hI CX
      go_enter Tryz.func21, Tryz.ntmps21
      go_wp2_with first | (go_at_call 56; refine C56.out.mono ?_; rintro e w' ⟨rfl, rfl⟩) | (go_at_call 57; first | (with_reducible refine CA.out.mono ?_; rintro e w' ⟨rfl, rfl⟩) | (with_reducible refine CA.out.mono ?_; rintro e w' ⟨rfl, rfl⟩) | (refine CA.out.mono ?_; rintro e w' ⟨rfl, rfl⟩) | (refine CA.out.mono ?_; rintro e w' ⟨rfl, rfl⟩))
      refine bodyPost_ret (v := .int .i64 1) (by simp [results, Tryz.f21, go_sem]) rfl ?_
      exact ROut.stay HRR.out (Below.refl _ _) (by rw [HM.out]) (by rw [HM.out])
    | true =>
    rw [ha] at CA
    cases hx : setB x with
    | false =>
      rw [hx] at CX
      have HM := Aside0.mk (show mOpen st u n a x = (1, st) by unfold mOpen okSets; rw [ha, hx]; rfl)
      clear h hbad c1 CF hI
      go_enter Tryz.func21, Tryz.ntmps21
      go_wp2_with first | (go_at_call 56; refine C56.out.mono ?_; rintro e w' ⟨rfl, rfl⟩) | (go_at_call 57; first | (with_reducible refine CA.out.mono ?_; rintro e w' ⟨rfl, rfl⟩) | (with_reducible refine CX.out.mono ?_; rintro e w' ⟨rfl, rfl⟩) | (refine CA.out.mono ?_; rintro e w' ⟨rfl, rfl⟩) | (refine CX.out.mono ?_; rintro e w' ⟨rfl, rfl⟩))
      refine bodyPost_ret (v := .int .i64 1) (by simp [results, Tryz.f21, go_sem]) rfl ?_
      exact ROut.stay HRR.out (Below.refl _ _) (by rw [HM.out]) (by rw [HM.out])
    | true =>
    rw [hx] at CX
    have HSW := Aside0.mk (sub_within x a hx)
    cases hw : decide (bits .and .i64 x a = x) with
    | false =>
      rw [hw] at CW
      have HM := Aside0.mk (show mOpen st u n a x = (1, st) by unfold mOpen okSets; rw [ha, hx, ← HSW.out, hw]; rfl)
      clear h hbad c1 CF hI
      go_enter Tryz.func21, Tryz.ntmps21
      go_wp2_with first | (go_at_call 56; refine C56.out.mono ?_; rintro e w' ⟨rfl, rfl⟩) | (go_at_call 57; first | (with_reducible refine CA.out.mono ?_; rintro e w' ⟨rfl, rfl⟩) | (with_reducible refine CX.out.mono ?_; rintro e w' ⟨rfl, rfl⟩) | (refine CA.out.mono ?_; rintro e w' ⟨rfl, rfl⟩) | (refine CX.out.mono ?_; rintro e w' ⟨rfl, rfl⟩)) | (go_at_call 61; refine CW.out.mono ?_; rintro e w' ⟨rfl, rfl⟩)
      refine bodyPost_ret (v := .int .i64 1) (by simp [results, Tryz.f21, go_sem]) rfl ?_
      exact ROut.stay HRR.out (Below.refl _ _) (by rw [HM.out]) (by rw [HM.out])
    | true =>
    rw [hw] at CW
    have HOS := Aside0.mk (show okSets a x = true by unfold okSets; rw [ha, hx, ← HSW.out, hw]; rfl)
    clear ha hx hw
    rcases posI_range st n with ⟨hp, hpf⟩ | ⟨k, f, hp, hpf, hk, hnm⟩
    · rw [hp] at CF
      have HM := Aside0.mk (show mOpen st u n a x = (3, st) by unfold mOpen; rw [if_neg (by rw [HOS.out]; simp), mFound_none hbad hpf])
      clear h hbad c1 hI hp hpf
      go_enter Tryz.func21, Tryz.ntmps21
      go_wp2_with first | (go_at_call 56; refine C56.out.mono ?_; rintro e w' ⟨rfl, rfl⟩) | (go_at_call 57; first | (with_reducible refine CA.out.mono ?_; rintro e w' ⟨rfl, rfl⟩) | (with_reducible refine CX.out.mono ?_; rintro e w' ⟨rfl, rfl⟩) | (refine CA.out.mono ?_; rintro e w' ⟨rfl, rfl⟩) | (refine CX.out.mono ?_; rintro e w' ⟨rfl, rfl⟩)) | (go_at_call 61; refine CW.out.mono ?_; rintro e w' ⟨rfl, rfl⟩) | (go_at_call 49; refine CF.out.mono ?_; rintro e w' ⟨rfl, rfl⟩)
      refine bodyPost_ret (v := .int .i64 3) (by simp [results, Tryz.f21, go_sem]) rfl ?_
      exact ROut.stay HRR.out (Below.refl _ _) (by rw [HM.out]) (by rw [HM.out])
    · rw [hp] at CF
      obtain ⟨g, Ar, cr, Au, cu, Ao, co, T⟩ := h.row hk
      have hil : k < st.length := (List.getElem?_eq_some_iff.1 hk).1
      have hlz : (k : Int) < (st.length : Int) := by omega
      have hk0 : decide ((k : Int) < 0) = false := decide_eq_false (by omega)
      have hA := T.hA
      subst hA
      obtain ⟨x0, x1, x2, x3, x4, x5, x6, x7, x8, x9⟩ := T.x
      have HH := Aside0.mk h
      have HT := Aside0.mk T
      have HK := Aside0.mk hk
      have hrb := h.lt rb h.okr
      have hgl := h.glt T
      have hne : g ≠ rb := T.okg.2
      have hne2 : rb ≠ g := Ne.symm hne
      have hul := (hI.users f (List.mem_of_getElem? hk)).1
      have CH := Aside0.mk (fun W' (hb : Below W.heap.size W W') => has_c _ f Ar Au Ao cr cu co u W' (T.In.step (Chg.of_below hb (fun _ => False)) (fun _ _ h => h)))
      have CM := Aside0.mk (fun W' (hb : Below W.heap.size W W') => rmay_c _ f Ar Au Ao cr cu co u a W' (T.In.step (Chg.of_below hb (fun _ => False)) (fun _ _ h => h)))
      unfold RowIs at CH CM
      have HMF := Aside0.mk (mFound_ok hbad hpf)
      have HBX := Aside0.mk (show Below W.heap.size W (W.alloc (.cells #[.string f.F.name, .int .i64 f.F.kind, .int .i64 f.F.perm, .string f.F.owner, .string f.F.last, .int .i64 f.F.ch, .int .i64 f.F.rd, .slice Ar f.rules.length cr, .slice Au f.units.length cu, .slice Ao f.users.length co] 85)) from (Below.refl _ _).alloc (Nat.le_refl _) _)
      have HBK := Aside0.mk (show (W.alloc (.cells #[.string f.F.name, .int .i64 f.F.kind, .int .i64 f.F.perm, .string f.F.owner, .string f.F.last, .int .i64 f.F.ch, .int .i64 f.F.rd, .slice Ar f.rules.length cr, .slice Au f.units.length cu, .slice Ao f.users.length co] 85)).heap[W.heap.size]? = some (.cells #[.string f.F.name, .int .i64 f.F.kind, .int .i64 f.F.perm, .string f.F.owner, .string f.F.last, .int .i64 f.F.ch, .int .i64 f.F.rd, .slice Ar f.rules.length cr, .slice Au f.units.length cu, .slice Ao f.users.length co] 85 (0, 0)) by simpa using heap_alloc_new W _)
      have HUC := Aside0.mk (fun w (hb : Below W.heap.size W w) => (show Kd.C k95 w Ao f.users.length (f.users.map toO) by have := Kd.C_below T.In.oC.2 hb; rwa [List.length_map] at this))
      have HX9 := Aside0.mk x9
      have HC1 := Aside0.mk c1
      have hulz : (f.users.length : Int) ≤ 9223372036854775807 := by omega
      clear h T hnm hpf hp hbad hI hk
      rcases hasI_lookU f.users u with ⟨hh, hlu⟩ | ⟨q, p, hh, hql, hq, hlu⟩
      · have HMH := Aside0.mk (show mOpen st u n a x = if mayB f.F f.rules u a = false then (12, st) else if freeB f.users a x then (0, st.set k (f.opened u a x)) else (12, st) by unfold mOpen; rw [if_neg (by rw [HOS.out]; simp), HMF.out]; simp only [hlu]; rfl)
        rw [hh] at CH
        clear hlu hh
        cases hmay : mayB f.F f.rules u a with
        | false =>
          rw [hmay] at CM
          have HM := Aside0.mk (show mOpen st u n a x = (12, st) by rw [HMH.out, hmay]; rfl)
          clear hmay
          go_enter Tryz.func21, Tryz.ntmps21
          go_wp2_with first | (go_at_call 56; refine C56.out.mono ?_; rintro e w' ⟨rfl, rfl⟩) | (go_at_call 57; first | (with_reducible refine CA.out.mono ?_; rintro e w' ⟨rfl, rfl⟩) | (with_reducible refine CX.out.mono ?_; rintro e w' ⟨rfl, rfl⟩) | (refine CA.out.mono ?_; rintro e w' ⟨rfl, rfl⟩) | (refine CX.out.mono ?_; rintro e w' ⟨rfl, rfl⟩)) | (go_at_call 61; refine CW.out.mono ?_; rintro e w' ⟨rfl, rfl⟩) | (go_at_call 49; refine CF.out.mono ?_; rintro e w' ⟨rfl, rfl⟩)
          refine (CH.out _ HBX.out).mono ?_
          rintro e w2 ⟨rfl, hb2⟩
          have HB2 := Aside0.mk (HBX.out.trans (hb2.mono HBX.out.size))
          have hbk2 := (hb2.block W.heap.size (by simp)).trans HBK.out
          have e0 : w2.cell? ⟨W.heap.size, 0, none⟩ = _ := (blk_cell hbk2 0).trans rfl
          have e1 : w2.cell? ⟨W.heap.size, 1, none⟩ = _ := (blk_cell hbk2 1).trans rfl
          have e2 : w2.cell? ⟨W.heap.size, 2, none⟩ = _ := (blk_cell hbk2 2).trans rfl
          have e3 : w2.cell? ⟨W.heap.size, 3, none⟩ = _ := (blk_cell hbk2 3).trans rfl
          have e4 : w2.cell? ⟨W.heap.size, 4, none⟩ = _ := (blk_cell hbk2 4).trans rfl
          have e5 : w2.cell? ⟨W.heap.size, 5, none⟩ = _ := (blk_cell hbk2 5).trans rfl
          have e6 : w2.cell? ⟨W.heap.size, 6, none⟩ = _ := (blk_cell hbk2 6).trans rfl
          have e7 : w2.cell? ⟨W.heap.size, 7, none⟩ = _ := (blk_cell hbk2 7).trans rfl
          have e8 : w2.cell? ⟨W.heap.size, 8, none⟩ = _ := (blk_cell hbk2 8).trans rfl
          have e9 : w2.cell? ⟨W.heap.size, 9, none⟩ = _ := (blk_cell hbk2 9).trans rfl
          have HBK2 := Aside0.mk hbk2
          clear hb2 hbk2 x0 x1 x2 x3 x4 x5 x6 x7 x8 x9
          go_wp2_with fail
          refine (CM.out _ HB2.out).mono ?_
          rintro e w3 ⟨rfl, hb3⟩
          go_wp2
          refine bodyPost_ret (v := .int .i64 12) (by simp [results, Tryz.f21, go_sem]) rfl ?_
          exact ROut.stay HRR.out (HB2.out.trans (hb3.mono HB2.out.size)) (by rw [HM.out]) (by rw [HM.out])
        | true =>
          rw [hmay] at CM
          have HMY := Aside0.mk (show mOpen st u n a x = if freeB f.users a x then (0, st.set k (f.opened u a x)) else (12, st) by rw [HMH.out, hmay]; rfl)
          clear hmay HMH
          go_enter Tryz.func21, Tryz.ntmps21
          go_wp2_with first | (go_at_call 56; refine C56.out.mono ?_; rintro e w' ⟨rfl, rfl⟩) | (go_at_call 57; first | (with_reducible refine CA.out.mono ?_; rintro e w' ⟨rfl, rfl⟩) | (with_reducible refine CX.out.mono ?_; rintro e w' ⟨rfl, rfl⟩) | (refine CA.out.mono ?_; rintro e w' ⟨rfl, rfl⟩) | (refine CX.out.mono ?_; rintro e w' ⟨rfl, rfl⟩)) | (go_at_call 61; refine CW.out.mono ?_; rintro e w' ⟨rfl, rfl⟩) | (go_at_call 49; refine CF.out.mono ?_; rintro e w' ⟨rfl, rfl⟩)
          refine (CH.out _ HBX.out).mono ?_
          rintro e w2 ⟨rfl, hb2⟩
          have HB2 := Aside0.mk (HBX.out.trans (hb2.mono HBX.out.size))
          have hbk2 := (hb2.block W.heap.size (by simp)).trans HBK.out
          have e0 : w2.cell? ⟨W.heap.size, 0, none⟩ = _ := (blk_cell hbk2 0).trans rfl
          have e1 : w2.cell? ⟨W.heap.size, 1, none⟩ = _ := (blk_cell hbk2 1).trans rfl
          have e2 : w2.cell? ⟨W.heap.size, 2, none⟩ = _ := (blk_cell hbk2 2).trans rfl
          have e3 : w2.cell? ⟨W.heap.size, 3, none⟩ = _ := (blk_cell hbk2 3).trans rfl
          have e4 : w2.cell? ⟨W.heap.size, 4, none⟩ = _ := (blk_cell hbk2 4).trans rfl
          have e5 : w2.cell? ⟨W.heap.size, 5, none⟩ = _ := (blk_cell hbk2 5).trans rfl
          have e6 : w2.cell? ⟨W.heap.size, 6, none⟩ = _ := (blk_cell hbk2 6).trans rfl
          have e7 : w2.cell? ⟨W.heap.size, 7, none⟩ = _ := (blk_cell hbk2 7).trans rfl
          have e8 : w2.cell? ⟨W.heap.size, 8, none⟩ = _ := (blk_cell hbk2 8).trans rfl
          have e9 : w2.cell? ⟨W.heap.size, 9, none⟩ = _ := (blk_cell hbk2 9).trans rfl
          have HBK2 := Aside0.mk hbk2
          clear hb2 hbk2 x0 x1 x2 x3 x4 x5 x6 x7 x8 x9
          go_wp2_with fail
          refine (CM.out _ HB2.out).mono ?_
          rintro e w3 ⟨rfl, hb3⟩
          have HB := Aside0.mk (HB2.out.trans (hb3.mono HB2.out.size))
          have hbk3 := (hb3.block W.heap.size (Nat.lt_of_lt_of_le (blk_lt HBK2.out) (Nat.le_refl _))).trans HBK2.out
          have d9 : w3.cell? ⟨W.heap.size, 9, none⟩ = some (.slice Ao f.users.length co) := (blk_cell hbk3 9).trans rfl
          have d1 : w3.cell? ⟨rb, 1, none⟩ = some (.slice (some ⟨g, 0, none⟩) st.length c) := (HB.out.cell (p := ⟨rb, 1, none⟩) hrb).trans HC1.out
          clear hb3 hbk3 e0 e1 e2 e3 e4 e5 e6 e7 e8 e9 c1
          go_wp2_with fail
          go_loopw [13] (fun s wr => ∃ j : Nat, s = .int .i64 j ∧ j ≤ f.users.length ∧ w3 = wr ∧ Aside0 (∀ q, q < j → freeP a x (f.users.getD q (⟨#[]⟩, 0, 0)) = true)) (fun s _ => f.users.length - (intOf s).toNat)
          case atStart => exact ⟨0, rfl, by omega, rfl, ⟨fun q hq => absurd hq (by omega)⟩⟩
          case round =>
           obtain ⟨j, rfl, hj, rfl, HF⟩ := hrel
           by_cases hlt : j < f.users.length
           · have hltz : (j : Int) < (f.users.length : Int) := by omega
             have hj0 : decide ((j : Int) < 0) = false := decide_eq_false (by omega)
             obtain ⟨ad, rfl, y0, y1, y2⟩ := at_users (by have := HUC.out w3 HB.out; rw [← List.length_map (f := toO)] at this; exact this) j hlt
             have HG := Aside0.mk (show f.users.getD j (⟨#[]⟩, 0, 0) = f.users[j] by rw [List.getD_eq_getElem?_getD, List.getElem?_eq_getElem hlt]; rfl)
             have HME := Aside0.mk (List.getElem_mem hlt)
             generalize f.users[j] = p at y0 y1 y2 HG HME
             cases hfp : freeP a x p with
             | false =>
               have HM := Aside0.mk (show mOpen st u n a x = (12, st) by
                 rw [HMY.out, if_neg]
                 intro hc
                 have := List.all_eq_true.1 hc p HME.out
                 unfold freeP at hfp
                 rw [hfp] at this
                 cases this)
               unfold freeP at hfp
               by_cases h1 : bits .and .i64 p.2.2 a = 0
               · have g1 : (bits .and .i64 p.2.2 a == 0) = true := by simpa using h1
                 have g2 : (bits .and .i64 x p.2.1 == 0) = false := by
                   rw [decide_eq_true h1] at hfp
                   simpa using hfp
                 have g3 : ¬ bits .and .i64 x p.2.1 = 0 := by simpa using g2
                 clear hfp
                 go_wp2
                 refine bodyPost_ret (v := .int .i64 12) (by simp [results, Tryz.f21, go_sem]) rfl ?_
                 exact ROut.stay HRR.out HB.out (by rw [HM.out]) (by rw [HM.out])
               · have g1 : (bits .and .i64 p.2.2 a == 0) = false := by simpa using h1
                 clear hfp
                 go_wp2
                 refine bodyPost_ret (v := .int .i64 12) (by simp [results, Tryz.f21, go_sem]) rfl ?_
                 exact ROut.stay HRR.out HB.out (by rw [HM.out]) (by rw [HM.out])
             | true =>
               have HF2 := Aside0.mk (show ∀ q, q < j + 1 → freeP a x (f.users.getD q (⟨#[]⟩, 0, 0)) = true from fun q hq => by
                 by_cases hqj : q = j
                 · subst hqj
                   rw [HG.out]; exact hfp
                 · exact HF.out q (by omega))
               unfold freeP at hfp
               simp only [Bool.and_eq_true, decide_eq_true_eq] at hfp
               have g1 : (bits .and .i64 p.2.2 a == 0) = true := by simpa using hfp.1
               have g2 : (bits .and .i64 x p.2.1 == 0) = true := by simpa using hfp.2
               have g3 := hfp.1
               have g4 := hfp.2
               clear hfp
               go_wp2_with fail
               go_roundw
               case rel => exact ⟨j + 1, by go_num, by omega, by trivial, HF2⟩
               case measure => (simp [intOf]; try omega)
           · have hltz : ¬ (j : Int) < (f.users.length : Int) := by omega
             have HM := Aside0.mk (show mOpen st u n a x = (0, st.set k (f.opened u a x)) by
               rw [HMY.out, if_pos]
               unfold freeB
               rw [List.all_eq_true]
               intro p hp
               obtain ⟨q, hq, rfl⟩ := List.getElem_of_mem hp
               have := HF.out q (by omega)
               rw [List.getD_eq_getElem?_getD, List.getElem?_eq_getElem hq] at this
               exact this)
             obtain ⟨N, hN⟩ : ∃ N, N = (f.opened u a x).users.length := ⟨_, rfl⟩
             have HN := Aside0.mk hN
             have HLEN := Aside0.mk (show (f.users.map toO ++ [(⟨u, a, x⟩ : S95)]).length = N by rw [hN]; simp [AF.opened])
             clear hN
             go_wp2_with fail
             refine start_ (n := 18) (S := fun w' => w'.cell? ⟨rb, 1, none⟩ = some (.slice (some ⟨g, 0, none⟩) st.length c) ∧ w'.cell? ⟨W.heap.size, 9, none⟩ = some (.slice Ao f.users.length co)) (ds := [17]) #[false, false, false, false, false, false, false, false, false, false, false, false, false, false, false, false, false, false] (by kernel_rfl) rfl rfl ⟨d1, d9⟩ (fun hHeld => ?_)
             refine with_tabW ROpen.tab16 ROpen.bits16 (fun HT_ HW_ => ?_)
             have HWD := Aside0.mk (show Below W.heap.size W w3.drew from HB.out.drew)
             generalize w3.drew = wd at HWD hHeld ⊢
             have HF0 := Aside0.mk hHeld
             refine pure_ (i := 0) (N := some 82) (v := ?_) (a' := ?_) #[true, false, false, false, false, false, false, false, false, false, false, false, false, false, false, false, false, false] rfl rfl (any_of HT_.out (by kernel_rfl)) (fun _ _ _ h => h) (Or.inl ⟨by rfl, ?_⟩) ?_ ?_
             rotate_left
             · intro w'
               go_simp
               with_reducible rfl
             rotate_left
             · simp only [Act.put, List.setIfInBounds_toArray, List.set_cons_zero, List.set_cons_succ, i64_w, i32_w]
               rfl
             refine pure_ (i := 1) (N := some 83) (v := ?_) (a' := ?_) #[true, true, false, false, false, false, false, false, false, false, false, false, false, false, false, false, false, false] rfl rfl (any_of HT_.out (by kernel_rfl)) (fun _ _ _ h => h) (Or.inl ⟨by rfl, ?_⟩) ?_ ?_
             rotate_left
             · intro w'
               go_simp
               with_reducible rfl
             rotate_left
             · simp only [Act.put, List.setIfInBounds_toArray, List.set_cons_zero, List.set_cons_succ, i64_w, i32_w]
               rfl
             refine pure_ (i := 2) (N := some 84) (v := ?_) (a' := ?_) #[true, true, true, false, false, false, false, false, false, false, false, false, false, false, false, false, false, false] rfl rfl (any_of HT_.out (by kernel_rfl)) (fun _ _ _ h => h) (Or.inl ⟨by rfl, ?_⟩) ?_ ?_
             rotate_left
             · intro w'
               go_simp
               with_reducible rfl
             rotate_left
             · simp only [Act.put, List.setIfInBounds_toArray, List.set_cons_zero, List.set_cons_succ, i64_w, i32_w]
               rfl
             refine pure_ (i := 4) (N := some 86) (v := ?_) (a' := ?_) #[true, true, true, false, true, false, false, false, false, false, false, false, false, false, false, false, false, false] rfl rfl (any_of HT_.out (by kernel_rfl)) (fun _ _ _ h => h) (Or.inl ⟨by rfl, ?_⟩) ?_ ?_
             rotate_left
             · intro w'
               go_simp
               with_reducible rfl
             rotate_left
             · simp only [Act.put, List.setIfInBounds_toArray, List.set_cons_zero, List.set_cons_succ, i64_w, i32_w]
               rfl
             refine pure_ (i := 6) (N := some 88) (v := ?_) (a' := ?_) #[true, true, true, false, true, false, true, false, false, false, false, false, false, false, false, false, false, false] rfl rfl (any_of HT_.out (by kernel_rfl)) (fun _ _ _ h => h) (Or.inl ⟨by rfl, ?_⟩) ?_ ?_
             rotate_left
             · intro w'
               go_simp
               with_reducible rfl
             rotate_left
             · simp only [Act.put, List.setIfInBounds_toArray, List.set_cons_zero, List.set_cons_succ, i64_w, i32_w]
               rfl
             refine pure_ (i := 9) (N := some 91) (v := ?_) (a' := ?_) #[true, true, true, false, true, false, true, false, false, true, false, false, false, false, false, false, false, false] rfl rfl (any_of HT_.out (by kernel_rfl)) (fun _ _ _ h => h) (Or.inl ⟨by rfl, ?_⟩) ?_ ?_
             rotate_left
             · intro w'
               go_simp
               with_reducible rfl
             rotate_left
             · simp only [Act.put, List.setIfInBounds_toArray, List.set_cons_zero, List.set_cons_succ, i64_w, i32_w]
               rfl
             refine pure_ (i := 10) (N := some 92) (v := ?_) (a' := ?_) #[true, true, true, false, true, false, true, false, false, true, true, false, false, false, false, false, false, false] rfl rfl (any_of HT_.out (by kernel_rfl)) (fun _ _ _ h => h) (Or.inl ⟨by rfl, ?_⟩) ?_ ?_
             rotate_left
             · intro w'
               go_simp
               with_reducible rfl
             rotate_left
             · simp only [Act.put, List.setIfInBounds_toArray, List.set_cons_zero, List.set_cons_succ, i64_w, i32_w]
               rfl
             refine pure_ (i := 11) (N := some 93) (v := ?_) (a' := ?_) #[true, true, true, false, true, false, true, false, false, true, true, true, false, false, false, false, false, false] rfl rfl (any_of HT_.out (by kernel_rfl)) (fun _ _ _ h => h) (Or.inl ⟨by rfl, ?_⟩) ?_ ?_
             rotate_left
             · intro w'
               go_simp
               with_reducible rfl
             rotate_left
             · simp only [Act.put, List.setIfInBounds_toArray, List.set_cons_zero, List.set_cons_succ, i64_w, i32_w]
               rfl
             refine pure_ (i := 12) (N := some 94) (v := ?_) (a' := ?_) #[true, true, true, false, true, false, true, false, false, true, true, true, true, false, false, false, false, false] rfl rfl (any_of HT_.out (by kernel_rfl)) (fun _ _ _ h => h) (Or.inl ⟨by rfl, ?_⟩) ?_ ?_
             rotate_left
             · intro w'
               go_simp
               with_reducible rfl
             rotate_left
             · simp only [Act.put, List.setIfInBounds_toArray, List.set_cons_zero, List.set_cons_succ, i64_w, i32_w]
               rfl
             refine take_ (i := 3) (N := some 85) (v := ?_) (a' := ?_) #[true, true, true, true, true, false, true, false, false, true, true, true, true, false, false, false, false, false] rfl rfl (take_ofW HT_.out HW_.out (by kernel_rfl)) (fun _ _ _ h => h) (Or.inl ⟨by rfl, ?_⟩) hHeld ?_ ?_
             rotate_left
             · rintro w' ⟨s0, s1⟩
               go_simp
               with_reducible rfl
             rotate_left
             · simp only [Act.put, List.setIfInBounds_toArray, List.set_cons_zero, List.set_cons_succ, i64_w, i32_w]
               rfl
             refine take_ (i := 7) (N := some 89) (v := ?_) (a' := ?_) #[true, true, true, true, true, false, true, true, false, true, true, true, true, false, false, false, false, false] rfl rfl (take_ofW HT_.out HW_.out (by kernel_rfl)) (fun _ _ _ h => h) (Or.inl ⟨by rfl, ?_⟩) hHeld ?_ ?_
             rotate_left
             · rintro w' ⟨s0, s1⟩
               go_simp
               with_reducible rfl
             rotate_left
             · simp only [Act.put, List.setIfInBounds_toArray, List.set_cons_zero, List.set_cons_succ, i64_w, i32_w]
               rfl
             refine join_ (σ := Value × Value × Value) 4 #[true, true, true, true, true, true, true, true, true, true, true, true, true, true, false, false, false, false] (fun s => [(87, s.1), (90, s.2.1), (95, s.2.2)]) (fun s w' => Below wd.heap.size wd w' ∧ k95.R 95 w' wd.heap.size (fun _ => True) s.2.1 (f.users.map toO) ∧ k95.R 95 w' wd.heap.size (fun _ => True) s.2.2 [(⟨u, a, x⟩ : S95)] ∧ w'.cell? ⟨rb, 1, none⟩ = some (.slice (some ⟨g, 0, none⟩) st.length c) ∧ w'.cell? ⟨W.heap.size, 9, none⟩ = some (.slice Ao f.users.length co)) ?_ ?_
             rotate_left
             · intro hCont
               refine two_ (i := 5) (j := 13) (Ni := some 87) (Nj := some 95) #[true, true, true, true, true, true, true, true, false, true, true, true, true, false, false, false, false, false] #[true, true, true, true, true, false, true, true, false, true, true, true, true, true, false, false, false, false] rfl rfl rfl rfl (two_of HT_.out (by kernel_rfl)) (by decide) (by decide) (fun K hK => ?_) (fun K hK => ?_)
               · skip
                 refine Kd.R_lit_step k95 (w0 := wd) wd.heap.size 95 ?hg (N := 87) ?hd (xs := ([] : List S95)) (inner := []) (ok := fun q => wd.heap.size ≤ q) (okp := fun _ => False) ?hr ?hp (fun _ h => h.elim) (Nat.le_refl _) (Below.refl _ _) (Nat.le_refl _) (by simp) ?_; (case hd => rfl); (case hg => rfl); (case hr => first | (go_simp; done) | (go_simp; rfl)); (case hp => exact (Reps.none _ _))
                 intro v1 x1 ho hb hgr hfr
                 have HB1 := Aside0.mk hb
                 have HO1 := Aside0.mk ho
                 have HG1 := Aside0.mk hgr
                 have HL1 := Aside0.mk (R_ltx ho)
                 clear ho hb hgr hfr
                 refine hK.out _ _ ⟨pw_cell_below HB1.out HF0.out.1, pw_cell_below HB1.out HF0.out.2⟩ (fun hHeld => ?_)
                 clear hK K
                 refine norm_ (a' := ?_) ?_ ?_
                 rotate_left
                 · show Act.put _ (some 87) _ = _
                   simp only [Act.put, List.setIfInBounds_toArray, List.set_cons_zero, List.set_cons_succ, i64_w, i32_w]
                   rfl
                 refine two_ (i := 8) (j := 13) (Ni := some 90) (Nj := some 95) #[true, true, true, true, true, true, true, true, true, true, true, true, true, false, false, false, false, false] #[true, true, true, true, true, true, true, true, false, true, true, true, true, true, false, false, false, false] rfl rfl rfl rfl (two_of HT_.out (by kernel_rfl)) (by decide) (by decide) (fun K hK => ?_) (fun K hK => ?_)
                 · skip
                   refine Kd.R_append_rows_step k95 (Rr := k95.K x1) (w0 := wd) wd.heap.size (by rfl) (.tmp 87) (.tmp 89) 83 95 (.agg #[.string ⟨#[]⟩, .int .i64 0, .int .i64 0]) 32 rfl Tryz.underlying83 (by kernel_rfl) rfl (by decide) (by omega) v1 [] (f.users.map toO) Ao f.users.length co (fun q => wd.heap.size ≤ q) (fun _ => False) rfl rfl HO1.out (HUC.out _ (HWD.out.trans (HB1.out.mono HWD.out.size))) (fun x cs h => by rw [k95_open h]; exact k95_mkM _ _ _ _) (fun _ h => h.elim) (fun q hq => Nat.le_trans HB1.out.size hq) HB1.out HB1.out.size (by simp only [List.length_nil]; omega) ?_
                   intro v2 x2 ho hb hgr hfr
                   rw [List.nil_append] at ho
                   have HB2 := Aside0.mk hb
                   have HO2 := Aside0.mk (Kd.R_mono ho (fun _ _ => trivial) : k95.R 95 x2 wd.heap.size (fun _ => True) v2 (f.users.map toO))
                   clear ho hb hgr hfr
                   refine hK.out _ _ ⟨pw_cell_below HB2.out HF0.out.1, pw_cell_below HB2.out HF0.out.2⟩ (fun hHeld => ?_)
                   clear hK K
                   refine norm_ (a' := ?_) ?_ ?_
                   rotate_left
                   · show Act.put _ (some 90) _ = _
                     simp only [Act.put, List.setIfInBounds_toArray, List.set_cons_zero, List.set_cons_succ, i64_w, i32_w]
                     rfl
                   refine one_ (i := 13) (N := some 95) #[true, true, true, true, true, true, true, true, true, true, true, true, true, true, false, false, false, false] rfl rfl (one_of HT_.out (by kernel_rfl)) (by decide) (fun K hK => ?_)
                   refine Kd.R_lit_step k95 (w0 := wd) wd.heap.size 95 ?hg (N := 95) ?hd (xs := ([(⟨u, a, x⟩ : S95)] : List S95)) (inner := [.string u, .int .i64 a, .int .i64 x]) (ok := fun q => x2.heap.size ≤ q) (okp := fun _ => False) ?hr ?hp (fun _ h => h.elim) (Nat.le_refl _) HB2.out HB2.out.size (by simp) ?_; (case hd => rfl); (case hg => rfl); (case hr => first | (go_simp; done) | (go_simp; rfl)); (case hp => exact (Reps.c3 (k95_mkM _ _ (fun _ => False) (⟨u, a, x⟩ : S95)) (Reps.none _ _)))
                   intro v3 x3 ho hb hgr hfr
                   have HB3 := Aside0.mk hb
                   have HO3 := Aside0.mk ho
                   have HG3 := Aside0.mk hgr
                   have HL3 := Aside0.mk (R_ltx ho)
                   have HO2' := Aside0.mk (Kd.R_grown HO2.out hgr (fun _ _ e => by cases e))
                   clear HO2
                   have HO2 := HO2'
                   clear HO2'
                   clear ho hb hgr hfr
                   refine hK.out _ _ ⟨pw_cell_below HB3.out HF0.out.1, pw_cell_below HB3.out HF0.out.2⟩ (fun hHeld => ?_)
                   clear hK K
                   refine norm_ (a' := ?_) ?_ ?_
                   rotate_left
                   · show Act.put _ (some 95) _ = _
                     simp only [Act.put, List.setIfInBounds_toArray, List.set_cons_zero, List.set_cons_succ, i64_w, i32_w]
                     rfl
                   exact norm_ (by simp only [putAll, Act.put, List.setIfInBounds_toArray, List.set_cons_zero, List.set_cons_succ]) (hCont (v1, v2, v3) _ ⟨HB3.out, HO2.out, Kd.R_mono HO3.out (fun _ _ => trivial), pw_cell_below HB3.out HF0.out.1, pw_cell_below HB3.out HF0.out.2⟩)
                 · skip
                   refine Kd.R_lit_step k95 (w0 := wd) wd.heap.size 95 ?hg (N := 95) ?hd (xs := ([(⟨u, a, x⟩ : S95)] : List S95)) (inner := [.string u, .int .i64 a, .int .i64 x]) (ok := fun q => x1.heap.size ≤ q) (okp := fun _ => False) ?hr ?hp (fun _ h => h.elim) (Nat.le_refl _) HB1.out HB1.out.size (by simp) ?_; (case hd => rfl); (case hg => rfl); (case hr => first | (go_simp; done) | (go_simp; rfl)); (case hp => exact (Reps.c3 (k95_mkM _ _ (fun _ => False) (⟨u, a, x⟩ : S95)) (Reps.none _ _)))
                   intro v3 x3 ho hb hgr hfr
                   have HB3 := Aside0.mk hb
                   have HO3 := Aside0.mk ho
                   have HG3 := Aside0.mk hgr
                   have HL3 := Aside0.mk (R_ltx ho)
                   have HO1' := Aside0.mk (Kd.R_grown HO1.out hgr (fun _ _ e => by cases e))
                   clear HO1
                   have HO1 := HO1'
                   clear HO1'
                   clear ho hb hgr hfr
                   refine hK.out _ _ ⟨pw_cell_below HB3.out HF0.out.1, pw_cell_below HB3.out HF0.out.2⟩ (fun hHeld => ?_)
                   clear hK K
                   refine norm_ (a' := ?_) ?_ ?_
                   rotate_left
                   · show Act.put _ (some 95) _ = _
                     simp only [Act.put, List.setIfInBounds_toArray, List.set_cons_zero, List.set_cons_succ, i64_w, i32_w]
                     rfl
                   refine one_ (i := 8) (N := some 90) #[true, true, true, true, true, true, true, true, true, true, true, true, true, true, false, false, false, false] rfl rfl (one_of HT_.out (by kernel_rfl)) (by decide) (fun K hK => ?_)
                   refine Kd.R_append_rows_step k95 (Rr := k95.K x3) (w0 := wd) wd.heap.size (by rfl) (.tmp 87) (.tmp 89) 83 95 (.agg #[.string ⟨#[]⟩, .int .i64 0, .int .i64 0]) 32 rfl Tryz.underlying83 (by kernel_rfl) rfl (by decide) (by omega) v1 [] (f.users.map toO) Ao f.users.length co (fun q => wd.heap.size ≤ q ∧ (q < x1.heap.size ∨ x3.heap.size ≤ q)) (fun _ => False) rfl rfl (k95_own HO1.out (fun q hq => ⟨HO1.out.1 q hq, .inl (HL1.out q hq)⟩)) (HUC.out _ (HWD.out.trans (HB3.out.mono HWD.out.size))) (fun x cs h => by rw [k95_open h]; exact k95_mkM _ _ _ _) (fun _ h => h.elim) (fun q hq => ⟨Nat.le_trans HB3.out.size hq, .inr hq⟩) HB3.out HB3.out.size (by simp only [List.length_nil]; omega) ?_
                   intro v2 x2 ho hb hgr hfr
                   rw [List.nil_append] at ho
                   have HB2 := Aside0.mk hb
                   have HO2 := Aside0.mk (Kd.R_mono ho (fun _ _ => trivial) : k95.R 95 x2 wd.heap.size (fun _ => True) v2 (f.users.map toO))
                   have HO3' := Aside0.mk (Kd.R_grown HO3.out hgr (fun q hq e => by have h1 := HL1.out q e.symm; omega))
                   clear HO3
                   have HO3 := HO3'
                   clear HO3'
                   clear ho hb hgr hfr
                   refine hK.out _ _ ⟨pw_cell_below HB2.out HF0.out.1, pw_cell_below HB2.out HF0.out.2⟩ (fun hHeld => ?_)
                   clear hK K
                   refine norm_ (a' := ?_) ?_ ?_
                   rotate_left
                   · show Act.put _ (some 90) _ = _
                     simp only [Act.put, List.setIfInBounds_toArray, List.set_cons_zero, List.set_cons_succ, i64_w, i32_w]
                     rfl
                   exact norm_ (by simp only [putAll, Act.put, List.setIfInBounds_toArray, List.set_cons_zero, List.set_cons_succ]) (hCont (v1, v2, v3) _ ⟨HB2.out, HO2.out, Kd.R_mono HO3.out (fun _ _ => trivial), pw_cell_below HB2.out HF0.out.1, pw_cell_below HB2.out HF0.out.2⟩)
               · skip
                 refine Kd.R_lit_step k95 (w0 := wd) wd.heap.size 95 ?hg (N := 95) ?hd (xs := ([(⟨u, a, x⟩ : S95)] : List S95)) (inner := [.string u, .int .i64 a, .int .i64 x]) (ok := fun q => wd.heap.size ≤ q) (okp := fun _ => False) ?hr ?hp (fun _ h => h.elim) (Nat.le_refl _) (Below.refl _ _) (Nat.le_refl _) (by simp) ?_; (case hd => rfl); (case hg => rfl); (case hr => first | (go_simp; done) | (go_simp; rfl)); (case hp => exact (Reps.c3 (k95_mkM _ _ (fun _ => False) (⟨u, a, x⟩ : S95)) (Reps.none _ _)))
                 intro v3 x3 ho hb hgr hfr
                 have HB3 := Aside0.mk hb
                 have HO3 := Aside0.mk ho
                 have HG3 := Aside0.mk hgr
                 have HL3 := Aside0.mk (R_ltx ho)
                 clear ho hb hgr hfr
                 refine hK.out _ _ ⟨pw_cell_below HB3.out HF0.out.1, pw_cell_below HB3.out HF0.out.2⟩ (fun hHeld => ?_)
                 clear hK K
                 refine norm_ (a' := ?_) ?_ ?_
                 rotate_left
                 · show Act.put _ (some 95) _ = _
                   simp only [Act.put, List.setIfInBounds_toArray, List.set_cons_zero, List.set_cons_succ, i64_w, i32_w]
                   rfl
                 refine one_ (i := 5) (N := some 87) #[true, true, true, true, true, true, true, true, false, true, true, true, true, true, false, false, false, false] rfl rfl (one_of HT_.out (by kernel_rfl)) (by decide) (fun K hK => ?_)
                 refine Kd.R_lit_step k95 (w0 := wd) wd.heap.size 95 ?hg (N := 87) ?hd (xs := ([] : List S95)) (inner := []) (ok := fun q => x3.heap.size ≤ q) (okp := fun _ => False) ?hr ?hp (fun _ h => h.elim) (Nat.le_refl _) HB3.out HB3.out.size (by simp) ?_; (case hd => rfl); (case hg => rfl); (case hr => first | (go_simp; done) | (go_simp; rfl)); (case hp => exact (Reps.none _ _))
                 intro v1 x1 ho hb hgr hfr
                 have HB1 := Aside0.mk hb
                 have HO1 := Aside0.mk ho
                 have HG1 := Aside0.mk hgr
                 have HL1 := Aside0.mk (R_ltx ho)
                 have HO3' := Aside0.mk (Kd.R_grown HO3.out hgr (fun _ _ e => by cases e))
                 clear HO3
                 have HO3 := HO3'
                 clear HO3'
                 clear ho hb hgr hfr
                 refine hK.out _ _ ⟨pw_cell_below HB1.out HF0.out.1, pw_cell_below HB1.out HF0.out.2⟩ (fun hHeld => ?_)
                 clear hK K
                 refine norm_ (a' := ?_) ?_ ?_
                 rotate_left
                 · show Act.put _ (some 87) _ = _
                   simp only [Act.put, List.setIfInBounds_toArray, List.set_cons_zero, List.set_cons_succ, i64_w, i32_w]
                   rfl
                 refine one_ (i := 8) (N := some 90) #[true, true, true, true, true, true, true, true, true, true, true, true, true, true, false, false, false, false] rfl rfl (one_of HT_.out (by kernel_rfl)) (by decide) (fun K hK => ?_)
                 refine Kd.R_append_rows_step k95 (Rr := k95.K x1) (w0 := wd) wd.heap.size (by rfl) (.tmp 87) (.tmp 89) 83 95 (.agg #[.string ⟨#[]⟩, .int .i64 0, .int .i64 0]) 32 rfl Tryz.underlying83 (by kernel_rfl) rfl (by decide) (by omega) v1 [] (f.users.map toO) Ao f.users.length co (fun q => x3.heap.size ≤ q) (fun _ => False) rfl rfl HO1.out (HUC.out _ (HWD.out.trans (HB1.out.mono HWD.out.size))) (fun x cs h => by rw [k95_open h]; exact k95_mkM _ _ _ _) (fun _ h => h.elim) (fun q hq => Nat.le_trans HG1.out.size hq) HB1.out HB1.out.size (by simp only [List.length_nil]; omega) ?_
                 intro v2 x2 ho hb hgr hfr
                 rw [List.nil_append] at ho
                 have HB2 := Aside0.mk hb
                 have HO2 := Aside0.mk (Kd.R_mono ho (fun _ _ => trivial) : k95.R 95 x2 wd.heap.size (fun _ => True) v2 (f.users.map toO))
                 have HO3' := Aside0.mk (Kd.R_grown (k95_own (ok' := fun q => v3.ownBlock = some q) HO3.out (fun q h => h)) hgr (fun q hq e => by have h1 := HO1.out.1 q e.symm; have h2 := HL3.out q hq; omega))
                 clear HO3
                 have HO3 := HO3'
                 clear HO3'
                 clear ho hb hgr hfr
                 refine hK.out _ _ ⟨pw_cell_below HB2.out HF0.out.1, pw_cell_below HB2.out HF0.out.2⟩ (fun hHeld => ?_)
                 clear hK K
                 refine norm_ (a' := ?_) ?_ ?_
                 rotate_left
                 · show Act.put _ (some 90) _ = _
                   simp only [Act.put, List.setIfInBounds_toArray, List.set_cons_zero, List.set_cons_succ, i64_w, i32_w]
                   rfl
                 exact norm_ (by simp only [putAll, Act.put, List.setIfInBounds_toArray, List.set_cons_zero, List.set_cons_succ]) (hCont (v1, v2, v3) _ ⟨HB2.out, HO2.out, Kd.R_mono HO3.out (fun _ _ => trivial), pw_cell_below HB2.out HF0.out.1, pw_cell_below HB2.out HF0.out.2⟩)
             rintro ⟨v1, v2, v3⟩ x4 ⟨hb4, ho2, ho3, hs0, hs1⟩
             have hHeld : x4.cell? ⟨rb, 1, none⟩ = some (.slice (some ⟨g, 0, none⟩) st.length c) ∧ x4.cell? ⟨W.heap.size, 9, none⟩ = some (.slice Ao f.users.length co) := ⟨hs0, hs1⟩
             have HB4 := Aside0.mk hb4
             have HO4 := Aside0.mk ho2
             obtain ⟨A3, c3, hv3⟩ := Kd.R_slice ho3
             have hv3 : v3 = .slice A3 1 c3 := hv3
             subst hv3
             have HO5 := Aside0.mk ho3
             clear hb4 ho2 ho3 hs0 hs1
             refine norm_ (a' := ?_) ?_ ?_
             rotate_left
             · simp only [putAll, Act.put, List.setIfInBounds_toArray, List.set_cons_zero, List.set_cons_succ]
               rfl
             refine one_ (i := 14) (N := some 96) #[true, true, true, true, true, true, true, true, true, true, true, true, true, true, true, false, false, false] rfl rfl (one_of HT_.out (by kernel_rfl)) (by decide) (fun K hK => ?_)
             refine Kd.R_append_rows_step k95 (Rr := k95.K x4) (w0 := wd) wd.heap.size (by rfl) (.tmp 90) (.tmp 95) 83 95 (.agg #[.string ⟨#[]⟩, .int .i64 0, .int .i64 0]) 32 rfl Tryz.underlying83 (by kernel_rfl) rfl (by decide) (by omega) v2 (f.users.map toO) [(⟨u, a, x⟩ : S95)] A3 1 c3 (fun _ => True) (fun _ => False) rfl rfl HO4.out (Kd.R_reads' HO5.out).2.2 (fun x cs h => by rw [k95_open h]; exact k95_mkM _ _ _ _) (fun _ h => h.elim) (fun _ _ => trivial) HB4.out HB4.out.size (by rw [List.length_map]; omega) ?_
             intro v6 x6 ho hb _ _
             have HB6 := Aside0.mk hb
             obtain ⟨A6, c6, hv6⟩ := Kd.R_slice ho
             rw [HLEN.out] at hv6
             subst hv6
             have HBW6 := Aside0.mk (HWD.out.trans (HB6.out.mono HWD.out.size))
             have y_6 := (HBW6.out.cell (p := ⟨g, k * 10 + 9, none⟩) hgl).trans HX9.out
             have z_6 : x6.frozen? ⟨g, k * 10 + 9, none⟩ = false := by rw [World.frozen?_of_block (HBW6.out.block g hgl)]; exact HT.out.fz _
             have HO6 := Aside0.mk ho
             clear ho hb
             refine hK.out _ _ ⟨pw_cell_below HB6.out HF0.out.1, pw_cell_below HB6.out HF0.out.2⟩ (fun hHeld => ?_)
             clear hK K
             refine norm_ (a' := ?_) ?_ ?_
             rotate_left
             · show Act.put _ (some 96) _ = _
               simp only [Act.put, List.setIfInBounds_toArray, List.set_cons_zero, List.set_cons_succ, i64_w, i32_w]
               rfl
             refine pure_ (i := 15) (N := some 97) (v := ?_) (a' := ?_) #[true, true, true, true, true, true, true, true, true, true, true, true, true, true, true, true, false, false] rfl rfl (any_of HT_.out (by kernel_rfl)) (fun _ _ _ h => h) (Or.inl ⟨by rfl, ?_⟩) ?_ ?_
             rotate_left
             · intro w'
               go_simp
               with_reducible rfl
             rotate_left
             · simp only [Act.put, List.setIfInBounds_toArray, List.set_cons_zero, List.set_cons_succ, i64_w, i32_w]
               rfl
             refine pure_ (i := 16) (N := some 98) (v := ?_) (a' := ?_) #[true, true, true, true, true, true, true, true, true, true, true, true, true, true, true, true, true, false] rfl rfl (any_of HT_.out (by kernel_rfl)) (fun _ _ _ h => h) (Or.inl ⟨by rfl, ?_⟩) ?_ ?_
             rotate_left
             · intro w'
               go_simp
               with_reducible rfl
             rotate_left
             · simp only [Act.put, List.setIfInBounds_toArray, List.set_cons_zero, List.set_cons_succ, i64_w, i32_w]
               rfl
             refine last_ (i := 17) (N := none) #[true, true, true, true, true, true, true, true, true, true, true, true, true, true, true, true, true, true] rfl rfl (one_of HT_.out (by kernel_rfl)) (by decide) (fun K hK => ?_)
             refine skip_ (w1 := ?_) (by rfl) rfl ?_ ?_
             rotate_left
             · go_simp
               rfl
             refine hK.out _ _ ?_
             clear hK K
             refine done_ (done_of HT_.out (by kernel_rfl)) ?_
             go_wp2
             refine bodyPost_ret (v := .int .i64 0) (by simp [results, Tryz.f21, go_sem]) rfl ?_
             rw [HM.out]
             have hN := HN.out
             subst hN
             exact HH.out.put HT.out HK.out HBW6.out 9 _ (f' := f.opened u a x) (by decide) rfl ⟨(InR.old HH.out HT.out.In HBW6.out).r, (InR.old HH.out HT.out.In HBW6.out).u, R_made (Kd.R_lower (by unfold AF.opened; rw [List.map_append]; exact HO6.out) HWD.out.size) HBW6.out HH.out HT.out⟩ _
      · have HM := Aside0.mk (show mOpen st u n a x = (8, st) by unfold mOpen; rw [if_neg (by rw [HOS.out]; simp), HMF.out]; simp only [hlu]; rfl)
        rw [hh] at CH
        have hq0 : (0 : Int) ≤ (q : Int) := by omega
        clear hlu hh hq
        go_enter Tryz.func21, Tryz.ntmps21
        go_wp2_with first | (go_at_call 56; refine C56.out.mono ?_; rintro e w' ⟨rfl, rfl⟩) | (go_at_call 57; first | (with_reducible refine CA.out.mono ?_; rintro e w' ⟨rfl, rfl⟩) | (with_reducible refine CX.out.mono ?_; rintro e w' ⟨rfl, rfl⟩) | (refine CA.out.mono ?_; rintro e w' ⟨rfl, rfl⟩) | (refine CX.out.mono ?_; rintro e w' ⟨rfl, rfl⟩)) | (go_at_call 61; refine CW.out.mono ?_; rintro e w' ⟨rfl, rfl⟩) | (go_at_call 49; refine CF.out.mono ?_; rintro e w' ⟨rfl, rfl⟩)
        refine (CH.out _ HBX.out).mono ?_
        rintro e w2 ⟨rfl, hb2⟩
        have HB2 := Aside0.mk (HBX.out.trans (hb2.mono HBX.out.size))
        have hbk2 := (hb2.block W.heap.size (by simp)).trans HBK.out
        have e0 : w2.cell? ⟨W.heap.size, 0, none⟩ = _ := (blk_cell hbk2 0).trans rfl
        have e1 : w2.cell? ⟨W.heap.size, 1, none⟩ = _ := (blk_cell hbk2 1).trans rfl
        have e2 : w2.cell? ⟨W.heap.size, 2, none⟩ = _ := (blk_cell hbk2 2).trans rfl
        have e3 : w2.cell? ⟨W.heap.size, 3, none⟩ = _ := (blk_cell hbk2 3).trans rfl
        have e4 : w2.cell? ⟨W.heap.size, 4, none⟩ = _ := (blk_cell hbk2 4).trans rfl
        have e5 : w2.cell? ⟨W.heap.size, 5, none⟩ = _ := (blk_cell hbk2 5).trans rfl
        have e6 : w2.cell? ⟨W.heap.size, 6, none⟩ = _ := (blk_cell hbk2 6).trans rfl
        have e7 : w2.cell? ⟨W.heap.size, 7, none⟩ = _ := (blk_cell hbk2 7).trans rfl
        have e8 : w2.cell? ⟨W.heap.size, 8, none⟩ = _ := (blk_cell hbk2 8).trans rfl
        have e9 : w2.cell? ⟨W.heap.size, 9, none⟩ = _ := (blk_cell hbk2 9).trans rfl
        have HBK2 := Aside0.mk hbk2
        clear hb2 hbk2 x0 x1 x2 x3 x4 x5 x6 x7 x8 x9
        go_wp2
        refine bodyPost_ret (v := .int .i64 8) (by simp [results, Tryz.f21, go_sem]) rfl ?_
        exact ROut.stay HRR.out HB2.out (by rw [HM.out]) (by rw [HM.out])
end Go.Proofs.YtehlmkgldcfciaaGreat.Files
/- The reference's store: Read. -/
set_option linter.unusedVariables false
set_option linter.unusedSimpArgs false
namespace Go.Proofs.YtehlmkgldcfciaaGreat.Files
open Go.Proofs.YtehlmkgldcfciaaGreat.Common Go.Maps Go.ChangeMaps Go.WideMaps Go.Proofs.YtehlmkgldcfciaaGreat.F
open Go.RowKit Go.Proofs.YtehlmkgldcfciaaGreatW.PrintWords Go.Proofs.YtehlmkgldcfciaaGreatW.PrintLast Go.Proofs.YtehlmkgldcfciaaGreatW.PrintMore
def RRdOut (W : World) (ok : Nat → Prop) (rb : Nat) (r : List S29 × Int × Fs) (e : Ending) (w' : World) : Prop := ∃ v, ROut W ok rb (.tuple #[v, .int .i64 r.2.1]) r.2.2 e w' ∧ Kd.R k62 62 w' W.heap.size (fun _ => True) v (r.1.map toU)
theorem RRdOut.stay {W w' : World} {ok : Nat → Prop} {rb : Nat} {st : Fs} {E : Int} {r : List S29 × Int × Fs} (h : RRep W ok rb st) (hb : Below W.heap.size W w') (hr : r = ([], E, st)) : RRdOut W ok rb r (.returned (.tuple #[.slice none 0 0, .int .i64 E])) w' := by
  subst hr
  exact ⟨_, ROut.below h hb, Kd.R_nil _ _ _ _ _⟩
theorem RRdOut.end_ {W w2 wr : World} {ok : Nat → Prop} {rb c k g cr cu co : Nat} {st : Fs} {f : AF} {A Ar Au Ao : Option Addr} {r : List S29 × Int × Fs} {v : Value} {l : List S29} {xs : List S62} (hb0 : Below W.heap.size W w2) (h : RParts w2 ok rb st A c)
    (T : RowAt w2 ok rb A k g f Ar cr Au cu Ao co) (hk : st[k]? = some f) (hbw : Below w2.heap.size w2 wr) (hr : Kd.R k62 62 wr w2.heap.size (fun _ => True) v xs) (hM : r = (l, 0, st.set k f.read)) (hxs : xs = l.map toU) :
    RRdOut W ok rb r (.returned (.tuple #[v, .int .i64 0])) (wr.setCell ⟨g, k * 10 + 6, none⟩ (.int .i64 (wrap64 (f.F.rd + 1)))) := by
  subst hM hxs
  have hI := InR.old h T.In hbw
  have h1 := RParts.put (f' := f.read) h T hk hbw 6 (.int .i64 (wrap64 (f.F.rd + 1))) (by decide) rfl ⟨hI.r, hI.u, hI.o⟩ (.tuple #[v, .int .i64 0])
  refine ⟨v, ROut.from_ hb0 h1, ?_⟩
  have hg := h.glt T
  have h2 := (Chg.of_set wr ⟨g, k * 10 + 6, none⟩ (.int .i64 (wrap64 (f.F.rd + 1))) (S := fun q => q = g) rfl).row (Kd.R_bound hr) (fun q hq e => by have := hq.2.1; omega)
  exact Kd.R_lower (Kd.R_mono h2 (fun _ _ => trivial)) hb0.size
theorem grow_row (l : List S29) (i j : Nat) (hij : i ≤ j) (hj : j < l.length) (g : S29 → S62) : ((l.take j).drop i).map g ++ [g l[j]] = ((l.take (j + 1)).drop i).map g := by
  rw [List.take_succ_eq_append_getElem hj, List.drop_append_of_le_length (by simp; omega), List.map_append]
  all_goals rfl
set_option maxRecDepth 100000 in
set_option maxHeartbeats 4000000 in
theorem rRead_c (rb c : Nat) (ok : Nat → Prop) (st : Fs) (A : Option Addr) (u n : ByteArray) (at_ : Int) (whole : Bool) (W : World) (h : RParts W ok rb st A c) (hI : RInv st) :
    Calls Tryz.prog 27 #[.pointer (some ⟨rb, 0, none⟩), .string u, .string n, .int .i64 at_, .bool whole] W (RRdOut W ok rb (mRead st u n at_ whole)) := by
  have C56 := Aside0.mk (rbad_c rb u n W h.c0)
  have CB := Aside0.mk (begin_c rb c ok st A u n W h)
  have HRR := Aside0.mk (show RRep W ok rb st from ⟨A, c, h⟩)
  cases hbad : (userB u && nameB n) with
  | false =>
    rw [hbad] at C56
    have HM := Aside0.mk (show mRead st u n at_ whole = ([], 1, st) by unfold mRead; rw [mUnit_bad hbad])
    clear h hbad CB hI
    go_enter Tryz.func27, Tryz.ntmps27
    go_wp2_with first | (go_at_call 56; refine C56.out.mono ?_; rintro e w' ⟨rfl, rfl⟩)
    refine bodyPost_ret (v := .tuple #[.slice none 0 0, .int .i64 1]) (by simp [results, Tryz.f27, go_sem]) rfl ?_
    exact RRdOut.stay HRR.out (Below.refl _ _) HM.out
  | true =>
   rw [hbad] at C56
   by_cases hr : at_ < 0
   · have g1 : decide (at_ < 0) = true := decide_eq_true hr
     have HM := Aside0.mk (show mRead st u n at_ whole = ([], 1, st) by unfold mRead; rw [mUnit_neg hr])
     clear h hbad CB hr hI
     go_enter Tryz.func27, Tryz.ntmps27
     go_wp2_with first | (go_at_call 56; refine C56.out.mono ?_; rintro e w' ⟨rfl, rfl⟩)
     refine bodyPost_ret (v := .tuple #[.slice none 0 0, .int .i64 1]) (by simp [results, Tryz.f27, go_sem]) rfl ?_
     exact RRdOut.stay HRR.out (Below.refl _ _) HM.out
   have g1 : decide (at_ < 0) = false := decide_eq_false hr
   have HN0 := Aside0.mk hr
   clear hr
   cases hB : mBegin st u n with
   | error E =>
     rw [hB] at CB
     have hE := mBegin_E hB
     have HM := Aside0.mk (show mRead st u n at_ whole = ([], E, st) by unfold mRead; rw [mUnit_err HN0.out (mOpened_err hbad hB 1)])
     clear h hbad hB hI
     go_enter Tryz.func27, Tryz.ntmps27
     go_wp2_with first | (go_at_call 56; refine C56.out.mono ?_; rintro e w' ⟨rfl, rfl⟩) | (go_at_call 67; refine CB.out.mono ?_; rintro e w2 ⟨hb2, rfl⟩)
     refine bodyPost_ret (v := .tuple #[.slice none 0 0, .int .i64 E]) (by simp [results, Tryz.f27, go_sem]) rfl ?_
     exact RRdOut.stay HRR.out (hb2) HM.out
   | ok p =>
     obtain ⟨k, f, a⟩ := p
     rw [hB] at CB
     obtain ⟨hk, hnm⟩ := mBegin_at hB
     have HMU := Aside0.mk (mOpened_ok hbad hB 1)
     have HDD := Aside0.mk (denied_cases a 1)
     have HWI := Aside0.mk (within_den a 1 0 (by decide) rfl)
     have HU := Aside0.mk (hI.units f (List.mem_of_getElem? hk))
     have HR := Aside0.mk h
     have HHK := Aside0.mk hk
     clear hB hnm hk hI h
     by_cases hpl : (f.units.length : Int) ≤ at_
     · have g3 : decide ((f.units.length : Int) ≤ at_) = true := decide_eq_true hpl
       have HM := Aside0.mk (show mRead st u n at_ whole = ([], 3, st) by unfold mRead; rw [mUnit_none HN0.out HMU.out hpl])
       clear hpl
       go_enter Tryz.func27, Tryz.ntmps27
       go_wp2_with first | (go_at_call 56; refine C56.out.mono ?_; rintro e w' ⟨rfl, rfl⟩)
       refine CB.out.mono ?_
       rintro e w2 ⟨hb2, rfl⟩
       have h := HR.out
       have hk := HHK.out
       have R2 := h.below hb2
       obtain ⟨g, Ar, cr, Au, cu, Ao, co, T⟩ := R2.row hk
       have hil : k < st.length := (List.getElem?_eq_some_iff.1 hk).1
       have hlz : (k : Int) < (st.length : Int) := by omega
       have hk0 : decide ((k : Int) < 0) = false := decide_eq_false (by omega)
       have c1 := R2.c1
       have hA := T.hA
       subst hA
       obtain ⟨x0, x1, x2, x3, x4, x5, x6, x7, x8, x9⟩ := T.x
       have HH := Aside0.mk R2
       have HT := Aside0.mk T
       have HK := Aside0.mk hk
       have hrb := R2.lt rb R2.okr
       have hgl := R2.glt T
       have hne : g ≠ rb := T.okg.2
       have hne2 : rb ≠ g := Ne.symm hne
       have HB2 := Aside0.mk hb2
       clear R2 T h hk hb2
       go_wp2
       refine bodyPost_ret (v := .tuple #[.slice none 0 0, .int .i64 3]) (by simp [results, Tryz.f27, go_sem]) rfl ?_
       exact RRdOut.stay HRR.out HB2.out HM.out

     · have g3 : decide ((f.units.length : Int) ≤ at_) = false := decide_eq_false hpl
       have HMK := Aside0.mk (mUnit_ok HN0.out HMU.out hpl)
       obtain ⟨i, rfl⟩ : ∃ i : Nat, at_ = (i : Int) := ⟨at_.toNat, by have := HN0.out; omega⟩
       have hil2 : i < f.units.length := by omega
       rw [Int.toNat_natCast] at HMK
       clear hpl
       rcases HDD.out with hd0 | hd12
       · have gW : decide (bits .and .i64 1 a = 1) = true := by rw [HWI.out, hd0]; rfl
         have HM := Aside0.mk (show mRead st u n (i : Int) whole = (readL f.units i whole, 0, st.set k f.read) by unfold mRead; rw [HMK.out]; simp only [hd0, if_pos])
         clear hd0
         cases whole with
         | true =>
           go_enter Tryz.func27, Tryz.ntmps27
           go_wp2_with first | (go_at_call 56; refine C56.out.mono ?_; rintro e w' ⟨rfl, rfl⟩)
           refine CB.out.mono ?_
           rintro e w2 ⟨hb2, rfl⟩
           have h := HR.out
           have hk := HHK.out
           have R2 := h.below hb2
           obtain ⟨g, Ar, cr, Au, cu, Ao, co, T⟩ := R2.row hk
           have hil : k < st.length := (List.getElem?_eq_some_iff.1 hk).1
           have hlz : (k : Int) < (st.length : Int) := by omega
           have hk0 : decide ((k : Int) < 0) = false := decide_eq_false (by omega)
           have c1 := R2.c1
           have hA := T.hA
           subst hA
           obtain ⟨x0, x1, x2, x3, x4, x5, x6, x7, x8, x9⟩ := T.x
           have HH := Aside0.mk R2
           have HT := Aside0.mk T
           have HK := Aside0.mk hk
           have hrb := R2.lt rb R2.okr
           have hgl := R2.glt T
           have hne : g ≠ rb := T.okg.2
           have hne2 : rb ≠ g := Ne.symm hne
           have HB2 := Aside0.mk hb2
           have HTT := Aside0.mk T
           have HHH := Aside0.mk h
           have HCU := Aside0.mk (fun w (hb : Below w2.heap.size w2 w) => Kd.C_below T.In.uC.2 hb)
           have hul := HU.out.1.len
           have hcu := T.In.uC.1
           obtain ⟨E, hE⟩ : ∃ E, E = endOf f.units i := ⟨_, rfl⟩
           have HE := Aside0.mk hE
           have HEL := Aside0.mk (show E ≤ f.units.length by rw [hE]; exact (endOf_le hil2).2)
           have HEI := Aside0.mk (show i ≤ E by rw [hE]; have := (endOf_le hil2).1; omega)
           obtain ⟨L0, hL0⟩ : ∃ x, x = lv f.units i := ⟨_, rfl⟩
           have HL0 := Aside0.mk hL0
           obtain ⟨ad, hAd, _⟩ := at_units (HCU.out _ (Below.refl _ _)) i hil2
           subst hAd
           have hi0 : decide ((i : Int) < 0) = false := decide_eq_false (by omega)
           have hiz : (i : Int) < (f.units.length : Int) := by omega
           clear R2 T h hk hb2 hE hL0 x0 x1 x2 x3 x4 x5 x7 x9
           go_wp2_with fail
           refine (rwithin_c 1 a _).mono ?_
           rintro e w' ⟨rfl, rfl⟩
           go_wp2_with fail
           refine (under_c (some ad) cu i f.units _ (HCU.out _ (Below.refl _ _)) hcu hil2).mono ?_
           rintro e W4 ⟨rfl, ⟨mu, rfl⟩⟩
           rw [← HE.out]
           go_wp2_with fail
           go_loopw [17, 18] (fun v s wr => ∃ j : Nat, s = .int .i64 j ∧ i ≤ j ∧ j ≤ E ∧ Aside0 (Below w2.heap.size w2 wr) ∧ Aside0 (Kd.R k62 62 wr w2.heap.size (fun _ => True) v (((f.units.take j).drop i).map (fun x => toU (lower L0 x))))) (fun _ s _ => E - (intOf s).toNat)
           case atStart => exact ⟨i, rfl, Nat.le_refl _, HEI.out, ⟨pw_below_drewN (Below.refl _ _) mu⟩, ⟨by rw [List.drop_eq_nil_of_le (by rw [List.length_take]; omega)]; exact Kd.R_nil _ _ _ _ _⟩⟩
           case round =>
             obtain ⟨j, rfl, hij, hjE, HBW, HRW⟩ := hrel
             by_cases hlt : j < E
             · have hltz : (j : Int) < (E : Int) := by omega
               have hjl : j < f.units.length := by have := HEL.out; omega
               have hjz : (j : Int) < (f.units.length : Int) := by omega
               have hj0 : decide ((j : Int) < 0) = false := decide_eq_false (by omega)
               obtain ⟨ad1, he1, z0, z1, z2⟩ := at_units (HCU.out _ HBW.out) j hjl
               injection he1 with he1
               subst he1
               obtain ⟨U, hU⟩ : ∃ U, U = f.units[j] := ⟨_, rfl⟩
               rw [← hU] at z0 z1 z2
               obtain ⟨XS, hXS⟩ : ∃ XS, XS = ((f.units.take j).drop i).map (fun x => toU (lower L0 x)) := ⟨_, rfl⟩
               have HNX := Aside0.mk (show XS ++ [(⟨U.f0, U.f1, wrap64 (U.f2 - L0)⟩ : S62)] = ((f.units.take (j + 1)).drop i).map (fun x => toU (lower L0 x)) by rw [hXS, ← grow_row _ i j hij hjl, ← hU]; rfl)
               have hXL : XS.length ≤ 100 := by rw [hXS, List.length_map, List.length_drop, List.length_take]; omega
               rw [← hXS] at HRW
               clear hU hXS
               have HX1 := Aside0.mk (show Below wr.heap.size wr (wr.alloc (.cells #[.string U.f0, .string U.f1, .int .i64 U.f2] 62)) from (Below.refl _ _).alloc (Nat.le_refl _) _)
               have HK1 := Aside0.mk (show (wr.alloc (.cells #[.string U.f0, .string U.f1, .int .i64 U.f2] 62)).heap[wr.heap.size]? = some (.cells #[.string U.f0, .string U.f1, .int .i64 U.f2] 62 (0, 0)) by simpa using heap_alloc_new wr _)
               go_wp2_with fail
               have HX3 := Aside0.mk (show Below wr.heap.size wr (wr.alloc (.cells #[.string U.f0, .string U.f1, .int .i64 (wrap64 (U.f2 - L0))] 62)).drew from ((Below.refl _ _).alloc (Nat.le_refl _) _).drew)
               have HK3 := Aside0.mk (show (wr.alloc (.cells #[.string U.f0, .string U.f1, .int .i64 (wrap64 (U.f2 - L0))] 62)).drew.heap[wr.heap.size]? = some (.cells #[.string U.f0, .string U.f1, .int .i64 (wrap64 (U.f2 - L0))] 62 (0, 0)) from heap_alloc_new wr _)
               obtain ⟨ad2, he2, _, _, y2⟩ := at_units (HCU.out _ (HBW.out.trans (HX1.out.mono HBW.out.size))) i hil2
               injection he2 with he2
               subst he2
               rw [show f.units[i].f2 = L0 by rw [HL0.out]; unfold lv; rw [rd_get _ _ hil2]] at y2
               have b2 := (blk_cell HK1.out 2).trans rfl
               have bf := blk_frozen HK1.out 2
               go_region
               have HB3 := Aside0.mk (HBW.out.trans (HX3.out.mono HBW.out.size))
               have HR3 := Aside0.mk (Kd.R_below HRW.out HX3.out)
               clear y2 b2 bf z0 z1 z2
               generalize (wr.alloc (.cells #[.string U.f0, .string U.f1, .int .i64 (wrap64 (U.f2 - L0))] 62)).drew = X3 at HX3 HK3 HB3 HR3 ⊢
               have b0 := (blk_cell HK3.out 0).trans rfl
               have b1 := (blk_cell HK3.out 1).trans rfl
               have b2 := (blk_cell HK3.out 2).trans rfl
               go_wp2_with (first
                 | ((with_reducible refine gate_dst (N := 81) rfl ?_); refine Kd.R_lit k62 (w0 := w2) w2.heap.size 62 ?hg (N := 81) ?hd (xs := ([(⟨U.f0, U.f1, wrap64 (U.f2 - L0)⟩ : S62)] : List S62)) (inner := [.string U.f0, .string U.f1, .int .i64 (wrap64 (U.f2 - L0))]) (ok := fun _ => True) (okp := fun _ => True) ?hr ?hp (fun _ hk => hk) trivial HB3.out HB3.out.size (by simp) ?_; (case hd => rfl); (case hg => rfl); (case hr => first | (go_simp; done) | (go_simp; rfl)); (case hp => exact (Reps.c3 (k62_mkM _ _ _ (⟨U.f0, U.f1, wrap64 (U.f2 - L0)⟩ : S62)) (Reps.none _ _))); intro v4 x4 ho hb hgr hfr; have HB4 := Aside0.mk hb; have HR4 := Aside0.mk (Kd.R_grown HR3.out hgr (fun q _ e => by cases e)); obtain ⟨A4, c4, hv4⟩ := Kd.R_slice ho; have hv4 : v4 = .slice A4 1 c4 := hv4; subst hv4; have HO4 := Aside0.mk ho; clear ho hb hgr hfr)
                 | ((with_reducible refine gate_builtin (b := .append) (xs := #[.tmp 79, .tmp 81]) rfl ?_); at_builtin; refine Kd.R_append_rows k62 (Rr := k62.K x4) (w0 := w2) w2.heap.size rfl (.tmp 79) (.tmp 81) 55 62 (.agg #[.string ⟨#[]⟩, .string ⟨#[]⟩, .int .i64 0]) 40 rfl Tryz.underlying55 (by kernel_rfl) rfl (by decide) (by omega) u17 XS [(⟨U.f0, U.f1, wrap64 (U.f2 - L0)⟩ : S62)] A4 1 c4 (fun _ => True) (fun _ => False) rfl rfl HR4.out (Kd.R_reads' HO4.out).2.2 (fun x cs h => by rw [k62_open h]; exact k62_mkM _ _ _ _) (fun _ h => h.elim) (fun _ _ => trivial) HB4.out HB4.out.size (by first | omega | (simp only [List.length_cons, List.length_nil]; omega)) ?_; intro v5 x5 ho hb hgr hfr; rw [HNX.out] at ho; have HB5 := Aside0.mk hb; have HO5 := Aside0.mk ho; clear ho hb hgr hfr))
               go_roundw
               case rel => exact ⟨j + 1, by go_num, by omega, by omega, HB5, HO5⟩
               case measure => (simp [intOf]; try omega)
             · have hltz : ¬ (j : Int) < (E : Int) := by omega
               obtain rfl : E = j := by omega
               have d1 := (HBW.out.cell (p := ⟨rb, 1, none⟩) hrb).trans c1
               have d6 := (HBW.out.cell (p := ⟨g, k * 10 + 6, none⟩) hgl).trans x6
               have f6 : wr.frozen? ⟨g, k * 10 + 6, none⟩ = false := by rw [World.frozen?_of_block (HBW.out.block g hgl)]; exact HTT.out.fz _
               go_wp2_with fail
               go_region
               go_wp2
               refine bodyPost_ret (v := .tuple #[u17, .int .i64 0]) (by simp [results, Tryz.f27, go_sem]) rfl ?_
               exact RRdOut.end_ HB2.out HH.out HTT.out HK.out HBW.out.drew (Kd.R_drew HRW.out) HM.out (by unfold readL; rw [List.map_map, HE.out, ← HL0.out]; rfl)

         | false =>
           go_enter Tryz.func27, Tryz.ntmps27
           go_wp2_with first | (go_at_call 56; refine C56.out.mono ?_; rintro e w' ⟨rfl, rfl⟩)
           refine CB.out.mono ?_
           rintro e w2 ⟨hb2, rfl⟩
           have h := HR.out
           have hk := HHK.out
           have R2 := h.below hb2
           obtain ⟨g, Ar, cr, Au, cu, Ao, co, T⟩ := R2.row hk
           have hil : k < st.length := (List.getElem?_eq_some_iff.1 hk).1
           have hlz : (k : Int) < (st.length : Int) := by omega
           have hk0 : decide ((k : Int) < 0) = false := decide_eq_false (by omega)
           have c1 := R2.c1
           have hA := T.hA
           subst hA
           obtain ⟨x0, x1, x2, x3, x4, x5, x6, x7, x8, x9⟩ := T.x
           have HH := Aside0.mk R2
           have HT := Aside0.mk T
           have HK := Aside0.mk hk
           have hrb := R2.lt rb R2.okr
           have hgl := R2.glt T
           have hne : g ≠ rb := T.okg.2
           have hne2 : rb ≠ g := Ne.symm hne
           have HB2 := Aside0.mk hb2
           have HTT := Aside0.mk T
           have HHH := Aside0.mk h
           have HCU := Aside0.mk (fun w (hb : Below w2.heap.size w2 w) => Kd.C_below T.In.uC.2 hb)
           have hul := HU.out.1.len
           have hcu := T.In.uC.1
           obtain ⟨E, hE⟩ : ∃ E, E = i + 1 := ⟨_, rfl⟩
           have HE := Aside0.mk hE
           have HEL := Aside0.mk (show E ≤ f.units.length by rw [hE]; omega)
           have HEI := Aside0.mk (show i ≤ E by rw [hE]; omega)
           have hEz : wrap64 ((i : Int) + 1) = (E : Int) := by have := HE.out; unfold wrap64; omega
           obtain ⟨L0, hL0⟩ : ∃ x, x = lv f.units i := ⟨_, rfl⟩
           have HL0 := Aside0.mk hL0
           obtain ⟨ad, hAd, _⟩ := at_units (HCU.out _ (Below.refl _ _)) i hil2
           subst hAd
           have hi0 : decide ((i : Int) < 0) = false := decide_eq_false (by omega)
           have hiz : (i : Int) < (f.units.length : Int) := by omega
           clear R2 T h hk hb2 hE hL0 x0 x1 x2 x3 x4 x5 x7 x9
           go_wp2_with fail
           refine (rwithin_c 1 a _).mono ?_
           rintro e w' ⟨rfl, rfl⟩
           go_wp2_with fail
           rw [show ((i : Int) + 1) = (E : Int) by have := HE.out; omega]
           go_loopw [17, 18] (fun v s wr => ∃ j : Nat, s = .int .i64 j ∧ i ≤ j ∧ j ≤ E ∧ Aside0 (Below w2.heap.size w2 wr) ∧ Aside0 (Kd.R k62 62 wr w2.heap.size (fun _ => True) v (((f.units.take j).drop i).map (fun x => toU (lower L0 x))))) (fun _ s _ => E - (intOf s).toNat)
           case atStart => exact ⟨i, rfl, Nat.le_refl _, HEI.out, ⟨Below.refl _ _⟩, ⟨by rw [List.drop_eq_nil_of_le (by rw [List.length_take]; omega)]; exact Kd.R_nil _ _ _ _ _⟩⟩
           case round =>
             obtain ⟨j, rfl, hij, hjE, HBW, HRW⟩ := hrel
             by_cases hlt : j < E
             · have hltz : (j : Int) < (E : Int) := by omega
               have hjl : j < f.units.length := by have := HEL.out; omega
               have hjz : (j : Int) < (f.units.length : Int) := by omega
               have hj0 : decide ((j : Int) < 0) = false := decide_eq_false (by omega)
               obtain ⟨ad1, he1, z0, z1, z2⟩ := at_units (HCU.out _ HBW.out) j hjl
               injection he1 with he1
               subst he1
               obtain ⟨U, hU⟩ : ∃ U, U = f.units[j] := ⟨_, rfl⟩
               rw [← hU] at z0 z1 z2
               obtain ⟨XS, hXS⟩ : ∃ XS, XS = ((f.units.take j).drop i).map (fun x => toU (lower L0 x)) := ⟨_, rfl⟩
               have HNX := Aside0.mk (show XS ++ [(⟨U.f0, U.f1, wrap64 (U.f2 - L0)⟩ : S62)] = ((f.units.take (j + 1)).drop i).map (fun x => toU (lower L0 x)) by rw [hXS, ← grow_row _ i j hij hjl, ← hU]; rfl)
               have hXL : XS.length ≤ 100 := by rw [hXS, List.length_map, List.length_drop, List.length_take]; omega
               rw [← hXS] at HRW
               clear hU hXS
               have HX1 := Aside0.mk (show Below wr.heap.size wr (wr.alloc (.cells #[.string U.f0, .string U.f1, .int .i64 U.f2] 62)) from (Below.refl _ _).alloc (Nat.le_refl _) _)
               have HK1 := Aside0.mk (show (wr.alloc (.cells #[.string U.f0, .string U.f1, .int .i64 U.f2] 62)).heap[wr.heap.size]? = some (.cells #[.string U.f0, .string U.f1, .int .i64 U.f2] 62 (0, 0)) by simpa using heap_alloc_new wr _)
               go_wp2_with fail
               have HX3 := Aside0.mk (show Below wr.heap.size wr (wr.alloc (.cells #[.string U.f0, .string U.f1, .int .i64 (wrap64 (U.f2 - L0))] 62)).drew from ((Below.refl _ _).alloc (Nat.le_refl _) _).drew)
               have HK3 := Aside0.mk (show (wr.alloc (.cells #[.string U.f0, .string U.f1, .int .i64 (wrap64 (U.f2 - L0))] 62)).drew.heap[wr.heap.size]? = some (.cells #[.string U.f0, .string U.f1, .int .i64 (wrap64 (U.f2 - L0))] 62 (0, 0)) from heap_alloc_new wr _)
               obtain ⟨ad2, he2, _, _, y2⟩ := at_units (HCU.out _ (HBW.out.trans (HX1.out.mono HBW.out.size))) i hil2
               injection he2 with he2
               subst he2
               rw [show f.units[i].f2 = L0 by rw [HL0.out]; unfold lv; rw [rd_get _ _ hil2]] at y2
               have b2 := (blk_cell HK1.out 2).trans rfl
               have bf := blk_frozen HK1.out 2
               go_region
               have HB3 := Aside0.mk (HBW.out.trans (HX3.out.mono HBW.out.size))
               have HR3 := Aside0.mk (Kd.R_below HRW.out HX3.out)
               clear y2 b2 bf z0 z1 z2
               generalize (wr.alloc (.cells #[.string U.f0, .string U.f1, .int .i64 (wrap64 (U.f2 - L0))] 62)).drew = X3 at HX3 HK3 HB3 HR3 ⊢
               have b0 := (blk_cell HK3.out 0).trans rfl
               have b1 := (blk_cell HK3.out 1).trans rfl
               have b2 := (blk_cell HK3.out 2).trans rfl
               go_wp2_with (first
                 | ((with_reducible refine gate_dst (N := 81) rfl ?_); refine Kd.R_lit k62 (w0 := w2) w2.heap.size 62 ?hg (N := 81) ?hd (xs := ([(⟨U.f0, U.f1, wrap64 (U.f2 - L0)⟩ : S62)] : List S62)) (inner := [.string U.f0, .string U.f1, .int .i64 (wrap64 (U.f2 - L0))]) (ok := fun _ => True) (okp := fun _ => True) ?hr ?hp (fun _ hk => hk) trivial HB3.out HB3.out.size (by simp) ?_; (case hd => rfl); (case hg => rfl); (case hr => first | (go_simp; done) | (go_simp; rfl)); (case hp => exact (Reps.c3 (k62_mkM _ _ _ (⟨U.f0, U.f1, wrap64 (U.f2 - L0)⟩ : S62)) (Reps.none _ _))); intro v4 x4 ho hb hgr hfr; have HB4 := Aside0.mk hb; have HR4 := Aside0.mk (Kd.R_grown HR3.out hgr (fun q _ e => by cases e)); obtain ⟨A4, c4, hv4⟩ := Kd.R_slice ho; have hv4 : v4 = .slice A4 1 c4 := hv4; subst hv4; have HO4 := Aside0.mk ho; clear ho hb hgr hfr)
                 | ((with_reducible refine gate_builtin (b := .append) (xs := #[.tmp 79, .tmp 81]) rfl ?_); at_builtin; refine Kd.R_append_rows k62 (Rr := k62.K x4) (w0 := w2) w2.heap.size rfl (.tmp 79) (.tmp 81) 55 62 (.agg #[.string ⟨#[]⟩, .string ⟨#[]⟩, .int .i64 0]) 40 rfl Tryz.underlying55 (by kernel_rfl) rfl (by decide) (by omega) u17 XS [(⟨U.f0, U.f1, wrap64 (U.f2 - L0)⟩ : S62)] A4 1 c4 (fun _ => True) (fun _ => False) rfl rfl HR4.out (Kd.R_reads' HO4.out).2.2 (fun x cs h => by rw [k62_open h]; exact k62_mkM _ _ _ _) (fun _ h => h.elim) (fun _ _ => trivial) HB4.out HB4.out.size (by first | omega | (simp only [List.length_cons, List.length_nil]; omega)) ?_; intro v5 x5 ho hb hgr hfr; rw [HNX.out] at ho; have HB5 := Aside0.mk hb; have HO5 := Aside0.mk ho; clear ho hb hgr hfr))
               go_roundw
               case rel => exact ⟨j + 1, by go_num, by omega, by omega, HB5, HO5⟩
               case measure => (simp [intOf]; try omega)
             · have hltz : ¬ (j : Int) < (E : Int) := by omega
               obtain rfl : E = j := by omega
               have d1 := (HBW.out.cell (p := ⟨rb, 1, none⟩) hrb).trans c1
               have d6 := (HBW.out.cell (p := ⟨g, k * 10 + 6, none⟩) hgl).trans x6
               have f6 : wr.frozen? ⟨g, k * 10 + 6, none⟩ = false := by rw [World.frozen?_of_block (HBW.out.block g hgl)]; exact HTT.out.fz _
               go_wp2_with fail
               go_region
               go_wp2
               refine bodyPost_ret (v := .tuple #[u17, .int .i64 0]) (by simp [results, Tryz.f27, go_sem]) rfl ?_
               exact RRdOut.end_ HB2.out HH.out HTT.out HK.out HBW.out.drew (Kd.R_drew HRW.out) HM.out (by unfold readL; rw [List.map_map, HE.out, ← HL0.out]; rfl)

       · have gW : decide (bits .and .i64 1 a = 1) = false := by rw [HWI.out, hd12]; rfl
         have HM := Aside0.mk (show mRead st u n (i : Int) whole = ([], 12, st) by unfold mRead; rw [HMK.out]; simp only [hd12]; rfl)
         clear hd12
         go_enter Tryz.func27, Tryz.ntmps27
         go_wp2_with first | (go_at_call 56; refine C56.out.mono ?_; rintro e w' ⟨rfl, rfl⟩)
         refine CB.out.mono ?_
         rintro e w2 ⟨hb2, rfl⟩
         have h := HR.out
         have hk := HHK.out
         have R2 := h.below hb2
         obtain ⟨g, Ar, cr, Au, cu, Ao, co, T⟩ := R2.row hk
         have hil : k < st.length := (List.getElem?_eq_some_iff.1 hk).1
         have hlz : (k : Int) < (st.length : Int) := by omega
         have hk0 : decide ((k : Int) < 0) = false := decide_eq_false (by omega)
         have c1 := R2.c1
         have hA := T.hA
         subst hA
         obtain ⟨x0, x1, x2, x3, x4, x5, x6, x7, x8, x9⟩ := T.x
         have HH := Aside0.mk R2
         have HT := Aside0.mk T
         have HK := Aside0.mk hk
         have hrb := R2.lt rb R2.okr
         have hgl := R2.glt T
         have hne : g ≠ rb := T.okg.2
         have hne2 : rb ≠ g := Ne.symm hne
         have HB2 := Aside0.mk hb2
         clear R2 T h hk hb2
         go_wp2_with fail
         refine (rwithin_c 1 a _).mono ?_
         rintro e w' ⟨rfl, rfl⟩
         go_wp2
         refine bodyPost_ret (v := .tuple #[.slice none 0 0, .int .i64 12]) (by simp [results, Tryz.f27, go_sem]) rfl ?_
         exact RRdOut.stay HRR.out HB2.out HM.out
end Go.Proofs.YtehlmkgldcfciaaGreat.Files
/- The reference's store: Locate. -/
set_option linter.unusedVariables false
set_option linter.unusedSimpArgs false
namespace Go.Proofs.YtehlmkgldcfciaaGreat.Files
open Go.Proofs.YtehlmkgldcfciaaGreat.Common Go.Maps Go.ChangeMaps Go.WideMaps Go.Proofs.YtehlmkgldcfciaaGreat.F
open Go.RowKit Go.Proofs.YtehlmkgldcfciaaGreatW.PrintWords Go.Proofs.YtehlmkgldcfciaaGreatW.PrintLast Go.Proofs.YtehlmkgldcfciaaGreatW.PrintMore
def isKid (l : List S29) (h : Nat) (p : ByteArray) (q : Nat) : Bool := decide (lv l q = lv l h + 1) && decide (nm l q = p)
def LocAt (l : List S29) (h : Nat) (p : ByteArray) (E t : Nat) (F : Int) : Prop := (F = -1 ∧ ∀ q, t ≤ q → q < E → isKid l h p q = false) ∨ ∃ q0 : Nat, F = q0 ∧ t ≤ q0 ∧ q0 < E ∧ isKid l h p q0 = true ∧ ∀ q, t ≤ q → q < q0 → isKid l h p q = false
theorem LocAt.hit {l : List S29} {h : Nat} {p : ByteArray} {E t : Nat} {F : Int} (hL : LocAt l h p E (t + 1) F) (ht : t < E) (hk : isKid l h p t = true) : LocAt l h p E t (t : Int) :=
  .inr ⟨t, rfl, Nat.le_refl _, ht, hk, fun q h1 h2 => by omega⟩
theorem LocAt.miss {l : List S29} {h : Nat} {p : ByteArray} {E t : Nat} {F : Int} (hL : LocAt l h p E (t + 1) F) (hk : isKid l h p t = false) : LocAt l h p E t F := by
  rcases hL with ⟨h1, h2⟩ | ⟨q0, h1, h2, h3, h4, h5⟩
  · exact .inl ⟨h1, fun q h6 h7 => by
      by_cases e : q = t
      · rw [e]; exact hk
      · exact h2 q (by omega) h7⟩
  · exact .inr ⟨q0, h1, by omega, h3, h4, fun q h6 h7 => by
      by_cases e : q = t
      · rw [e]; exact hk
      · exact h5 q (by omega) h7⟩
theorem LocAt.end_ {l : List S29} {h : Nat} {p : ByteArray} {E : Nat} {F : Int} (hh : h < l.length) (hE : E = endOf l h) (hL : LocAt l h p E (h + 1) F) : (F = -1 ∧ locKid l h p = none) ∨ ∃ t : Nat, F = t ∧ t < l.length ∧ locKid l h p = some t := by
  have hle := endOf_le hh
  rcases hL with ⟨h1, h2⟩ | ⟨q0, h1, h2, h3, h4, h5⟩
  · refine .inl ⟨h1, locKid_none fun s hs hn => ?_⟩
    obtain ⟨c1, c2, c3⟩ := (child_span hh).1 hs
    have := h2 s (by omega) (by omega)
    unfold isKid at this
    rw [decide_eq_true c3, decide_eq_true hn] at this
    cases this
  · refine .inr ⟨q0, h1, by omega, ?_⟩
    unfold isKid at h4
    rw [Bool.and_eq_true, decide_eq_true_eq, decide_eq_true_eq] at h4
    refine locKid_some ((child_span hh).2 ⟨by omega, by omega, h4.1⟩) h4.2 fun s hs hlt hn => ?_
    obtain ⟨c1, c2, c3⟩ := (child_span hh).1 hs
    have := h5 s (by omega) hlt
    unfold isKid at this
    rw [decide_eq_true c3, decide_eq_true hn] at this
    cases this
theorem isKid_eq (l : List S29) (h q : Nat) (p : ByteArray) (hh : h < l.length) (hq : q < l.length) (hlev : 0 ≤ lv l h ∧ lv l h ≤ 1000) : isKid l h p q = (decide (l[q].f2 = wrap64 (l[h].f2 + 1)) && decide (l[q].f0 = p)) := by
  have e1 : lv l q = l[q].f2 := by unfold lv; rw [rd_get l q hq]
  have e2 : lv l h = l[h].f2 := by unfold lv; rw [rd_get l h hh]
  have e3 : nm l q = l[q].f0 := by unfold nm; rw [rd_get l q hq]
  have e4 : wrap64 (l[h].f2 + 1) = l[h].f2 + 1 := by rw [← e2]; unfold wrap64; omega
  unfold isKid
  rw [e1, e2, e3, e4]
set_option maxRecDepth 100000 in
set_option maxHeartbeats 4000000 in
theorem rLocate_c (rb c : Nat) (ok : Nat → Prop) (st : Fs) (A : Option Addr) (u n : ByteArray) (Ap : Option Addr) (cp : Nat) (path : List ByteArray) (W : World) (h : RParts W ok rb st A c) (hI : RInv st) (hpath : Kd.C Kd.string W Ap path.length path) (hcp : path.length ≤ cp) :
    Calls Tryz.prog 25 #[.pointer (some ⟨rb, 0, none⟩), .string u, .string n, .slice Ap path.length cp] W (RLocOut W (mLocate st u n path)) := by
  have C56 := Aside0.mk (rbad_c rb u n W h.c0)
  have CB := Aside0.mk (begin_c rb c ok st A u n W h)
  have HRR := Aside0.mk (show RRep W ok rb st from ⟨A, c, h⟩)
  cases hbad : (userB u && nameB n) with
  | false =>
    rw [hbad] at C56
    have HM := Aside0.mk (show mLocate st u n path = (0, 1) by unfold mLocate; rw [mOpened_bad hbad])
    clear h hbad CB hI hpath
    go_enter Tryz.func25, Tryz.ntmps25
    go_wp2_with first | (go_at_call 56; refine C56.out.mono ?_; rintro e w' ⟨rfl, rfl⟩)
    refine bodyPost_ret (v := .tuple #[.int .i64 0, .int .i64 1]) (by simp [results, Tryz.f25, go_sem]) rfl ?_
    exact RLocOut.stay (Below.refl _ _) HM.out
  | true =>
   rw [hbad] at C56
   cases hB : mBegin st u n with
   | error E =>
     rw [hB] at CB
     have hE := mBegin_E hB
     have HM := Aside0.mk (show mLocate st u n path = (0, E) by unfold mLocate; rw [mOpened_err hbad hB 1])
     clear h hbad hB hI hpath
     go_enter Tryz.func25, Tryz.ntmps25
     go_wp2_with first | (go_at_call 56; refine C56.out.mono ?_; rintro e w' ⟨rfl, rfl⟩) | (go_at_call 67; refine CB.out.mono ?_; rintro e w2 ⟨hb2, rfl⟩)
     refine bodyPost_ret (v := .tuple #[.int .i64 0, .int .i64 E]) (by simp [results, Tryz.f25, go_sem]) rfl ?_
     exact RLocOut.stay (hb2) HM.out
   | ok p =>
     obtain ⟨k, f, a⟩ := p
     rw [hB] at CB
     obtain ⟨hk, hnm⟩ := mBegin_at hB
     have HMO := Aside0.mk (mOpened_ok hbad hB 1)
     have HDD := Aside0.mk (denied_cases a 1)
     have HWI := Aside0.mk (within_den a 1 0 (by decide) rfl)
     have HU := Aside0.mk (hI.units f (List.mem_of_getElem? hk))
     have HR := Aside0.mk h
     have HHK := Aside0.mk hk
     have HPR := Aside0.mk (fun X (hb : Below W.heap.size W X) => Kd.C_below hpath hb)
     clear hB hnm hk hI h hpath
     go_enter Tryz.func25, Tryz.ntmps25
     go_wp2_with first | (go_at_call 56; refine C56.out.mono ?_; rintro e w' ⟨rfl, rfl⟩)
     refine CB.out.mono ?_
     rintro e w2 ⟨hb2, rfl⟩
     have h := HR.out
     have hk := HHK.out
     have R2 := h.below hb2
     obtain ⟨g, Ar, cr, Au, cu, Ao, co, T⟩ := R2.row hk
     have hil : k < st.length := (List.getElem?_eq_some_iff.1 hk).1
     have hlz : (k : Int) < (st.length : Int) := by omega
     have hk0 : decide ((k : Int) < 0) = false := decide_eq_false (by omega)
     have c1 := R2.c1
     have hA := T.hA
     subst hA
     obtain ⟨x0, x1, x2, x3, x4, x5, x6, x7, x8, x9⟩ := T.x
     have HH := Aside0.mk R2
     have HT := Aside0.mk T
     have HK := Aside0.mk hk
     have hrb := R2.lt rb R2.okr
     have hgl := R2.glt T
     have hne : g ≠ rb := T.okg.2
     have hne2 : rb ≠ g := Ne.symm hne
     have HB2 := Aside0.mk hb2
     have HCU := Aside0.mk (fun w (hb : Below w2.heap.size w2 w) => Kd.C_below T.In.uC.2 hb)
     have hul := HU.out.1.len
     have hpos := HU.out.1.pos
     have hcu := T.In.uC.1
     obtain ⟨ad, hAd, _⟩ := at_units (HCU.out _ (Below.refl _ _)) 0 hpos
     subst hAd
     clear R2 T h hk hb2 x0 x1 x2 x3 x4 x5 x6 x7 x9
     go_wp2_with fail
     go_loopw [14, 15] (fun s k wr => ∃ (hN j : Nat), s = .int .i64 hN ∧ k = .int .i64 j ∧ j ≤ path.length ∧ hN < f.units.length ∧ Aside0 (Below w2.heap.size w2 wr) ∧ Aside0 (locGo f.units 0 path = locGo f.units hN (path.drop j))) (fun _ k _ => path.length - (intOf k).toNat)
     case atStart => exact ⟨0, 0, rfl, rfl, Nat.zero_le _, hpos, ⟨Below.refl _ _⟩, ⟨rfl⟩⟩
     case round =>
       obtain ⟨hN, j, rfl, rfl, hj, hh, HBW, HLG⟩ := hrel
       by_cases hlt : j < path.length
       · have hltz : (j : Int) < (path.length : Int) := by omega
         have HJW := Aside0.mk (show wrap64 ((j : Int) + 1) = ((j + 1 : Nat) : Int) by have hpl := (HPR.out _ (HB2.out)).2.1; unfold wrap64; omega)
         have hjz : decide ((j : Int) < 0) = false := decide_eq_false (by omega)
         obtain ⟨pw, hpw⟩ : ∃ x, x = path[j] := ⟨_, rfl⟩
         have HPW := Aside0.mk hpw
         obtain ⟨E, hE⟩ : ∃ E, E = endOf f.units hN := ⟨_, rfl⟩
         have HE := Aside0.mk hE
         have HE1 := Aside0.mk (show hN < E by rw [hE]; have := (endOf_le hh).1; omega)
         have HEL := Aside0.mk (show E ≤ f.units.length by rw [hE]; exact (endOf_le hh).2)
         have hEw : wrap64 ((E : Int) - 1) = (E : Int) - 1 := by have := HEL.out; unfold wrap64; omega
         clear hpw hE
         go_wp2_with fail
         refine (under_c (some ad) cu hN f.units _ (HCU.out _ HBW.out) hcu hh).mono ?_
         rintro e w3 ⟨rfl, ⟨mu, rfl⟩⟩
         have HBW3 := Aside0.mk (pw_below_drewN HBW.out mu)
         rw [← HE.out]
         generalize wr.drewN mu = w3 at HBW3 ⊢
         go_wp2_with fail
         go_loopw [16, 17] (fun F s wr => ∃ (t : Nat) (Fi : Int), F = .int .i64 Fi ∧ s = .int .i64 ((t : Int) - 1) ∧ hN < t ∧ t ≤ E ∧ Aside0 (Below w2.heap.size w2 wr) ∧ Aside0 (LocAt f.units hN pw E t Fi)) (fun _ s _ => (intOf s).toNat)
         case atStart => exact ⟨E, -1, by rfl, by go_num, HE1.out, Nat.le_refl _, HBW3, ⟨.inl ⟨rfl, fun q h1 h2 => by omega⟩⟩⟩
         case round =>
           obtain ⟨t, Fi, rfl, rfl, ht1, ht2, HBI, HL⟩ := hrel
           by_cases hgt : hN + 1 < t
           · obtain ⟨q, rfl⟩ : ∃ q, t = q + 1 := ⟨t - 1, by omega⟩
             have hq1 : (((q + 1 : Nat) : Int) - 1) = (q : Int) := by omega
             rw [hq1]
             have hgtz : (hN : Int) < (q : Int) := by omega
             have hql : q < f.units.length := by have := HEL.out; omega
             have hqz : (q : Int) < (f.units.length : Int) := by omega
             have hq0 : decide ((q : Int) < 0) = false := decide_eq_false (by omega)
             have hhz : (hN : Int) < (f.units.length : Int) := by omega
             have hh0 : decide ((hN : Int) < 0) = false := decide_eq_false (by omega)
             obtain ⟨ad1, he1, z0, _, z2⟩ := at_units (HCU.out _ HBI.out) q hql
             injection he1 with he1
             subst he1
             obtain ⟨ad2, he2, _, _, y2⟩ := at_units (HCU.out _ HBI.out) hN hh
             injection he2 with he2
             subst he2
             obtain ⟨adp, hap, p0⟩ := Kd.at_string (HPR.out _ (HB2.out.trans (HBI.out.mono HB2.out.size))) (j : Int) (by omega) (by omega)
             subst hap
             rw [Int.toNat_natCast, show rdOf ByteArray.empty path (j : Int) = pw by rw [HPW.out]; simp [rdOf, List.getD_eq_getElem?_getD, List.getElem?_eq_getElem hlt]] at p0
             have HISK := Aside0.mk (isKid_eq (f.units) hN q pw hh hql (HU.out.1.lev hN))
             generalize f.units[q].f0 = nq at *
             generalize f.units[q].f2 = lq at *
             generalize f.units[hN].f2 = lh at *
             by_cases hg : lq = wrap64 (lh + 1)
             · have g1 : (lq == wrap64 (lh + 1)) = true := by simpa using hg
               by_cases hn : nq = pw
               · have g2 : (nq.toList == pw.toList) = true := by rw [hn]; exact beq_yes _
                 have HL2 := Aside0.mk (HL.out.hit (by omega) (by rw [HISK.out, decide_eq_true hg, decide_eq_true hn]; rfl))
                 clear hg hn
                 go_wp2_with fail
                 go_quiet (fail)
                 go_wp2_with fail
                 go_roundw
                 case rel => exact ⟨q, _, rfl, rfl, by omega, by omega, ⟨pw_below_drewN HBI.out _⟩, HL2⟩
                 case measure => (simp [intOf]; omega)
               · have g2 := beq_no hn
                 have HL2 := Aside0.mk (HL.out.miss (by rw [HISK.out, decide_eq_false hn, Bool.and_false]))
                 clear hg hn
                 go_wp2_with fail
                 go_quiet (fail)
                 go_wp2_with fail
                 go_roundw
                 case rel => exact ⟨q, _, rfl, rfl, by omega, by omega, ⟨pw_below_drewN HBI.out _⟩, HL2⟩
                 case measure => (simp [intOf]; omega)
             · have g1 : (lq == wrap64 (lh + 1)) = false := by simpa using hg
               have HL2 := Aside0.mk (HL.out.miss (by rw [HISK.out, decide_eq_false hg, Bool.false_and]))
               clear hg
               go_wp2_with fail
               go_quiet (fail)
               go_wp2_with fail
               go_roundw
               case rel => exact ⟨q, _, rfl, rfl, by omega, by omega, ⟨pw_below_drewN HBI.out _⟩, HL2⟩
               case measure => (simp [intOf]; omega)
           · obtain rfl : t = hN + 1 := by omega
             have hq1 : (((hN + 1 : Nat) : Int) - 1) = (hN : Int) := by omega
             rw [hq1]
             have hgtz : ¬ (hN : Int) < (hN : Int) := by omega
             rcases LocAt.end_ hh HE.out HL.out with ⟨rfl, hN_⟩ | ⟨t', rfl, ht', hN_⟩
             · have HM := Aside0.mk (mLocate_none HMO.out (show locGo f.units 0 path = none by rw [HLG.out, List.drop_eq_getElem_cons hlt, ← HPW.out]; exact locGo_no hN_))
               clear hN_
               go_wp2
               refine bodyPost_ret (v := .tuple #[.int .i64 0, .int .i64 6]) (by simp [results, Tryz.f25, go_sem]) rfl ?_
               exact RLocOut.stay (HB2.out.trans (HBI.out.mono HB2.out.size)) HM.out
             · have HLG2 := Aside0.mk (show locGo f.units 0 path = locGo f.units t' (path.drop (j + 1)) by
                 rw [HLG.out, List.drop_eq_getElem_cons hlt, ← HPW.out]; exact locGo_yes hN_)
               have ht0 : decide ((t' : Int) < 0) = false := decide_eq_false (by omega)
               clear hN_
               go_wp2_with fail
               go_roundw
               case rel => exact ⟨t', j + 1, rfl, by rw [HJW.out], by omega, ht', HBI, HLG2⟩
               case measure => (rw [HJW.out]; simp [intOf]; omega)
       · have hltz : ¬ (j : Int) < (path.length : Int) := by omega
         obtain rfl : path.length = j := by omega
         have HLG2 := Aside0.mk (show locGo f.units 0 path = some hN by rw [HLG.out, List.drop_length]; rfl)
         rcases HDD.out with hd0 | hd12
         · have gW : decide (bits .and .i64 1 a = 1) = true := by rw [HWI.out, hd0]; rfl
           have HM := Aside0.mk (show mLocate st u n path = ((hN : Int), 0) by unfold mLocate; rw [HMO.out]; simp only [HLG2.out, hd0, if_pos])
           clear hd0
           go_wp2_with fail
           refine (rwithin_c 1 a _).mono ?_
           rintro e w' ⟨rfl, rfl⟩
           go_wp2
           refine bodyPost_ret (v := .tuple #[.int .i64 (hN : Int), .int .i64 0]) (by simp [results, Tryz.f25, go_sem]) rfl ?_
           exact RLocOut.stay (HB2.out.trans (HBW.out.mono HB2.out.size)) HM.out

         · have gW : decide (bits .and .i64 1 a = 1) = false := by rw [HWI.out, hd12]; rfl
           have HM := Aside0.mk (show mLocate st u n path = (0, 12) by unfold mLocate; rw [HMO.out]; simp only [HLG2.out, hd12]; rfl)
           clear hd12
           go_wp2_with fail
           refine (rwithin_c 1 a _).mono ?_
           rintro e w' ⟨rfl, rfl⟩
           go_wp2
           refine bodyPost_ret (v := .tuple #[.int .i64 0, .int .i64 12]) (by simp [results, Tryz.f25, go_sem]) rfl ?_
           exact RLocOut.stay (HB2.out.trans (HBW.out.mono HB2.out.size)) HM.out
end Go.Proofs.YtehlmkgldcfciaaGreat.Files
