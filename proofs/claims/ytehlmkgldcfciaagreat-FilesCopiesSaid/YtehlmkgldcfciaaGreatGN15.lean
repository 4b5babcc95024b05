/- The parts of this proof that lie in one text. -/
import Derived.Test.YtehlmkgldcfciaaGreatGN3
import Derived.Test.YtehlmkgldcfciaaGreatGN1
import Derived.Test.YtehlmkgldcfciaaGreatGN8
/- The file store: the example of the chapter is right. -/
set_option linter.unusedVariables false
set_option linter.unusedSimpArgs false
namespace Go.Proofs.YtehlmkgldcfciaaGreat.Files
open Go.Proofs.YtehlmkgldcfciaaGreat.Common Go.Maps Go.ChangeMaps Go.WideMaps Go.Proofs.YtehlmkgldcfciaaGreat.F
open Go.RowKit Go.Proofs.YtehlmkgldcfciaaGreatW.PrintWords Go.Proofs.YtehlmkgldcfciaaGreatW.PrintLast Go.Proofs.YtehlmkgldcfciaaGreatW.PrintMore
theorem SOut.one {W : World} {ok : Nat → Prop} {sb : Nat} {v : Value} {f : AF} {e : Ending} {w' : World} {base : Nat} (h : SOut W ok sb v [f] e w') (hB : base ≤ W.heap.size) (hok : ∀ q, ok q → base ≤ q) :
    e = .returned v ∧ ∃ ok' fb, StoreRep w' ok' sb [(fb, f)] ∧ Below base W w' ∧ (∀ q, ok' q → base ≤ q) ∧ base ≤ w'.heap.size := by
  obtain ⟨rfl, ok', L', hR, hL, hc, hq⟩ := h
  match L', hL with
  | [(fb, g)], hL =>
    have hg : g = f := by simpa using hL
    subst hg
    exact ⟨rfl, ok', fb, hR, hc.below hB hok, fun q h => (hq q h).elim (hok q) (fun h => by omega), by have := hc.size; omega⟩
theorem uok1 : UOk F1.units := uok_of (by decide) (by decide) (by rw [F1_units]; intro x hx; obtain rfl := List.mem_singleton.1 hx; decide) rfl
theorem uok2 : UOk F2.units := uok_of (by decide) (by decide) (by
  rw [F2_units]
  intro x hx
  rcases List.mem_cons.1 hx with rfl | hx
  · decide
  · obtain rfl := List.mem_singleton.1 hx
    decide) rfl
theorem uok3 : UOk F3.units := uok_of (by decide) (by decide) (by
  rw [F3_units]
  intro x hx
  rcases List.mem_cons.1 hx with rfl | hx
  · decide
  · rcases List.mem_cons.1 hx with rfl | hx
    · decide
    · obtain rfl := List.mem_singleton.1 hx
      decide) rfl
theorem read3 : readL F3.units 0 true = [⟨ByteArray.empty, ByteArray.empty, 0⟩, ⟨sa, s1, 1⟩, ⟨sb_, s2, 1⟩] := by
  rw [F3_units]
  simp [readL, endOf, runLen, lower, lv, rd_T29, wrap64]
set_option maxRecDepth 100000 in
set_option maxHeartbeats 1000000 in
theorem sane_c (w : World) : Calls Tryz.prog 13 #[] w fun e w' => e = .returned (.bool true) ∧ Below w.heap.size w w' := by
  go_enter Tryz.func13, Tryz.ntmps13
  go_wp2_with fail
  refine (S_New w).mono ?_
  rintro e w1 ⟨sb, ok1, rfl, hR1, hb1, hok1⟩
  have hz1 := hb1.size
  have HB1 := Aside0.mk hb1
  have CC := Aside0.mk (S_Create_ok sb ok1 [] su sf 2 255 w1 hR1 (by decide) (by decide) (by decide) (by decide) (fun p hp => by cases hp) (by decide))
  clear hb1 hR1
  go_wp2_with fail
  refine CC.out.mono ?_
  intro e w2 ho2
  obtain ⟨rfl, ok2, fb2, hR2, hb2, hok2, hz2⟩ := SOut.one (f := F0) ho2 hz1 hok1
  have HB2 := Aside0.mk (HB1.out.trans hb2)
  have CO := S_Open sb fb2 0 ok2 [(fb2, F0)] F0 su sf 255 0 w2 hR2 rfl rfl (by decide) (by decide) (by decide) (by decide) (by decide) rfl rfl (by decide) (by decide)
  rw [if_pos (show freeB F0.users 255 0 = true from rfl), if_pos (show freeB F0.users 255 0 = true from rfl)] at CO
  have CO' := Aside0.mk CO
  clear CC CO hb2 hR2 ho2 hok1 hz1
  go_wp2_with fail
  refine CO'.out.mono ?_
  intro e w3 ho3
  obtain ⟨rfl, ok3, fb3, hR3, hb3, hok3, hz3⟩ := SOut.one (f := F1) ho3 hz2 hok2
  have HB3 := Aside0.mk (HB2.out.trans hb3)
  have C1 := S_Insert_ok sb fb3 0 0 ok3 [(fb3, F1)] F1 su sf true sa s1 0 255 0 w3 hR3 rfl rfl (by decide) (by decide) rfl uok1 (by decide) (by decide) (by decide) rfl rfl rfl (by decide)
  have C1' := Aside0.mk C1
  clear CO' C1 hb3 hR3 ho3 hok2 hz2
  go_wp2_with fail
  refine C1'.out.mono ?_
  intro e w4 ho4
  obtain ⟨rfl, ok4, fb4, hR4, hb4, hok4, hz4⟩ := SOut.one (f := F2) ho4 hz3 hok3
  have HB4 := Aside0.mk (HB3.out.trans hb4)
  have C2 := Aside0.mk (S_Insert_ok sb fb4 0 1 ok4 [(fb4, F2)] F2 su sf false sb_ s2 0 255 0 w4 hR4 rfl rfl (by decide) (by decide) rfl uok2 (by decide) (by decide) (by decide) rfl rfl rfl (by decide))
  clear C1' hb4 hR4 ho4 hok3 hz3
  go_wp2_with fail
  refine C2.out.mono ?_
  intro e w5 ho5
  obtain ⟨rfl, ok5, fb5, hR5, hb5, hok5, hz5⟩ := SOut.one (f := F3) ho5 hz4 hok4
  have HB5 := Aside0.mk (HB4.out.trans hb5)
  have C3 := Aside0.mk (S_Read_ok sb fb5 0 0 ok5 [(fb5, F3)] F3 su sf true 255 0 w5 hR5 rfl rfl (by decide) (by decide) rfl uok3 (by decide) rfl)
  clear C2 hb5 hR5 ho5 hok4 hz4
  go_wp2_with fail
  refine C3.out.mono ?_
  rintro e w6 ⟨v, ho6, hr6⟩
  obtain ⟨rfl, ok6, fb6, hR6, hb6, hok6, hz6⟩ := SOut.one (f := F3.read) ho6 hz5 hok5
  have HB6 := Aside0.mk (HB5.out.trans hb6)
  have hr6' : Kd.R k29 29 w6 w5.heap.size (fun _ => True) v [⟨ByteArray.empty, ByteArray.empty, 0⟩, ⟨sa, s1, 1⟩, ⟨sb_, s2, 1⟩] := by rw [← read3]; exact hr6
  obtain ⟨g, c, rfl, hc, _⟩ := units_slice hr6' (by decide)
  obtain ⟨_, _, hC⟩ := Kd.R_reads' hr6'
  have x4 : w6.cell? ⟨g, 4, none⟩ = some (.string ⟨#[49]⟩) := by
    obtain ⟨ad, he, _, h2, _⟩ := at_T29 hC 1 (by decide) (by decide)
    cases he
    exact h2
  have x7 : w6.cell? ⟨g, 7, none⟩ = some (.string ⟨#[50]⟩) := by
    obtain ⟨ad, he, _, h2, _⟩ := at_T29 hC 2 (by decide) (by decide)
    cases he
    exact h2
  have x8 : w6.cell? ⟨g, 8, none⟩ = some (.int .i64 1) := by
    obtain ⟨ad, he, _, _, h2⟩ := at_T29 hC 2 (by decide) (by decide)
    cases he
    exact h2
  clear C3 hb6 hR6 ho6 hok5 hz5 hr6 hr6' hC
  go_wp2
  go_ret
  exact ⟨rfl, HB6.out⟩
end Go.Proofs.YtehlmkgldcfciaaGreat.Files
/- The law's 'do' as a step of the machine. -/
set_option linter.unusedVariables false
set_option linter.unusedSimpArgs false
namespace Go.Proofs.YtehlmkgldcfciaaGreat.Files
open Go.Proofs.YtehlmkgldcfciaaGreat.Common Go.Maps Go.ChangeMaps Go.WideMaps Go.Proofs.YtehlmkgldcfciaaGreat.F
open Go.RowKit Go.Proofs.YtehlmkgldcfciaaGreatW.PrintWords Go.Proofs.YtehlmkgldcfciaaGreatW.PrintLast Go.Proofs.YtehlmkgldcfciaaGreatW.PrintMore
structure DoIn (W : World) (ok : Nat → Prop) (sb : Nat) (L : List (Nat × AF)) (st : Fs) (c : Nat) (Ar : Option Addr) (cc : Nat) (rules : List S100) : Prop where
  R : StoreRep W ok sb L
  hst : L.map (·.2) = st
  I : SInv c st
  c : c < 1000
  r : Kd.C k100 W Ar rules.length rules
  cc : rules.length ≤ cc
theorem DoIn.below {W w' : World} {ok : Nat → Prop} {sb : Nat} {L : List (Nat × AF)} {st : Fs} {c : Nat} {Ar : Option Addr} {cc : Nat} {rules : List S100} (h : DoIn W ok sb L st c Ar cc rules) (hb : Below W.heap.size W w') : DoIn w' ok sb L st c Ar cc rules :=
  ⟨h.R.other (Chg.of_below hb (fun _ => False)) (fun _ _ h => h), h.hst, h.I, h.c, Kd.C_below h.r hb, h.cc⟩
def DoOut (W : World) (ok : Nat → Prop) (sb : Nat) (st' : Fs) (e : Ending) (w' : World) : Prop := e = .returned (.tuple #[]) ∧ ∃ ok' L', StoreRep w' ok' sb L' ∧ L'.map (·.2) = st' ∧ Chg W w' ok ∧ ∀ q, ok' q → ok q ∨ W.heap.size ≤ q
theorem DoOut.of {W W1 w' : World} {ok : Nat → Prop} {sb : Nat} {v : Value} {st' : Fs} {e : Ending} (hb : Below W.heap.size W W1) (h : SOut W1 ok sb v st' e w') : DoOut W ok sb st' (.returned (.tuple #[])) w' := by
  obtain ⟨_, ok', L', h1, h2, h3, h4⟩ := h
  exact ⟨rfl, ok', L', h1, h2, ((Chg.of_below hb (fun _ => False)).mono (fun _ h => h.elim)).trans h3 (fun i hi => .inl hi), fun q hq => (h4 q hq).elim .inl (fun e => .inr (Nat.le_trans hb.size e))⟩
set_option maxRecDepth 100000 in
set_option maxHeartbeats 4000000 in
theorem do_c (ok : Nat → Prop) (sb : Nat) (L : List (Nat × AF)) (st : Fs) (c : Nat) (do_ A B : Int) (u n : ByteArray) (flag : Bool) (x : S29) (pv : Value) (Ar : Option Addr) (cc : Nat) (rules : List S100) (W : World) (hin : DoIn W ok sb L st c Ar cc rules) :
    Calls Tryz.prog 14 #[.pointer (some ⟨sb, 0, none⟩), .agg (ActIs do_ A B u n flag x pv (.slice Ar rules.length cc))] W (DoOut W ok sb (mDo st do_ A B u n flag x rules)) := by
  have hb1 : Below W.heap.size W (W.alloc (.cells (ActIs do_ A B u n flag x pv (.slice Ar rules.length cc)) 33)) := (Below.refl _ _).alloc (Nat.le_refl _) _
  have h := hin.below hb1
  by_cases h0 : do_ = 0
  · subst h0
    have HS := Aside0.mk (S_Create h.R h.hst h.I u n A B)
    have HB1 := Aside0.mk hb1
    have HM : Aside0 (mDo st 0 A B u n flag x rules = (mCreate st u n A B).2) := ⟨by simp [mDo]⟩
    unfold ActIs at HS HB1 ⊢
    clear h hin hb1
    go_enter Tryz.func14, Tryz.ntmps14
    go_wp2_with first | (go_at_call 16; refine HS.out.mono ?_; rintro e w' hS; obtain ⟨rfl, hS2⟩ := hS; have HS2 := Aside0.mk hS2; clear hS2)
    refine bodyPost_ret (v := .tuple #[]) (by simp [results, Tryz.f14, go_sem]) rfl ?_
    rw [HM.out]
    exact DoOut.of (v := .tuple #[]) HB1.out ⟨rfl, HS2.out⟩
  by_cases h1 : do_ = 1
  · subst h1
    have HS := Aside0.mk (S_Delete h.R h.hst h.I u n)
    have HB1 := Aside0.mk hb1
    have HM : Aside0 (mDo st 1 A B u n flag x rules = (mDelete st u n).2) := ⟨by simp [mDo]⟩
    unfold ActIs at HS HB1 ⊢
    clear h hin hb1
    go_enter Tryz.func14, Tryz.ntmps14
    go_wp2_with first | (go_at_call 18; refine HS.out.mono ?_; rintro e w' hS; obtain ⟨rfl, hS2⟩ := hS; have HS2 := Aside0.mk hS2; clear hS2)
    refine bodyPost_ret (v := .tuple #[]) (by simp [results, Tryz.f14, go_sem]) rfl ?_
    rw [HM.out]
    exact DoOut.of (v := .tuple #[]) HB1.out ⟨rfl, HS2.out⟩
  by_cases h2 : do_ = 2
  · subst h2
    have HS := Aside0.mk (S_Open_all h.R h.hst h.I h.c u n A B)
    have HB1 := Aside0.mk hb1
    have HM : Aside0 (mDo st 2 A B u n flag x rules = (mOpen st u n A B).2) := ⟨by simp [mDo]⟩
    unfold ActIs at HS HB1 ⊢
    clear h hin hb1
    go_enter Tryz.func14, Tryz.ntmps14
    go_wp2_with first | (go_at_call 20; refine HS.out.mono ?_; rintro e w' hS; obtain ⟨rfl, hS2⟩ := hS; have HS2 := Aside0.mk hS2; clear hS2)
    refine bodyPost_ret (v := .tuple #[]) (by simp [results, Tryz.f14, go_sem]) rfl ?_
    rw [HM.out]
    exact DoOut.of (v := .tuple #[]) HB1.out ⟨rfl, HS2.out⟩
  by_cases h3 : do_ = 3
  · subst h3
    have HS := Aside0.mk (S_Close h.R h.hst h.I u n)
    have HB1 := Aside0.mk hb1
    have HM : Aside0 (mDo st 3 A B u n flag x rules = (mClose st u n).2) := ⟨by simp [mDo]⟩
    unfold ActIs at HS HB1 ⊢
    clear h hin hb1
    go_enter Tryz.func14, Tryz.ntmps14
    go_wp2_with first | (go_at_call 22; refine HS.out.mono ?_; rintro e w' hS; obtain ⟨rfl, hS2⟩ := hS; have HS2 := Aside0.mk hS2; clear hS2)
    refine bodyPost_ret (v := .tuple #[]) (by simp [results, Tryz.f14, go_sem]) rfl ?_
    rw [HM.out]
    exact DoOut.of (v := .tuple #[]) HB1.out ⟨rfl, HS2.out⟩
  by_cases h5 : do_ = 5
  · subst h5
    have HS := Aside0.mk (S_Read h.R h.hst h.I u n A flag)
    have HB1 := Aside0.mk hb1
    have HM : Aside0 (mDo st 5 A B u n flag x rules = (mRead st u n A flag).2.2) := ⟨by simp [mDo]⟩
    unfold ActIs at HS HB1 ⊢
    clear h hin hb1
    go_enter Tryz.func14, Tryz.ntmps14
    go_wp2_with first | (go_at_call 26; refine HS.out.mono ?_; rintro e w' hS; obtain ⟨v, hS, _⟩ := hS; obtain ⟨rfl, hS2⟩ := hS; have HS2 := Aside0.mk hS2; clear hS2)
    refine bodyPost_ret (v := .tuple #[]) (by simp [results, Tryz.f14, go_sem]) rfl ?_
    rw [HM.out]
    exact DoOut.of (v := .tuple #[]) HB1.out ⟨rfl, HS2.out⟩
  by_cases h6 : do_ = 6
  · subst h6
    have HS := Aside0.mk (S_Insert h.R h.hst h.I u n A flag x.f0 x.f1 x.f2)
    have HB1 := Aside0.mk hb1
    have HM : Aside0 (mDo st 6 A B u n flag x rules = (mInsert st u n A flag x.f0 x.f1).2) := ⟨by simp [mDo]⟩
    unfold ActIs at HS HB1 ⊢
    clear h hin hb1
    go_enter Tryz.func14, Tryz.ntmps14
    go_wp2_with first | (go_at_call 30; refine HS.out.mono ?_; rintro e w' hS; obtain ⟨rfl, hS2⟩ := hS; have HS2 := Aside0.mk hS2; clear hS2)
    refine bodyPost_ret (v := .tuple #[]) (by simp [results, Tryz.f14, go_sem]) rfl ?_
    rw [HM.out]
    exact DoOut.of (v := .tuple #[]) HB1.out ⟨rfl, HS2.out⟩
  by_cases h7 : do_ = 7
  · subst h7
    have HS := Aside0.mk (S_Replace h.R h.hst h.I u n A x.f1)
    have HB1 := Aside0.mk hb1
    have HM : Aside0 (mDo st 7 A B u n flag x rules = (mReplace st u n A x.f1).2) := ⟨by simp [mDo]⟩
    unfold ActIs at HS HB1 ⊢
    clear h hin hb1
    go_enter Tryz.func14, Tryz.ntmps14
    go_wp2_with first | (go_at_call 32; refine HS.out.mono ?_; rintro e w' hS; obtain ⟨rfl, hS2⟩ := hS; have HS2 := Aside0.mk hS2; clear hS2)
    refine bodyPost_ret (v := .tuple #[]) (by simp [results, Tryz.f14, go_sem]) rfl ?_
    rw [HM.out]
    exact DoOut.of (v := .tuple #[]) HB1.out ⟨rfl, HS2.out⟩
  by_cases h8 : do_ = 8
  · subst h8
    have HS := Aside0.mk (S_Extend h.R h.hst h.I u n A x.f1)
    have HB1 := Aside0.mk hb1
    have HM : Aside0 (mDo st 8 A B u n flag x rules = (mExtend st u n A x.f1).2) := ⟨by simp [mDo]⟩
    unfold ActIs at HS HB1 ⊢
    clear h hin hb1
    go_enter Tryz.func14, Tryz.ntmps14
    go_wp2_with first | (go_at_call 34; refine HS.out.mono ?_; rintro e w' hS; obtain ⟨rfl, hS2⟩ := hS; have HS2 := Aside0.mk hS2; clear hS2)
    refine bodyPost_ret (v := .tuple #[]) (by simp [results, Tryz.f14, go_sem]) rfl ?_
    rw [HM.out]
    exact DoOut.of (v := .tuple #[]) HB1.out ⟨rfl, HS2.out⟩
  by_cases h9 : do_ = 9
  · subst h9
    have HS := Aside0.mk (S_Erase h.R h.hst h.I u n A)
    have HB1 := Aside0.mk hb1
    have HM : Aside0 (mDo st 9 A B u n flag x rules = (mErase st u n A).2) := ⟨by simp [mDo]⟩
    unfold ActIs at HS HB1 ⊢
    clear h hin hb1
    go_enter Tryz.func14, Tryz.ntmps14
    go_wp2_with first | (go_at_call 36; refine HS.out.mono ?_; rintro e w' hS; obtain ⟨rfl, hS2⟩ := hS; have HS2 := Aside0.mk hS2; clear hS2)
    refine bodyPost_ret (v := .tuple #[]) (by simp [results, Tryz.f14, go_sem]) rfl ?_
    rw [HM.out]
    exact DoOut.of (v := .tuple #[]) HB1.out ⟨rfl, HS2.out⟩
  by_cases h11 : do_ = 11
  · subst h11
    have HS := Aside0.mk (S_Change h.R h.hst u n B Ar cc rules h.r h.cc)
    have HB1 := Aside0.mk hb1
    have HM : Aside0 (mDo st 11 A B u n flag x rules = (mChange st u n B rules).2) := ⟨by simp [mDo]⟩
    unfold ActIs at HS HB1 ⊢
    clear h hin hb1
    go_enter Tryz.func14, Tryz.ntmps14
    go_wp2_with first | (go_at_call 42; refine HS.out.mono ?_; rintro e w' hS; obtain ⟨rfl, hS2⟩ := hS; have HS2 := Aside0.mk hS2; clear hS2)
    refine bodyPost_ret (v := .tuple #[]) (by simp [results, Tryz.f14, go_sem]) rfl ?_
    rw [HM.out]
    exact DoOut.of (v := .tuple #[]) HB1.out ⟨rfl, HS2.out⟩
  have g0 : (do_ == 0) = false := by simpa using h0
  have g1 : (do_ == 1) = false := by simpa using h1
  have g2 : (do_ == 2) = false := by simpa using h2
  have g3 : (do_ == 3) = false := by simpa using h3
  have g5 : (do_ == 5) = false := by simpa using h5
  have g6 : (do_ == 6) = false := by simpa using h6
  have g7 : (do_ == 7) = false := by simpa using h7
  have g8 : (do_ == 8) = false := by simpa using h8
  have g9 : (do_ == 9) = false := by simpa using h9
  have g11 : (do_ == 11) = false := by simpa using h11
  have HM : Aside0 (mDo st do_ A B u n flag x rules = st) := ⟨by simp [mDo, h0, h1, h2, h3, h5, h6, h7, h8, h9, h11]⟩
  have HI := Aside0.mk h
  have HB1 := Aside0.mk hb1
  unfold ActIs at HI HB1 ⊢
  clear h hin hb1 h0 h1 h2 h3 h5 h6 h7 h8 h9 h11
  go_enter Tryz.func14, Tryz.ntmps14
  go_wp2
  refine bodyPost_ret (v := .tuple #[]) (by simp [results, Tryz.f14, go_sem]) rfl ?_
  rw [HM.out]
  exact DoOut.of HB1.out (v := .tuple #[]) (SOut.stay HI.out.R HI.out.hst ⟨rfl, Below.refl _ _⟩)
end Go.Proofs.YtehlmkgldcfciaaGreat.Files
/- A store copied: what its walk wants of the heap. -/
set_option linter.unusedVariables false
set_option linter.unusedSimpArgs false
namespace Go.Proofs.YtehlmkgldcfciaaGreat.Files
open Go.Proofs.YtehlmkgldcfciaaGreat.Common Go.Maps Go.ChangeMaps Go.WideMaps Go.Proofs.YtehlmkgldcfciaaGreat.F
open Go.RowKit Go.Proofs.YtehlmkgldcfciaaGreatW.PrintWords Go.Proofs.YtehlmkgldcfciaaGreatW.PrintLast Go.Proofs.YtehlmkgldcfciaaGreatW.PrintMore
theorem Chg.ranges {W W' : World} {S : Nat → Prop} (h : Chg W W' S) {P : Program} {k : TypeId} {R : Value → Option (DataW Unit × List MemPlace)} {b r n : Nat} {D : DataW Unit} {left : Lit → Bool} {cnt : Nat} (hr : W.ranges P k R b r n D left cnt) (hb : ¬ S b) (hr' : ¬ S r) : W'.ranges P k R b r n D left cnt := by
  have h1 := hr.owns.lt
  have h2 := hr.lt
  obtain ⟨es, clock, since, seen, c0, hb0, F, hs, hD, hr0, rest⟩ := hr
  exact ⟨es, clock, since, seen, c0, (h.block b h1 hb).trans hb0, F, hs, hD, (h.block r h2 hr').trans hr0, rest⟩
theorem StoreParts.put {W w1 w' : World} {ok : Nat → Prop} {sb mb fb n : Nat} {L : List (Nat × AF)} {D : DataW Unit} {own : Nat → Nat} {f : AF} (R : StoreParts W ok sb L mb D own) (hb1 : Below W.heap.size W w1) (hf : FileRep w1 (fun q => W.heap.size ≤ q) fb f) (hT : w1.mapTurned w' mb)
    (hM' : w'.ownsMap Tryz.prog 9 Rp mb n (D.put (.string f.key) (.lit (.int .i64 (fb : Nat))))) (hno : ∀ p ∈ L, p.2.F.name ≠ f.F.name) :
    StoreRep w' (okP ok W w') sb (L ++ [(fb, f)]) ∧ Chg W w' ok := by
  obtain ⟨A, rc, uv, ub, DU, P3⟩ := hf
  have hfb : W.heap.size ≤ fb := P3.okb
  have hlook := filesL_none R.mM hno
  have hmb := R.M.lt
  have hsb := R.S.lt
  have hne : sb ≠ mb := fun e => by
    have h1 := R.S
    obtain ⟨es, clock, hb, _⟩ := R.M
    rw [← e] at hb
    exact absurd (h1.symm.trans hb) (by simp)
  have hcT : Chg w1 w' (fun q => q = mb) := Chg.of_turned hT rfl
  have hcW : Chg W w' ok := ((Chg.of_below hb1 (fun _ => False)).mono (fun _ h => h.elim)).trans hcT (fun q hq => .inl (by rw [hq]; exact R.okm))
  have hsz := hcW.size
  have hfbs : ∀ p ∈ L, p.1 < W.heap.size ∧ p.1 ≠ mb := fun p hp => by
    obtain ⟨A, rc, uv, ub, DU, P⟩ := R.files p hp
    exact ⟨blk_lt P.F, Ne.symm (blk_map_ne P.F R.M)⟩
  refine ⟨⟨mb, D.put (.string f.key) (.lit (.int .i64 (fb : Nat))), fun q => if q = mb ∨ q = sb then mb else if q < W.heap.size then own q else fb, ?_⟩, hcW⟩
  have hmap : (L ++ [(fb, f)]).map (fun p => (p.2.key, (DataW.lit (.int .i64 (p.1 : Int)) : DataW Unit))) = L.map (fun p => (p.2.key, (DataW.lit (.int .i64 (p.1 : Int)) : DataW Unit))) ++ [(f.key, .lit (.int .i64 (fb : Nat)))] := by
    rw [List.map_append]; rfl
  refine ⟨⟨.inl R.oks, by omega⟩, ⟨.inl R.okm, by omega⟩, ?_, ownsMap_tight hM', ?_, ?_, ?_, fun q hq => hq.2, ?_, ?_⟩
  · exact (hcT.block sb (Nat.lt_of_lt_of_le hsb hb1.size) hne).trans ((hb1.block sb hsb).trans R.S)
  · rw [hmap]
    exact R.mM.put _ _ hlook
  · intro p hp
    rcases List.mem_append.1 hp with hp | hp
    · refine (((R.files p hp).step (Chg.of_below hb1 (fun _ => False)) (fun _ _ h => h)).step hcT (fun q hq e => (R.ownm p hp).1 (by rw [← e]; exact hq.2))).mono (fun q hq => ?_)
      have hqlt := R.lt q hq.1
      refine ⟨⟨.inl hq.1, by omega⟩, ?_⟩
      have h1 : ¬ (q = mb ∨ q = sb) := fun h => h.elim (fun e => (R.ownm p hp).1 (by rw [← e]; exact hq.2)) (fun e => (R.ownm p hp).2 (by rw [← e]; exact hq.2))
      show (if q = mb ∨ q = sb then mb else if q < W.heap.size then own q else fb) = p.1
      rw [if_neg h1, if_pos hqlt]
      exact hq.2
    · obtain rfl := List.mem_singleton.1 hp
      refine ⟨_, _, _, _, _, (P3.step hcT (fun q hq => by omega)).bound.mono (fun q hq => ⟨⟨.inr hq.1, hq.2⟩, ?_⟩)⟩
      show (if q = mb ∨ q = sb then mb else if q < W.heap.size then own q else fb) = fb
      have hq1 := hq.1
      rw [if_neg (by omega), if_neg (by omega)]
  · intro p hp
    have h2 : p.1 ≠ mb := by
      rcases List.mem_append.1 hp with hp | hp
      · exact (hfbs p hp).2
      · obtain rfl := List.mem_singleton.1 hp
        show fb ≠ mb
        omega
    show (if mb = mb ∨ mb = sb then mb else _) ≠ p.1 ∧ (if sb = mb ∨ sb = sb then mb else _) ≠ p.1
    rw [if_pos (.inl rfl), if_pos (.inr rfl)]
    exact ⟨Ne.symm h2, Ne.symm h2⟩
  · rw [List.map_append, List.nodup_append]
    refine ⟨R.fbs, by simp, fun a ha b hb e => ?_⟩
    obtain ⟨p, hp, rfl⟩ := List.mem_map.1 ha
    have := (hfbs p hp).1
    have hb' : b = fb := by simpa using hb
    omega
  · rw [List.map_append, List.nodup_append]
    refine ⟨R.names, by simp, fun a ha b hb e => ?_⟩
    obtain ⟨p, hp, rfl⟩ := List.mem_map.1 ha
    have hb' : b = f.key := by simpa using hb
    exact hno p hp (data_inj (e.trans hb'))
theorem look_perm {α : Type} {l m : List (Key × α)} (hp : l.Perm m) (hn : (l.map (·.1)).Nodup) (k : Key) : look l k = look m k := by
  have hm : (m.map (·.1)).Nodup := (hp.map _).nodup_iff.1 hn
  cases h : look l k with
  | none =>
    symm
    exact look_none.2 fun p hp2 => look_none.1 h p (hp.mem_iff.2 hp2)
  | some x => exact (look_of_mem hm (p := (k, x)) (hp.mem_iff.1 (look_mem h))).symm
theorem MapIs.perm {D : DataW Unit} {l m : List (Key × DataW Unit)} (h : MapIs D l) (hp : l.Perm m) (hn : (l.map (·.1)).Nodup) : MapIs D m :=
  ⟨fun k z => by rw [h.at_, look_perm hp hn], fun k => by rw [h.has, look_perm hp hn], by rw [h.size, hp.length_eq], h.tidy⟩
theorem StoreParts.reorder {W : World} {ok : Nat → Prop} {sb mb : Nat} {L L' : List (Nat × AF)} {D : DataW Unit} {own : Nat → Nat} (h : StoreParts W ok sb L mb D own) (hp : L.Perm L') : StoreParts W ok sb L' mb D own :=
  ⟨h.oks, h.okm, h.S, h.M, h.mM.perm (hp.map _) (by rw [List.map_map]; exact h.names), fun p hm => h.files p (hp.mem_iff.2 hm), fun p hm => h.ownm p (hp.mem_iff.2 hm), h.lt, (hp.map _).nodup_iff.1 h.fbs, (hp.map _).nodup_iff.1 h.names⟩
theorem perm_lift {α β : Type} (f : α → β) : ∀ (m : List β) (l : List α), (l.map f).Perm m → ∃ l', l.Perm l' ∧ l'.map f = m
  | [], l, h => by
    have : l = [] := by simpa using h.eq_nil
    exact ⟨[], by rw [this], rfl⟩
  | b :: m, l, h => by
    have hb : b ∈ l.map f := h.mem_iff.2 List.mem_cons_self
    obtain ⟨a, ha, rfl⟩ := List.mem_map.1 hb
    obtain ⟨s, t, rfl⟩ := List.append_of_mem ha
    have h2 : (f a :: (s ++ t).map f).Perm (f a :: m) := by
      refine List.Perm.trans ?_ h
      rw [List.map_append, List.map_append, List.map_cons]
      exact List.perm_middle.symm
    obtain ⟨l', hl1, hl2⟩ := perm_lift f m (s ++ t) h2.cons_inv
    exact ⟨a :: l', List.perm_middle.trans (hl1.cons a), by rw [List.map_cons, hl2]⟩
theorem perm_nodup {α : Type} : ∀ (l m : List α), l.Nodup → m.Nodup → (∀ a, a ∈ l ↔ a ∈ m) → l.Perm m
  | [], m, _, _, h => by
    cases m with
    | nil => exact List.Perm.refl _
    | cons b m => exact absurd ((h b).2 List.mem_cons_self) (by simp)
  | a :: l, m, hl, hm, h => by
    obtain ⟨s, t, rfl⟩ := List.append_of_mem ((h a).1 List.mem_cons_self)
    have hm' : (a :: (s ++ t)).Nodup := (List.perm_middle.nodup_iff).1 hm
    rw [List.nodup_cons] at hl hm'
    refine ((perm_nodup l (s ++ t) hl.2 hm'.2 fun b => ?_).cons a).trans List.perm_middle.symm
    have hb := h b
    rw [List.perm_middle.mem_iff, List.mem_cons, List.mem_cons] at hb
    constructor
    · intro hbl
      rcases hb.1 (.inr hbl) with e | e
      · subst e; exact absurd hbl hl.1
      · exact e
    · intro hbm
      rcases hb.2 (.inr hbm) with e | e
      · subst e; exact absurd hbm hm'.1
      · exact e
structure CopyRel (W : World) (L : List (Nat × AF)) (mb : Nat) (D : DataW Unit) (cb r n : Nat) (left : Lit → Bool) (cnt : Nat) (wr : World) (okc : Nat → Prop) (Lc : List (Nat × AF)) (mc : Nat) (Dc : DataW Unit) (ownc : Nat → Nat) : Prop where
  rg : wr.ranges Tryz.prog 9 Rp mb r n D left cnt
  low : Below W.heap.size W wr
  hr : W.heap.size ≤ r
  R : StoreParts wr okc cb Lc mc Dc ownc
  okc : ∀ q, okc q → W.heap.size ≤ q ∧ q ≠ r
  sub : ∀ p ∈ Lc, ∃ q ∈ L, q.2 = p.2 ∧ left (.string q.2.key) = false
  sup : ∀ q ∈ L, left (.string q.2.key) = false → ∃ p ∈ Lc, p.2 = q.2
theorem CopyRel.done {W wr : World} {L Lc : List (Nat × AF)} {mb cb r n cnt mc : Nat} {D Dc : DataW Unit} {left : Lit → Bool} {okc : Nat → Prop} {ownc : Nat → Nat} (h : CopyRel W L mb D cb r n left cnt wr okc Lc mc Dc ownc) (hn : (L.map (·.2.key)).Nodup) (hl : ∀ kl, left kl = false) : ∃ L', StoreRep wr okc cb L' ∧ L'.map (·.2) = L.map (·.2) := by
  have hnd : ∀ {l : List (Nat × AF)}, (l.map (·.2.key)).Nodup → (l.map (·.2)).Nodup := fun {l} h => by
    have h2 : ((l.map (·.2)).map AF.key).Nodup := by rw [List.map_map]; exact h
    exact List.Pairwise.of_map AF.key (fun a b hab e => hab (by rw [e])) h2
  obtain ⟨L', h1, h2⟩ := perm_lift (·.2) (L.map (·.2)) Lc (perm_nodup _ _ (hnd h.R.names) (hnd hn) fun f => by
    constructor
    · intro hf
      obtain ⟨p, hp, rfl⟩ := List.mem_map.1 hf
      obtain ⟨q, hq, e, _⟩ := h.sub p hp
      exact List.mem_map.2 ⟨q, hq, e⟩
    · intro hf
      obtain ⟨q, hq, rfl⟩ := List.mem_map.1 hf
      obtain ⟨p, hp, e⟩ := h.sup q hq (hl _)
      exact List.mem_map.2 ⟨p, hp, e⟩)
  exact ⟨L', ⟨mc, Dc, ownc, h.R.reorder h1⟩, h2⟩
theorem CopyRel.round {W wr w4 w17 w18 : World} {L Lc : List (Nat × AF)} {mb cb r n m cnt cnt4 mc xb fb : Nat} {D Dc : DataW Unit} {left : Lit → Bool} {okc : Nat → Prop} {ownc : Nat → Nat} {f : AF} (h : CopyRel W L mb D cb r n left cnt wr okc Lc mc Dc ownc) (hn : (L.map (·.2.key)).Nodup) (hmb : mb < W.heap.size)
    (hL : (fb, f) ∈ L) (hleft : left (.string f.key) = true) (hrg4 : w4.ranges Tryz.prog 9 Rp mb r n D (fun z => left z && !z.sameKey (.string f.key)) cnt4) (hg4 : wr.grownBy w4 (some r)) (hb17 : Below w4.heap.size w4 w17) (hf : FileRep w17 (fun q => w4.heap.size ≤ q) xb f)
    (hT : w17.mapTurned w18 mc) (hM : w18.ownsMap Tryz.prog 9 Rp mc m (Dc.put (.string f.key) (.lit (.int .i64 (xb : Nat))))) : ∃ okc' Lc' mc' Dc' ownc', CopyRel W L mb D cb r n (fun z => left z && !z.sameKey (.string f.key)) cnt4 w18 okc' Lc' mc' Dc' ownc' := by
  have hlowr := h.hr
  have R4 : StoreParts w4 okc cb Lc mc Dc ownc := h.R.other (Chg.of_grown hg4 (S := fun q => q = r) (fun k e => by injection e)) (fun q hq => (h.okc q hq).2)
  have hself : ∀ k : Key, (Lit.string k).sameKey (.string k) = true := fun k => WideAt.sameKey_self (a := .string k) trivial
  have hstay : ∀ k : Lit, left k = false → (left k && !k.sameKey (.string f.key)) = false := fun k e => by rw [e]; rfl
  have hno : ∀ p ∈ Lc, p.2.F.name ≠ f.F.name := fun p hp e => by
    obtain ⟨q, hq, e2, hl⟩ := h.sub p hp
    have : q.2.key = f.key := by rw [e2]; unfold AF.key; rw [e]
    rw [this, hleft] at hl
    cases hl
  obtain ⟨⟨mc', Dc', ownc', R'⟩, hc⟩ := R4.put hb17 hf hT hM hno
  have hmem : mb < w4.heap.size := hrg4.owns.lt
  refine ⟨_, _, mc', Dc', ownc', ⟨hc.ranges hrg4 (fun hq => by have := (h.okc mb hq).1; omega) (fun hq => (h.okc r hq).2 rfl), ?_, hlowr, R', fun q hq => ?_, fun p hp => ?_, fun q hq hl => ?_⟩⟩
  · have h1 : Chg W w4 (fun q => W.heap.size ≤ q) := ((Chg.of_below h.low (fun _ => False)).mono (fun _ h => h.elim)).trans (Chg.of_grown hg4 (S := fun q => q = r) (fun k e => by injection e)) (fun i hi => .inr (by rw [hi]; exact hlowr))
    have h2 := h1.trans hc (fun i hi => .inr (h.okc i hi).1)
    exact h2.below (Nat.le_refl _) (fun k hk => hk)
  · have hrl := hrg4.lt
    have hs1 := h.low.size
    have hs2 := hg4.size
    rcases hq.1 with h1 | h1
    · exact h.okc q h1
    · exact ⟨by omega, by omega⟩
  · rcases List.mem_append.1 hp with hp | hp
    · obtain ⟨q, hq, e2, hl⟩ := h.sub p hp
      exact ⟨q, hq, e2, hstay _ hl⟩
    · obtain rfl := List.mem_singleton.1 hp
      exact ⟨(fb, f), hL, rfl, by show (left (.string f.key) && !(Lit.string f.key).sameKey (.string f.key)) = false; rw [hself]; simp⟩
  · rcases Bool.and_eq_false_iff.1 hl with hl | hl
    · obtain ⟨p, hp, e⟩ := h.sup q hq hl
      exact ⟨p, List.mem_append_left _ hp, e⟩
    · have hs : (Lit.string q.2.key).sameKey (.string f.key) = true := by simpa using hl
      have hk := WideAt.sameKey_eq hs
      injection hk with hk
      have : q = (fb, f) := by
        obtain ⟨i, hi, rfl⟩ := List.getElem_of_mem hq
        obtain ⟨j, hj, hje⟩ := List.getElem_of_mem hL
        have h1 : (L.map (·.2.key))[i]? = some f.key := by rw [List.getElem?_map, List.getElem?_eq_getElem hi]; exact congrArg some hk
        have h2 : (L.map (·.2.key))[j]? = some f.key := by rw [List.getElem?_map, List.getElem?_eq_getElem hj, hje]; rfl
        obtain rfl := (List.getElem?_inj (by rw [List.length_map]; exact hi) hn).1 (h1.trans h2.symm)
        exact hje
      exact ⟨(xb, f), List.mem_append_right _ (List.mem_singleton.2 rfl), by rw [this]⟩
theorem copy_entry {W : World} {ok : Nat → Prop} {sb mb : Nat} {L : List (Nat × AF)} {D : DataW Unit} {own : Nat → Nat} (R : StoreParts W ok sb L mb D own) {x : ByteArray} {v : Value} {y1 : DataW Unit} {y2 : List MemPlace} (hv : Rp v = some (y1, y2)) (hat : ∀ zd, D.atKey (.string x.data.toList) zd = y1) :
    ∃ fb f, (fb, f) ∈ L ∧ f.F.name = x ∧ v = .pointer (some ⟨fb, 0, none⟩) := by
  cases hl : look (L.map fun p => (p.2.key, (DataW.lit (.int .i64 (p.1 : Int)) : DataW Unit))) x.data.toList with
  | none =>
    have h1 := hat .nil
    have h2 := hat (.lit (.bool true))
    rw [R.mM.at_, hl] at h1 h2
    rw [← h1] at h2
    cases h2
  | some d =>
    have h1 := hat .nil
    rw [R.mM.at_, hl] at h1
    obtain ⟨p, hp, e⟩ := List.mem_map.1 (look_mem hl)
    injection e with e1 e2
    have h2 : y1 = .lit (.int .i64 (p.1 : Int)) := h1.symm.trans e2.symm
    subst h2
    exact ⟨p.1, p.2, hp, data_inj e1, Rp_at hv⟩
theorem C_units {W : World} {A : Option Addr} {l : List S29} (h : Kd.C k29 W A l.length l) : Kd.C (Kd.raw 3) W A l.length (l.map uCells) := by
  obtain ⟨css, hcl, hcr, hck⟩ := C_raw h
  have : css = l.map uCells := by
    apply List.ext_getElem?
    intro j
    rw [List.getElem?_map]
    by_cases hj : j < l.length
    · obtain ⟨c0, h0, hK⟩ := hck j l[j] (List.getElem?_eq_getElem hj)
      rw [h0, k29_open hK, List.getElem?_eq_getElem hj]
      all_goals rfl
    · rw [List.getElem?_eq_none (by omega), List.getElem?_eq_none (by omega)]
      rfl
  rw [← this]
  exact hcr
theorem copy_file {W w13 w16 : World} {fb rc ub ub' n : Nat} {f : AF} {A A' : Option Addr} {rc' : Nat} {rc0 : Nat} {A0 : Option Addr} {uv uv' : Value} {DU : DataW Unit} {ok : Nat → Prop} (P : FileParts W ok fb f A rc uv ub DU) (hb13 : Below W.heap.size W w13)
    (hu : Kd.R k29 29 w13 W.heap.size (fun _ => True) uv' f.units) (hU : w13.ownsMap Tryz.prog 9 Ro ub' n DU) (hub : W.heap.size ≤ ub')
    (hb16 : Below (w13.alloc (.cells (f.F.cells (.slice A0 f.rules.length rc0) uv' ub') 92)).heap.size (w13.alloc (.cells (f.F.cells (.slice A0 f.rules.length rc0) uv' ub') 92)) w16) (hr : Kd.R k100 100 w16 W.heap.size (fun _ => True) (.slice A' f.rules.length rc') f.rules) :
    FileRep (w16.setCell ⟨w13.heap.size, 7, none⟩ (.slice A' f.rules.length rc')) (fun q => W.heap.size ≤ q) w13.heap.size f ∧ Below W.heap.size W (w16.setCell ⟨w13.heap.size, 7, none⟩ (.slice A' f.rules.length rc')) := by
  have hs13 := hb13.size
  have hb14 : Below w13.heap.size w13 (w13.alloc (.cells (f.F.cells (.slice A0 f.rules.length rc0) uv' ub') 92)) := (Below.refl _ _).alloc (Nat.le_refl _) _
  have hF14 : FileAt (w13.alloc (.cells (f.F.cells (.slice A0 f.rules.length rc0) uv' ub') 92)) w13.heap.size f.F (.slice A0 f.rules.length rc0) uv' ub' := heap_alloc_new w13 _
  have hF16 : FileAt w16 w13.heap.size f.F (.slice A0 f.rules.length rc0) uv' ub' := (hb16.block _ (by simp)).trans hF14
  have hF17 : FileAt (w16.setCell ⟨w13.heap.size, 7, none⟩ (.slice A' f.rules.length rc')) w13.heap.size f.F (.slice A' f.rules.length rc') uv' ub' := file_set hF16 7 _ rfl
  have hb136 : Below w13.heap.size w13 w16 := hb14.trans (hb16.mono (by simp))
  have hU16 : w16.ownsMap Tryz.prog 9 Ro ub' n DU := (Chg.of_below hb136 (fun _ => False)).map hU (fun h => h)
  have hu16 : Kd.R k29 29 w16 W.heap.size (fun _ => True) uv' f.units := Kd.R_below hu hb136
  refine ⟨⟨A', rc', uv', ub', DU, ⟨hs13, hF17, ?_, ?_, hub, ownsMap_tight (hU16.setCell (a := ⟨w13.heap.size, 7, none⟩) (blk_map_ne hF16 hU16) _), P.mU⟩⟩, ?_⟩
  · exact Kd.R_mono (Kd.R_lower (Kd.R_bound (Kd.R_set hr hF16 (by decide) 7 _)) (Nat.zero_le _)) (fun k hk => hk.2.1)
  · exact Kd.R_mono (Kd.R_lower (Kd.R_bound (Kd.R_set hu16 hF16 (by decide) 7 _)) (Nat.zero_le _)) (fun k hk => hk.2.1)
  · exact (hb13.trans (hb136.mono hs13)).setCell (p := ⟨w13.heap.size, 7, none⟩) hs13 _
theorem nodup_len {α : Type} : ∀ (l m : List α), l.Nodup → (∀ a, a ∈ l → a ∈ m) → l.length ≤ m.length
  | [], m, _, _ => Nat.zero_le _
  | a :: l, m, hl, h => by
    obtain ⟨s, t, rfl⟩ := List.append_of_mem (h a List.mem_cons_self)
    rw [List.nodup_cons] at hl
    have := nodup_len l (s ++ t) hl.2 (fun b hb => by
      have := h b (List.mem_cons_of_mem _ hb)
      rw [List.mem_append, List.mem_cons] at this
      rw [List.mem_append]
      rcases this with h1 | rfl | h1
      · exact .inl h1
      · exact absurd hb hl.1
      · exact .inr h1)
    simp only [List.length_append, List.length_cons] at *
    omega
theorem CopyRel.count {W wr : World} {L Lc : List (Nat × AF)} {mb cb r n cnt mc : Nat} {D Dc : DataW Unit} {left : Lit → Bool} {okc : Nat → Prop} {ownc : Nat → Nat} (h : CopyRel W L mb D cb r n left cnt wr okc Lc mc Dc ownc) : Maps.size Dc ≤ L.length := by
  rw [h.R.mM.size, List.length_map]
  have := nodup_len _ (L.map (·.2.key)) h.R.names (fun a ha => by
    obtain ⟨p, hp, rfl⟩ := List.mem_map.1 ha
    obtain ⟨q, hq, e, _⟩ := h.sub p hp
    exact List.mem_map.2 ⟨q, hq, by rw [e]⟩)
  rwa [List.length_map, List.length_map] at this
def CopyOut (W : World) (st : Fs) (e : Ending) (w' : World) : Prop := ∃ cb okc Lc, e = .returned (.pointer (some ⟨cb, 0, none⟩)) ∧ StoreRep w' okc cb Lc ∧ Lc.map (·.2) = st ∧ Below W.heap.size W w' ∧ ∀ q, okc q → W.heap.size ≤ q
end Go.Proofs.YtehlmkgldcfciaaGreat.Files
/- The file store: Copy. -/
set_option linter.unusedVariables false
set_option linter.unusedSimpArgs false
namespace Go.Proofs.YtehlmkgldcfciaaGreat.Files
open Go.Proofs.YtehlmkgldcfciaaGreat.Common Go.Maps Go.ChangeMaps Go.WideMaps Go.Proofs.YtehlmkgldcfciaaGreat.F
open Go.RowKit Go.Proofs.YtehlmkgldcfciaaGreatW.PrintWords Go.Proofs.YtehlmkgldcfciaaGreatW.PrintLast Go.Proofs.YtehlmkgldcfciaaGreatW.PrintMore
def Cop.T7 : Bool × List (List Nat × List Nat) := (true, [([], []), ([0], [0]), ([1], [1]), ([2], [2]), ([], []), ([4], [4]), ([5], [5]), ([6], [6]), ([7], [7]), ([], []), ([9], [9]), ([10], [10]), ([11], [11]), ([12, 8], [12]), ([3, 8, 13], [3, 8, 13]), ([14], [14]), ([15, 13, 0, 1, 2, 3, 4, 5, 6, 7, 8, 9, 10, 11, 12, 13, 14, 15], [15])])
def Cop.B7 : List Nat := [0, 1, 3, 7, 0, 16, 48, 112, 240, 0, 512, 1536, 3584, 8176, 16383, 32767, 65535]
theorem Cop.tab7 : rtab .any (opsOf Tryz.f15 7) = Cop.T7 := by kernel_rfl
theorem Cop.bits7 : waitsOk Cop.T7.2 Cop.B7 = true := by kernel_rfl
set_option maxRecDepth 100000 in
set_option maxHeartbeats 4000000 in
theorem S_Copy {W : World} {ok : Nat → Prop} {sb : Nat} {L : List (Nat × AF)} {st : Fs} {c : Nat} (hR : StoreRep W ok sb L) (hst : L.map (·.2) = st) (hI : TInv c st) :
    Calls Tryz.prog 15 #[.pointer (some ⟨sb, 0, none⟩)] W (CopyOut W st) := by
  obtain ⟨mb, D, own, R⟩ := hR
  have HRR := Aside0.mk R
  have c0 := R.S.cell
  have HST := Lib.hid hst
  have HSI := Aside0.mk hI
  have CL := Aside0.mk (no_live sb mb W c0)
  have CN := Aside0.mk (S_New W)
  have hsz : Maps.size D ≤ 1000 := by rw [R.mM.size, List.length_map]; have := hI.count; rw [← hst, List.length_map] at this; omega
  have hsbl := R.S.lt
  have hmbl := R.M.lt
  clear R hst hI
  go_enter Tryz.func15, Tryz.ntmps15
  go_wp2_with fail
  refine CL.out.mono ?_
  rintro e w' ⟨rfl, rfl⟩
  go_wp2_with fail
  refine CN.out.mono ?_
  rintro e w1 ⟨cb, okc, rfl, hR1, hb1, hok1⟩
  have HR1 := Aside0.mk hR1
  have HB1 := Aside0.mk hb1
  have HOK := Aside0.mk hok1
  have c1 : w1.cell? ⟨sb, 0, none⟩ = some (.map (some mb)) := (hb1.cell (p := ⟨sb, 0, none⟩) hsbl).trans c0
  have HM1 := Aside0.mk ((Chg.of_below hb1 (fun _ => False)).map HRR.out.M (fun h => h))
  clear hR1 hb1 hok1 CN CL
  go_wp2_with first | (at_range; refine wpList_range_own _ rfl _ 41 rfl 9 82 law9 Tryz.underlying41 _ mb (Maps.size D) D rfl HM1.out ?_; intro w3 hrg3 hg3 hs3)
  have HRG3 := Aside0.mk hrg3
  have HG3 := Aside0.mk hg3
  clear hrg3 hg3
  go_frame
  go_loopw [6] (fun _ wr => ∃ (left : Lit → Bool) (cnt : Nat) (okc : Nat → Prop) (Lc : List (Nat × AF)) (mc : Nat) (Dc : DataW Unit) (ownc : Nat → Nat), Aside0 (CopyRel W L mb D cb w1.heap.size (Maps.size D) left cnt wr okc Lc mc Dc ownc)) (fun _ wr => wr.rangeLeft mb w1.heap.size)
  case atStart =>
    obtain ⟨mc, Dc, ownc, R1⟩ := HR1.out
    have hb3 : Below w1.heap.size w1 w3 := ⟨HG3.out.os, HG3.out.tape, HG3.out.output, HG3.out.size, fun k hk => HG3.out.block k hk (fun e => by cases e)⟩
    refine ⟨_, _, okc, [], mc, Dc, ownc, ⟨⟨HRG3.out, HB1.out.trans (hb3.mono HB1.out.size), HB1.out.size, R1.below hb3, fun q hq => ⟨HOK.out q hq, fun e => ?_⟩, fun p hp => (by cases hp), fun q hq hl => ?_⟩⟩⟩
    · have := R1.lt q hq
      omega
    · exfalso
      rw [HRR.out.mM.has, look_of_mem (p := (q.2.key, .lit (.int .i64 q.1))) (by rw [List.map_map]; exact HRR.out.names) (List.mem_map.2 ⟨q, hq, rfl⟩)] at hl
      cases hl
  case round =>
    clear HRG3 HG3 HR1 HOK HM1 c1 c0
    obtain ⟨left, cnt, okc, Lc, mc, Dc, ownc, HC⟩ := hrel
    have HRG := Aside0.mk HC.out.rg
    go_wp2_with first | (at_next; refine wpList_next_ranges _ rfl _ rfl 9 law9 Rp Value.string (fun v : Value => v) (fun key kl h => key_shape h) (fun v y h => ⟨v, rfl⟩) mb w1.heap.size (Maps.size D) D left cnt rfl HRG.out ?_ ?_)
    · intro _ hl0
      obtain ⟨L', hL1, hL2⟩ := HC.out.done HRR.out.names hl0
      have HE := Aside0.mk (show CopyOut W st (.returned (.pointer (some ⟨cb, 0, none⟩))) wr from ⟨cb, okc, L', rfl, hL1, hL2.trans HST.out, HC.out.low, fun q hq => (HC.out.okc q hq).1⟩)
      clear hL1 hL2 hl0
      go_wp2
      go_ret
      exact HE.out
    · intro x v kl y1 y2 w4 cnt4 hkx hlk hvy hat hrg4 hlt4 hgr4 hsz4 hen
      obtain ⟨rfl, hxs⟩ := key_str hkx
      obtain ⟨fb, f, hfL, hnm, hv⟩ := copy_entry HRR.out hvy hat
      subst hv
      subst hnm
      have HFL := Aside0.mk hfL
      have HLK := Aside0.mk hlk
      have HRG4 := Aside0.mk hrg4
      have HGR4 := Aside0.mk hgr4
      have hb4 : Below W.heap.size W w4 := HC.out.low.grown hgr4 HC.out.low.size (fun k e => by injection e with e; rw [← e]; exact HC.out.hr)
      have HB4 := Aside0.mk hb4
      have hI : GInv c f := HSI.out.files f (by rw [← HST.out]; exact List.mem_map.2 ⟨(fb, f), hfL, rfl⟩)
      obtain ⟨A, rc, uv, ub, DU, P⟩ := HRR.out.files _ hfL
      have P4 := P.below hb4
      obtain ⟨Au, cu, huv⟩ := Kd.R_slice P4.units
      subst huv
      have HP4 := Aside0.mk P4
      have hkey := key_of hI.name.2
      have hul : f.units.length ≤ 100 := hI.v.len.2
      have hrl : f.rules.length * 24 ≤ 140737488355328 := by have := hI.rules; omega
      have hz0 : w4.cell? ⟨fb, 0, none⟩ = some (.string f.F.name) := (blk_cell P4.F 0).trans rfl
      have hz1 : w4.cell? ⟨fb, 1, none⟩ = some (.int .i64 f.F.kind) := (blk_cell P4.F 1).trans rfl
      have hz2 : w4.cell? ⟨fb, 2, none⟩ = some (.int .i64 f.F.perm) := (blk_cell P4.F 2).trans rfl
      have hz3 : w4.cell? ⟨fb, 3, none⟩ = some (.string f.F.owner) := (blk_cell P4.F 3).trans rfl
      have hz4 : w4.cell? ⟨fb, 4, none⟩ = some (.string f.F.last) := (blk_cell P4.F 4).trans rfl
      have hz5 : w4.cell? ⟨fb, 5, none⟩ = some (.int .i64 f.F.ch) := (blk_cell P4.F 5).trans rfl
      have hz6 : w4.cell? ⟨fb, 6, none⟩ = some (.int .i64 f.F.rd) := (blk_cell P4.F 6).trans rfl
      have hz7 : w4.cell? ⟨fb, 7, none⟩ = some (.slice A f.rules.length rc) := (blk_cell P4.F 7).trans rfl
      have hz8 : w4.cell? ⟨fb, 8, none⟩ = some (.slice Au f.units.length cu) := (blk_cell P4.F 8).trans rfl
      have hz9 : w4.cell? ⟨fb, 9, none⟩ = some (.map (some ub)) := (blk_cell P4.F 9).trans rfl
      have hfbl : fb < w4.heap.size := blk_lt P4.F
      clear P P4 hb4 hI hfL hlk hrg4 hgr4 hvy hat hkx HRG
      go_wp2_with fail
      refine start_ (n := 17) (S := fun w' => w'.cell? ⟨fb, 0, none⟩ = some (.string f.F.name) ∧ w'.cell? ⟨fb, 1, none⟩ = some (.int .i64 f.F.kind) ∧ w'.cell? ⟨fb, 2, none⟩ = some (.int .i64 f.F.perm) ∧ w'.cell? ⟨fb, 3, none⟩ = some (.string f.F.owner) ∧ w'.cell? ⟨fb, 4, none⟩ = some (.string f.F.last) ∧ w'.cell? ⟨fb, 5, none⟩ = some (.int .i64 f.F.ch) ∧ w'.cell? ⟨fb, 6, none⟩ = some (.int .i64 f.F.rd) ∧ w'.cell? ⟨fb, 7, none⟩ = some (.slice A f.rules.length rc) ∧ w'.cell? ⟨fb, 8, none⟩ = some (.slice Au f.units.length cu) ∧ w'.cell? ⟨fb, 9, none⟩ = some (.map (some ub))) (ds := [15]) #[false, false, false, false, false, false, false, false, false, false, false, false, false, false, false, false, false] (by kernel_rfl) rfl rfl ⟨hz0, hz1, hz2, hz3, hz4, hz5, hz6, hz7, hz8, hz9⟩ (fun hHeld => ?_)
      refine with_tabW Cop.tab7 Cop.bits7 (fun HT_ HW_ => ?_)
      have HWD := Aside0.mk (show Below w4.heap.size w4 w4.drew from (Below.refl _ _).drew)
      generalize w4.drew = wd at HWD hHeld ⊢
      refine pure_ (i := 0) (N := some 20) (v := ?_) (a' := ?_) #[true, false, false, false, false, false, false, false, false, false, false, false, false, false, false, false, false] rfl rfl (any_of HT_.out (by kernel_rfl)) (fun _ _ _ h => h) (Or.inl ⟨by rfl, ?_⟩) ?_ ?_
      rotate_left
      · intro w'
        go_simp
        with_reducible rfl
      rotate_left
      · simp only [Act.put, List.setIfInBounds_toArray, List.set_cons_zero, List.set_cons_succ, i64_w, i32_w]
        rfl
      refine pure_ (i := 1) (N := some 21) (v := ?_) (a' := ?_) #[true, true, false, false, false, false, false, false, false, false, false, false, false, false, false, false, false] rfl rfl (any_of HT_.out (by kernel_rfl)) (fun _ _ _ h => h) (Or.inl ⟨by rfl, ?_⟩) ?_ ?_
      rotate_left
      · intro w'
        go_simp
        with_reducible rfl
      rotate_left
      · simp only [Act.put, List.setIfInBounds_toArray, List.set_cons_zero, List.set_cons_succ, i64_w, i32_w]
        rfl
      refine pure_ (i := 2) (N := some 22) (v := ?_) (a' := ?_) #[true, true, true, false, false, false, false, false, false, false, false, false, false, false, false, false, false] rfl rfl (any_of HT_.out (by kernel_rfl)) (fun _ _ _ h => h) (Or.inl ⟨by rfl, ?_⟩) ?_ ?_
      rotate_left
      · intro w'
        go_simp
        with_reducible rfl
      rotate_left
      · simp only [Act.put, List.setIfInBounds_toArray, List.set_cons_zero, List.set_cons_succ, i64_w, i32_w]
        rfl
      refine pure_ (i := 4) (N := some 24) (v := ?_) (a' := ?_) #[true, true, true, false, true, false, false, false, false, false, false, false, false, false, false, false, false] rfl rfl (any_of HT_.out (by kernel_rfl)) (fun _ _ _ h => h) (Or.inl ⟨by rfl, ?_⟩) ?_ ?_
      rotate_left
      · intro w'
        go_simp
        with_reducible rfl
      rotate_left
      · simp only [Act.put, List.setIfInBounds_toArray, List.set_cons_zero, List.set_cons_succ, i64_w, i32_w]
        rfl
      refine pure_ (i := 5) (N := some 25) (v := ?_) (a' := ?_) #[true, true, true, false, true, true, false, false, false, false, false, false, false, false, false, false, false] rfl rfl (any_of HT_.out (by kernel_rfl)) (fun _ _ _ h => h) (Or.inl ⟨by rfl, ?_⟩) ?_ ?_
      rotate_left
      · intro w'
        go_simp
        with_reducible rfl
      rotate_left
      · simp only [Act.put, List.setIfInBounds_toArray, List.set_cons_zero, List.set_cons_succ, i64_w, i32_w]
        rfl
      refine pure_ (i := 6) (N := some 26) (v := ?_) (a' := ?_) #[true, true, true, false, true, true, true, false, false, false, false, false, false, false, false, false, false] rfl rfl (any_of HT_.out (by kernel_rfl)) (fun _ _ _ h => h) (Or.inl ⟨by rfl, ?_⟩) ?_ ?_
      rotate_left
      · intro w'
        go_simp
        with_reducible rfl
      rotate_left
      · simp only [Act.put, List.setIfInBounds_toArray, List.set_cons_zero, List.set_cons_succ, i64_w, i32_w]
        rfl
      refine pure_ (i := 9) (N := some 29) (v := ?_) (a' := ?_) #[true, true, true, false, true, true, true, false, false, true, false, false, false, false, false, false, false] rfl rfl (any_of HT_.out (by kernel_rfl)) (fun _ _ _ h => h) (Or.inl ⟨by rfl, ?_⟩) ?_ ?_
      rotate_left
      · intro w'
        go_simp
        with_reducible rfl
      rotate_left
      · simp only [Act.put, List.setIfInBounds_toArray, List.set_cons_zero, List.set_cons_succ, i64_w, i32_w]
        rfl
      refine pure_ (i := 10) (N := some 30) (v := ?_) (a' := ?_) #[true, true, true, false, true, true, true, false, false, true, true, false, false, false, false, false, false] rfl rfl (any_of HT_.out (by kernel_rfl)) (fun _ _ _ h => h) (Or.inl ⟨by rfl, ?_⟩) ?_ ?_
      rotate_left
      · intro w'
        go_simp
        with_reducible rfl
      rotate_left
      · simp only [Act.put, List.setIfInBounds_toArray, List.set_cons_zero, List.set_cons_succ, i64_w, i32_w]
        rfl
      refine pure_ (i := 11) (N := some 31) (v := ?_) (a' := ?_) #[true, true, true, false, true, true, true, false, false, true, true, true, false, false, false, false, false] rfl rfl (any_of HT_.out (by kernel_rfl)) (fun _ _ _ h => h) (Or.inl ⟨by rfl, ?_⟩) ?_ ?_
      rotate_left
      · intro w'
        go_simp
        with_reducible rfl
      rotate_left
      · simp only [Act.put, List.setIfInBounds_toArray, List.set_cons_zero, List.set_cons_succ, i64_w, i32_w]
        rfl
      refine take_ (i := 3) (N := some 23) (v := ?_) (a' := ?_) #[true, true, true, true, true, true, true, false, false, true, true, true, false, false, false, false, false] rfl rfl (take_ofW HT_.out HW_.out (by kernel_rfl)) (fun _ _ _ h => h) (Or.inl ⟨by rfl, ?_⟩) hHeld ?_ ?_
      rotate_left
      · rintro w' ⟨s0, s1, s2, s3, s4, s5, s6, s7, s8, s9⟩
        go_simp
        with_reducible rfl
      rotate_left
      · simp only [Act.put, List.setIfInBounds_toArray, List.set_cons_zero, List.set_cons_succ, i64_w, i32_w]
        rfl
      refine take_ (i := 7) (N := some 27) (v := ?_) (a' := ?_) #[true, true, true, true, true, true, true, true, false, true, true, true, false, false, false, false, false] rfl rfl (take_ofW HT_.out HW_.out (by kernel_rfl)) (fun _ _ _ h => h) (Or.inl ⟨by rfl, ?_⟩) hHeld ?_ ?_
      rotate_left
      · rintro w' ⟨s0, s1, s2, s3, s4, s5, s6, s7, s8, s9⟩
        go_simp
        with_reducible rfl
      rotate_left
      · simp only [Act.put, List.setIfInBounds_toArray, List.set_cons_zero, List.set_cons_succ, i64_w, i32_w]
        rfl
      refine take_ (i := 12) (N := some 32) (v := ?_) (a' := ?_) #[true, true, true, true, true, true, true, true, false, true, true, true, true, false, false, false, false] rfl rfl (take_ofW HT_.out HW_.out (by kernel_rfl)) (fun _ _ _ h => h) (Or.inl ⟨by rfl, ?_⟩) hHeld ?_ ?_
      rotate_left
      · rintro w' ⟨s0, s1, s2, s3, s4, s5, s6, s7, s8, s9⟩
        go_simp
        with_reducible rfl
      rotate_left
      · simp only [Act.put, List.setIfInBounds_toArray, List.set_cons_zero, List.set_cons_succ, i64_w, i32_w]
        rfl
      refine one_ (i := 8) (N := some 28) #[true, true, true, true, true, true, true, true, true, true, true, true, true, false, false, false, false] rfl rfl (one_of HT_.out (by kernel_rfl)) (by decide) (fun K hK => ?_)
      refine goes_ Tryz.func50 (by kernel_rfl) rfl #[.slice Au f.units.length cu] (by rfl) rfl rfl (by (try simp only [List.map_toArray, List.map_cons, List.map_nil]); first | done | rfl | (simp only []; rfl)) ?_
      with_reducible refine (files_Unit_50.raw Au cu f.units.length (f.units.map uCells) _ (C_units (Kd.C_below (Kd.R_reads' HP4.out.units).2.2 HWD.out)) (by omega)).mono ?_
      rintro e w8 ⟨v8, rfl, hr8, hb8⟩
      obtain ⟨A8, c8, hv8⟩ := Kd.R_slice hr8
      rw [List.length_map] at hv8
      subst hv8
      have HB8 := Aside0.mk (show Below w4.heap.size w4 w8 from HWD.out.trans (hb8.mono HWD.out.size))
      have HU8w := Aside0.mk (Kd.R_lower (units_of_raw hr8) HWD.out.size)
      have HBb8 := Aside0.mk hb8
      clear hr8 hb8
      refine ⟨_, rfl, ?_⟩
      refine hK.out _ _ ⟨pw_cell_below HBb8.out hHeld.1, pw_cell_below HBb8.out hHeld.2.1, pw_cell_below HBb8.out hHeld.2.2.1, pw_cell_below HBb8.out hHeld.2.2.2.1, pw_cell_below HBb8.out hHeld.2.2.2.2.1, pw_cell_below HBb8.out hHeld.2.2.2.2.2.1, pw_cell_below HBb8.out hHeld.2.2.2.2.2.2.1, pw_cell_below HBb8.out hHeld.2.2.2.2.2.2.2.1, pw_cell_below HBb8.out hHeld.2.2.2.2.2.2.2.2.1, pw_cell_below HBb8.out hHeld.2.2.2.2.2.2.2.2.2⟩ (fun hHeld => ?_)
      clear hK K
      refine norm_ (a' := ?_) ?_ ?_
      rotate_left
      · show Act.put _ (some 28) _ = _
        simp only [Act.put, List.setIfInBounds_toArray, List.set_cons_zero, List.set_cons_succ, i64_w, i32_w]
        rfl
      refine one_ (i := 13) (N := some 33) #[true, true, true, true, true, true, true, true, true, true, true, true, true, true, false, false, false] rfl rfl (one_of HT_.out (by kernel_rfl)) (by decide) (fun K hK => ?_)
      refine goes_ Tryz.func51 (by kernel_rfl) rfl #[.map (some ub)] (by rfl) rfl rfl (by (try simp only [List.map_toArray, List.map_cons, List.map_nil]); first | done | rfl | (simp only []; rfl)) ?_
      with_reducible refine (CloneUsers ub (Maps.size DU) DU _ ((Chg.of_below HB8.out (fun _ => False)).map HP4.out.U (fun h => h))).mono ?_
      rintro e w13 ⟨rfl, hu13, _, hb13⟩
      have HBb13 := Aside0.mk hb13
      have HB13 := Aside0.mk (show Below w4.heap.size w4 w13 from HB8.out.trans (hb13.mono HB8.out.size))
      have HU13 := Aside0.mk hu13
      have HU8 := Aside0.mk (Kd.R_below HU8w.out hb13)
      clear hb13 hu13
      refine ⟨_, rfl, ?_⟩
      refine hK.out _ _ ⟨pw_cell_below HBb13.out hHeld.1, pw_cell_below HBb13.out hHeld.2.1, pw_cell_below HBb13.out hHeld.2.2.1, pw_cell_below HBb13.out hHeld.2.2.2.1, pw_cell_below HBb13.out hHeld.2.2.2.2.1, pw_cell_below HBb13.out hHeld.2.2.2.2.2.1, pw_cell_below HBb13.out hHeld.2.2.2.2.2.2.1, pw_cell_below HBb13.out hHeld.2.2.2.2.2.2.2.1, pw_cell_below HBb13.out hHeld.2.2.2.2.2.2.2.2.1, pw_cell_below HBb13.out hHeld.2.2.2.2.2.2.2.2.2⟩ (fun hHeld => ?_)
      clear hK K
      refine norm_ (a' := ?_) ?_ ?_
      rotate_left
      · show Act.put _ (some 33) _ = _
        simp only [Act.put, List.setIfInBounds_toArray, List.set_cons_zero, List.set_cons_succ, i64_w, i32_w]
        rfl
      refine pure_ (i := 14) (N := some 34) (v := ?_) (a' := ?_) #[true, true, true, true, true, true, true, true, true, true, true, true, true, true, true, false, false] rfl rfl (any_of HT_.out (by kernel_rfl)) (fun _ _ _ h => h) (Or.inl ⟨by rfl, ?_⟩) ?_ ?_
      rotate_left
      · intro w'
        go_simp
        with_reducible rfl
      rotate_left
      · simp only [Act.put, List.setIfInBounds_toArray, List.set_cons_zero, List.set_cons_succ, i64_w, i32_w]
        rfl
      refine last_ (i := 15) (N := some 35) #[true, true, true, true, true, true, true, true, true, true, true, true, true, true, true, true, false] rfl rfl (one_of HT_.out (by kernel_rfl)) (by decide) (fun K hK => ?_)
      refine value_ (w1 := ?_) (v := ?_) (by rfl) rfl ?_ ?_
      rotate_left 2
      · go_simp
        constructor
        · rfl
        · rfl
      refine hK.out _ _ ?_
      clear hK K
      refine norm_ (a' := ?_) ?_ ?_
      rotate_left
      · show Act.put _ (some 35) _ = _
        simp only [Act.put, List.setIfInBounds_toArray, List.set_cons_zero, List.set_cons_succ, i64_w, i32_w]
        rfl
      refine pure_ (i := 16) (N := some 6) (v := ?_) (a' := ?_) #[true, true, true, true, true, true, true, true, true, true, true, true, true, true, true, true, true] rfl rfl (any_of HT_.out (by kernel_rfl)) (fun _ _ _ h => h) (Or.inl ⟨by rfl, ?_⟩) ?_ ?_
      rotate_left
      · intro w'
        go_simp
        with_reducible rfl
      rotate_left
      · simp only [Act.put, List.setIfInBounds_toArray, List.set_cons_zero, List.set_cons_succ, i64_w, i32_w]
        rfl
      refine done_ (done_of HT_.out (by kernel_rfl)) ?_
      have HF14 := Aside0.mk (show FileAt w13 fb f.F (.slice A f.rules.length rc) (.slice Au f.units.length cu) ub from (HB13.out.block fb hfbl).trans HP4.out.F)
      have d7 := Lib.cell?_alloc_some (.cells #[.string f.F.name, .int .i64 f.F.kind, .int .i64 f.F.perm, .string f.F.owner, .string f.F.last, .int .i64 f.F.ch, .int .i64 f.F.rd, .slice A f.rules.length rc, .slice A8 f.units.length c8, .map (some w8.heap.size)] 92) ((blk_cell HF14.out 7).trans rfl : w13.cell? ⟨fb, 7, none⟩ = some (.slice A f.rules.length rc))
      have hb14 : Below w4.heap.size w4 (w13.alloc (.cells #[.string f.F.name, .int .i64 f.F.kind, .int .i64 f.F.perm, .string f.F.owner, .string f.F.last, .int .i64 f.F.ch, .int .i64 f.F.rd, .slice A f.rules.length rc, .slice A8 f.units.length c8, .map (some w8.heap.size)] 92)) := HB13.out.alloc HB13.out.size _
      obtain ⟨css, hcl, hcr, hck⟩ := C_raw (Kd.C_below (Kd.R_reads' HP4.out.rules).2.2 hb14)
      have CC := Aside0.mk (files_Rule_52.raw A rc f.rules.length css _ hcr hrl)
      have HCK := Aside0.mk hck
      have HCL := Lib.hid hcl
      have HB14 := Aside0.mk hb14
      clear hcl hcr hck hb14
      go_wp2_with fail
      refine CC.out.mono ?_
      rintro e w16 ⟨v, rfl, hr16, hb16⟩
      have hr5 : Kd.R k100 100 w16 _ (fun _ => True) v f.rules := R_of_raw (d := k100) hr16 HCL.out (fun j x cs hj hcs => by
        obtain ⟨c0, h0, hK⟩ := HCK.out j x hj
        rw [hcs] at h0
        injection h0 with h0
        rw [h0, k100_open hK]
        exact k100_mkM _ _ _ x)
      obtain ⟨A5, c5, hv5⟩ := Kd.R_slice hr5
      subst hv5
      have HR5 := Aside0.mk (Kd.R_lower hr5 HB14.out.size)
      have HB16 := Aside0.mk hb16
      have hx16 : w16.heap[w13.heap.size]? = some (.cells #[.string f.F.name, .int .i64 f.F.kind, .int .i64 f.F.perm, .string f.F.owner, .string f.F.last, .int .i64 f.F.ch, .int .i64 f.F.rd, .slice A f.rules.length rc, .slice A8 f.units.length c8, .map (some w8.heap.size)] 92 (0, 0)) := (hb16.block _ (by simp)).trans (heap_alloc_new w13 _)
      have e7 : w16.cell? ⟨w13.heap.size, 7, none⟩ = some (.slice A f.rules.length rc) := (blk_cell hx16 7).trans rfl
      have f7 := blk_frozen hx16 7
      have HCF := Aside0.mk (copy_file HP4.out HB13.out HU8.out HU13.out HB8.out.size hb16 HR5.out)
      have R4 : StoreParts w4 okc cb Lc mc Dc ownc := HC.out.R.other (Chg.of_grown HGR4.out (S := fun q => q = w1.heap.size) (fun k e => by injection e)) (fun q hq => (HC.out.okc q hq).2)
      have R17 := R4.below HCF.out.2
      have g0 := R17.S.cell
      have HM17 := Aside0.mk R17.M
      have hcs : Maps.size Dc ≤ 1000 := by have h1 := HC.out.count; have h2 := HSI.out.count; rw [← HST.out, List.length_map] at h2; omega
      clear hr16 hr5 hb16 hx16 R4 R17
      go_wp2_with first | (at_mapUpdate; refine wpList_mapUpdate_in _ rfl _ _ _ 41 rfl 9 82 law9 Tryz.underlying41 _ mc (Maps.size Dc) Dc rfl HM17.out (by unfold maxLen; omega) _ _ _ rfl rfl hkey (.lit (.int .i64 (w13.heap.size : Nat))) [] rfl ?_; intro w18 hown18 hturn18)
      have HRD := Aside0.mk (HC.out.round HRR.out.names hmbl HFL.out HLK.out HRG4.out HGR4.out HCF.out.2 HCF.out.1 hturn18 hown18)
      clear hown18 hturn18
      simp only [Act.put]
      go_roundw
      case rel =>
        obtain ⟨okc', Lc', mc', Dc', ownc', h⟩ := HRD.out

        exact ⟨_, cnt4, okc', Lc', mc', Dc', ownc', ⟨h⟩⟩
      case measure =>
        obtain ⟨okc', Lc', mc', Dc', ownc', h⟩ := HRD.out
        rw [h.rg.left_eq, HC.out.rg.left_eq]
        exact hlt4
end Go.Proofs.YtehlmkgldcfciaaGreat.Files
