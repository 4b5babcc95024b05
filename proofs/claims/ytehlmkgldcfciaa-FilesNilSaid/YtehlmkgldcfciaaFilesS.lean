/- The file store: Change. -/
import Derived.Test.YtehlmkgldcfciaaFilesR
import Derived.Test.YtehlmkgldcfciaaFx0
import Derived.Test.YtehlmkgldcfciaaFx6
set_option linter.unusedVariables false
set_option linter.unusedSimpArgs false
namespace Go.Proofs.Ytehlmkgldcfciaa.Files
open Go.Proofs.Ytehlmkgldcfciaa.Common Go.Maps Go.ChangeMaps Go.WideMaps Go.Proofs.Ytehlmkgldcfciaa.F
open Go.RowKit Go.Proofs.YtehlmkgldcfciaaW.PrintWords Go.Proofs.YtehlmkgldcfciaaW.PrintLast Go.Proofs.YtehlmkgldcfciaaW.PrintMore
def changeOk (perm : Int) (rules : List S34) : Bool := setB perm && decide (rules.length ≤ 10) && !rules.any badRule
theorem Change_arg (sp : Value) (u n : ByteArray) (perm : Int) (A : Option Addr) (c : Nat) (rules : List S34) (W : World) (hr : Kd.C k34 W A rules.length rules) (hc : rules.length ≤ c) (h : changeOk perm rules = false) :
    Calls Try.prog 14 #[sp, .string u, .string n, .int .i64 perm, .slice A rules.length c] W fun e w' => e = .returned (.int .i64 1) ∧ Below W.heap.size W w' := by
  have CS := Aside0.mk (set_c perm W)
  have CB := Aside0.mk (badRules_c A c rules W hr hc)
  unfold changeOk at h
  clear hr
  cases h1 : setB perm with
  | false =>
    rw [show (decide (0 ≤ perm) && decide (perm ≤ 255)) = false from h1] at CS
    clear h h1
    go_enter Try.func14, Try.ntmps14
    go_wp2_with first | (go_at_call 34; refine CS.out.mono ?_; rintro e w' ⟨rfl, rfl⟩)
    go_ret
    exact ⟨rfl, Below.refl _ _⟩
  | true =>
    rw [show (decide (0 ≤ perm) && decide (perm ≤ 255)) = true from h1] at CS
    by_cases h2 : rules.length ≤ 10
    · have h3 : rules.any badRule = true := by simpa [h1, h2] using h
      rw [h3] at CB
      have g1 : decide ((10 : Int) < (rules.length : Int)) = false := decide_eq_false (by omega)
      clear h h1 h2 h3
      go_enter Try.func14, Try.ntmps14
      go_wp2_with first | (go_at_call 34; refine CS.out.mono ?_; rintro e w' ⟨rfl, rfl⟩) | (go_at_call 37; refine CB.out.mono ?_; rintro e w2 ⟨rfl, hb2⟩)
      go_ret
      exact ⟨rfl, hb2⟩
    · have g1 : decide ((10 : Int) < (rules.length : Int)) = true := decide_eq_true (by omega)
      clear h h1 h2
      go_enter Try.func14, Try.ntmps14
      go_wp2_with first | (go_at_call 34; refine CS.out.mono ?_; rintro e w' ⟨rfl, rfl⟩)
      go_ret
      exact ⟨rfl, Below.refl _ _⟩
theorem changeOk_parts {perm : Int} {rules : List S34} (h : changeOk perm rules = true) : setB perm = true ∧ rules.length ≤ 10 ∧ rules.any badRule = false := by
  unfold changeOk at h
  simp only [Bool.and_eq_true, decide_eq_true_eq, Bool.not_eq_true'] at h
  exact ⟨h.1.1, h.1.2, h.2⟩
theorem Change_err (sp : Value) (u n : ByteArray) (perm E : Int) (A : Option Addr) (c : Nat) (rules : List S34) (W : World) (hr : Kd.C k34 W A rules.length rules) (hc : rules.length ≤ c) (h : changeOk perm rules = true) (HO : OpenedErr W sp u n 64 E) :
    Calls Try.prog 14 #[sp, .string u, .string n, .int .i64 perm, .slice A rules.length c] W fun e w' => e = .returned (.int .i64 E) ∧ Below W.heap.size W w' := by
  obtain ⟨h1, h2, h3⟩ := changeOk_parts h
  obtain ⟨hE, ho⟩ := HO
  have CS := Aside0.mk (set_c perm W)
  have CB := Aside0.mk (badRules_c A c rules W hr hc)
  have CO := Aside0.mk ho
  rw [show (decide (0 ≤ perm) && decide (perm ≤ 255)) = true from h1] at CS
  rw [h3] at CB
  have g1 : decide ((10 : Int) < (rules.length : Int)) = false := decide_eq_false (by omega)
  have hE' : (E == 0) = false := by simpa using hE
  clear h h1 h2 h3 hr ho hE
  go_enter Try.func14, Try.ntmps14
  go_wp2_with first | (go_at_call 34; refine CS.out.mono ?_; rintro e w' ⟨rfl, rfl⟩) | (go_at_call 37; refine CB.out.mono ?_; rintro e w2 ⟨rfl, hb2⟩; have HB2 := Aside0.mk hb2; clear hb2) | (go_at_call 39; refine (CO.out _ HB2.out).mono ?_; rintro e w3 ⟨rfl, hb3⟩)
  go_ret
  exact ⟨rfl, HB2.out.trans (hb3.mono HB2.out.size)⟩
theorem Change_denied (sp : Value) (u n : ByteArray) (perm : Int) (fb : Nat) (A : Option Addr) (c : Nat) (rules : List S34) (W : World) (hr : Kd.C k34 W A rules.length rules) (hc : rules.length ≤ c) (h : changeOk perm rules = true) (HO : OpenedOk W sp u n 64 fb 12) :
    Calls Try.prog 14 #[sp, .string u, .string n, .int .i64 perm, .slice A rules.length c] W fun e w' => e = .returned (.int .i64 12) ∧ Below W.heap.size W w' := by
  obtain ⟨h1, h2, h3⟩ := changeOk_parts h
  have CS := Aside0.mk (set_c perm W)
  have CB := Aside0.mk (badRules_c A c rules W hr hc)
  have CO := Aside0.mk (show ∀ W', Below W.heap.size W W' → _ from HO)
  rw [show (decide (0 ≤ perm) && decide (perm ≤ 255)) = true from h1] at CS
  rw [h3] at CB
  have g1 : decide ((10 : Int) < (rules.length : Int)) = false := decide_eq_false (by omega)
  clear h h1 h2 h3 hr HO
  go_enter Try.func14, Try.ntmps14
  go_wp2_with first | (go_at_call 34; refine CS.out.mono ?_; rintro e w' ⟨rfl, rfl⟩) | (go_at_call 37; refine CB.out.mono ?_; rintro e w2 ⟨rfl, hb2⟩; have HB2 := Aside0.mk hb2; clear hb2) | (go_at_call 39; refine (CO.out _ HB2.out).mono ?_; rintro e w3 ⟨rfl, hb3⟩)
  go_ret
  exact ⟨rfl, HB2.out.trans (hb3.mono HB2.out.size)⟩
def AF.change (f : AF) (perm : Int) (rules : List S34) : AF := { f with F := { f.F with perm := perm }, rules := rules }
def ChangeEnd (W : World) (ok : Nat → Prop) (fb ub : Nat) (f' : AF) (uv : Value) (DU : DataW Unit) (e : Ending) (w' : World) : Prop :=
  e = .returned (.int .i64 0) ∧ ∃ A rc, FileParts w' (fun k => ok k ∨ W.heap.size ≤ k) fb f' A rc uv ub DU ∧ Chg W w' ok
theorem FileParts.newRules {W w1 : World} {ok : Nat → Prop} {fb rc ub : Nat} {f : AF} {A : Option Addr} {uv v : Value} {DU : DataW Unit} {rules : List S34} (P : FileParts W ok fb f A rc uv ub DU) (hb : Below W.heap.size W w1) (hr : Kd.R k34 34 w1 W.heap.size (fun _ => True) v rules) (perm : Int) :
    ∃ A' rc', FileParts ((w1.setCell ⟨fb, 2, none⟩ (.int .i64 perm)).setCell ⟨fb, 7, none⟩ v) (fun k => ok k ∨ W.heap.size ≤ k) fb (f.change perm rules) A' rc' uv ub DU ∧ Chg W ((w1.setCell ⟨fb, 2, none⟩ (.int .i64 perm)).setCell ⟨fb, 7, none⟩ v) ok := by
  obtain ⟨A', rc', rfl⟩ := Kd.R_slice hr
  have P1 := P.below hb
  have F1 : FileAt (w1.setCell ⟨fb, 2, none⟩ (.int .i64 perm)) fb { f.F with perm := perm } (.slice A f.rules.length rc) uv ub := file_set P1.F 2 _ rfl
  have F2 : FileAt ((w1.setCell ⟨fb, 2, none⟩ (.int .i64 perm)).setCell ⟨fb, 7, none⟩ (.slice A' rules.length rc')) fb { f.F with perm := perm } (.slice A' rules.length rc') uv ub := file_set F1 7 _ rfl
  have hr' : Kd.R k34 34 w1 0 (fun k => ok k ∨ W.heap.size ≤ k) (.slice A' rules.length rc') rules := Kd.R_mono (Kd.R_lower (Kd.R_bound hr) (Nat.zero_le _)) (fun k hk => .inr hk.2.1)
  refine ⟨A', rc', ⟨.inl P.okb, F2, Kd.R_set (Kd.R_set hr' P1.F (by decide) 2 _) F1 (by decide) 7 _, Kd.R_mono (Kd.R_set (Kd.R_set P1.units P1.F (by decide) 2 _) F1 (by decide) 7 _) (fun k hk => .inl hk), .inl P.oku,
    (P1.U.setCell (a := ⟨fb, 2, none⟩) (blk_map_ne P1.F P1.U) _).setCell (a := ⟨fb, 7, none⟩) (blk_map_ne P1.F P1.U) _, P.mU⟩, ?_⟩
  exact (((Chg.of_below hb (fun _ => False)).mono (fun _ h => h.elim)).trans (Chg.of_set _ ⟨fb, 2, none⟩ _ (S := ok) P.okb) (fun i hi => .inl hi)).trans (Chg.of_set _ ⟨fb, 7, none⟩ _ (S := ok) P.okb) (fun i hi => .inl hi)
set_option maxRecDepth 100000 in
theorem Change_ok (sp : Value) (u n : ByteArray) (perm : Int) (fb rc ub : Nat) (A : Option Addr) (c : Nat) (rules : List S34) (f : AF) (Ar : Option Addr) (uv : Value) (DU : DataW Unit) (ok : Nat → Prop) (W : World) (hr : Kd.C k34 W A rules.length rules) (hc : rules.length ≤ c) (h : changeOk perm rules = true) (HO : OpenedOk W sp u n 64 fb 0) (P : FileParts W ok fb f Ar rc uv ub DU) :
    Calls Try.prog 14 #[sp, .string u, .string n, .int .i64 perm, .slice A rules.length c] W (ChangeEnd W ok fb ub (f.change perm rules) uv DU) := by
  obtain ⟨h1, h2, h3⟩ := changeOk_parts h
  have CS := Aside0.mk (set_c perm W)
  have CB := Aside0.mk (badRules_c A c rules W hr hc)
  have CO := Aside0.mk (show ∀ W', Below W.heap.size W W' → _ from HO)
  rw [show (decide (0 ≤ perm) && decide (perm ≤ 255)) = true from h1] at CS
  rw [h3] at CB
  have g1 : decide ((10 : Int) < (rules.length : Int)) = false := decide_eq_false (by omega)
  have HP := Aside0.mk P
  have HR := Aside0.mk hr
  have HL := Aside0.mk (show rules.length * 24 ≤ 140737488355328 by omega)
  clear h h1 h2 h3 hr HO P
  go_enter Try.func14, Try.ntmps14
  go_wp2_with fail
  refine CS.out.mono ?_
  rintro e w' ⟨rfl, rfl⟩
  go_wp2_with fail
  refine CB.out.mono ?_
  rintro e w2 ⟨rfl, hb2⟩
  have HB2 := Aside0.mk hb2
  clear hb2
  go_wp2_with fail
  refine (CO.out _ HB2.out).mono ?_
  rintro e w3 ⟨rfl, hb3⟩
  have HB3 := Aside0.mk (show Below W.heap.size W w3 from HB2.out.trans (hb3.mono HB2.out.size))
  obtain ⟨css, hcl, hcr, hck⟩ := C_raw (Kd.C_below HR.out HB3.out)
  have CC := Aside0.mk (files_Rule_40.raw A c rules.length css w3 hcr HL.out)
  have HCK := Aside0.mk hck
  have HCL := Lib.hid hcl
  clear hb3 hcl hcr hck
  go_wp2_with fail
  refine CC.out.mono ?_
  rintro e w4 ⟨v, rfl, hr4, hb4⟩
  have HB4 := Aside0.mk (show Below W.heap.size W w4 from HB3.out.trans (hb4.mono HB3.out.size))
  have hr5 : Kd.R k34 34 w4 w3.heap.size (fun _ => True) v rules := R_of_raw (d := k34) hr4 HCL.out (fun j x cs hj hcs => by
    obtain ⟨c0, h0, hK⟩ := HCK.out j x hj
    rw [hcs] at h0
    injection h0 with h0
    rw [h0, k34_open hK]
    exact k34_mkM _ _ _ x)
  obtain ⟨A5, c5, hv5⟩ := Kd.R_slice hr5
  subst hv5
  have HR5 := Aside0.mk (Kd.R_lower hr5 HB3.out.size)
  have P4 := HP.out.below HB4.out
  have f2 := blk_frozen P4.F 2
  have f7 := blk_frozen P4.F 7
  have d2 : w4.cell? ⟨fb, 2, none⟩ = some (.int .i64 f.F.perm) := (blk_cell P4.F 2).trans rfl
  have d7 : w4.cell? ⟨fb, 7, none⟩ = some (.slice Ar f.rules.length rc) := (blk_cell P4.F 7).trans rfl
  clear hr4 hb4 hr5 P4
  go_wp2
  go_ret
  exact ⟨rfl, HP.out.newRules HB4.out HR5.out perm⟩
theorem S_Change_ok (sb fb k : Nat) (ok : Nat → Prop) (L : List (Nat × AF)) (f : AF) (u n : ByteArray) (perm : Int) (A : Option Addr) (c : Nat) (rules : List S34) (a b : Int) (W : World) (hR : StoreRep W ok sb L) (hk : L[k]? = some (fb, f)) (hnm : f.F.name = n)
    (hu : 1 ≤ u.size ∧ u.size ≤ 20) (hn : 1 ≤ n.size ∧ n.size ≤ 30) (hl : lookU f.users u = some (a, b)) (hr : Kd.C k34 W A rules.length rules) (hc : rules.length ≤ c) (h : changeOk perm rules = true) (hdn : denied a 64 = 0) :
    Calls Try.prog 14 #[.pointer (some ⟨sb, 0, none⟩), .string u, .string n, .int .i64 perm, .slice A rules.length c] W (SOut W ok sb (.int .i64 0) ((L.map (·.2)).set k (f.change perm rules))) := by
  obtain ⟨mb, D, own, R⟩ := hR
  obtain ⟨HF, Ar, rc, uv, ub, DU, P⟩ := R.way hk hnm hu hn
  have HO := opened_ok _ u n 64 W _ fb rc ub f Ar uv DU a b HF P (by omega) hl
  rw [hdn] at HO
  refine (Change_ok _ u n perm fb rc ub A c rules f Ar uv DU _ W hr hc h HO P).mono ?_
  rintro e w' ⟨rfl, A', rc', hP, hC⟩
  exact SOut.step R hk rfl ⟨A', rc', uv, ub, DU, hP⟩ hC
end Go.Proofs.Ytehlmkgldcfciaa.Files
