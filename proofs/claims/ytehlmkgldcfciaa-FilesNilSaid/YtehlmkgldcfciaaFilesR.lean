/- The file store: Close, Change, and Open of what is no set. -/
import Derived.Test.YtehlmkgldcfciaaFilesL
import Derived.Maps.OwnSet
import Derived.Test.YtehlmkgldcfciaaFx0
import Derived.Test.YtehlmkgldcfciaaFx2
set_option linter.unusedVariables false
set_option linter.unusedSimpArgs false
namespace Go.Proofs.Ytehlmkgldcfciaa.Files
open Go.Proofs.Ytehlmkgldcfciaa.Common Go.Maps Go.ChangeMaps Go.WideMaps Go.Proofs.Ytehlmkgldcfciaa.F
open Go.RowKit Go.Proofs.YtehlmkgldcfciaaW.PrintWords Go.Proofs.YtehlmkgldcfciaaW.PrintLast Go.Proofs.YtehlmkgldcfciaaW.PrintMore
def setB (n : Int) : Bool := decide (0 ≤ n) && decide (n ≤ 255)
/-- Open refuses what is no set, or no part of one, before it looks at the store. -/
theorem Open_arg (sp : Value) (u n : ByteArray) (actions exclusive : Int) (W : World) (h : (setB actions && setB exclusive && decide (bits .andNot .i64 exclusive actions = 0)) = false) :
    Calls Try.prog 13 #[sp, .string u, .string n, .int .i64 actions, .int .i64 exclusive] W fun e w' => e = .returned (.int .i64 1) ∧ Below W.heap.size W w' := by
  have CA := Aside0.mk (set_c actions W)
  have CE := Aside0.mk (set_c exclusive W)
  by_cases h1 : setB actions = true
  · rw [show (decide (0 ≤ actions) && decide (actions ≤ 255)) = true from h1] at CA
    by_cases h2 : setB exclusive = true
    · rw [show (decide (0 ≤ exclusive) && decide (exclusive ≤ 255)) = true from h2] at CE
      rw [h1, h2] at h
      have h3 : ¬ bits .andNot .i64 exclusive actions = 0 := by simpa using h
      have g3 : (bits .andNot .i64 exclusive actions == 0) = false := by simpa using h3
      have g4 : (bits .andNot .i64 exclusive actions != 0) = true := by simpa using h3
      clear h h1 h2 h3
      go_enter Try.func13, Try.ntmps13
      go_wp2_with first | (go_at_call 34; first | ((with_reducible refine CA.out.mono ?_); rintro e w' ⟨rfl, rfl⟩) | ((with_reducible refine CE.out.mono ?_); rintro e w' ⟨rfl, rfl⟩))
      go_ret
      exact ⟨rfl, Below.refl _ _⟩
    · rw [show (decide (0 ≤ exclusive) && decide (exclusive ≤ 255)) = false from Bool.eq_false_iff.2 h2] at CE
      clear h h1 h2
      go_enter Try.func13, Try.ntmps13
      go_wp2_with first | (go_at_call 34; first | ((with_reducible refine CA.out.mono ?_); rintro e w' ⟨rfl, rfl⟩) | ((with_reducible refine CE.out.mono ?_); rintro e w' ⟨rfl, rfl⟩))
      go_ret
      exact ⟨rfl, Below.refl _ _⟩
  · rw [show (decide (0 ≤ actions) && decide (actions ≤ 255)) = false from Bool.eq_false_iff.2 h1] at CA
    clear h h1 CE
    go_enter Try.func13, Try.ntmps13
    go_wp2_with first | (go_at_call 34; refine CA.out.mono ?_; rintro e w' ⟨rfl, rfl⟩)
    go_ret
    exact ⟨rfl, Below.refl _ _⟩
def AF.closed (f : AF) (u : ByteArray) : AF := { f with users := f.users.filter fun p => !decide (p.1 = u) }
theorem usersL_closed (l : List (ByteArray × (Int × Int))) (u : ByteArray) : usersL (l.filter fun p => !decide (p.1 = u)) = drop_ (usersL l) u.data.toList := by
  induction l with
  | nil => rfl
  | cons p l ih =>
    unfold drop_ usersL at *
    rw [List.filter_cons, List.map_cons, List.filter_cons]
    by_cases h : p.1 = u
    · rw [if_neg (by simp [h]), if_neg (by simp [h])]; exact ih
    · have h2 : ¬ p.1.data.toList = u.data.toList := fun e => h (data_inj e)
      rw [if_pos (by simp [h]), if_pos (by simp [h2]), List.map_cons, ih]
theorem FileParts.newUsers {W w1 w' : World} {ok : Nat → Prop} {fb rc ub n : Nat} {f : AF} {A : Option Addr} {uv : Value} {DU DU' : DataW Unit} (P : FileParts W ok fb f A rc uv ub DU) (hb : Below W.heap.size W w1) (hT : w1.mapTurned w' ub) (hM : w'.ownsMap Try.prog 9 Ro ub n DU') (us : List (ByteArray × (Int × Int))) (hm : MapIs DU' (usersL us)) :
    FileParts w' ok fb { f with users := us } A rc uv ub DU' ∧ Chg W w' (fun q => q = ub) := by
  have hcT : Chg w1 w' (fun q => q = ub) := Chg.of_turned hT rfl
  have hcW : Chg W w' (fun q => q = ub) := ((Chg.of_below hb (fun _ => False)).mono (fun _ h => h.elim)).trans hcT (fun q hq => .inl hq)
  have hF' : FileAt w' fb f.F (.slice A f.rules.length rc) uv ub := (hcW.block fb (blk_lt P.F) (Ne.symm (blk_map_ne P.F P.U))).trans P.F
  have hrow : ∀ {α : Type} {d : Kd α} {e0 : Nat} {v : Value} {xs : List α}, d.R e0 W 0 ok v xs → d.R e0 w' 0 ok v xs := fun h =>
    Kd.R_mono (hcW.row (Kd.R_bound h) (fun q hq => by
      obtain ⟨_, _, _, t, _, cells, hc⟩ := hq
      exact Ne.symm (blk_map_ne hc P.U))) (fun q hq => hq.1)
  exact ⟨⟨P.okb, hF', hrow P.rules, hrow P.units, P.oku, ownsMap_tight hM, hm⟩, hcW⟩
def CloseEnd (W : World) (ok : Nat → Prop) (fb rc ub : Nat) (f : AF) (A : Option Addr) (uv : Value) (e : Ending) (w' : World) : Prop :=
  e = .returned (.int .i64 0) ∧ ∃ DU, FileParts w' ok fb f A rc uv ub DU ∧ Chg W w' (fun q => q = ub)
set_option maxRecDepth 100000 in
theorem Close_ok (sp : Value) (u n : ByteArray) (W : World) (ok : Nat → Prop) (fb rc ub : Nat) (f : AF) (A : Option Addr) (uv : Value) (DU : DataW Unit) (a b : Int) (HF : FoundOk W sp u n fb) (P : FileParts W ok fb f A rc uv ub DU) (hu : u.size ≤ 30) (hl : lookU f.users u = some (a, b)) (hnd : (f.users.map (fun p => p.1.data.toList)).Nodup) :
    Calls Try.prog 15 #[sp, .string u, .string n] W (CloseEnd W ok fb rc ub (f.closed u) A uv) := by
  have hkey := key_of hu
  obtain ⟨v, ps, hrun, hv⟩ := P.U.look_ok law9 Try.underlying72 (zeroO _) (zd := .agg [.lit (.int .i64 0), .lit (.int .i64 0)]) (zp := []) rfl hkey
  have hh : Maps.has DU (.string u.data.toList) = true := by rw [P.mU.has, look_users, hl]; rfl
  have hat : DU.atKey (.string u.data.toList) (.agg [.lit (.int .i64 0), .lit (.int .i64 0)]) = .agg [.lit (.int .i64 a), .lit (.int .i64 b)] := by rw [P.mU.at_, look_users, hl]; rfl
  rw [hat] at hv
  obtain rfl := Ro_at hv
  rw [hh] at hrun
  have c9 : W.cell? ⟨fb, 9, none⟩ = some (.map (some ub)) := (blk_cell P.F 9).trans rfl
  have c9' : (W.alloc (.cells #[.int .i64 a, .int .i64 b] 78)).cell? ⟨fb, 9, none⟩ = some (.map (some ub)) := Lib.cell?_alloc_some _ c9
  have CF := Aside0.mk (HF W (Below.refl _ _))
  have HP := Aside0.mk P
  have hM := P.U.alloc (.cells #[.int .i64 a, .int .i64 b] 78)
  have HMD := Aside0.mk (P.mU.del (by rw [users_keys]; exact hnd) u.data.toList)
  clear HF P hh hv hl hat
  go_enter Try.func15, Try.ntmps15
  go_wp2_with first | (go_at_call 35; refine CF.out.mono ?_; rintro e w' ⟨rfl, rfl⟩) | (at_delete; refine wpList_delete_own _ rfl _ _ 72 9 rfl 78 law9 Try.underlying72 _ ub _ DU rfl hM _ _ rfl hkey ?_; intro w4 hown4 hturn4)
  go_ret
  obtain ⟨h1, h2⟩ := HP.out.newUsers ((Below.refl _ _).alloc (Nat.le_refl _) _) hturn4 hown4 (f.users.filter fun p => !decide (p.1 = u)) (by rw [usersL_closed]; exact HMD.out)
  exact ⟨rfl, _, h1, h2⟩
theorem S_Close_ok (sb fb k : Nat) (ok : Nat → Prop) (L : List (Nat × AF)) (f : AF) (u n : ByteArray) (a b : Int) (W : World) (hR : StoreRep W ok sb L) (hk : L[k]? = some (fb, f)) (hnm : f.F.name = n)
    (hu : 1 ≤ u.size ∧ u.size ≤ 20) (hn : 1 ≤ n.size ∧ n.size ≤ 30) (hl : lookU f.users u = some (a, b)) (hnd : (f.users.map (fun p => p.1.data.toList)).Nodup) :
    Calls Try.prog 15 #[.pointer (some ⟨sb, 0, none⟩), .string u, .string n] W (SOut W ok sb (.int .i64 0) ((L.map (·.2)).set k (f.closed u))) := by
  obtain ⟨mb, D, own, R⟩ := hR
  obtain ⟨HF, A, rc, uv, ub, DU, P⟩ := R.way hk hnm hu hn
  refine (Close_ok _ u n W _ fb rc ub f A uv DU a b HF P (by omega) hl hnd).mono ?_
  rintro e w' ⟨rfl, DU', hP, hC⟩
  exact SOut.step R hk rfl ⟨A, rc, uv, ub, DU', hP.mono (fun q hq => .inl hq)⟩ (hC.mono (fun q hq => by rw [hq]; exact P.oku))
/-! Change. -/
def badRule (x : S34) : Bool := !(userB x.f0 && setB x.f1)
set_option maxRecDepth 100000 in
theorem Change1_c (x : S34) (W : World) : Calls Try.prog 38 #[.agg #[.string x.f0, .int .i64 x.f1]] W fun e w' => e = .returned (.bool (badRule x)) ∧ Below W.heap.size W w' := by
  have CU := Aside0.mk (user_c x.f0 (W.alloc (.cells #[.string x.f0, .int .i64 x.f1] 34)))
  have CS := Aside0.mk (set_c x.f1 (W.alloc (.cells #[.string x.f0, .int .i64 x.f1] 34)))
  unfold badRule
  cases h1 : userB x.f0 with
  | false =>
    rw [show (decide (1 ≤ x.f0.size) && decide (x.f0.size ≤ 20)) = false from h1] at CU
    clear h1
    go_enter Try.func38, Try.ntmps38
    go_wp2_with first | (go_at_call 32; refine CU.out.mono ?_; rintro e w' ⟨rfl, rfl⟩) | (go_at_call 34; refine CS.out.mono ?_; rintro e w' ⟨rfl, rfl⟩)
    go_ret
    exact ⟨rfl, (Below.refl _ _).alloc (Nat.le_refl _) _⟩
  | true =>
    rw [show (decide (1 ≤ x.f0.size) && decide (x.f0.size ≤ 20)) = true from h1] at CU
    clear h1
    cases h2 : setB x.f1 with
    | false =>
      rw [show (decide (0 ≤ x.f1) && decide (x.f1 ≤ 255)) = false from h2] at CS
      clear h2
      go_enter Try.func38, Try.ntmps38
      go_wp2_with first | (go_at_call 32; refine CU.out.mono ?_; rintro e w' ⟨rfl, rfl⟩) | (go_at_call 34; refine CS.out.mono ?_; rintro e w' ⟨rfl, rfl⟩)
      go_ret
      exact ⟨rfl, (Below.refl _ _).alloc (Nat.le_refl _) _⟩
    | true =>
      rw [show (decide (0 ≤ x.f1) && decide (x.f1 ≤ 255)) = true from h2] at CS
      clear h2
      go_enter Try.func38, Try.ntmps38
      go_wp2_with first | (go_at_call 32; refine CU.out.mono ?_; rintro e w' ⟨rfl, rfl⟩) | (go_at_call 34; refine CS.out.mono ?_; rintro e w' ⟨rfl, rfl⟩)
      go_ret
      exact ⟨rfl, (Below.refl _ _).alloc (Nat.le_refl _) _⟩
theorem idx_any {α : Type} (p : α → Bool) (l : List α) : ∃ r, idxM (fun x => some (p x)) l = some r ∧ decide (0 ≤ r) = l.any p := by
  obtain ⟨r, h1, h2⟩ := idx_find p l
  refine ⟨r, h1, ?_⟩
  rcases h2 with ⟨rfl, hn⟩ | ⟨i, rfl, _, x, _, hf⟩
  · rw [List.find?_eq_none] at hn
    symm
    show l.any p = false
    rw [List.any_eq_false]
    exact hn
  · have : l.any p = true := List.any_eq_true.2 ⟨x, List.mem_of_find?_eq_some hf, List.find?_some hf⟩
    rw [this]
    simp
theorem badRules_c (A : Option Addr) (c : Nat) (l : List S34) (W : World) (hr : Kd.C k34 W A l.length l) (hc : l.length ≤ c) :
    Calls Try.prog 37 #[.slice A l.length c, .func (.func 38) #[] #[]] W fun e w' => e = .returned (.bool (l.any badRule)) ∧ Below W.heap.size W w' := by
  obtain ⟨r, h1, h2⟩ := idx_any badRule l
  have HI := Aside0.mk (files_Rule_55.calls 38 #[] (enters_of Try.func38 (by kernel_rfl) rfl) (fun x => some (badRule x)) A c l r W hr hc h1 (fun W2 x cs b hb hk hx => by
    obtain rfl := Option.some.inj hx
    rw [k34_open hk]
    exact Change1_c x W2))
  have H2 := Aside0.mk h2
  clear hr h1 h2
  go_enter Try.func37, Try.ntmps37
  go_wp2_with (go_at_call 55; refine HI.out.mono ?_; rintro e w2 ⟨rfl, hb2⟩)
  go_ret
  exact ⟨by rw [← H2.out]; rfl, hb2⟩
end Go.Proofs.Ytehlmkgldcfciaa.Files
