/- The parts of this proof that lie in one text. -/
import Derived.Test.YtehlmkgldcfciaaGreatGN3
import Derived.Test.YtehlmkgldcfciaaGreatGN1
/- The file store: the other endings of Create, Delete, Open, Close, Replace, Extend. -/
set_option linter.unusedVariables false
set_option linter.unusedSimpArgs false
namespace Go.Proofs.YtehlmkgldcfciaaGreat.Files
open Go.Proofs.YtehlmkgldcfciaaGreat.Common Go.Maps Go.ChangeMaps Go.WideMaps Go.Proofs.YtehlmkgldcfciaaGreat.F
open Go.RowKit Go.Proofs.YtehlmkgldcfciaaGreatW.PrintWords Go.Proofs.YtehlmkgldcfciaaGreatW.PrintLast Go.Proofs.YtehlmkgldcfciaaGreatW.PrintMore
set_option maxRecDepth 100000 in
theorem Close_state (sp : Value) (u n : ByteArray) (W : World) (ok : Nat → Prop) (fb rc ub : Nat) (f : AF) (A : Option Addr) (uv : Value) (DU : DataW Unit) (HF : FoundOk W sp u n fb) (P : FileParts W ok fb f A rc uv ub DU) (hu : u.size ≤ 30) (hl : lookU f.users u = none) :
    Calls Tryz.prog 22 #[sp, .string u, .string n] W fun e w' => e = .returned (.int .i64 8) ∧ Below W.heap.size W w' := by
  have hkey := key_of hu
  obtain ⟨v, ps, hrun, hv⟩ := P.U.look_ok law9 Tryz.underlying88 (zeroO _) (zd := .agg [.lit (.int .i64 0), .lit (.int .i64 0)]) (zp := []) rfl hkey
  have hh : Maps.has DU (.string u.data.toList) = false := by rw [P.mU.has, look_users, hl]; rfl
  rw [atKey_of_not_has hh] at hv
  obtain rfl := Ro_at hv
  rw [hh] at hrun
  have c9 : W.cell? ⟨fb, 9, none⟩ = some (.map (some ub)) := (blk_cell P.F 9).trans rfl
  have CF := Aside0.mk (HF W (Below.refl _ _))
  clear HF P hh hv hl
  go_enter Tryz.func22, Tryz.ntmps22
  go_wp2_with first | (go_at_call 58; refine CF.out.mono ?_; rintro e w' ⟨rfl, rfl⟩)
  go_ret
  exact ⟨rfl, (Below.refl _ _).alloc (Nat.le_refl _) _⟩
set_option maxHeartbeats 2000000 in
set_option maxRecDepth 100000 in
theorem Open_state (sp : Value) (u n : ByteArray) (actions exclusive : Int) (W : World) (ok : Nat → Prop) (fb rc ub : Nat) (f : AF) (A : Option Addr) (uv : Value) (DU : DataW Unit) (a b : Int) (ha : setB actions = true) (hx : setB exclusive = true) (hs : bits .andNot .i64 exclusive actions = 0)
    (HF : FoundOk W sp u n fb) (P : FileParts W ok fb f A rc uv ub DU) (hu : u.size ≤ 30) (hl : lookU f.users u = some (a, b)) :
    Calls Tryz.prog 20 #[sp, .string u, .string n, .int .i64 actions, .int .i64 exclusive] W fun e w' => e = .returned (.int .i64 8) ∧ Below W.heap.size W w' := by
  have hkey := key_of hu
  obtain ⟨v, ps, hrun, hv⟩ := P.U.look_ok law9 Tryz.underlying88 (zeroO _) (zd := .agg [.lit (.int .i64 0), .lit (.int .i64 0)]) (zp := []) rfl hkey
  have hh : Maps.has DU (.string u.data.toList) = true := by rw [P.mU.has, look_users, hl]; rfl
  have hat : DU.atKey (.string u.data.toList) (.agg [.lit (.int .i64 0), .lit (.int .i64 0)]) = .agg [.lit (.int .i64 a), .lit (.int .i64 b)] := by rw [P.mU.at_, look_users, hl]; rfl
  rw [hat] at hv
  obtain rfl := Ro_at hv
  rw [hh] at hrun
  have c9 : W.cell? ⟨fb, 9, none⟩ = some (.map (some ub)) := (blk_cell P.F 9).trans rfl
  have CF := Aside0.mk (HF W (Below.refl _ _))
  have CA := Aside0.mk (set_c actions W)
  have CE := Aside0.mk (set_c exclusive W)
  rw [show (decide (0 ≤ actions) && decide (actions ≤ 255)) = true from ha] at CA
  rw [show (decide (0 ≤ exclusive) && decide (exclusive ≤ 255)) = true from hx] at CE
  clear HF P hh hv hl hat ha hx
  go_enter Tryz.func20, Tryz.ntmps20
  go_wp2_with first | (go_at_call 58; refine CF.out.mono ?_; rintro e w' ⟨rfl, rfl⟩) | (go_at_call 55; first | (refine CA.out.mono ?_; rintro e w' ⟨rfl, rfl⟩) | (refine CE.out.mono ?_; rintro e w' ⟨rfl, rfl⟩))
  go_ret
  exact ⟨rfl, (Below.refl _ _).alloc (Nat.le_refl _) _⟩
set_option maxHeartbeats 2000000 in
set_option maxRecDepth 100000 in
theorem Open_denied (sp : Value) (u n : ByteArray) (actions exclusive : Int) (W : World) (ok : Nat → Prop) (fb rc ub : Nat) (f : AF) (A : Option Addr) (uv : Value) (DU : DataW Unit) (ha : setB actions = true) (hx : setB exclusive = true) (hs : bits .andNot .i64 exclusive actions = 0)
    (HF : FoundOk W sp u n fb) (P : FileParts W ok fb f A rc uv ub DU) (hu : u.size ≤ 30) (hl : lookU f.users u = none) (hmay : mayB f.F f.rules u actions = false) :
    Calls Tryz.prog 20 #[sp, .string u, .string n, .int .i64 actions, .int .i64 exclusive] W fun e w' => e = .returned (.int .i64 12) ∧ Below W.heap.size W w' := by
  have hkey := key_of hu
  obtain ⟨v, ps, hrun, hv⟩ := P.U.look_ok law9 Tryz.underlying88 (zeroO _) (zd := .agg [.lit (.int .i64 0), .lit (.int .i64 0)]) (zp := []) rfl hkey
  have hh : Maps.has DU (.string u.data.toList) = false := by rw [P.mU.has, look_users, hl]; rfl
  rw [atKey_of_not_has hh] at hv
  obtain rfl := Ro_at hv
  rw [hh] at hrun
  have c9 : W.cell? ⟨fb, 9, none⟩ = some (.map (some ub)) := (blk_cell P.F 9).trans rfl
  have CF := Aside0.mk (HF W (Below.refl _ _))
  have CA := Aside0.mk (set_c actions W)
  have CE := Aside0.mk (set_c exclusive W)
  rw [show (decide (0 ≤ actions) && decide (actions ≤ 255)) = true from ha] at CA
  rw [show (decide (0 ≤ exclusive) && decide (exclusive ≤ 255)) = true from hx] at CE
  have hb1 : Below W.heap.size W (W.alloc (.cells #[.int .i64 0, .int .i64 0] 90)) := (Below.refl _ _).alloc (Nat.le_refl _) _
  obtain ⟨_, hrc, hrC⟩ := Kd.R_reads' P.rules
  have CM := Aside0.mk (may_c fb ub rc f.F A f.rules uv u actions (W.alloc (.cells #[.int .i64 0, .int .i64 0] 90)) ((hb1.block fb (blk_lt P.F)).trans P.F) (Kd.C_below hrC hb1) hrc)
  rw [hmay] at CM
  have HB1 := Aside0.mk hb1
  clear HF P hh hv hl ha hx hmay hrC hrc hb1
  go_enter Tryz.func20, Tryz.ntmps20
  go_wp2_with first | (go_at_call 58; refine CF.out.mono ?_; rintro e w' ⟨rfl, rfl⟩) | (go_at_call 55; first | (refine CA.out.mono ?_; rintro e w' ⟨rfl, rfl⟩) | (refine CE.out.mono ?_; rintro e w' ⟨rfl, rfl⟩)) | (go_at_call 59; refine CM.out.mono ?_; rintro e w2 ⟨rfl, hb2⟩)
  go_ret
  exact ⟨rfl, HB1.out.trans (hb2.mono HB1.out.size)⟩
set_option maxRecDepth 100000 in
theorem Delete_state (sp : Value) (u n : ByteArray) (W : World) (ok : Nat → Prop) (fb rc ub : Nat) (f : AF) (A : Option Addr) (uv : Value) (DU : DataW Unit) (HF : FoundOk W sp u n fb) (P : FileParts W ok fb f A rc uv ub DU) (hl : 0 < f.users.length) :
    Calls Tryz.prog 18 #[sp, .string u, .string n] W fun e w' => e = .returned (.int .i64 8) ∧ Below W.heap.size W w' := by
  have c9 : W.cell? ⟨fb, 9, none⟩ = some (.map (some ub)) := (blk_cell P.F 9).trans rfl
  have hlen := fun ty => P.U.len Tryz.underlying88 ty
  have hsz : Maps.size DU = f.users.length := by rw [P.mU.size]; simp [usersL]
  rw [hsz] at hlen
  have hz : (0 : Int) < (f.users.length : Int) := by omega
  have hz2 : decide ((0 : Int) < (f.users.length : Int)) = true := decide_eq_true hz
  have CF := Aside0.mk (HF W (Below.refl _ _))
  clear HF P hsz hl
  go_enter Tryz.func18, Tryz.ntmps18
  go_wp2_with first | (go_at_call 58; refine CF.out.mono ?_; rintro e w' ⟨rfl, rfl⟩)
  go_ret
  exact ⟨rfl, Below.refl _ _⟩
set_option maxRecDepth 100000 in
theorem Delete_denied (sp : Value) (u n : ByteArray) (W : World) (ok : Nat → Prop) (fb rc ub : Nat) (f : AF) (A : Option Addr) (uv : Value) (DU : DataW Unit) (HF : FoundOk W sp u n fb) (P : FileParts W ok fb f A rc uv ub DU) (hl : f.users = []) (hmay : mayB f.F f.rules u 128 = false) :
    Calls Tryz.prog 18 #[sp, .string u, .string n] W fun e w' => e = .returned (.int .i64 12) ∧ Below W.heap.size W w' := by
  have c9 : W.cell? ⟨fb, 9, none⟩ = some (.map (some ub)) := (blk_cell P.F 9).trans rfl
  have hlen := fun ty => P.U.len Tryz.underlying88 ty
  have hsz : Maps.size DU = 0 := by rw [P.mU.size, hl]; rfl
  rw [hsz] at hlen
  have CF := Aside0.mk (HF W (Below.refl _ _))
  obtain ⟨_, hrc, hrC⟩ := Kd.R_reads' P.rules
  have CM := Aside0.mk (may_c fb ub rc f.F A f.rules uv u 128 W P.F hrC hrc)
  rw [hmay] at CM
  clear HF P hsz hl hmay hrC hrc
  go_enter Tryz.func18, Tryz.ntmps18
  go_wp2_with first | (go_at_call 58; refine CF.out.mono ?_; rintro e w' ⟨rfl, rfl⟩) | (go_at_call 59; refine CM.out.mono ?_; rintro e w2 ⟨rfl, hb2⟩)
  go_ret
  exact ⟨rfl, hb2⟩
set_option maxRecDepth 100000 in
theorem Delete_c (sb mb fb : Nat) (u n : ByteArray) (W : World) (ok : Nat → Prop) (rc ub : Nat) (f : AF) (A : Option Addr) (uv : Value) (D DU : DataW Unit) (c0 : W.cell? ⟨sb, 0, none⟩ = some (.map (some mb))) (hown : W.ownsMap Tryz.prog 9 Rp mb (Maps.size D) D) (hn : n.size ≤ 30)
    (HF : FoundOk W (.pointer (some ⟨sb, 0, none⟩)) u n fb) (P : FileParts W ok fb f A rc uv ub DU) (hl : f.users = []) (hmay : mayB f.F f.rules u 128 = true) :
    Calls Tryz.prog 18 #[.pointer (some ⟨sb, 0, none⟩), .string u, .string n] W fun e w' => e = .returned (.int .i64 0) ∧ ∃ W3 m, Below W.heap.size W W3 ∧ w'.ownsMap Tryz.prog 9 Rp mb m (D.del (.string n.data.toList)) ∧ W3.mapTurned w' mb := by
  have hkey := key_of hn
  have c9 : W.cell? ⟨fb, 9, none⟩ = some (.map (some ub)) := (blk_cell P.F 9).trans rfl
  have hlen := fun ty => P.U.len Tryz.underlying88 ty
  have hsz : Maps.size DU = 0 := by rw [P.mU.size, hl]; rfl
  rw [hsz] at hlen
  have CF := Aside0.mk (HF W (Below.refl _ _))
  obtain ⟨_, hrc, hrC⟩ := Kd.R_reads' P.rules
  have CM := Aside0.mk (may_c fb ub rc f.F A f.rules uv u 128 W P.F hrC hrc)
  rw [hmay] at CM
  have HO := Aside0.mk hown
  clear HF P hsz hl hmay hrC hrc hown
  go_enter Tryz.func18, Tryz.ntmps18
  go_wp2_with first | (go_at_call 58; refine CF.out.mono ?_; rintro e w' ⟨rfl, rfl⟩) | (go_at_call 59; refine CM.out.mono ?_; rintro e w2 ⟨rfl, hb2⟩; have d0 := pw_cell_below hb2 c0; have hM := (Chg.of_below hb2 (fun _ => False)).map HO.out (fun h => h)) | (at_delete; refine wpList_delete_own _ rfl _ _ 41 9 rfl 82 law9 Tryz.underlying41 _ mb _ D rfl hM _ _ rfl hkey ?_; intro w4 hown4 hturn4)
  go_ret
  exact ⟨rfl, w2, _, hb2, hown4, hturn4⟩
end Go.Proofs.YtehlmkgldcfciaaGreat.Files
/- The file store: Replace and Extend. -/
set_option linter.unusedVariables false
set_option linter.unusedSimpArgs false
namespace Go.Proofs.YtehlmkgldcfciaaGreat.Files
open Go.Proofs.YtehlmkgldcfciaaGreat.Common Go.Maps Go.ChangeMaps Go.WideMaps Go.Proofs.YtehlmkgldcfciaaGreat.F
open Go.RowKit Go.Proofs.YtehlmkgldcfciaaGreatW.PrintWords Go.Proofs.YtehlmkgldcfciaaGreatW.PrintLast Go.Proofs.YtehlmkgldcfciaaGreatW.PrintMore
def withData (l : List S29) (i : Nat) (d : ByteArray) : List S29 := l.set i ⟨(rd_T29 l (i : Int)).f0, d, (rd_T29 l (i : Int)).f2⟩
def AF.data (f : AF) (u : ByteArray) (i : Nat) (d : ByteArray) : AF := { f with F := f.F.noted u, units := withData f.units i d }
def UnitsEnd (W : World) (ok : Nat → Prop) (fb rc ub : Nat) (f' : AF) (A : Option Addr) (DU : DataW Unit) (e : Ending) (w' : World) : Prop :=
  e = .returned (.int .i64 0) ∧ ∃ uv, FileParts w' (fun k => ok k ∨ W.heap.size ≤ k) fb f' A rc uv ub DU ∧ Chg W w' ok
theorem FileParts.oneUnit {W : World} {ok : Nat → Prop} {fb rc ub g n cu : Nat} {f : AF} {A : Option Addr} {DU : DataW Unit} (P : FileParts W ok fb f A rc (.slice (some ⟨g, 0, none⟩) n cu) ub DU) (i j : Nat) (x' : S29) (v : Value) (hi : i < f.units.length) (hj : j < 3) (hc : (uCells (rd_T29 f.units (i : Int))).set j v = uCells x') :
    FileParts (W.setCell ⟨g, i * 3 + j, none⟩ v) (fun k => ok k ∨ W.heap.size ≤ k) fb { f with units := f.units.set i x' } A rc (.slice (some ⟨g, 0, none⟩) n cu) ub DU ∧ Chg W (W.setCell ⟨g, i * 3 + j, none⟩ v) ok := by
  obtain ⟨h1, h2⟩ := units_set P.units i j x' v hi hj hc
  have hcc : Chg W (W.setCell ⟨g, i * 3 + j, none⟩ v) (fun k => some k = (Value.slice (some ⟨g, 0, none⟩) n cu).ownBlock) := Chg.of_grown h2 (fun k e => e)
  have hfb : ¬ some fb = (Value.slice (some ⟨g, 0, none⟩) n cu).ownBlock := fun e => by
    obtain ⟨cells, h⟩ := own_typed (uRow_of_R P.units) fb e.symm
    rw [P.F] at h
    cases h
  have F1 : FileAt (W.setCell ⟨g, i * 3 + j, none⟩ v) fb f.F (.slice A f.rules.length rc) (.slice (some ⟨g, 0, none⟩) n cu) ub := (hcc.block fb (blk_lt P.F) hfb).trans P.F
  have h := P.newUnits hcc h1 (fun k hk => .inl hk)
  have c8 : (W.setCell ⟨g, i * 3 + j, none⟩ v).cell? ⟨fb, 8, none⟩ = some (.slice (some ⟨g, 0, none⟩) n cu) := (blk_cell F1 8).trans rfl
  rw [setCell_id c8] at h
  exact h
set_option maxRecDepth 100000 in
set_option maxHeartbeats 2000000 in
theorem Replace_ok (sp : Value) (u n : ByteArray) (i fb rc ub : Nat) (data : ByteArray) (f : AF) (A : Option Addr) (uv : Value) (DU : DataW Unit) (ok : Nat → Prop) (W : World) (hd : data.size ≤ 400) (HU : UnitOk W sp u n (i : Int) 4 fb 0) (P : FileParts W ok fb f A rc uv ub DU)
    (hi : i < f.units.length) (hl : f.units.length ≤ 1000) :
    Calls Tryz.prog 32 #[sp, .string u, .string n, .int .i64 (i : Int), .string data] W (UnitsEnd W ok fb rc ub (f.data u i data) A DU) := by
  have CU := Aside0.mk (HU W (Below.refl _ _))
  have HP := Aside0.mk P
  have g1 : decide ((400 : Int) < (data.size : Int)) = false := decide_eq_false (by omega)
  have hic : decide ((i : Int) < 0) = false := decide_eq_false (by omega)
  have hiz : (i : Int) < (f.units.length : Int) := by omega
  clear HU P hd
  go_enter Tryz.func32, Tryz.ntmps32
  go_wp2_with fail
  refine CU.out.mono ?_
  rintro e w2 ⟨rfl, hb2⟩
  have P2 := HP.out.below hb2
  obtain ⟨g, cu, huv, hlc, hcm⟩ := units_slice P2.units (by omega)
  subst huv
  have c8 : w2.cell? ⟨fb, 8, none⟩ = some (.slice (some ⟨g, 0, none⟩) f.units.length cu) := (blk_cell P2.F 8).trans rfl
  have xk : w2.cell? ⟨g, i * 3 + 1, none⟩ = some (.string (rd_T29 f.units (i : Int)).f1) := by
    obtain ⟨_, _, hC⟩ := Kd.R_reads' P2.units
    obtain ⟨ad, he, _, h2, _⟩ := at_T29 (xs := f.units) hC (i : Int) (by omega) (by omega)
    cases he
    rw [Int.toNat_natCast, add_plain] at h2
    exact h2
  have fk : w2.frozen? ⟨g, i * 3 + 1, none⟩ = false := by
    obtain ⟨cells, hc⟩ := own_typed (uRow_of_R P2.units) g rfl
    exact blk_frozen hc _
  have PN := P2.oneUnit i 1 ⟨(rd_T29 f.units (i : Int)).f0, data, (rd_T29 f.units (i : Int)).f2⟩ (.string data) hi (by decide) rfl
  have CG := Aside0.mk (changed_c fb ub f.F _ _ u _ PN.1.F)
  have HPN := Aside0.mk PN
  have HB2 := Aside0.mk hb2
  clear PN P2 hb2 HP
  go_wp2_with first | (go_at_call 73; refine CG.out.mono ?_; rintro e w14 ⟨rfl, rfl⟩)
  go_ret
  have h14 := HPN.out.1.noted u
  exact ⟨rfl, _, h14.1.mono (fun k hk => hk.elim .inl (fun h => .inr (Nat.le_trans HB2.out.size h))), ((Chg.of_below HB2.out (fun _ => False)).mono (fun _ h => h.elim)).trans (HPN.out.2.trans h14.2 (fun k hk => hk)) (fun k hk => .inl hk)⟩
set_option maxRecDepth 100000 in
set_option maxHeartbeats 2000000 in
theorem Extend_ok (sp : Value) (u n : ByteArray) (i fb rc ub : Nat) (data : ByteArray) (f : AF) (A : Option Addr) (uv : Value) (DU : DataW Unit) (ok : Nat → Prop) (W : World) (hd : data.size ≤ 400) (HU : UnitOk W sp u n (i : Int) 8 fb 0) (P : FileParts W ok fb f A rc uv ub DU)
    (hi : i < f.units.length) (hl : f.units.length ≤ 1000) (hx : (rd_T29 f.units (i : Int)).f1.size + data.size ≤ 400) :
    Calls Tryz.prog 34 #[sp, .string u, .string n, .int .i64 (i : Int), .string data] W (UnitsEnd W ok fb rc ub (f.data u i ((rd_T29 f.units (i : Int)).f1 ++ data)) A DU) := by
  have CU := Aside0.mk (HU W (Below.refl _ _))
  have HP := Aside0.mk P
  obtain ⟨old, hold⟩ : ∃ o, o = (rd_T29 f.units (i : Int)).f1 := ⟨_, rfl⟩
  rw [← hold] at hx
  have HOLD := Aside0.mk hold
  have g1 : decide ((400 : Int) < (data.size : Int)) = false := decide_eq_false (by omega)
  have gw : IntKind.i64.wrap ((old.size : Int) + (data.size : Int)) = (old.size : Int) + (data.size : Int) := by rw [IntKind.wrap_i64]; omega
  have g2 : decide ((400 : Int) < (old.size : Int) + (data.size : Int)) = false := decide_eq_false (by omega)
  have g3 : ¬ ((400 : Int) < (old.size : Int) + (data.size : Int)) := by omega
  have hic : decide ((i : Int) < 0) = false := decide_eq_false (by omega)
  have hiz : (i : Int) < (f.units.length : Int) := by omega
  clear HU P hd hold
  go_enter Tryz.func34, Tryz.ntmps34
  go_wp2_with fail
  refine CU.out.mono ?_
  rintro e w2 ⟨rfl, hb2⟩
  have P2 := HP.out.below hb2
  obtain ⟨g, cu, huv, hlc, hcm⟩ := units_slice P2.units (by omega)
  subst huv
  have c8 : w2.cell? ⟨fb, 8, none⟩ = some (.slice (some ⟨g, 0, none⟩) f.units.length cu) := (blk_cell P2.F 8).trans rfl
  have xk : w2.cell? ⟨g, i * 3 + 1, none⟩ = some (.string old) := by
    obtain ⟨_, _, hC⟩ := Kd.R_reads' P2.units
    obtain ⟨ad, he, _, h2, _⟩ := at_T29 (xs := f.units) hC (i : Int) (by omega) (by omega)
    cases he
    rw [Int.toNat_natCast, add_plain] at h2
    rw [HOLD.out]
    exact h2
  have fk : w2.frozen? ⟨g, i * 3 + 1, none⟩ = false := by
    obtain ⟨cells, hc⟩ := own_typed (uRow_of_R P2.units) g rfl
    exact blk_frozen hc _
  have PN := P2.oneUnit i 1 ⟨(rd_T29 f.units (i : Int)).f0, old ++ data, (rd_T29 f.units (i : Int)).f2⟩ (.string (old ++ data)) hi (by decide) rfl
  have CG := Aside0.mk (changed_c fb ub f.F _ _ u _ PN.1.F)
  have HPN := Aside0.mk PN
  have HB2 := Aside0.mk hb2
  clear PN P2 hb2 HP
  go_wp2_with first | (go_at_call 73; refine CG.out.mono ?_; rintro e w14 ⟨rfl, rfl⟩)
  go_ret
  have h14 := HPN.out.1.noted u
  refine ⟨rfl, .slice (some ⟨g, 0, none⟩) f.units.length cu, ?_, ((Chg.of_below HB2.out (fun _ => False)).mono (fun _ h => h.elim)).trans (HPN.out.2.trans h14.2 (fun k hk => hk)) (fun k hk => .inl hk)⟩
  rw [← HOLD.out]
  exact h14.1.mono (fun k hk => hk.elim .inl (fun h => .inr (Nat.le_trans HB2.out.size h)))
set_option maxRecDepth 100000 in
set_option maxHeartbeats 2000000 in
theorem Extend_full (sp : Value) (u n : ByteArray) (i fb rc ub : Nat) (data : ByteArray) (f : AF) (A : Option Addr) (uv : Value) (DU : DataW Unit) (ok : Nat → Prop) (W : World) (hd : data.size ≤ 400) (HU : UnitOk W sp u n (i : Int) 8 fb 0) (P : FileParts W ok fb f A rc uv ub DU)
    (hi : i < f.units.length) (hl : f.units.length ≤ 1000) (hs : (rd_T29 f.units (i : Int)).f1.size ≤ 400) (hx : 400 < (rd_T29 f.units (i : Int)).f1.size + data.size) :
    Calls Tryz.prog 34 #[sp, .string u, .string n, .int .i64 (i : Int), .string data] W fun e w' => e = .returned (.int .i64 9) ∧ Below W.heap.size W w' := by
  have CU := Aside0.mk (HU W (Below.refl _ _))
  have HP := Aside0.mk P
  obtain ⟨old, hold⟩ : ∃ o, o = (rd_T29 f.units (i : Int)).f1 := ⟨_, rfl⟩
  rw [← hold] at hx hs
  have HOLD := Aside0.mk hold
  have g1 : decide ((400 : Int) < (data.size : Int)) = false := decide_eq_false (by omega)
  have gw : IntKind.i64.wrap ((old.size : Int) + (data.size : Int)) = (old.size : Int) + (data.size : Int) := by rw [IntKind.wrap_i64]; omega
  have g2 : decide ((400 : Int) < (old.size : Int) + (data.size : Int)) = true := decide_eq_true (by omega)
  have g3 : (400 : Int) < (old.size : Int) + (data.size : Int) := by omega
  have hic : decide ((i : Int) < 0) = false := decide_eq_false (by omega)
  have hiz : (i : Int) < (f.units.length : Int) := by omega
  clear HU P hd hold
  go_enter Tryz.func34, Tryz.ntmps34
  go_wp2_with fail
  refine CU.out.mono ?_
  rintro e w2 ⟨rfl, hb2⟩
  have P2 := HP.out.below hb2
  obtain ⟨g, cu, huv, hlc, hcm⟩ := units_slice P2.units (by omega)
  subst huv
  have c8 : w2.cell? ⟨fb, 8, none⟩ = some (.slice (some ⟨g, 0, none⟩) f.units.length cu) := (blk_cell P2.F 8).trans rfl
  have xk : w2.cell? ⟨g, i * 3 + 1, none⟩ = some (.string old) := by
    obtain ⟨_, _, hC⟩ := Kd.R_reads' P2.units
    obtain ⟨ad, he, _, h2, _⟩ := at_T29 (xs := f.units) hC (i : Int) (by omega) (by omega)
    cases he
    rw [Int.toNat_natCast, add_plain] at h2
    rw [HOLD.out]
    exact h2
  have HB2 := Aside0.mk hb2
  clear P2 hb2 HP
  go_wp2
  go_ret
  exact ⟨rfl, HB2.out⟩
end Go.Proofs.YtehlmkgldcfciaaGreat.Files
/- slices.Delete of a range of a row of units of the call's own; Erase. -/
set_option linter.unusedVariables false
set_option linter.unusedSimpArgs false
namespace Go.Proofs.YtehlmkgldcfciaaGreat.Files
open Go.Proofs.YtehlmkgldcfciaaGreat.Common Go.Maps Go.ChangeMaps Go.WideMaps Go.Proofs.YtehlmkgldcfciaaGreat.F
open Go.RowKit Go.Proofs.YtehlmkgldcfciaaGreatW.PrintWords Go.Proofs.YtehlmkgldcfciaaGreatW.PrintLast Go.Proofs.YtehlmkgldcfciaaGreatW.PrintMore
theorem infoU : (Tryz.prog.info? 29).map (fun i => (i.zero, i.size, i.bytes)) = some (some (.agg #[(.string ⟨#[]⟩), (.string ⟨#[]⟩), (.int .i64 0)]), 3, 40) := by kernel_rfl
theorem delete_flat_range {css : List (List Value)} {sz i j : Nat} (h : ∀ c ∈ css, c.length = sz) (hi : i < j) (hj : j ≤ css.length) (z : List Value) (hz : z.length = (j - i) * sz) :
    (layV (layV css.flatten (i * sz) (css.drop j).flatten) ((css.length - (j - i)) * sz) z).take ((css.length - (j - i)) * sz) = (css.take i ++ css.drop j).flatten := by
  have hT : (css.take i).flatten.length = i * sz := by rw [flat_length (fun c hc => h c (List.mem_of_mem_take hc)), List.length_take, Nat.min_eq_left (by omega)]
  have hD : (css.drop j).flatten.length = (css.length - j) * sz := by rw [flat_length (fun c hc => h c (List.mem_of_mem_drop hc)), List.length_drop]
  have hL := flat_length h
  have hm : css.length * sz = i * sz + ((j - i) * sz + (css.length - j) * sz) := by
    rw [← Nat.add_mul, ← Nat.add_mul]
    congr 1
    omega
  have hm1 : (css.length - (j - i)) * sz = i * sz + (css.length - j) * sz := by rw [← Nat.add_mul]; congr 1; omega
  have hsplit : css.flatten = (css.take i).flatten ++ (css.drop i).flatten := by rw [← List.flatten_append, List.take_append_drop]
  have ht : css.flatten.take (i * sz) = (css.take i).flatten := by rw [hsplit, ← hT]; simp
  have hl1 : layV css.flatten (i * sz) (css.drop j).flatten = (css.take i).flatten ++ (css.drop j).flatten ++ css.flatten.drop (i * sz + (css.drop j).flatten.length) := by
    rw [layV_eq _ _ _ (by rw [hD, hL]; omega), ht]
  have hAB : ((css.take i).flatten ++ (css.drop j).flatten).length = (css.length - (j - i)) * sz := by rw [List.length_append, hT, hD, hm1]
  rw [hl1, layV_eq _ _ _ (by rw [List.length_append, hAB, List.length_drop, hL, hD, hz]; omega)]
  rw [List.take_append_of_le_length (by simp only [List.length_append, List.length_take, hAB, List.length_drop, hL, hz, hD]; omega), List.take_append_of_le_length (by rw [List.length_take, List.length_append, hAB]; omega), List.take_take, Nat.min_self, List.take_append_of_le_length (by omega), ← hAB, List.take_length,
    List.flatten_append]
theorem run_clear_n {P : Program} (w : World) (t e ty : TypeId) (z : Value) (ht : P.underlying t = some (.slice e)) (hv : ∀ w, (zeroValue e).run P w = .ok z w) (h1 : ∀ u ∈ z.cells.toList, u.oneCell' = true) (b o c m : Nat) (hm0 : 0 < m) (hz0 : 0 < z.cells.size)
    (hc : ∀ j, j < m * z.cells.size → (w.cell? ⟨b, o + j, none⟩).isSome = true) (hf : ∀ j, j < m * z.cells.size → w.frozen? ⟨b, o + j, none⟩ = false) :
    (Builtin.clear_ #[t] ty #[.slice (some ⟨b, o, none⟩) m c]).run P w = .ok (.tuple #[]) (w.setCells b o (Builtin.zeroCells z.cells m).toList) := by
  have hl : (Builtin.zeroCells z.cells m).toList.length = m * z.cells.size := by simp [Builtin.zeroCells]
  have h1' : ∀ u ∈ (Builtin.zeroCells z.cells m).toList, u.oneCell' = true := fun u hu => by
    have hu2 := Array.mem_toList_iff.1 hu
    simp only [Builtin.zeroCells, Array.mem_map] at hu2
    obtain ⟨i, _, rfl⟩ := hu2
    have hlt : i % z.cells.size < z.cells.size := Nat.mod_lt _ hz0
    rw [getElem!_pos z.cells _ hlt]
    exact h1 _ (by simp)
  have hst := run_storeCells_cells (P := P) b o (Builtin.zeroCells z.cells m).toList 0 w (by rw [hl]; simpa using hc) (by rw [hl]; simpa using hf) h1'
  simp only [Nat.add_zero] at hst
  obtain ⟨m', rfl⟩ : ∃ m', m = m' + 1 := ⟨m - 1, by omega⟩
  simp [Builtin.clear_, run_underlying ht, hv, hst]
set_option maxHeartbeats 4000000 in
set_option maxRecDepth 100000 in
theorem Delete_range (g n cap i j base : Nat) (ok : Nat → Prop) (css : List (List Value)) (w : World) (hr0 : (Kd.raw 3).R 29 w base ok (.slice (some ⟨g, 0, none⟩) n cap) css) (hi : i < j) (hj : j ≤ n) :
    Calls Tryz.prog 77 #[.slice (some ⟨g, 0, none⟩) n cap, .int .i64 (i : Int), .int .i64 (j : Int)] w fun e w' => e = .returned (.slice (some ⟨g, 0, none⟩) (n - (j - i)) cap) ∧
      (Kd.raw 3).R 29 w' base ok (.slice (some ⟨g, 0, none⟩) (n - (j - i)) cap) (css.take i ++ css.drop j) ∧ w.grownBy w' (some g) := by
  obtain ⟨hn, hnc, _⟩ := Kd.R_reads' hr0
  obtain ⟨h0, ho, hcs⟩ := raw_flat hr0
  subst hn
  have hlen : ∀ c ∈ css, c.length = 3 := fun c hc => (hcs c hc).1
  obtain ⟨i0, hi0, hz0⟩ := Option.map_eq_some_iff.1 infoU
  simp only [Prod.mk.injEq] at hz0
  obtain ⟨_, hz1, _⟩ := hz0
  have hcapm : cap ≤ 9223372036854775807 := by
    rcases ho.2 with ⟨h', _⟩ | ⟨g', cap', cur, hv, _, _, _, hcm, _⟩
    · cases h'
    · injection hv with _ _ hv3
      rw [hv3]
      exact hcm
  -- what is moved to the left
  obtain ⟨news, hnews⟩ : ∃ news, news = (css.drop j).flatten := ⟨_, rfl⟩
  have hnl : news.length = (css.length - j) * 3 := by rw [hnews, flat_length (fun c hc => hlen c (List.mem_of_mem_drop hc)), List.length_drop]
  have hone : ∀ u ∈ news, u.oneCell' = true := fun u hu => by
    rw [hnews] at hu
    obtain ⟨c, hc, hu⟩ := List.mem_flatten.1 hu
    exact (hcs c (List.mem_of_mem_drop hc)).2 u hu
  obtain ⟨_, hod, _⟩ := raw_flat (Kd.R_drew hr0)
  have hfl := flat_length hlen
  have hcell : ∀ j u, css.flatten[j]? = some u → w.drew.cell? ⟨g, j, none⟩ = some u := fun j u hu => by
    have := hod.cells (g := g) rfl j u hu
    rwa [add_plain] at this
  have hfz : ∀ j, w.drew.frozen? ⟨g, j, none⟩ = false := fun j => by
    rcases hod.2 with ⟨h', _⟩ | ⟨g', cap', cur, hv, _, hh, _⟩
    · cases h'
    · injection hv with hv1 _ _
      injection hv1 with hv1
      injection hv1 with hv1
      subst hv1
      simp [World.frozen?, hh]
  have hsome : ∀ t, t < css.length * 3 → (w.drew.cell? ⟨g, t, none⟩).isSome = true := fun t ht => by
    rw [hcell t _ (List.getElem?_eq_getElem (by rw [hfl]; exact ht))]
    all_goals rfl
  obtain ⟨A, hA, hsrc⟩ : ∃ A : Addr, (if cap = j then some (⟨g, 0, none⟩ : Addr) else some ⟨g, j * 3, none⟩) = some A ∧ Hid (∀ t u, news[t]? = some u → w.drew.cell? (A.add t) = some u) := by
    by_cases h : cap = j
    · refine ⟨⟨g, 0, none⟩, by simp [h], fun t u hu => ?_⟩
      have h0 : news.length = 0 := by rw [hnl, show css.length - j = 0 by omega, Nat.zero_mul]
      rw [List.length_eq_zero_iff.1 h0] at hu
      simp at hu
    · refine ⟨⟨g, j * 3, none⟩, by simp [h], fun t u hu => ?_⟩
      rw [Addr.add_lit]
      refine hcell _ u ?_
      have hsp : css.flatten = (css.take j).flatten ++ news := by rw [hnews, ← List.flatten_append, List.take_append_drop]
      have hT : (css.take j).flatten.length = j * 3 := by rw [flat_length (fun c hc => hlen c (List.mem_of_mem_take hc)), List.length_take, Nat.min_eq_left (by omega)]
      rw [hsp, List.getElem?_append_right (by omega), hT, Nat.add_sub_cancel_left]
      exact hu
  have s1 : Hid (news.length = (css.length - j) * 3) := hnl
  have s2 : Hid (∀ u ∈ news, u.oneCell' = true) := hone
  have hmul : i * 3 + news.length ≤ css.length * 3 := by
    rw [hnl, ← Nat.add_mul]
    exact Nat.mul_le_mul_right _ (by omega)
  have s3 : Hid (∀ t, t < news.length → (w.drew.cell? ⟨g, 0 + i * 3 + t, none⟩).isSome = true ∧ w.drew.frozen? ⟨g, 0 + i * 3 + t, none⟩ = false) := fun t ht => by
    rw [Nat.zero_add]
    exact ⟨hsome _ (by omega), hfz _⟩
  obtain ⟨ho1, hg1⟩ := own_setCells news (i * 3) w.drew _ hod
  obtain ⟨W1, hW1⟩ : ∃ W1, W1 = w.drew.setCells g (0 + i * 3) news := ⟨_, rfl⟩
  have hW1' : w.drew.setCells g (i * 3) news = W1 := by rw [hW1, Nat.zero_add]
  rw [hW1'] at ho1 hg1
  have hlay : (layV css.flatten (i * 3) news).length = css.length * 3 := by
    rw [layV_eq _ _ _ (by rw [hfl]; exact hmul)]
    simp only [List.length_append, List.length_take, List.length_drop, hfl]
    omega
  have hZ : (.agg #[.string ByteArray.empty, .string ByteArray.empty, .int .i64 0] : Value).cells.size = 3 := rfl
  have hlast : (css.length - (j - i)) * 3 + (j - i) * 3 = css.length * 3 := by
    rw [← Nat.add_mul]
    congr 1
    omega
  have hcl : ∀ ty, (Builtin.clear_ #[52] ty #[.slice (some ⟨g, (css.length - (j - i)) * 3, none⟩) (j - i) (cap - (css.length - (j - i)))]).run Tryz.prog W1 = .ok (.tuple #[]) (W1.setCells g ((css.length - (j - i)) * 3) (Builtin.zeroCells (.agg #[.string ByteArray.empty, .string ByteArray.empty, .int .i64 0] : Value).cells (j - i)).toList) := fun ty =>
    run_clear_n W1 52 29 ty (.agg #[.string ByteArray.empty, .string ByteArray.empty, .int .i64 0]) Tryz.underlying52 Tryz.zeroValue29 (by intro u hu; revert u; decide) g _ _ (j - i) (by omega) (by decide)
      (fun t ht => by
        rw [hZ] at ht
        have := ho1.cells (g := g) rfl ((css.length - (j - i)) * 3 + t) _ (List.getElem?_eq_getElem (by rw [hlay]; omega))
        rw [add_plain] at this
        rw [this]
        rfl)
      (fun t ht => by
        rcases ho1.2 with ⟨h', _⟩ | ⟨g', cap', cur, hv, _, hh, _⟩
        · cases h'
        · injection hv with hv1 _ _
          injection hv1 with hv1
          injection hv1 with hv1
          subst hv1
          simp [World.frozen?, hh])
  obtain ⟨ho2, hg2⟩ := own_setCells (Builtin.zeroCells (.agg #[.string ByteArray.empty, .string ByteArray.empty, .int .i64 0] : Value).cells (j - i)).toList ((css.length - (j - i)) * 3) W1 _ ho1
  have hfin : (Kd.raw 3).R 29 (W1.setCells g ((css.length - (j - i)) * 3) (Builtin.zeroCells (.agg #[.string ByteArray.empty, .string ByteArray.empty, .int .i64 0] : Value).cells (j - i)).toList) base ok (.slice (some ⟨g, 0, none⟩) (css.length - (j - i)) cap) (css.take i ++ css.drop j) := by
    have hle : (css.take i ++ css.drop j).length = css.length - (j - i) := by rw [List.length_append, List.length_take, List.length_drop]; omega
    have hcut := own_cut ho2 (show css.length - (j - i) ≤ css.length by omega)
    rw [hnews, delete_flat_range hlen hi hj _ (by rw [Array.length_toList]; simp [Builtin.zeroCells]; rfl)] at hcut
    exact flat_raw (fun k hk => h0 k (by simpa [Value.ownBlock] using hk)) (by rw [hle]; exact hcut) (fun c hc => hcs c ((List.mem_append.1 hc).elim List.mem_of_mem_take List.mem_of_mem_drop))
  have hgr : w.grownBy (W1.setCells g ((css.length - (j - i)) * 3) (Builtin.zeroCells (.agg #[.string ByteArray.empty, .string ByteArray.empty, .int .i64 0] : Value).cells (j - i)).toList) (some g) := (grown_of_below (below_drew (Below.refl _ _)) _).trans (hg1.trans hg2)
  have e1 : i + (css.length - j) = css.length - (j - i) := by omega
  have hcl2 : ∀ ty, (Builtin.clear_ #[52] ty #[.slice (some ⟨g, (i + (css.length - j)) * 3, none⟩) (css.length - (i + (css.length - j))) (cap - (i + (css.length - j)))]).run Tryz.prog W1 = .ok (.tuple #[]) (W1.setCells g ((css.length - (j - i)) * 3) (Builtin.zeroCells (.agg #[.string ByteArray.empty, .string ByteArray.empty, .int .i64 0] : Value).cells (j - i)).toList) := fun ty => by
    rw [e1, show css.length - (css.length - (j - i)) = j - i by omega]
    exact hcl ty
  have hm1 : i + (css.length - j) ≤ css.length := by omega
  have hm2 : i + (css.length - j) ≤ cap := by omega
  have hm3 : ((i + (css.length - j) : Nat) : Int) ≤ (css.length : Int) := by omega
  have hm4 : ¬ cap = i + (css.length - j) := by omega
  have E1 := Lib.hid e1
  generalize hWE : W1.setCells g ((css.length - (j - i)) * 3) (Builtin.zeroCells (.agg #[.string ByteArray.empty, .string ByteArray.empty, .int .i64 0] : Value).cells (j - i)).toList = WE at hcl2 hfin hgr
  have HFIN := Aside0.mk hfin
  have HGR := Aside0.mk hgr
  have hW : Hid (W1 = w.drew.setCells g (0 + i * 3) news) := hW1
  have hij : ((i : Int) == (j : Int)) = false := by simp; omega
  have hij2 : (i : Int) ≤ (j : Int) := by omega
  have hij3 : i ≤ j := by omega
  have hb1 : (j : Int) ≤ (css.length : Int) := by omega
  have hb0 : 0 ≤ (j : Int) := by omega
  have hic : i ≤ cap := by omega
  have hjc : j ≤ cap := by omega
  have hsub : css.length - j + i = css.length - (j - i) := by omega
  clear e1 hcl hWE hZ hW1 hW1' hcell hfz hsome hnews hnl hone hod hfl hmul ho1 hg1 hlay hlast ho2 hg2 hfin hgr hr0 ho hcs hlen h0
  go_enter Tryz.func77, Tryz.ntmps77
  go_wp2_with fail
  go_region_law (refine step_append_room rfl (.tmp 22) (.tmp 25) 52 rfl 29 i0 3 Tryz.underlying52 hi0 hz1 g 0 i cap (by simp [Act.eval, Act.put]) A (css.length - j) (cap - j) news (by simp [Act.eval, Act.put, hA]) s1.out hsrc.out s2.out (by omega) s3.out ?_; rw [← hW.out])
  go_wp2
  go_ret
  exact ⟨by rw [← E1.out]; rfl, HFIN.out, HGR.out⟩
end Go.Proofs.YtehlmkgldcfciaaGreat.Files
/- The file store: Erase. -/
set_option linter.unusedVariables false
set_option linter.unusedSimpArgs false
namespace Go.Proofs.YtehlmkgldcfciaaGreat.Files
open Go.Proofs.YtehlmkgldcfciaaGreat.Common Go.Maps Go.ChangeMaps Go.WideMaps Go.Proofs.YtehlmkgldcfciaaGreat.F
open Go.RowKit Go.Proofs.YtehlmkgldcfciaaGreatW.PrintWords Go.Proofs.YtehlmkgldcfciaaGreatW.PrintLast Go.Proofs.YtehlmkgldcfciaaGreatW.PrintMore
def Era.T8 : Bool × List (List Nat × List Nat) := (true, [([], []), ([], []), ([1], [1]), ([2], [2]), ([3], [3]), ([], []), ([], []), ([6], [6]), ([7], [7]), ([8], [8]), ([], []), ([9, 10], [9, 10]), ([4, 5, 11, 11], [4, 5, 11]), ([0, 0, 1, 2, 3, 4, 5, 6, 7, 8, 9, 10, 11, 12], [0]), ([13, 0, 1, 2, 3, 4, 5, 6, 7, 8, 9, 10, 11, 12], [13]), ([14, 12, 12, 0, 1, 2, 3, 4, 5, 6, 7, 8, 9, 10, 11, 12], [12, 14])])
def Era.B8 : List Nat := [0, 0, 2, 6, 14, 0, 0, 64, 192, 448, 0, 1984, 4094, 8191, 16383, 32767]
theorem Era.tab8 : rtab .any (opsOf Tryz.f36 8) = Era.T8 := by kernel_rfl
theorem Era.bits8 : waitsOk Era.T8.2 Era.B8 = true := by kernel_rfl
theorem Del_units (g cap i j : Nat) (ok : Nat → Prop) (l : List S29) (w : World) (hR : Kd.R k29 29 w 0 ok (.slice (some ⟨g, 0, none⟩) l.length cap) l) (hi : i < j) (hj : j ≤ l.length) :
    Calls Tryz.prog 77 #[.slice (some ⟨g, 0, none⟩) l.length cap, .int .i64 (i : Int), .int .i64 (j : Int)] w fun e w' => e = .returned (.slice (some ⟨g, 0, none⟩) (l.length - (j - i)) cap) ∧
      Kd.R k29 29 w' 0 (fun k => k = g) (.slice (some ⟨g, 0, none⟩) (l.length - (j - i)) cap) (l.take i ++ l.drop j) ∧ w.grownBy w' (some g) := by
  refine (Delete_range g l.length cap i j 0 ok (l.map uCells) w (raw_of_units hR) hi hj).mono ?_
  rintro e w' ⟨rfl, h1, h2⟩
  refine ⟨rfl, R_only (ok := ok) (units_of_raw ?_), h2⟩
  have hcat : (l.map uCells).take i ++ (l.map uCells).drop j = (l.take i ++ l.drop j).map uCells := by simp [List.map_take, List.map_drop]
  rw [← hcat]
  exact h1
def AF.erased (f : AF) (u : ByteArray) (i : Nat) : AF := { f with F := f.F.noted u, units := if i = 0 then [z29] else f.units.take i ++ f.units.drop (endOf f.units i) }
set_option maxRecDepth 100000 in
set_option maxHeartbeats 2000000 in
theorem Erase_root (sp : Value) (u n : ByteArray) (fb rc ub : Nat) (f : AF) (A : Option Addr) (uv : Value) (DU : DataW Unit) (ok : Nat → Prop) (W : World) (HU : UnitOk W sp u n 0 16 fb 0) (P : FileParts W ok fb f A rc uv ub DU) :
    Calls Tryz.prog 36 #[sp, .string u, .string n, .int .i64 0] W (UnitsEnd W ok fb rc ub (f.erased u 0) A DU) := by
  have CU := Aside0.mk (HU W (Below.refl _ _))
  obtain ⟨Av, cv, rfl⟩ := Kd.R_slice P.units
  have HP := Aside0.mk P
  clear HU P
  go_enter Tryz.func36, Tryz.ntmps36
  go_wp2_with fail
  refine CU.out.mono ?_
  rintro e w2 ⟨rfl, hb2⟩
  have P2 := HP.out.below hb2
  have hb3 : Below W.heap.size W (w2.alloc (.cells #[.string ⟨#[]⟩, .string ⟨#[]⟩, .int .i64 0] 29)) := hb2.alloc hb2.size _
  have c8 : (w2.alloc (.cells #[.string ⟨#[]⟩, .string ⟨#[]⟩, .int .i64 0] 29)).cell? ⟨fb, 8, none⟩ = some (.slice Av f.units.length cv) := Lib.cell?_alloc_some _ ((blk_cell P2.F 8).trans rfl)
  have f8 : (w2.alloc (.cells #[.string ⟨#[]⟩, .string ⟨#[]⟩, .int .i64 0] 29)).frozen? ⟨fb, 8, none⟩ = false := blk_frozen (P2.below ((Below.refl _ _).alloc (Nat.le_refl _) _)).F 8
  have hrow : Kd.R k29 29 (w2.alloc (.cells #[.string ⟨#[]⟩, .string ⟨#[]⟩, .int .i64 0] 29)) 0 (fun k => W.heap.size ≤ k) (.slice (some ⟨w2.heap.size, 0, none⟩) 1 1) [z29] := by
    refine R_of_uRow' ⟨rfl, .inr ⟨w2.heap.size, 1, #[.string ⟨#[]⟩, .string ⟨#[]⟩, .int .i64 0], rfl, Nat.zero_le _, heap_alloc_new w2 _, Nat.le_refl _, by decide, rfl, rfl⟩⟩ (fun k hk => by
      have : w2.heap.size = k := by simpa [Value.ownBlock] using hk
      have := hb2.size
      omega)
  have PN := HP.out.newUnits ((Chg.of_below hb3 (fun _ => False)).mono (fun _ h => h.elim)) hrow (fun k hk => .inr hk)
  have CG := Aside0.mk (changed_c fb ub f.F _ _ u _ PN.1.F)
  have HPN := Aside0.mk PN
  clear PN P2 hb2 hb3 hrow HP
  go_wp2_with first | (go_at_call 73; refine CG.out.mono ?_; rintro e w14 ⟨rfl, rfl⟩)
  go_ret
  have h14 := HPN.out.1.noted u
  exact ⟨rfl, _, h14.1, HPN.out.2.trans h14.2 (fun k hk => hk)⟩
set_option maxRecDepth 100000 in
set_option maxHeartbeats 2000000 in
theorem Erase_ok (sp : Value) (u n : ByteArray) (i fb rc ub : Nat) (f : AF) (A : Option Addr) (uv : Value) (DU : DataW Unit) (ok : Nat → Prop) (W : World) (HU : UnitOk W sp u n (i : Int) 16 fb 0) (P : FileParts W ok fb f A rc uv ub DU)
    (h0 : 0 < i) (hi : i < f.units.length) (hl : f.units.length ≤ 1000) :
    Calls Tryz.prog 36 #[sp, .string u, .string n, .int .i64 (i : Int)] W (UnitsEnd W ok fb rc ub (f.erased u i) A DU) := by
  have CU := Aside0.mk (HU W (Below.refl _ _))
  have HPW := Aside0.mk P
  have hi0 : ((i : Int) == 0) = false := by simp; omega
  have hi00 : ¬ (i = 0) := by omega
  have HE := Aside0.mk (show f.erased u i = { f with F := f.F.noted u, units := f.units.take i ++ f.units.drop (endOf f.units i) } by unfold AF.erased; rw [if_neg hi00])
  clear HU P
  go_enter Tryz.func36, Tryz.ntmps36
  go_wp2_with fail
  refine CU.out.mono ?_
  rintro e w2 ⟨rfl, hb2⟩
  have HB2 := Aside0.mk hb2
  obtain ⟨g, cu, huv, hlc, hcm⟩ := units_slice (HPW.out.below hb2).units (by omega)
  subst huv
  clear hb2
  have hz8 : w2.cell? ⟨fb, 8, none⟩ = some (.slice (some ⟨g, 0, none⟩) f.units.length cu) := (blk_cell (HPW.out.below HB2.out).F 8).trans rfl
  obtain ⟨he1, he2⟩ := endOf_le hi
  replace he1 : i < endOf f.units i := he1
  go_wp2_with fail
  refine start_ (n := 16) (S := fun w' => w'.cell? ⟨fb, 8, none⟩ = some (.slice (some ⟨g, 0, none⟩) f.units.length cu)) (ds := [12, 15]) #[false, false, false, false, false, false, false, false, false, false, false, false, false, false, false, false] (by kernel_rfl) rfl rfl (hz8) (fun hHeld => ?_)
  refine with_tabW Era.tab8 Era.bits8 (fun HT_ HW_ => ?_)
  have HWD := Aside0.mk (show Below W.heap.size W w2.drew from HB2.out.drew)
  generalize w2.drew = wd at HWD hHeld ⊢
  refine pure_ (i := 0) (N := some 34) (v := ?_) (a' := ?_) #[true, false, false, false, false, false, false, false, false, false, false, false, false, false, false, false] rfl rfl (any_of HT_.out (by kernel_rfl)) (fun _ _ _ h => h) (Or.inl ⟨by rfl, ?_⟩) ?_ ?_
  rotate_left
  · intro w'
    go_simp
    with_reducible rfl
  rotate_left
  · simp only [Act.put, List.setIfInBounds_toArray, List.set_cons_zero, List.set_cons_succ, i64_w, i32_w]
    rfl
  refine pure_ (i := 1) (N := some 35) (v := ?_) (a' := ?_) #[true, true, false, false, false, false, false, false, false, false, false, false, false, false, false, false] rfl rfl (any_of HT_.out (by kernel_rfl)) (fun _ _ _ h => h) (Or.inl ⟨by rfl, ?_⟩) ?_ ?_
  rotate_left
  · intro w'
    go_simp
    with_reducible rfl
  rotate_left
  · simp only [Act.put, List.setIfInBounds_toArray, List.set_cons_zero, List.set_cons_succ, i64_w, i32_w]
    rfl
  refine pure_ (i := 2) (N := some 36) (v := ?_) (a' := ?_) #[true, true, true, false, false, false, false, false, false, false, false, false, false, false, false, false] rfl rfl (any_of HT_.out (by kernel_rfl)) (fun _ _ _ h => h) (Or.inl ⟨by rfl, ?_⟩) ?_ ?_
  rotate_left
  · intro w'
    go_simp
    with_reducible rfl
  rotate_left
  · simp only [Act.put, List.setIfInBounds_toArray, List.set_cons_zero, List.set_cons_succ, i64_w, i32_w]
    rfl
  refine pure_ (i := 3) (N := some 37) (v := ?_) (a' := ?_) #[true, true, true, true, false, false, false, false, false, false, false, false, false, false, false, false] rfl rfl (any_of HT_.out (by kernel_rfl)) (fun _ _ _ h => h) (Or.inl ⟨by rfl, ?_⟩) ?_ ?_
  rotate_left
  · intro w'
    go_simp
    with_reducible rfl
  rotate_left
  · simp only [Act.put, List.setIfInBounds_toArray, List.set_cons_zero, List.set_cons_succ, i64_w, i32_w]
    rfl
  refine pure_ (i := 5) (N := some 39) (v := ?_) (a' := ?_) #[true, true, true, true, false, true, false, false, false, false, false, false, false, false, false, false] rfl rfl (any_of HT_.out (by kernel_rfl)) (fun _ _ _ h => h) (Or.inl ⟨by rfl, ?_⟩) ?_ ?_
  rotate_left
  · intro w'
    go_simp
    with_reducible rfl
  rotate_left
  · simp only [Act.put, List.setIfInBounds_toArray, List.set_cons_zero, List.set_cons_succ, i64_w, i32_w]
    rfl
  refine pure_ (i := 6) (N := some 40) (v := ?_) (a' := ?_) #[true, true, true, true, false, true, true, false, false, false, false, false, false, false, false, false] rfl rfl (any_of HT_.out (by kernel_rfl)) (fun _ _ _ h => h) (Or.inl ⟨by rfl, ?_⟩) ?_ ?_
  rotate_left
  · intro w'
    go_simp
    with_reducible rfl
  rotate_left
  · simp only [Act.put, List.setIfInBounds_toArray, List.set_cons_zero, List.set_cons_succ, i64_w, i32_w]
    rfl
  refine pure_ (i := 7) (N := some 41) (v := ?_) (a' := ?_) #[true, true, true, true, false, true, true, true, false, false, false, false, false, false, false, false] rfl rfl (any_of HT_.out (by kernel_rfl)) (fun _ _ _ h => h) (Or.inl ⟨by rfl, ?_⟩) ?_ ?_
  rotate_left
  · intro w'
    go_simp
    with_reducible rfl
  rotate_left
  · simp only [Act.put, List.setIfInBounds_toArray, List.set_cons_zero, List.set_cons_succ, i64_w, i32_w]
    rfl
  refine pure_ (i := 8) (N := some 42) (v := ?_) (a' := ?_) #[true, true, true, true, false, true, true, true, true, false, false, false, false, false, false, false] rfl rfl (any_of HT_.out (by kernel_rfl)) (fun _ _ _ h => h) (Or.inl ⟨by rfl, ?_⟩) ?_ ?_
  rotate_left
  · intro w'
    go_simp
    with_reducible rfl
  rotate_left
  · simp only [Act.put, List.setIfInBounds_toArray, List.set_cons_zero, List.set_cons_succ, i64_w, i32_w]
    rfl
  refine pure_ (i := 10) (N := some 44) (v := ?_) (a' := ?_) #[true, true, true, true, false, true, true, true, true, false, true, false, false, false, false, false] rfl rfl (any_of HT_.out (by kernel_rfl)) (fun _ _ _ h => h) (Or.inl ⟨by rfl, ?_⟩) ?_ ?_
  rotate_left
  · intro w'
    go_simp
    with_reducible rfl
  rotate_left
  · simp only [Act.put, List.setIfInBounds_toArray, List.set_cons_zero, List.set_cons_succ, i64_w, i32_w]
    rfl
  refine take_ (i := 4) (N := some 38) (v := ?_) (a' := ?_) #[true, true, true, true, true, true, true, true, true, false, true, false, false, false, false, false] rfl rfl (take_ofW HT_.out HW_.out (by kernel_rfl)) (fun _ _ _ h => h) (Or.inl ⟨by rfl, ?_⟩) hHeld ?_ ?_
  rotate_left
  · intro w' s0
    go_simp
    with_reducible rfl
  rotate_left
  · simp only [Act.put, List.setIfInBounds_toArray, List.set_cons_zero, List.set_cons_succ, i64_w, i32_w]
    rfl
  refine take_ (i := 9) (N := some 43) (v := ?_) (a' := ?_) #[true, true, true, true, true, true, true, true, true, true, true, false, false, false, false, false] rfl rfl (take_ofW HT_.out HW_.out (by kernel_rfl)) (fun _ _ _ h => h) (Or.inl ⟨by rfl, ?_⟩) hHeld ?_ ?_
  rotate_left
  · intro w' s0
    go_simp
    with_reducible rfl
  rotate_left
  · simp only [Act.put, List.setIfInBounds_toArray, List.set_cons_zero, List.set_cons_succ, i64_w, i32_w]
    rfl
  refine one_ (i := 11) (N := some 45) #[true, true, true, true, true, true, true, true, true, true, true, true, false, false, false, false] rfl rfl (one_of HT_.out (by kernel_rfl)) (by decide) (fun K hK => ?_)
  refine goes_ Tryz.func70 (by kernel_rfl) rfl #[.slice (some ⟨g, 0, none⟩) f.units.length cu, .int .i64 (i : Int)] (by rfl) rfl rfl (by (try simp only [List.map_toArray, List.map_cons, List.map_nil]); first | done | rfl | (simp only []; rfl)) ?_
  with_reducible refine (beyond_c (some ⟨g, 0, none⟩) cu i f.units _ (Kd.R_reads' (HPW.out.below HWD.out).units).2.2 hlc hi).mono ?_
  rintro e w10 ⟨rfl, hd10⟩
  have HB10 := Aside0.mk hd10.below
  have HB12 := Aside0.mk (HWD.out.trans (HB10.out.mono HWD.out.size))
  clear hd10
  refine ⟨_, rfl, ?_⟩
  refine hK.out _ _ (pw_cell_below HB10.out hHeld) (fun hHeld => ?_)
  clear hK K
  refine norm_ (a' := ?_) ?_ ?_
  rotate_left
  · show Act.put _ (some 45) _ = _
    simp only [Act.put, List.setIfInBounds_toArray, List.set_cons_zero, List.set_cons_succ, i64_w, i32_w]
    rfl
  refine last_ (i := 12) (N := some 46) #[true, true, true, true, true, true, true, true, true, true, true, true, true, false, false, false] rfl rfl (one_of HT_.out (by kernel_rfl)) (by decide) (fun K hK => ?_)
  refine goes_ Tryz.func77 (by kernel_rfl) rfl #[.slice (some ⟨g, 0, none⟩) f.units.length cu, .int .i64 (i : Int), .int .i64 (endOf f.units i : Int)] (by rfl) rfl rfl (by (try simp only [List.map_toArray, List.map_cons, List.map_nil]); first | done | rfl | (simp only []; rfl)) ?_
  with_reducible refine (Del_units g cu i (endOf f.units i) ok f.units _ (HPW.out.below HB12.out).units he1 he2).mono ?_
  rintro e w13 ⟨rfl, hr13, hg13⟩
  have P12 := HPW.out.below HB12.out
  have hfg : some fb ≠ some g := fun e_ => by injection e_ with e_; subst e_; obtain ⟨cells_, hcc_⟩ := own_typed (uRow_of_R P12.units) fb rfl; rw [P12.F] at hcc_; cases hcc_
  have F13 : FileAt w13 fb f.F (.slice A f.rules.length rc) (.slice (some ⟨g, 0, none⟩) f.units.length cu) ub := (hg13.block fb (blk_lt P12.F) hfg).trans P12.F
  have d8 : w13.cell? ⟨fb, 8, none⟩ = some (.slice (some ⟨g, 0, none⟩) f.units.length cu) := (blk_cell F13 8).trans rfl
  have f8 := blk_frozen F13 8
  have HR13 := Aside0.mk hr13
  have HG13 := Aside0.mk hg13
  have HF13 := Aside0.mk F13
  clear hr13 hg13 F13 P12 hfg
  refine ⟨_, rfl, ?_⟩
  refine hK.out _ _ ?_
  clear hK K
  refine norm_ (a' := ?_) ?_ ?_
  rotate_left
  · show Act.put _ (some 46) _ = _
    simp only [Act.put, List.setIfInBounds_toArray, List.set_cons_zero, List.set_cons_succ, i64_w, i32_w]
    rfl
  refine pure_ (i := 13) (N := some 47) (v := ?_) (a' := ?_) #[true, true, true, true, true, true, true, true, true, true, true, true, true, true, false, false] rfl rfl (any_of HT_.out (by kernel_rfl)) (fun _ _ _ h => h) (Or.inl ⟨by rfl, ?_⟩) ?_ ?_
  rotate_left
  · intro w'
    go_simp
    with_reducible rfl
  rotate_left
  · simp only [Act.put, List.setIfInBounds_toArray, List.set_cons_zero, List.set_cons_succ, i64_w, i32_w]
    rfl
  refine pure_ (i := 14) (N := some 48) (v := ?_) (a' := ?_) #[true, true, true, true, true, true, true, true, true, true, true, true, true, true, true, false] rfl rfl (any_of HT_.out (by kernel_rfl)) (fun _ _ _ h => h) (Or.inl ⟨by rfl, ?_⟩) ?_ ?_
  rotate_left
  · intro w'
    go_simp
    with_reducible rfl
  rotate_left
  · simp only [Act.put, List.setIfInBounds_toArray, List.set_cons_zero, List.set_cons_succ, i64_w, i32_w]
    rfl
  refine last_ (i := 15) (N := none) #[true, true, true, true, true, true, true, true, true, true, true, true, true, true, true, true] rfl rfl (one_of HT_.out (by kernel_rfl)) (by decide) (fun K hK => ?_)
  refine skip_ (w1 := ?_) (by rfl) rfl ?_ ?_
  rotate_left
  · go_simp
    rfl
  refine hK.out _ _ ?_
  clear hK K
  refine done_ (done_of HT_.out (by kernel_rfl)) ?_
  go_wp2_with fail
  have PN := HPW.out.newUnits (((Chg.of_below HB12.out (fun _ => False)).mono (fun _ h => h.elim)).trans (Chg.of_grown HG13.out (fun k e => e)) (fun k e => .inl e)) HR13.out (fun k hk => by
    subst hk
    exact .inl (HPW.out.units.1 k rfl))
  have CG := Aside0.mk (changed_c fb ub f.F _ _ u _ PN.1.F)
  have HPN := Aside0.mk PN
  clear PN
  refine CG.out.mono ?_
  rintro e w14 ⟨rfl, rfl⟩
  go_wp2
  go_ret
  have h14 := HPN.out.1.noted u
  refine ⟨rfl, .slice (some ⟨g, 0, none⟩) (f.units.length - (endOf f.units i - i)) cu, ?_, HPN.out.2.trans h14.2 (fun k hk => hk)⟩
  rw [HE.out]
  exact h14.1
end Go.Proofs.YtehlmkgldcfciaaGreat.Files
/- The file store: what Create refuses; Delete as a step of the store. -/
set_option linter.unusedVariables false
set_option linter.unusedSimpArgs false
namespace Go.Proofs.YtehlmkgldcfciaaGreat.Files
open Go.Proofs.YtehlmkgldcfciaaGreat.Common Go.Maps Go.ChangeMaps Go.WideMaps Go.Proofs.YtehlmkgldcfciaaGreat.F
open Go.RowKit Go.Proofs.YtehlmkgldcfciaaGreatW.PrintWords Go.Proofs.YtehlmkgldcfciaaGreatW.PrintLast Go.Proofs.YtehlmkgldcfciaaGreatW.PrintMore
def createB (u n : ByteArray) (kind perm : Int) : Bool := userB u && nameB n && decide (0 ≤ kind) && decide (kind ≤ 2) && setB perm
theorem createB_parts {u n : ByteArray} {kind perm : Int} (h : createB u n kind perm = true) : userB u = true ∧ nameB n = true ∧ (0 ≤ kind ∧ kind ≤ 2) ∧ setB perm = true := by
  unfold createB at h
  simp only [Bool.and_eq_true, decide_eq_true_eq] at h
  exact ⟨h.1.1.1.1, h.1.1.1.2, ⟨h.1.1.2, h.1.2⟩, h.2⟩
set_option maxHeartbeats 2000000 in
theorem Create_arg (sb mb : Nat) (u n : ByteArray) (kind perm : Int) (W : World) (c0 : W.cell? ⟨sb, 0, none⟩ = some (.map (some mb))) (h : createB u n kind perm = false) :
    Calls Tryz.prog 16 #[.pointer (some ⟨sb, 0, none⟩), .string u, .string n, .int .i64 kind, .int .i64 perm] W fun e w' => e = .returned (.int .i64 1) ∧ Below W.heap.size W w' := by
  have CU := Aside0.mk (user_c u W)
  have CN := Aside0.mk (name_c n W)
  have CP := Aside0.mk (set_c perm W)
  have CL := Aside0.mk (no_live sb mb W c0)
  rw [show (decide (1 ≤ u.size) && decide (u.size ≤ 20)) = userB u from rfl] at CU
  rw [show (decide (1 ≤ n.size) && decide (n.size ≤ 30)) = nameB n from rfl] at CN
  rw [show (decide (0 ≤ perm) && decide (perm ≤ 255)) = setB perm from rfl] at CP
  unfold createB at h
  clear c0
  cases h1 : userB u with
  | false =>
    rw [h1] at CU
    clear h h1
    go_enter Tryz.func16, Tryz.ntmps16
    go_wp2_with first | (go_at_call 44; refine CL.out.mono ?_; rintro e w' ⟨rfl, rfl⟩) | (go_at_call 53; refine CU.out.mono ?_; rintro e w' ⟨rfl, rfl⟩)
    go_ret
    exact ⟨rfl, Below.refl _ _⟩
  | true =>
    rw [h1] at CU h
    clear h1
    cases h2 : nameB n with
    | false =>
      rw [h2] at CN
      clear h h2
      go_enter Tryz.func16, Tryz.ntmps16
      go_wp2_with first | (go_at_call 44; refine CL.out.mono ?_; rintro e w' ⟨rfl, rfl⟩) | (go_at_call 53; refine CU.out.mono ?_; rintro e w' ⟨rfl, rfl⟩) | (go_at_call 54; refine CN.out.mono ?_; rintro e w' ⟨rfl, rfl⟩)
      go_ret
      exact ⟨rfl, Below.refl _ _⟩
    | true =>
      rw [h2] at CN h
      clear h2
      by_cases h3 : kind < 0
      · have g3 : decide (kind < 0) = true := decide_eq_true h3
        clear h h3
        go_enter Tryz.func16, Tryz.ntmps16
        go_wp2_with first | (go_at_call 44; refine CL.out.mono ?_; rintro e w' ⟨rfl, rfl⟩) | (go_at_call 53; refine CU.out.mono ?_; rintro e w' ⟨rfl, rfl⟩) | (go_at_call 54; refine CN.out.mono ?_; rintro e w' ⟨rfl, rfl⟩)
        go_ret
        exact ⟨rfl, Below.refl _ _⟩
      · have g3 : decide (kind < 0) = false := decide_eq_false h3
        by_cases h4 : 2 < kind
        · have g4 : decide (2 < kind) = true := decide_eq_true h4
          clear h h3 h4
          go_enter Tryz.func16, Tryz.ntmps16
          go_wp2_with first | (go_at_call 44; refine CL.out.mono ?_; rintro e w' ⟨rfl, rfl⟩) | (go_at_call 53; refine CU.out.mono ?_; rintro e w' ⟨rfl, rfl⟩) | (go_at_call 54; refine CN.out.mono ?_; rintro e w' ⟨rfl, rfl⟩)
          go_ret
          exact ⟨rfl, Below.refl _ _⟩
        · have g4 : decide (2 < kind) = false := decide_eq_false h4
          have h5 : setB perm = false := by
            rw [decide_eq_true (show 0 ≤ kind by omega), decide_eq_true (show kind ≤ 2 by omega)] at h
            simpa using h
          rw [h5] at CP
          clear h h3 h4 h5
          go_enter Tryz.func16, Tryz.ntmps16
          go_wp2_with first | (go_at_call 44; refine CL.out.mono ?_; rintro e w' ⟨rfl, rfl⟩) | (go_at_call 53; refine CU.out.mono ?_; rintro e w' ⟨rfl, rfl⟩) | (go_at_call 54; refine CN.out.mono ?_; rintro e w' ⟨rfl, rfl⟩) | (go_at_call 55; refine CP.out.mono ?_; rintro e w' ⟨rfl, rfl⟩)
          go_ret
          exact ⟨rfl, Below.refl _ _⟩
set_option maxHeartbeats 2000000 in
theorem Create_dup (sb mb k fb : Nat) (D : DataW Unit) (u n : ByteArray) (kind perm : Int) (W : World) (c0 : W.cell? ⟨sb, 0, none⟩ = some (.map (some mb))) (hown : W.ownsMap Tryz.prog 9 Rp mb k D) (h : createB u n kind perm = true) (hD : D.atKey (.string n.data.toList) .nil = .lit (.int .i64 (fb : Nat))) :
    Calls Tryz.prog 16 #[.pointer (some ⟨sb, 0, none⟩), .string u, .string n, .int .i64 kind, .int .i64 perm] W fun e w' => e = .returned (.int .i64 7) ∧ Below W.heap.size W w' := by
  obtain ⟨h1, h2, h3, h5⟩ := createB_parts h
  have hns : n.size ≤ 30 := by unfold nameB at h2; simp only [Bool.and_eq_true, decide_eq_true_eq] at h2; exact h2.2
  have hkey := key_of hns
  obtain ⟨v, ps, hrun, hv⟩ := hown.lookup law9 Tryz.underlying41 (zeroP _) (zd := .nil) (zp := []) rfl hkey
  rw [hD] at hv
  obtain rfl := Rp_at hv
  have CU := Aside0.mk (user_c u W)
  have CN := Aside0.mk (name_c n W)
  have CP := Aside0.mk (set_c perm W)
  have CL := Aside0.mk (no_live sb mb W c0)
  rw [show (decide (1 ≤ u.size) && decide (u.size ≤ 20)) = true from h1] at CU
  rw [show (decide (1 ≤ n.size) && decide (n.size ≤ 30)) = true from h2] at CN
  rw [show (decide (0 ≤ perm) && decide (perm ≤ 255)) = true from h5] at CP
  have g3 : decide (kind < 0) = false := decide_eq_false (by omega)
  have g4 : decide (2 < kind) = false := decide_eq_false (by omega)
  clear h h1 h2 h3 h5 hown hD hv hns
  go_enter Tryz.func16, Tryz.ntmps16
  go_wp2_with first | (go_at_call 44; refine CL.out.mono ?_; rintro e w' ⟨rfl, rfl⟩) | (go_at_call 53; refine CU.out.mono ?_; rintro e w' ⟨rfl, rfl⟩) | (go_at_call 54; refine CN.out.mono ?_; rintro e w' ⟨rfl, rfl⟩) | (go_at_call 55; refine CP.out.mono ?_; rintro e w' ⟨rfl, rfl⟩)
  go_ret
  exact ⟨rfl, Below.refl _ _⟩
set_option maxHeartbeats 2000000 in
theorem Create_full (sb mb : Nat) (D : DataW Unit) (u n : ByteArray) (kind perm : Int) (W : World) (c0 : W.cell? ⟨sb, 0, none⟩ = some (.map (some mb))) (hown : W.ownsMap Tryz.prog 9 Rp mb (Maps.size D) D) (h : createB u n kind perm = true) (hD : D.atKey (.string n.data.toList) .nil = .nil) (hs : 30 ≤ Maps.size D) :
    Calls Tryz.prog 16 #[.pointer (some ⟨sb, 0, none⟩), .string u, .string n, .int .i64 kind, .int .i64 perm] W fun e w' => e = .returned (.int .i64 9) ∧ Below W.heap.size W w' := by
  obtain ⟨h1, h2, h3, h5⟩ := createB_parts h
  have hns : n.size ≤ 30 := by unfold nameB at h2; simp only [Bool.and_eq_true, decide_eq_true_eq] at h2; exact h2.2
  have hkey := key_of hns
  obtain ⟨v, ps, hrun, hv⟩ := hown.lookup law9 Tryz.underlying41 (zeroP _) (zd := .nil) (zp := []) rfl hkey
  rw [hD] at hv
  obtain rfl := Rp_nil hv
  have hlen := fun ty => hown.len Tryz.underlying41 ty
  have hs1 : decide (30 ≤ Maps.size D) = true := decide_eq_true (by omega)
  have hs2 : decide ((30 : Int) ≤ (Maps.size D : Int)) = true := decide_eq_true (by omega)
  have hs3 : (30 : Int) ≤ (Maps.size D : Int) := by omega
  have CU := Aside0.mk (user_c u W)
  have CN := Aside0.mk (name_c n W)
  have CP := Aside0.mk (set_c perm W)
  have CL := Aside0.mk (no_live sb mb W c0)
  rw [show (decide (1 ≤ u.size) && decide (u.size ≤ 20)) = true from h1] at CU
  rw [show (decide (1 ≤ n.size) && decide (n.size ≤ 30)) = true from h2] at CN
  rw [show (decide (0 ≤ perm) && decide (perm ≤ 255)) = true from h5] at CP
  have g3 : decide (kind < 0) = false := decide_eq_false (by omega)
  have g4 : decide (2 < kind) = false := decide_eq_false (by omega)
  clear h h1 h2 h3 h5 hown hD hv hns
  go_enter Tryz.func16, Tryz.ntmps16
  go_wp2_with first | (go_at_call 44; refine CL.out.mono ?_; rintro e w' ⟨rfl, rfl⟩) | (go_at_call 53; refine CU.out.mono ?_; rintro e w' ⟨rfl, rfl⟩) | (go_at_call 54; refine CN.out.mono ?_; rintro e w' ⟨rfl, rfl⟩) | (go_at_call 55; refine CP.out.mono ?_; rintro e w' ⟨rfl, rfl⟩)
  go_ret
  exact ⟨rfl, Below.refl _ _⟩
theorem filesL_drop (L : List (Nat × AF)) (n : ByteArray) : (L.filter fun p => !decide (p.2.F.name = n)).map (fun p => (p.2.key, (DataW.lit (.int .i64 (p.1 : Int)) : DataW Unit))) = drop_ (L.map fun p => (p.2.key, .lit (.int .i64 p.1))) n.data.toList := by
  induction L with
  | nil => rfl
  | cons p l ih =>
    unfold drop_ at *
    rw [List.filter_cons, List.map_cons, List.filter_cons]
    by_cases h : p.2.F.name = n
    · have h2 : p.2.key = n.data.toList := by rw [← h]; rfl
      rw [if_neg (by simp [h]), if_neg (by simp [h2])]
      exact ih
    · have h2 : ¬ p.2.key = n.data.toList := fun e => h (data_inj e)
      rw [if_pos (by simp [h]), if_pos (by simp [h2]), List.map_cons, ih]
theorem S_Delete_ok (sb fb k : Nat) (ok : Nat → Prop) (L : List (Nat × AF)) (f : AF) (u n : ByteArray) (W : World) (hR : StoreRep W ok sb L) (hk : L[k]? = some (fb, f)) (hnm : f.F.name = n)
    (hu : 1 ≤ u.size ∧ u.size ≤ 20) (hn : 1 ≤ n.size ∧ n.size ≤ 30) (hl : f.users = []) (hmay : mayB f.F f.rules u 128 = true) :
    Calls Tryz.prog 18 #[.pointer (some ⟨sb, 0, none⟩), .string u, .string n] W (SOut W ok sb (.int .i64 0) ((L.map (·.2)).filter fun g => !decide (g.F.name = n))) := by
  obtain ⟨mb, D, own, R⟩ := hR
  obtain ⟨HF, A, rc, uv, ub, DU, P⟩ := R.way hk hnm hu hn
  refine (Delete_c sb mb fb u n W _ rc ub f A uv D DU R.S.cell R.M hn.2 HF P hl hmay).mono ?_
  rintro e w' ⟨rfl, W3, m, hb3, hM', hT⟩
  have hne : sb ≠ mb := fun e => by
    have h1 := R.S
    obtain ⟨es, clock, hb, _⟩ := R.M
    rw [← e] at hb
    exact absurd (h1.symm.trans hb) (by simp)
  have hcT : Chg W3 w' (fun q => q = mb) := Chg.of_turned hT rfl
  have hcW : Chg W w' (fun q => q = mb) := ((Chg.of_below hb3 (fun _ => False)).mono (fun _ h => h.elim)).trans hcT (fun q hq => .inl hq)
  have hkeys : ((L.map fun p => (p.2.key, (DataW.lit (.int .i64 (p.1 : Int)) : DataW Unit))).map (·.1)).Nodup := by rw [List.map_map]; exact R.names
  refine ⟨rfl, okP ok W w', L.filter fun p => !decide (p.2.F.name = n), ⟨mb, D.del (.string n.data.toList), own, ?_⟩, by rw [List.filter_map]; rfl, hcW.mono (fun q hq => by rw [hq]; exact R.okm), fun q hq => hq.1⟩
  have hlt : ∀ q, ok q → q < w'.heap.size := fun q hq => Nat.lt_of_lt_of_le (R.lt q hq) hcW.size
  refine ⟨⟨.inl R.oks, hlt _ R.oks⟩, ⟨.inl R.okm, hlt _ R.okm⟩, (hcW.block sb R.S.lt hne).trans R.S, ownsMap_tight hM', ?_, ?_, ?_, fun q hq => hq.2, ?_, ?_⟩
  · rw [filesL_drop]
    exact R.mM.del hkeys _
  · intro p hp
    have hp' := (List.mem_filter.1 hp).1
    refine ((R.files p hp').step hcW (fun q hq e => (R.ownm p hp').1 (by rw [← e]; exact hq.2))).mono (fun q hq => ⟨⟨.inl hq.1, hlt _ hq.1⟩, hq.2⟩)
  · exact fun p hp => R.ownm p (List.mem_filter.1 hp).1
  · exact R.fbs.sublist (List.Sublist.map _ List.filter_sublist)
  · exact R.names.sublist (List.Sublist.map _ List.filter_sublist)
end Go.Proofs.YtehlmkgldcfciaaGreat.Files
