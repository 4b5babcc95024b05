/- The parts of this proof that lie in one text. -/
import Derived.Test.YtehlmkgldcfciaaGreatGM1
import Derived.Shelf.SlGeneric
import Derived.Shelf.SlIter.Nil
import Derived.Shelf.SortM.Plain
import Derived.Shelf.SortM.SortNone
import Derived.Shelf.SlMaps.Clone
import Derived.Ground.SlmcProg
import Derived.Ground.GgzProg
import Derived.Ground.SlgmProg
import Derived.Test.YtehlmkgldcfciaaGreatProg
/- The file store: how each method fails where there is no store, no file, no opening, no unit; what is refused to who may not. -/
set_option linter.unusedVariables false
set_option linter.unusedSimpArgs false
namespace Go.Proofs.YtehlmkgldcfciaaGreat.Files
open Go.Proofs.YtehlmkgldcfciaaGreat.Common Go.Maps Go.ChangeMaps Go.WideMaps Go.Proofs.YtehlmkgldcfciaaGreat.F
open Go.RowKit Go.Proofs.YtehlmkgldcfciaaGreatW.PrintWords Go.Proofs.YtehlmkgldcfciaaGreatW.PrintLast Go.Proofs.YtehlmkgldcfciaaGreatW.PrintMore
theorem Delete_err (sp : Value) (u n : ByteArray) (E : Int) (W : World) (HF : FoundErr W sp u n E) :
    Calls Tryz.prog 18 #[sp, .string u, .string n] W fun e w' => e = .returned (.int .i64 E) ∧ Below W.heap.size W w' := by
  obtain ⟨hE, hf⟩ := HF
  have CF := Aside0.mk (hf W (Below.refl _ _))
  have hE' : (E == 0) = false := by simpa using hE
  clear hf hE
  go_enter Tryz.func18, Tryz.ntmps18
  go_wp2_with first | (go_at_call 58; refine CF.out.mono ?_; rintro e w' ⟨rfl, rfl⟩)
  go_ret
  exact ⟨rfl, Below.refl _ _⟩
theorem Close_err (sp : Value) (u n : ByteArray) (E : Int) (W : World) (HF : FoundErr W sp u n E) :
    Calls Tryz.prog 22 #[sp, .string u, .string n] W fun e w' => e = .returned (.int .i64 E) ∧ Below W.heap.size W w' := by
  obtain ⟨hE, hf⟩ := HF
  have CF := Aside0.mk (hf W (Below.refl _ _))
  have hE' : (E == 0) = false := by simpa using hE
  clear hf hE
  go_enter Tryz.func22, Tryz.ntmps22
  go_wp2_with first | (go_at_call 58; refine CF.out.mono ?_; rintro e w' ⟨rfl, rfl⟩)
  go_ret
  exact ⟨rfl, Below.refl _ _⟩
theorem Open_err (sp : Value) (u n : ByteArray) (actions exclusive : Int) (E : Int) (W : World) (ha : setB actions = true) (hx : setB exclusive = true) (hs : bits .andNot .i64 exclusive actions = 0) (HF : FoundErr W sp u n E) :
    Calls Tryz.prog 20 #[sp, .string u, .string n, .int .i64 actions, .int .i64 exclusive] W fun e w' => e = .returned (.int .i64 E) ∧ Below W.heap.size W w' := by
  obtain ⟨hE, hf⟩ := HF
  have CF := Aside0.mk (hf W (Below.refl _ _))
  have hE' : (E == 0) = false := by simpa using hE
  have CA := Aside0.mk (set_c actions W)
  have CE := Aside0.mk (set_c exclusive W)
  rw [show (decide (0 ≤ actions) && decide (actions ≤ 255)) = true from ha] at CA
  rw [show (decide (0 ≤ exclusive) && decide (exclusive ≤ 255)) = true from hx] at CE
  have g3 : (bits .andNot .i64 exclusive actions == 0) = true := by simpa using hs
  have g4 : (bits .andNot .i64 exclusive actions != 0) = false := by simpa using hs
  clear ha hx hs
  clear hf hE
  go_enter Tryz.func20, Tryz.ntmps20
  go_wp2_with first | (go_at_call 58; refine CF.out.mono ?_; rintro e w' ⟨rfl, rfl⟩) | (go_at_call 55; first | ((with_reducible refine CA.out.mono ?_); rintro e w' ⟨rfl, rfl⟩) | ((with_reducible refine CE.out.mono ?_); rintro e w' ⟨rfl, rfl⟩))
  go_ret
  exact ⟨rfl, Below.refl _ _⟩
theorem Replace_arg (sp : Value) (u n : ByteArray) (at_ : Int) (data : ByteArray) (W : World) (hd : ¬ data.size ≤ 400) :
    Calls Tryz.prog 32 #[sp, .string u, .string n, .int .i64 at_, .string data] W fun e w' => e = .returned (.int .i64 1) ∧ Below W.heap.size W w' := by
  have g1 : decide ((400 : Int) < (data.size : Int)) = true := decide_eq_true (by omega)
  clear hd
  go_enter Tryz.func32, Tryz.ntmps32
  go_wp2
  go_ret
  exact ⟨rfl, Below.refl _ _⟩
theorem Replace_err (sp : Value) (u n : ByteArray) (at_ E : Int) (data : ByteArray) (W : World) (hd : data.size ≤ 400) (HU : UnitErr W sp u n at_ 4 E) :
    Calls Tryz.prog 32 #[sp, .string u, .string n, .int .i64 at_, .string data] W fun e w' => e = .returned (.int .i64 E) ∧ Below W.heap.size W w' := by
  obtain ⟨hE, hu⟩ := HU
  have hE' : (E == 0) = false := by simpa using hE
  have CU := Aside0.mk (hu W (Below.refl _ _))
  have g1 : decide ((400 : Int) < (data.size : Int)) = false := decide_eq_false (by omega)
  clear hd
  clear hu hE
  go_enter Tryz.func32, Tryz.ntmps32
  go_wp2_with first | (go_at_call 69; refine CU.out.mono ?_; rintro e w2 ⟨dn, rfl, hb2⟩)
  go_ret
  exact ⟨rfl, hb2⟩
theorem Replace_denied (sp : Value) (u n : ByteArray) (at_ : Int) (fb : Nat) (data : ByteArray) (W : World) (hd : data.size ≤ 400) (HU : UnitOk W sp u n at_ 4 fb 12) :
    Calls Tryz.prog 32 #[sp, .string u, .string n, .int .i64 at_, .string data] W fun e w' => e = .returned (.int .i64 12) ∧ Below W.heap.size W w' := by
  have CU := Aside0.mk (HU W (Below.refl _ _))
  have g1 : decide ((400 : Int) < (data.size : Int)) = false := decide_eq_false (by omega)
  clear hd
  clear HU
  go_enter Tryz.func32, Tryz.ntmps32
  go_wp2_with first | (go_at_call 69; refine CU.out.mono ?_; rintro e w2 ⟨rfl, hb2⟩)
  go_ret
  exact ⟨rfl, hb2⟩
theorem Extend_arg (sp : Value) (u n : ByteArray) (at_ : Int) (data : ByteArray) (W : World) (hd : ¬ data.size ≤ 400) :
    Calls Tryz.prog 34 #[sp, .string u, .string n, .int .i64 at_, .string data] W fun e w' => e = .returned (.int .i64 1) ∧ Below W.heap.size W w' := by
  have g1 : decide ((400 : Int) < (data.size : Int)) = true := decide_eq_true (by omega)
  clear hd
  go_enter Tryz.func34, Tryz.ntmps34
  go_wp2
  go_ret
  exact ⟨rfl, Below.refl _ _⟩
theorem Extend_err (sp : Value) (u n : ByteArray) (at_ E : Int) (data : ByteArray) (W : World) (hd : data.size ≤ 400) (HU : UnitErr W sp u n at_ 8 E) :
    Calls Tryz.prog 34 #[sp, .string u, .string n, .int .i64 at_, .string data] W fun e w' => e = .returned (.int .i64 E) ∧ Below W.heap.size W w' := by
  obtain ⟨hE, hu⟩ := HU
  have hE' : (E == 0) = false := by simpa using hE
  have CU := Aside0.mk (hu W (Below.refl _ _))
  have g1 : decide ((400 : Int) < (data.size : Int)) = false := decide_eq_false (by omega)
  clear hd
  clear hu hE
  go_enter Tryz.func34, Tryz.ntmps34
  go_wp2_with first | (go_at_call 69; refine CU.out.mono ?_; rintro e w2 ⟨dn, rfl, hb2⟩)
  go_ret
  exact ⟨rfl, hb2⟩
theorem Extend_denied (sp : Value) (u n : ByteArray) (at_ : Int) (fb : Nat) (data : ByteArray) (W : World) (hd : data.size ≤ 400) (HU : UnitOk W sp u n at_ 8 fb 12) :
    Calls Tryz.prog 34 #[sp, .string u, .string n, .int .i64 at_, .string data] W fun e w' => e = .returned (.int .i64 12) ∧ Below W.heap.size W w' := by
  have CU := Aside0.mk (HU W (Below.refl _ _))
  have g1 : decide ((400 : Int) < (data.size : Int)) = false := decide_eq_false (by omega)
  clear hd
  clear HU
  go_enter Tryz.func34, Tryz.ntmps34
  go_wp2_with first | (go_at_call 69; refine CU.out.mono ?_; rintro e w2 ⟨rfl, hb2⟩)
  go_ret
  exact ⟨rfl, hb2⟩
theorem Erase_err (sp : Value) (u n : ByteArray) (at_ E : Int) (W : World) (HU : UnitErr W sp u n at_ 16 E) :
    Calls Tryz.prog 36 #[sp, .string u, .string n, .int .i64 at_] W fun e w' => e = .returned (.int .i64 E) ∧ Below W.heap.size W w' := by
  obtain ⟨hE, hu⟩ := HU
  have hE' : (E == 0) = false := by simpa using hE
  have CU := Aside0.mk (hu W (Below.refl _ _))
  clear hu hE
  go_enter Tryz.func36, Tryz.ntmps36
  go_wp2_with first | (go_at_call 69; refine CU.out.mono ?_; rintro e w2 ⟨dn, rfl, hb2⟩)
  go_ret
  exact ⟨rfl, hb2⟩
theorem Erase_denied (sp : Value) (u n : ByteArray) (at_ : Int) (fb : Nat) (W : World) (HU : UnitOk W sp u n at_ 16 fb 12) :
    Calls Tryz.prog 36 #[sp, .string u, .string n, .int .i64 at_] W fun e w' => e = .returned (.int .i64 12) ∧ Below W.heap.size W w' := by
  have CU := Aside0.mk (HU W (Below.refl _ _))
  clear HU
  go_enter Tryz.func36, Tryz.ntmps36
  go_wp2_with first | (go_at_call 69; refine CU.out.mono ?_; rintro e w2 ⟨rfl, hb2⟩)
  go_ret
  exact ⟨rfl, hb2⟩
theorem Locate_err (sp : Value) (u n : ByteArray) (pv : Value) (E : Int) (W : World) (HO : OpenedErr W sp u n 1 E) :
    Calls Tryz.prog 24 #[sp, .string u, .string n, pv] W fun e w' => e = .returned (.tuple #[.int .i64 0, .int .i64 E]) ∧ Below W.heap.size W w' := by
  obtain ⟨hE, ho⟩ := HO
  have hE' : (E == 0) = false := by simpa using hE
  have CO := Aside0.mk (ho W (Below.refl _ _))
  clear ho hE
  go_enter Tryz.func24, Tryz.ntmps24
  go_wp2_with first | (go_at_call 63; refine CO.out.mono ?_; rintro e w2 ⟨rfl, hb2⟩)
  go_ret2
  exact ⟨rfl, hb2.trans (((Below.refl _ _).alloc hb2.size _))⟩
theorem setCell_id {w : World} {a : Addr} {v : Value} (h : w.cell? a = some v) : w.setCell a v = w := by
  have : (w.setCell a v).heap = w.heap := by
    unfold World.setCell
    apply Array.ext_getElem?
    intro i
    simp only [Array.getElem?_modify]
    by_cases hi : a.block = i
    · subst hi
      simp only [if_pos]
      unfold World.cell? at h
      cases hb : w.heap[a.block]? with
      | none => rfl
      | some o =>
        cases o with
        | cells c el fr =>
          rw [hb] at h
          simp only at h
          split at h
          · cases h
          · rename_i hs
            have hs' : a.spot.isSome = false := by simpa using hs
            simp only [Option.map_some, hs', Bool.false_eq_true, if_false, Option.some.injEq, Obj.cells.injEq, and_true]
            apply Array.ext_getElem?
            intro j
            rw [Array.getElem?_setIfInBounds]
            by_cases hj : a.off = j
            · subst hj; rw [if_pos rfl, h]; split <;> rename_i hl
              · rfl
              · rw [Array.getElem?_eq_none (by omega)] at h; cases h
            · rw [if_neg hj]
        | _ => rfl
    · rw [if_neg hi]
  have e : w.setCell a v = { w with heap := (w.setCell a v).heap } := rfl
  rw [e, this]
def zeroInfo : Value := .agg #[.string ByteArray.empty, .int .i64 0, .int .i64 0, .string ByteArray.empty, .string ByteArray.empty, .int .i64 0, .int .i64 0, .slice none 0 0]
theorem Info_arg (sp : Value) (u n : ByteArray) (group : Int) (W : World) (h : group < 0 ∨ 2 < group) :
    Calls Tryz.prog 38 #[sp, .string u, .string n, .int .i64 group] W fun e w' => e = .returned (.tuple #[zeroInfo, .int .i64 1]) ∧ Below W.heap.size W w' := by
  unfold zeroInfo
  rcases h with h | h
  · have g1 : decide (group < 0) = true := decide_eq_true h
    clear h
    go_enter Tryz.func38, Tryz.ntmps38
    go_wp2
    refine bodyPost_ret (v := .tuple #[.agg #[.string ByteArray.empty, .int .i64 0, .int .i64 0, .string ByteArray.empty, .string ByteArray.empty, .int .i64 0, .int .i64 0, .slice none 0 0], .int .i64 1]) (by simp [results, Tryz.f38, go_sem]; rfl) rfl ?_
    exact ⟨rfl, (Below.refl _ _).alloc (Nat.le_refl _) _⟩
  · have g1 : decide (group < 0) = false := decide_eq_false (by omega)
    have g2 : decide (2 < group) = true := decide_eq_true h
    clear h
    go_enter Tryz.func38, Tryz.ntmps38
    go_wp2
    refine bodyPost_ret (v := .tuple #[.agg #[.string ByteArray.empty, .int .i64 0, .int .i64 0, .string ByteArray.empty, .string ByteArray.empty, .int .i64 0, .int .i64 0, .slice none 0 0], .int .i64 1]) (by simp [results, Tryz.f38, go_sem]; rfl) rfl ?_
    exact ⟨rfl, (Below.refl _ _).alloc (Nat.le_refl _) _⟩
theorem Info_err (sp : Value) (u n : ByteArray) (group E : Int) (W : World) (h0 : 0 ≤ group) (h2 : group ≤ 2) (HO : OpenedErr W sp u n 32 E) :
    Calls Tryz.prog 38 #[sp, .string u, .string n, .int .i64 group] W fun e w' => e = .returned (.tuple #[zeroInfo, .int .i64 E]) ∧ Below W.heap.size W w' := by
  obtain ⟨hE, ho⟩ := HO
  have hE' : (E == 0) = false := by simpa using hE
  have g1 : decide (group < 0) = false := decide_eq_false (by omega)
  have g2 : decide (2 < group) = false := decide_eq_false (by omega)
  have hb0 : Below W.heap.size W (W.alloc (.cells #[.string ByteArray.empty, .int .i64 0, .int .i64 0, .string ByteArray.empty, .string ByteArray.empty, .int .i64 0, .int .i64 0, .slice none 0 0] 66)) := (Below.refl _ _).alloc (Nat.le_refl _) _
  have HB0 := Aside0.mk hb0
  have HBX := Aside0.mk (heap_alloc_new W (.cells #[.string ByteArray.empty, .int .i64 0, .int .i64 0, .string ByteArray.empty, .string ByteArray.empty, .int .i64 0, .int .i64 0, .slice none 0 0] 66))
  have CO := Aside0.mk (ho _ hb0)
  unfold zeroInfo
  clear ho hE h0 h2 hb0
  go_enter Tryz.func38, Tryz.ntmps38
  go_wp2_with fail
  refine CO.out.mono ?_
  rintro e w2 ⟨rfl, hb2⟩
  have hx := (hb2.block _ (by simp)).trans HBX.out
  have x0 := (blk_cell hx 0).trans (show _ = some (Value.string ByteArray.empty) from rfl)
  have x1 := (blk_cell hx 1).trans (show _ = some (Value.int .i64 0) from rfl)
  have x2 := (blk_cell hx 2).trans (show _ = some (Value.int .i64 0) from rfl)
  have x3 := (blk_cell hx 3).trans (show _ = some (Value.string ByteArray.empty) from rfl)
  have x4 := (blk_cell hx 4).trans (show _ = some (Value.string ByteArray.empty) from rfl)
  have x5 := (blk_cell hx 5).trans (show _ = some (Value.int .i64 0) from rfl)
  have x6 := (blk_cell hx 6).trans (show _ = some (Value.int .i64 0) from rfl)
  have x7 := (blk_cell hx 7).trans (show _ = some (Value.slice none 0 0) from rfl)
  have y0 := blk_frozen hx 0
  have y1 := blk_frozen hx 1
  have y2 := blk_frozen hx 2
  have y3 := blk_frozen hx 3
  have y4 := blk_frozen hx 4
  have y5 := blk_frozen hx 5
  have y6 := blk_frozen hx 6
  have y7 := blk_frozen hx 7
  clear hx
  go_wp2
  have e : (⟨#[]⟩ : ByteArray) = ByteArray.empty := rfl
  rw [e, setCell_id x0, setCell_id x1, setCell_id x2, setCell_id x3, setCell_id x4, setCell_id x5, setCell_id x6, setCell_id x7]
  refine bodyPost_ret (v := .tuple #[.agg #[.string ByteArray.empty, .int .i64 0, .int .i64 0, .string ByteArray.empty, .string ByteArray.empty, .int .i64 0, .int .i64 0, .slice none 0 0], .int .i64 E]) (by simp [results, Tryz.f38, go_sem, x0, x1, x2, x3, x4, x5, x6, x7]) rfl ?_
  exact ⟨rfl, HB0.out.trans (hb2.mono (by simp))⟩
end Go.Proofs.YtehlmkgldcfciaaGreat.Files
/- The file store: the other endings of Create, Delete, Open, Close, Replace, Extend. -/
set_option linter.unusedVariables false
set_option linter.unusedSimpArgs false
namespace Go.Proofs.YtehlmkgldcfciaaGreat.Files
open Go.Proofs.YtehlmkgldcfciaaGreat.Common Go.Maps Go.ChangeMaps Go.WideMaps Go.Proofs.YtehlmkgldcfciaaGreat.F
open Go.RowKit Go.Proofs.YtehlmkgldcfciaaGreatW.PrintWords Go.Proofs.YtehlmkgldcfciaaGreatW.PrintLast Go.Proofs.YtehlmkgldcfciaaGreatW.PrintMore
set_option maxRecDepth 100000 in
theorem Close_state (sp : Value) (u n : ByteArray) (W : World) (ok : Nat → Prop) (fb rc ub : Nat) (f : AF) (A : Option Addr) (uv : Value) (DU : DataW Unit) (HF : FoundOk W sp u n fb) (P : FileParts W ok fb f A rc uv ub DU) (hu : u.size ≤ 30) (hl : lookU f.users u = none) :
    Calls Tryz.prog 22 #[sp, .string u, .string n] W fun e w' => e = .returned (.int .i64 8) ∧ Below W.heap.size W w' := by
  have hkey := key_of hu
  obtain ⟨v, ps, hrun, hv⟩ := P.U.look_ok law9 Tryz.underlying88 (zeroO _) (zd := .agg [.lit (.int .i64 0), .lit (.int .i64 0)]) (zp := []) rfl hkey
  have hh : Maps.has DU (.string u.data.toList) = false := by rw [P.mU.has, look_users, hl]; rfl
  rw [atKey_of_not_has hh] at hv
  obtain rfl := Ro_at hv
  rw [hh] at hrun
  have c9 : W.cell? ⟨fb, 9, none⟩ = some (.map (some ub)) := (blk_cell P.F 9).trans rfl
  have CF := Aside0.mk (HF W (Below.refl _ _))
  clear HF P hh hv hl
  go_enter Tryz.func22, Tryz.ntmps22
  go_wp2_with first | (go_at_call 58; refine CF.out.mono ?_; rintro e w' ⟨rfl, rfl⟩)
  go_ret
  exact ⟨rfl, (Below.refl _ _).alloc (Nat.le_refl _) _⟩
set_option maxHeartbeats 2000000 in
set_option maxRecDepth 100000 in
theorem Open_state (sp : Value) (u n : ByteArray) (actions exclusive : Int) (W : World) (ok : Nat → Prop) (fb rc ub : Nat) (f : AF) (A : Option Addr) (uv : Value) (DU : DataW Unit) (a b : Int) (ha : setB actions = true) (hx : setB exclusive = true) (hs : bits .andNot .i64 exclusive actions = 0)
    (HF : FoundOk W sp u n fb) (P : FileParts W ok fb f A rc uv ub DU) (hu : u.size ≤ 30) (hl : lookU f.users u = some (a, b)) :
    Calls Tryz.prog 20 #[sp, .string u, .string n, .int .i64 actions, .int .i64 exclusive] W fun e w' => e = .returned (.int .i64 8) ∧ Below W.heap.size W w' := by
  have hkey := key_of hu
  obtain ⟨v, ps, hrun, hv⟩ := P.U.look_ok law9 Tryz.underlying88 (zeroO _) (zd := .agg [.lit (.int .i64 0), .lit (.int .i64 0)]) (zp := []) rfl hkey
  have hh : Maps.has DU (.string u.data.toList) = true := by rw [P.mU.has, look_users, hl]; rfl
  have hat : DU.atKey (.string u.data.toList) (.agg [.lit (.int .i64 0), .lit (.int .i64 0)]) = .agg [.lit (.int .i64 a), .lit (.int .i64 b)] := by rw [P.mU.at_, look_users, hl]; rfl
  rw [hat] at hv
  obtain rfl := Ro_at hv
  rw [hh] at hrun
  have c9 : W.cell? ⟨fb, 9, none⟩ = some (.map (some ub)) := (blk_cell P.F 9).trans rfl
  have CF := Aside0.mk (HF W (Below.refl _ _))
  have CA := Aside0.mk (set_c actions W)
  have CE := Aside0.mk (set_c exclusive W)
  rw [show (decide (0 ≤ actions) && decide (actions ≤ 255)) = true from ha] at CA
  rw [show (decide (0 ≤ exclusive) && decide (exclusive ≤ 255)) = true from hx] at CE
  clear HF P hh hv hl hat ha hx
  go_enter Tryz.func20, Tryz.ntmps20
  go_wp2_with first | (go_at_call 58; refine CF.out.mono ?_; rintro e w' ⟨rfl, rfl⟩) | (go_at_call 55; first | (refine CA.out.mono ?_; rintro e w' ⟨rfl, rfl⟩) | (refine CE.out.mono ?_; rintro e w' ⟨rfl, rfl⟩))
  go_ret
  exact ⟨rfl, (Below.refl _ _).alloc (Nat.le_refl _) _⟩
set_option maxHeartbeats 2000000 in
set_option maxRecDepth 100000 in
theorem Open_denied (sp : Value) (u n : ByteArray) (actions exclusive : Int) (W : World) (ok : Nat → Prop) (fb rc ub : Nat) (f : AF) (A : Option Addr) (uv : Value) (DU : DataW Unit) (ha : setB actions = true) (hx : setB exclusive = true) (hs : bits .andNot .i64 exclusive actions = 0)
    (HF : FoundOk W sp u n fb) (P : FileParts W ok fb f A rc uv ub DU) (hu : u.size ≤ 30) (hl : lookU f.users u = none) (hmay : mayB f.F f.rules u actions = false) :
    Calls Tryz.prog 20 #[sp, .string u, .string n, .int .i64 actions, .int .i64 exclusive] W fun e w' => e = .returned (.int .i64 12) ∧ Below W.heap.size W w' := by
  have hkey := key_of hu
  obtain ⟨v, ps, hrun, hv⟩ := P.U.look_ok law9 Tryz.underlying88 (zeroO _) (zd := .agg [.lit (.int .i64 0), .lit (.int .i64 0)]) (zp := []) rfl hkey
  have hh : Maps.has DU (.string u.data.toList) = false := by rw [P.mU.has, look_users, hl]; rfl
  rw [atKey_of_not_has hh] at hv
  obtain rfl := Ro_at hv
  rw [hh] at hrun
  have c9 : W.cell? ⟨fb, 9, none⟩ = some (.map (some ub)) := (blk_cell P.F 9).trans rfl
  have CF := Aside0.mk (HF W (Below.refl _ _))
  have CA := Aside0.mk (set_c actions W)
  have CE := Aside0.mk (set_c exclusive W)
  rw [show (decide (0 ≤ actions) && decide (actions ≤ 255)) = true from ha] at CA
  rw [show (decide (0 ≤ exclusive) && decide (exclusive ≤ 255)) = true from hx] at CE
  have hb1 : Below W.heap.size W (W.alloc (.cells #[.int .i64 0, .int .i64 0] 90)) := (Below.refl _ _).alloc (Nat.le_refl _) _
  obtain ⟨_, hrc, hrC⟩ := Kd.R_reads' P.rules
  have CM := Aside0.mk (may_c fb ub rc f.F A f.rules uv u actions (W.alloc (.cells #[.int .i64 0, .int .i64 0] 90)) ((hb1.block fb (blk_lt P.F)).trans P.F) (Kd.C_below hrC hb1) hrc)
  rw [hmay] at CM
  have HB1 := Aside0.mk hb1
  clear HF P hh hv hl ha hx hmay hrC hrc hb1
  go_enter Tryz.func20, Tryz.ntmps20
  go_wp2_with first | (go_at_call 58; refine CF.out.mono ?_; rintro e w' ⟨rfl, rfl⟩) | (go_at_call 55; first | (refine CA.out.mono ?_; rintro e w' ⟨rfl, rfl⟩) | (refine CE.out.mono ?_; rintro e w' ⟨rfl, rfl⟩)) | (go_at_call 59; refine CM.out.mono ?_; rintro e w2 ⟨rfl, hb2⟩)
  go_ret
  exact ⟨rfl, HB1.out.trans (hb2.mono HB1.out.size)⟩
set_option maxRecDepth 100000 in
theorem Delete_state (sp : Value) (u n : ByteArray) (W : World) (ok : Nat → Prop) (fb rc ub : Nat) (f : AF) (A : Option Addr) (uv : Value) (DU : DataW Unit) (HF : FoundOk W sp u n fb) (P : FileParts W ok fb f A rc uv ub DU) (hl : 0 < f.users.length) :
    Calls Tryz.prog 18 #[sp, .string u, .string n] W fun e w' => e = .returned (.int .i64 8) ∧ Below W.heap.size W w' := by
  have c9 : W.cell? ⟨fb, 9, none⟩ = some (.map (some ub)) := (blk_cell P.F 9).trans rfl
  have hlen := fun ty => P.U.len Tryz.underlying88 ty
  have hsz : Maps.size DU = f.users.length := by rw [P.mU.size]; simp [usersL]
  rw [hsz] at hlen
  have hz : (0 : Int) < (f.users.length : Int) := by omega
  have hz2 : decide ((0 : Int) < (f.users.length : Int)) = true := decide_eq_true hz
  have CF := Aside0.mk (HF W (Below.refl _ _))
  clear HF P hsz hl
  go_enter Tryz.func18, Tryz.ntmps18
  go_wp2_with first | (go_at_call 58; refine CF.out.mono ?_; rintro e w' ⟨rfl, rfl⟩)
  go_ret
  exact ⟨rfl, Below.refl _ _⟩
set_option maxRecDepth 100000 in
theorem Delete_denied (sp : Value) (u n : ByteArray) (W : World) (ok : Nat → Prop) (fb rc ub : Nat) (f : AF) (A : Option Addr) (uv : Value) (DU : DataW Unit) (HF : FoundOk W sp u n fb) (P : FileParts W ok fb f A rc uv ub DU) (hl : f.users = []) (hmay : mayB f.F f.rules u 128 = false) :
    Calls Tryz.prog 18 #[sp, .string u, .string n] W fun e w' => e = .returned (.int .i64 12) ∧ Below W.heap.size W w' := by
  have c9 : W.cell? ⟨fb, 9, none⟩ = some (.map (some ub)) := (blk_cell P.F 9).trans rfl
  have hlen := fun ty => P.U.len Tryz.underlying88 ty
  have hsz : Maps.size DU = 0 := by rw [P.mU.size, hl]; rfl
  rw [hsz] at hlen
  have CF := Aside0.mk (HF W (Below.refl _ _))
  obtain ⟨_, hrc, hrC⟩ := Kd.R_reads' P.rules
  have CM := Aside0.mk (may_c fb ub rc f.F A f.rules uv u 128 W P.F hrC hrc)
  rw [hmay] at CM
  clear HF P hsz hl hmay hrC hrc
  go_enter Tryz.func18, Tryz.ntmps18
  go_wp2_with first | (go_at_call 58; refine CF.out.mono ?_; rintro e w' ⟨rfl, rfl⟩) | (go_at_call 59; refine CM.out.mono ?_; rintro e w2 ⟨rfl, hb2⟩)
  go_ret
  exact ⟨rfl, hb2⟩
set_option maxRecDepth 100000 in
theorem Delete_c (sb mb fb : Nat) (u n : ByteArray) (W : World) (ok : Nat → Prop) (rc ub : Nat) (f : AF) (A : Option Addr) (uv : Value) (D DU : DataW Unit) (c0 : W.cell? ⟨sb, 0, none⟩ = some (.map (some mb))) (hown : W.ownsMap Tryz.prog 9 Rp mb (Maps.size D) D) (hn : n.size ≤ 30)
    (HF : FoundOk W (.pointer (some ⟨sb, 0, none⟩)) u n fb) (P : FileParts W ok fb f A rc uv ub DU) (hl : f.users = []) (hmay : mayB f.F f.rules u 128 = true) :
    Calls Tryz.prog 18 #[.pointer (some ⟨sb, 0, none⟩), .string u, .string n] W fun e w' => e = .returned (.int .i64 0) ∧ ∃ W3 m, Below W.heap.size W W3 ∧ w'.ownsMap Tryz.prog 9 Rp mb m (D.del (.string n.data.toList)) ∧ W3.mapTurned w' mb := by
  have hkey := key_of hn
  have c9 : W.cell? ⟨fb, 9, none⟩ = some (.map (some ub)) := (blk_cell P.F 9).trans rfl
  have hlen := fun ty => P.U.len Tryz.underlying88 ty
  have hsz : Maps.size DU = 0 := by rw [P.mU.size, hl]; rfl
  rw [hsz] at hlen
  have CF := Aside0.mk (HF W (Below.refl _ _))
  obtain ⟨_, hrc, hrC⟩ := Kd.R_reads' P.rules
  have CM := Aside0.mk (may_c fb ub rc f.F A f.rules uv u 128 W P.F hrC hrc)
  rw [hmay] at CM
  have HO := Aside0.mk hown
  clear HF P hsz hl hmay hrC hrc hown
  go_enter Tryz.func18, Tryz.ntmps18
  go_wp2_with first | (go_at_call 58; refine CF.out.mono ?_; rintro e w' ⟨rfl, rfl⟩) | (go_at_call 59; refine CM.out.mono ?_; rintro e w2 ⟨rfl, hb2⟩; have d0 := pw_cell_below hb2 c0; have hM := (Chg.of_below hb2 (fun _ => False)).map HO.out (fun h => h)) | (at_delete; refine wpList_delete_own _ rfl _ _ 41 9 rfl 82 law9 Tryz.underlying41 _ mb _ D rfl hM _ _ rfl hkey ?_; intro w4 hown4 hturn4)
  go_ret
  exact ⟨rfl, w2, _, hb2, hown4, hturn4⟩
end Go.Proofs.YtehlmkgldcfciaaGreat.Files
/- The file store: Replace and Extend. -/
set_option linter.unusedVariables false
set_option linter.unusedSimpArgs false
namespace Go.Proofs.YtehlmkgldcfciaaGreat.Files
open Go.Proofs.YtehlmkgldcfciaaGreat.Common Go.Maps Go.ChangeMaps Go.WideMaps Go.Proofs.YtehlmkgldcfciaaGreat.F
open Go.RowKit Go.Proofs.YtehlmkgldcfciaaGreatW.PrintWords Go.Proofs.YtehlmkgldcfciaaGreatW.PrintLast Go.Proofs.YtehlmkgldcfciaaGreatW.PrintMore
def withData (l : List S29) (i : Nat) (d : ByteArray) : List S29 := l.set i ⟨(rd_T29 l (i : Int)).f0, d, (rd_T29 l (i : Int)).f2⟩
def AF.data (f : AF) (u : ByteArray) (i : Nat) (d : ByteArray) : AF := { f with F := f.F.noted u, units := withData f.units i d }
def UnitsEnd (W : World) (ok : Nat → Prop) (fb rc ub : Nat) (f' : AF) (A : Option Addr) (DU : DataW Unit) (e : Ending) (w' : World) : Prop :=
  e = .returned (.int .i64 0) ∧ ∃ uv, FileParts w' (fun k => ok k ∨ W.heap.size ≤ k) fb f' A rc uv ub DU ∧ Chg W w' ok
theorem FileParts.oneUnit {W : World} {ok : Nat → Prop} {fb rc ub g n cu : Nat} {f : AF} {A : Option Addr} {DU : DataW Unit} (P : FileParts W ok fb f A rc (.slice (some ⟨g, 0, none⟩) n cu) ub DU) (i j : Nat) (x' : S29) (v : Value) (hi : i < f.units.length) (hj : j < 3) (hc : (uCells (rd_T29 f.units (i : Int))).set j v = uCells x') :
    FileParts (W.setCell ⟨g, i * 3 + j, none⟩ v) (fun k => ok k ∨ W.heap.size ≤ k) fb { f with units := f.units.set i x' } A rc (.slice (some ⟨g, 0, none⟩) n cu) ub DU ∧ Chg W (W.setCell ⟨g, i * 3 + j, none⟩ v) ok := by
  obtain ⟨h1, h2⟩ := units_set P.units i j x' v hi hj hc
  have hcc : Chg W (W.setCell ⟨g, i * 3 + j, none⟩ v) (fun k => some k = (Value.slice (some ⟨g, 0, none⟩) n cu).ownBlock) := Chg.of_grown h2 (fun k e => e)
  have hfb : ¬ some fb = (Value.slice (some ⟨g, 0, none⟩) n cu).ownBlock := fun e => by
    obtain ⟨cells, h⟩ := own_typed (uRow_of_R P.units) fb e.symm
    rw [P.F] at h
    cases h
  have F1 : FileAt (W.setCell ⟨g, i * 3 + j, none⟩ v) fb f.F (.slice A f.rules.length rc) (.slice (some ⟨g, 0, none⟩) n cu) ub := (hcc.block fb (blk_lt P.F) hfb).trans P.F
  have h := P.newUnits hcc h1 (fun k hk => .inl hk)
  have c8 : (W.setCell ⟨g, i * 3 + j, none⟩ v).cell? ⟨fb, 8, none⟩ = some (.slice (some ⟨g, 0, none⟩) n cu) := (blk_cell F1 8).trans rfl
  rw [setCell_id c8] at h
  exact h
set_option maxRecDepth 100000 in
set_option maxHeartbeats 2000000 in
theorem Replace_ok (sp : Value) (u n : ByteArray) (i fb rc ub : Nat) (data : ByteArray) (f : AF) (A : Option Addr) (uv : Value) (DU : DataW Unit) (ok : Nat → Prop) (W : World) (hd : data.size ≤ 400) (HU : UnitOk W sp u n (i : Int) 4 fb 0) (P : FileParts W ok fb f A rc uv ub DU)
    (hi : i < f.units.length) (hl : f.units.length ≤ 1000) :
    Calls Tryz.prog 32 #[sp, .string u, .string n, .int .i64 (i : Int), .string data] W (UnitsEnd W ok fb rc ub (f.data u i data) A DU) := by
  have CU := Aside0.mk (HU W (Below.refl _ _))
  have HP := Aside0.mk P
  have g1 : decide ((400 : Int) < (data.size : Int)) = false := decide_eq_false (by omega)
  have hic : decide ((i : Int) < 0) = false := decide_eq_false (by omega)
  have hiz : (i : Int) < (f.units.length : Int) := by omega
  clear HU P hd
  go_enter Tryz.func32, Tryz.ntmps32
  go_wp2_with fail
  refine CU.out.mono ?_
  rintro e w2 ⟨rfl, hb2⟩
  have P2 := HP.out.below hb2
  obtain ⟨g, cu, huv, hlc, hcm⟩ := units_slice P2.units (by omega)
  subst huv
  have c8 : w2.cell? ⟨fb, 8, none⟩ = some (.slice (some ⟨g, 0, none⟩) f.units.length cu) := (blk_cell P2.F 8).trans rfl
  have xk : w2.cell? ⟨g, i * 3 + 1, none⟩ = some (.string (rd_T29 f.units (i : Int)).f1) := by
    obtain ⟨_, _, hC⟩ := Kd.R_reads' P2.units
    obtain ⟨ad, he, _, h2, _⟩ := at_T29 (xs := f.units) hC (i : Int) (by omega) (by omega)
    cases he
    rw [Int.toNat_natCast, add_plain] at h2
    exact h2
  have fk : w2.frozen? ⟨g, i * 3 + 1, none⟩ = false := by
    obtain ⟨cells, hc⟩ := own_typed (uRow_of_R P2.units) g rfl
    exact blk_frozen hc _
  have PN := P2.oneUnit i 1 ⟨(rd_T29 f.units (i : Int)).f0, data, (rd_T29 f.units (i : Int)).f2⟩ (.string data) hi (by decide) rfl
  have CG := Aside0.mk (changed_c fb ub f.F _ _ u _ PN.1.F)
  have HPN := Aside0.mk PN
  have HB2 := Aside0.mk hb2
  clear PN P2 hb2 HP
  go_wp2_with first | (go_at_call 73; refine CG.out.mono ?_; rintro e w14 ⟨rfl, rfl⟩)
  go_ret
  have h14 := HPN.out.1.noted u
  exact ⟨rfl, _, h14.1.mono (fun k hk => hk.elim .inl (fun h => .inr (Nat.le_trans HB2.out.size h))), ((Chg.of_below HB2.out (fun _ => False)).mono (fun _ h => h.elim)).trans (HPN.out.2.trans h14.2 (fun k hk => hk)) (fun k hk => .inl hk)⟩
set_option maxRecDepth 100000 in
set_option maxHeartbeats 2000000 in
theorem Extend_ok (sp : Value) (u n : ByteArray) (i fb rc ub : Nat) (data : ByteArray) (f : AF) (A : Option Addr) (uv : Value) (DU : DataW Unit) (ok : Nat → Prop) (W : World) (hd : data.size ≤ 400) (HU : UnitOk W sp u n (i : Int) 8 fb 0) (P : FileParts W ok fb f A rc uv ub DU)
    (hi : i < f.units.length) (hl : f.units.length ≤ 1000) (hx : (rd_T29 f.units (i : Int)).f1.size + data.size ≤ 400) :
    Calls Tryz.prog 34 #[sp, .string u, .string n, .int .i64 (i : Int), .string data] W (UnitsEnd W ok fb rc ub (f.data u i ((rd_T29 f.units (i : Int)).f1 ++ data)) A DU) := by
  have CU := Aside0.mk (HU W (Below.refl _ _))
  have HP := Aside0.mk P
  obtain ⟨old, hold⟩ : ∃ o, o = (rd_T29 f.units (i : Int)).f1 := ⟨_, rfl⟩
  rw [← hold] at hx
  have HOLD := Aside0.mk hold
  have g1 : decide ((400 : Int) < (data.size : Int)) = false := decide_eq_false (by omega)
  have gw : IntKind.i64.wrap ((old.size : Int) + (data.size : Int)) = (old.size : Int) + (data.size : Int) := by rw [IntKind.wrap_i64]; omega
  have g2 : decide ((400 : Int) < (old.size : Int) + (data.size : Int)) = false := decide_eq_false (by omega)
  have g3 : ¬ ((400 : Int) < (old.size : Int) + (data.size : Int)) := by omega
  have hic : decide ((i : Int) < 0) = false := decide_eq_false (by omega)
  have hiz : (i : Int) < (f.units.length : Int) := by omega
  clear HU P hd hold
  go_enter Tryz.func34, Tryz.ntmps34
  go_wp2_with fail
  refine CU.out.mono ?_
  rintro e w2 ⟨rfl, hb2⟩
  have P2 := HP.out.below hb2
  obtain ⟨g, cu, huv, hlc, hcm⟩ := units_slice P2.units (by omega)
  subst huv
  have c8 : w2.cell? ⟨fb, 8, none⟩ = some (.slice (some ⟨g, 0, none⟩) f.units.length cu) := (blk_cell P2.F 8).trans rfl
  have xk : w2.cell? ⟨g, i * 3 + 1, none⟩ = some (.string old) := by
    obtain ⟨_, _, hC⟩ := Kd.R_reads' P2.units
    obtain ⟨ad, he, _, h2, _⟩ := at_T29 (xs := f.units) hC (i : Int) (by omega) (by omega)
    cases he
    rw [Int.toNat_natCast, add_plain] at h2
    rw [HOLD.out]
    exact h2
  have fk : w2.frozen? ⟨g, i * 3 + 1, none⟩ = false := by
    obtain ⟨cells, hc⟩ := own_typed (uRow_of_R P2.units) g rfl
    exact blk_frozen hc _
  have PN := P2.oneUnit i 1 ⟨(rd_T29 f.units (i : Int)).f0, old ++ data, (rd_T29 f.units (i : Int)).f2⟩ (.string (old ++ data)) hi (by decide) rfl
  have CG := Aside0.mk (changed_c fb ub f.F _ _ u _ PN.1.F)
  have HPN := Aside0.mk PN
  have HB2 := Aside0.mk hb2
  clear PN P2 hb2 HP
  go_wp2_with first | (go_at_call 73; refine CG.out.mono ?_; rintro e w14 ⟨rfl, rfl⟩)
  go_ret
  have h14 := HPN.out.1.noted u
  refine ⟨rfl, .slice (some ⟨g, 0, none⟩) f.units.length cu, ?_, ((Chg.of_below HB2.out (fun _ => False)).mono (fun _ h => h.elim)).trans (HPN.out.2.trans h14.2 (fun k hk => hk)) (fun k hk => .inl hk)⟩
  rw [← HOLD.out]
  exact h14.1.mono (fun k hk => hk.elim .inl (fun h => .inr (Nat.le_trans HB2.out.size h)))
set_option maxRecDepth 100000 in
set_option maxHeartbeats 2000000 in
theorem Extend_full (sp : Value) (u n : ByteArray) (i fb rc ub : Nat) (data : ByteArray) (f : AF) (A : Option Addr) (uv : Value) (DU : DataW Unit) (ok : Nat → Prop) (W : World) (hd : data.size ≤ 400) (HU : UnitOk W sp u n (i : Int) 8 fb 0) (P : FileParts W ok fb f A rc uv ub DU)
    (hi : i < f.units.length) (hl : f.units.length ≤ 1000) (hs : (rd_T29 f.units (i : Int)).f1.size ≤ 400) (hx : 400 < (rd_T29 f.units (i : Int)).f1.size + data.size) :
    Calls Tryz.prog 34 #[sp, .string u, .string n, .int .i64 (i : Int), .string data] W fun e w' => e = .returned (.int .i64 9) ∧ Below W.heap.size W w' := by
  have CU := Aside0.mk (HU W (Below.refl _ _))
  have HP := Aside0.mk P
  obtain ⟨old, hold⟩ : ∃ o, o = (rd_T29 f.units (i : Int)).f1 := ⟨_, rfl⟩
  rw [← hold] at hx hs
  have HOLD := Aside0.mk hold
  have g1 : decide ((400 : Int) < (data.size : Int)) = false := decide_eq_false (by omega)
  have gw : IntKind.i64.wrap ((old.size : Int) + (data.size : Int)) = (old.size : Int) + (data.size : Int) := by rw [IntKind.wrap_i64]; omega
  have g2 : decide ((400 : Int) < (old.size : Int) + (data.size : Int)) = true := decide_eq_true (by omega)
  have g3 : (400 : Int) < (old.size : Int) + (data.size : Int) := by omega
  have hic : decide ((i : Int) < 0) = false := decide_eq_false (by omega)
  have hiz : (i : Int) < (f.units.length : Int) := by omega
  clear HU P hd hold
  go_enter Tryz.func34, Tryz.ntmps34
  go_wp2_with fail
  refine CU.out.mono ?_
  rintro e w2 ⟨rfl, hb2⟩
  have P2 := HP.out.below hb2
  obtain ⟨g, cu, huv, hlc, hcm⟩ := units_slice P2.units (by omega)
  subst huv
  have c8 : w2.cell? ⟨fb, 8, none⟩ = some (.slice (some ⟨g, 0, none⟩) f.units.length cu) := (blk_cell P2.F 8).trans rfl
  have xk : w2.cell? ⟨g, i * 3 + 1, none⟩ = some (.string old) := by
    obtain ⟨_, _, hC⟩ := Kd.R_reads' P2.units
    obtain ⟨ad, he, _, h2, _⟩ := at_T29 (xs := f.units) hC (i : Int) (by omega) (by omega)
    cases he
    rw [Int.toNat_natCast, add_plain] at h2
    rw [HOLD.out]
    exact h2
  have HB2 := Aside0.mk hb2
  clear P2 hb2 HP
  go_wp2
  go_ret
  exact ⟨rfl, HB2.out⟩
end Go.Proofs.YtehlmkgldcfciaaGreat.Files
/- slices.Delete of a range of a row of units of the call's own; Erase. -/
set_option linter.unusedVariables false
set_option linter.unusedSimpArgs false
namespace Go.Proofs.YtehlmkgldcfciaaGreat.Files
open Go.Proofs.YtehlmkgldcfciaaGreat.Common Go.Maps Go.ChangeMaps Go.WideMaps Go.Proofs.YtehlmkgldcfciaaGreat.F
open Go.RowKit Go.Proofs.YtehlmkgldcfciaaGreatW.PrintWords Go.Proofs.YtehlmkgldcfciaaGreatW.PrintLast Go.Proofs.YtehlmkgldcfciaaGreatW.PrintMore
theorem infoU : (Tryz.prog.info? 29).map (fun i => (i.zero, i.size, i.bytes)) = some (some (.agg #[(.string ⟨#[]⟩), (.string ⟨#[]⟩), (.int .i64 0)]), 3, 40) := by kernel_rfl
theorem delete_flat_range {css : List (List Value)} {sz i j : Nat} (h : ∀ c ∈ css, c.length = sz) (hi : i < j) (hj : j ≤ css.length) (z : List Value) (hz : z.length = (j - i) * sz) :
    (layV (layV css.flatten (i * sz) (css.drop j).flatten) ((css.length - (j - i)) * sz) z).take ((css.length - (j - i)) * sz) = (css.take i ++ css.drop j).flatten := by
  have hT : (css.take i).flatten.length = i * sz := by rw [flat_length (fun c hc => h c (List.mem_of_mem_take hc)), List.length_take, Nat.min_eq_left (by omega)]
  have hD : (css.drop j).flatten.length = (css.length - j) * sz := by rw [flat_length (fun c hc => h c (List.mem_of_mem_drop hc)), List.length_drop]
  have hL := flat_length h
  have hm : css.length * sz = i * sz + ((j - i) * sz + (css.length - j) * sz) := by
    rw [← Nat.add_mul, ← Nat.add_mul]
    congr 1
    omega
  have hm1 : (css.length - (j - i)) * sz = i * sz + (css.length - j) * sz := by rw [← Nat.add_mul]; congr 1; omega
  have hsplit : css.flatten = (css.take i).flatten ++ (css.drop i).flatten := by rw [← List.flatten_append, List.take_append_drop]
  have ht : css.flatten.take (i * sz) = (css.take i).flatten := by rw [hsplit, ← hT]; simp
  have hl1 : layV css.flatten (i * sz) (css.drop j).flatten = (css.take i).flatten ++ (css.drop j).flatten ++ css.flatten.drop (i * sz + (css.drop j).flatten.length) := by
    rw [layV_eq _ _ _ (by rw [hD, hL]; omega), ht]
  have hAB : ((css.take i).flatten ++ (css.drop j).flatten).length = (css.length - (j - i)) * sz := by rw [List.length_append, hT, hD, hm1]
  rw [hl1, layV_eq _ _ _ (by rw [List.length_append, hAB, List.length_drop, hL, hD, hz]; omega)]
  rw [List.take_append_of_le_length (by simp only [List.length_append, List.length_take, hAB, List.length_drop, hL, hz, hD]; omega), List.take_append_of_le_length (by rw [List.length_take, List.length_append, hAB]; omega), List.take_take, Nat.min_self, List.take_append_of_le_length (by omega), ← hAB, List.take_length,
    List.flatten_append]
theorem run_clear_n {P : Program} (w : World) (t e ty : TypeId) (z : Value) (ht : P.underlying t = some (.slice e)) (hv : ∀ w, (zeroValue e).run P w = .ok z w) (h1 : ∀ u ∈ z.cells.toList, u.oneCell' = true) (b o c m : Nat) (hm0 : 0 < m) (hz0 : 0 < z.cells.size)
    (hc : ∀ j, j < m * z.cells.size → (w.cell? ⟨b, o + j, none⟩).isSome = true) (hf : ∀ j, j < m * z.cells.size → w.frozen? ⟨b, o + j, none⟩ = false) :
    (Builtin.clear_ #[t] ty #[.slice (some ⟨b, o, none⟩) m c]).run P w = .ok (.tuple #[]) (w.setCells b o (Builtin.zeroCells z.cells m).toList) := by
  have hl : (Builtin.zeroCells z.cells m).toList.length = m * z.cells.size := by simp [Builtin.zeroCells]
  have h1' : ∀ u ∈ (Builtin.zeroCells z.cells m).toList, u.oneCell' = true := fun u hu => by
    have hu2 := Array.mem_toList_iff.1 hu
    simp only [Builtin.zeroCells, Array.mem_map] at hu2
    obtain ⟨i, _, rfl⟩ := hu2
    have hlt : i % z.cells.size < z.cells.size := Nat.mod_lt _ hz0
    rw [getElem!_pos z.cells _ hlt]
    exact h1 _ (by simp)
  have hst := run_storeCells_cells (P := P) b o (Builtin.zeroCells z.cells m).toList 0 w (by rw [hl]; simpa using hc) (by rw [hl]; simpa using hf) h1'
  simp only [Nat.add_zero] at hst
  obtain ⟨m', rfl⟩ : ∃ m', m = m' + 1 := ⟨m - 1, by omega⟩
  simp [Builtin.clear_, run_underlying ht, hv, hst]
set_option maxHeartbeats 4000000 in
set_option maxRecDepth 100000 in
theorem Delete_range (g n cap i j base : Nat) (ok : Nat → Prop) (css : List (List Value)) (w : World) (hr0 : (Kd.raw 3).R 29 w base ok (.slice (some ⟨g, 0, none⟩) n cap) css) (hi : i < j) (hj : j ≤ n) :
    Calls Tryz.prog 77 #[.slice (some ⟨g, 0, none⟩) n cap, .int .i64 (i : Int), .int .i64 (j : Int)] w fun e w' => e = .returned (.slice (some ⟨g, 0, none⟩) (n - (j - i)) cap) ∧
      (Kd.raw 3).R 29 w' base ok (.slice (some ⟨g, 0, none⟩) (n - (j - i)) cap) (css.take i ++ css.drop j) ∧ w.grownBy w' (some g) := by
  obtain ⟨hn, hnc, _⟩ := Kd.R_reads' hr0
  obtain ⟨h0, ho, hcs⟩ := raw_flat hr0
  subst hn
  have hlen : ∀ c ∈ css, c.length = 3 := fun c hc => (hcs c hc).1
  obtain ⟨i0, hi0, hz0⟩ := Option.map_eq_some_iff.1 infoU
  simp only [Prod.mk.injEq] at hz0
  obtain ⟨_, hz1, _⟩ := hz0
  have hcapm : cap ≤ 9223372036854775807 := by
    rcases ho.2 with ⟨h', _⟩ | ⟨g', cap', cur, hv, _, _, _, hcm, _⟩
    · cases h'
    · injection hv with _ _ hv3
      rw [hv3]
      exact hcm
  -- what is moved to the left
  obtain ⟨news, hnews⟩ : ∃ news, news = (css.drop j).flatten := ⟨_, rfl⟩
  have hnl : news.length = (css.length - j) * 3 := by rw [hnews, flat_length (fun c hc => hlen c (List.mem_of_mem_drop hc)), List.length_drop]
  have hone : ∀ u ∈ news, u.oneCell' = true := fun u hu => by
    rw [hnews] at hu
    obtain ⟨c, hc, hu⟩ := List.mem_flatten.1 hu
    exact (hcs c (List.mem_of_mem_drop hc)).2 u hu
  obtain ⟨_, hod, _⟩ := raw_flat (Kd.R_drew hr0)
  have hfl := flat_length hlen
  have hcell : ∀ j u, css.flatten[j]? = some u → w.drew.cell? ⟨g, j, none⟩ = some u := fun j u hu => by
    have := hod.cells (g := g) rfl j u hu
    rwa [add_plain] at this
  have hfz : ∀ j, w.drew.frozen? ⟨g, j, none⟩ = false := fun j => by
    rcases hod.2 with ⟨h', _⟩ | ⟨g', cap', cur, hv, _, hh, _⟩
    · cases h'
    · injection hv with hv1 _ _
      injection hv1 with hv1
      injection hv1 with hv1
      subst hv1
      simp [World.frozen?, hh]
  have hsome : ∀ t, t < css.length * 3 → (w.drew.cell? ⟨g, t, none⟩).isSome = true := fun t ht => by
    rw [hcell t _ (List.getElem?_eq_getElem (by rw [hfl]; exact ht))]
    all_goals rfl
  obtain ⟨A, hA, hsrc⟩ : ∃ A : Addr, (if cap = j then some (⟨g, 0, none⟩ : Addr) else some ⟨g, j * 3, none⟩) = some A ∧ Hid (∀ t u, news[t]? = some u → w.drew.cell? (A.add t) = some u) := by
    by_cases h : cap = j
    · refine ⟨⟨g, 0, none⟩, by simp [h], fun t u hu => ?_⟩
      have h0 : news.length = 0 := by rw [hnl, show css.length - j = 0 by omega, Nat.zero_mul]
      rw [List.length_eq_zero_iff.1 h0] at hu
      simp at hu
    · refine ⟨⟨g, j * 3, none⟩, by simp [h], fun t u hu => ?_⟩
      rw [Addr.add_lit]
      refine hcell _ u ?_
      have hsp : css.flatten = (css.take j).flatten ++ news := by rw [hnews, ← List.flatten_append, List.take_append_drop]
      have hT : (css.take j).flatten.length = j * 3 := by rw [flat_length (fun c hc => hlen c (List.mem_of_mem_take hc)), List.length_take, Nat.min_eq_left (by omega)]
      rw [hsp, List.getElem?_append_right (by omega), hT, Nat.add_sub_cancel_left]
      exact hu
  have s1 : Hid (news.length = (css.length - j) * 3) := hnl
  have s2 : Hid (∀ u ∈ news, u.oneCell' = true) := hone
  have hmul : i * 3 + news.length ≤ css.length * 3 := by
    rw [hnl, ← Nat.add_mul]
    exact Nat.mul_le_mul_right _ (by omega)
  have s3 : Hid (∀ t, t < news.length → (w.drew.cell? ⟨g, 0 + i * 3 + t, none⟩).isSome = true ∧ w.drew.frozen? ⟨g, 0 + i * 3 + t, none⟩ = false) := fun t ht => by
    rw [Nat.zero_add]
    exact ⟨hsome _ (by omega), hfz _⟩
  obtain ⟨ho1, hg1⟩ := own_setCells news (i * 3) w.drew _ hod
  obtain ⟨W1, hW1⟩ : ∃ W1, W1 = w.drew.setCells g (0 + i * 3) news := ⟨_, rfl⟩
  have hW1' : w.drew.setCells g (i * 3) news = W1 := by rw [hW1, Nat.zero_add]
  rw [hW1'] at ho1 hg1
  have hlay : (layV css.flatten (i * 3) news).length = css.length * 3 := by
    rw [layV_eq _ _ _ (by rw [hfl]; exact hmul)]
    simp only [List.length_append, List.length_take, List.length_drop, hfl]
    omega
  have hZ : (.agg #[.string ByteArray.empty, .string ByteArray.empty, .int .i64 0] : Value).cells.size = 3 := rfl
  have hlast : (css.length - (j - i)) * 3 + (j - i) * 3 = css.length * 3 := by
    rw [← Nat.add_mul]
    congr 1
    omega
  have hcl : ∀ ty, (Builtin.clear_ #[52] ty #[.slice (some ⟨g, (css.length - (j - i)) * 3, none⟩) (j - i) (cap - (css.length - (j - i)))]).run Tryz.prog W1 = .ok (.tuple #[]) (W1.setCells g ((css.length - (j - i)) * 3) (Builtin.zeroCells (.agg #[.string ByteArray.empty, .string ByteArray.empty, .int .i64 0] : Value).cells (j - i)).toList) := fun ty =>
    run_clear_n W1 52 29 ty (.agg #[.string ByteArray.empty, .string ByteArray.empty, .int .i64 0]) Tryz.underlying52 Tryz.zeroValue29 (by intro u hu; revert u; decide) g _ _ (j - i) (by omega) (by decide)
      (fun t ht => by
        rw [hZ] at ht
        have := ho1.cells (g := g) rfl ((css.length - (j - i)) * 3 + t) _ (List.getElem?_eq_getElem (by rw [hlay]; omega))
        rw [add_plain] at this
        rw [this]
        rfl)
      (fun t ht => by
        rcases ho1.2 with ⟨h', _⟩ | ⟨g', cap', cur, hv, _, hh, _⟩
        · cases h'
        · injection hv with hv1 _ _
          injection hv1 with hv1
          injection hv1 with hv1
          subst hv1
          simp [World.frozen?, hh])
  obtain ⟨ho2, hg2⟩ := own_setCells (Builtin.zeroCells (.agg #[.string ByteArray.empty, .string ByteArray.empty, .int .i64 0] : Value).cells (j - i)).toList ((css.length - (j - i)) * 3) W1 _ ho1
  have hfin : (Kd.raw 3).R 29 (W1.setCells g ((css.length - (j - i)) * 3) (Builtin.zeroCells (.agg #[.string ByteArray.empty, .string ByteArray.empty, .int .i64 0] : Value).cells (j - i)).toList) base ok (.slice (some ⟨g, 0, none⟩) (css.length - (j - i)) cap) (css.take i ++ css.drop j) := by
    have hle : (css.take i ++ css.drop j).length = css.length - (j - i) := by rw [List.length_append, List.length_take, List.length_drop]; omega
    have hcut := own_cut ho2 (show css.length - (j - i) ≤ css.length by omega)
    rw [hnews, delete_flat_range hlen hi hj _ (by rw [Array.length_toList]; simp [Builtin.zeroCells]; rfl)] at hcut
    exact flat_raw (fun k hk => h0 k (by simpa [Value.ownBlock] using hk)) (by rw [hle]; exact hcut) (fun c hc => hcs c ((List.mem_append.1 hc).elim List.mem_of_mem_take List.mem_of_mem_drop))
  have hgr : w.grownBy (W1.setCells g ((css.length - (j - i)) * 3) (Builtin.zeroCells (.agg #[.string ByteArray.empty, .string ByteArray.empty, .int .i64 0] : Value).cells (j - i)).toList) (some g) := (grown_of_below (below_drew (Below.refl _ _)) _).trans (hg1.trans hg2)
  have e1 : i + (css.length - j) = css.length - (j - i) := by omega
  have hcl2 : ∀ ty, (Builtin.clear_ #[52] ty #[.slice (some ⟨g, (i + (css.length - j)) * 3, none⟩) (css.length - (i + (css.length - j))) (cap - (i + (css.length - j)))]).run Tryz.prog W1 = .ok (.tuple #[]) (W1.setCells g ((css.length - (j - i)) * 3) (Builtin.zeroCells (.agg #[.string ByteArray.empty, .string ByteArray.empty, .int .i64 0] : Value).cells (j - i)).toList) := fun ty => by
    rw [e1, show css.length - (css.length - (j - i)) = j - i by omega]
    exact hcl ty
  have hm1 : i + (css.length - j) ≤ css.length := by omega
  have hm2 : i + (css.length - j) ≤ cap := by omega
  have hm3 : ((i + (css.length - j) : Nat) : Int) ≤ (css.length : Int) := by omega
  have hm4 : ¬ cap = i + (css.length - j) := by omega
  have E1 := Lib.hid e1
  generalize hWE : W1.setCells g ((css.length - (j - i)) * 3) (Builtin.zeroCells (.agg #[.string ByteArray.empty, .string ByteArray.empty, .int .i64 0] : Value).cells (j - i)).toList = WE at hcl2 hfin hgr
  have HFIN := Aside0.mk hfin
  have HGR := Aside0.mk hgr
  have hW : Hid (W1 = w.drew.setCells g (0 + i * 3) news) := hW1
  have hij : ((i : Int) == (j : Int)) = false := by simp; omega
  have hij2 : (i : Int) ≤ (j : Int) := by omega
  have hij3 : i ≤ j := by omega
  have hb1 : (j : Int) ≤ (css.length : Int) := by omega
  have hb0 : 0 ≤ (j : Int) := by omega
  have hic : i ≤ cap := by omega
  have hjc : j ≤ cap := by omega
  have hsub : css.length - j + i = css.length - (j - i) := by omega
  clear e1 hcl hWE hZ hW1 hW1' hcell hfz hsome hnews hnl hone hod hfl hmul ho1 hg1 hlay hlast ho2 hg2 hfin hgr hr0 ho hcs hlen h0
  go_enter Tryz.func77, Tryz.ntmps77
  go_wp2_with fail
  go_region_law (refine step_append_room rfl (.tmp 22) (.tmp 25) 52 rfl 29 i0 3 Tryz.underlying52 hi0 hz1 g 0 i cap (by simp [Act.eval, Act.put]) A (css.length - j) (cap - j) news (by simp [Act.eval, Act.put, hA]) s1.out hsrc.out s2.out (by omega) s3.out ?_; rw [← hW.out])
  go_wp2
  go_ret
  exact ⟨by rw [← E1.out]; rfl, HFIN.out, HGR.out⟩
end Go.Proofs.YtehlmkgldcfciaaGreat.Files
/- The file store: Erase. -/
set_option linter.unusedVariables false
set_option linter.unusedSimpArgs false
namespace Go.Proofs.YtehlmkgldcfciaaGreat.Files
open Go.Proofs.YtehlmkgldcfciaaGreat.Common Go.Maps Go.ChangeMaps Go.WideMaps Go.Proofs.YtehlmkgldcfciaaGreat.F
open Go.RowKit Go.Proofs.YtehlmkgldcfciaaGreatW.PrintWords Go.Proofs.YtehlmkgldcfciaaGreatW.PrintLast Go.Proofs.YtehlmkgldcfciaaGreatW.PrintMore
def Era.T8 : Bool × List (List Nat × List Nat) := (true, [([], []), ([], []), ([1], [1]), ([2], [2]), ([3], [3]), ([], []), ([], []), ([6], [6]), ([7], [7]), ([8], [8]), ([], []), ([9, 10], [9, 10]), ([4, 5, 11, 11], [4, 5, 11]), ([0, 0, 1, 2, 3, 4, 5, 6, 7, 8, 9, 10, 11, 12], [0]), ([13, 0, 1, 2, 3, 4, 5, 6, 7, 8, 9, 10, 11, 12], [13]), ([14, 12, 12, 0, 1, 2, 3, 4, 5, 6, 7, 8, 9, 10, 11, 12], [12, 14])])
def Era.B8 : List Nat := [0, 0, 2, 6, 14, 0, 0, 64, 192, 448, 0, 1984, 4094, 8191, 16383, 32767]
theorem Era.tab8 : rtab .any (opsOf Tryz.f36 8) = Era.T8 := by kernel_rfl
theorem Era.bits8 : waitsOk Era.T8.2 Era.B8 = true := by kernel_rfl
theorem Del_units (g cap i j : Nat) (ok : Nat → Prop) (l : List S29) (w : World) (hR : Kd.R k29 29 w 0 ok (.slice (some ⟨g, 0, none⟩) l.length cap) l) (hi : i < j) (hj : j ≤ l.length) :
    Calls Tryz.prog 77 #[.slice (some ⟨g, 0, none⟩) l.length cap, .int .i64 (i : Int), .int .i64 (j : Int)] w fun e w' => e = .returned (.slice (some ⟨g, 0, none⟩) (l.length - (j - i)) cap) ∧
      Kd.R k29 29 w' 0 (fun k => k = g) (.slice (some ⟨g, 0, none⟩) (l.length - (j - i)) cap) (l.take i ++ l.drop j) ∧ w.grownBy w' (some g) := by
  refine (Delete_range g l.length cap i j 0 ok (l.map uCells) w (raw_of_units hR) hi hj).mono ?_
  rintro e w' ⟨rfl, h1, h2⟩
  refine ⟨rfl, R_only (ok := ok) (units_of_raw ?_), h2⟩
  have hcat : (l.map uCells).take i ++ (l.map uCells).drop j = (l.take i ++ l.drop j).map uCells := by simp [List.map_take, List.map_drop]
  rw [← hcat]
  exact h1
def AF.erased (f : AF) (u : ByteArray) (i : Nat) : AF := { f with F := f.F.noted u, units := if i = 0 then [z29] else f.units.take i ++ f.units.drop (endOf f.units i) }
set_option maxRecDepth 100000 in
set_option maxHeartbeats 2000000 in
theorem Erase_root (sp : Value) (u n : ByteArray) (fb rc ub : Nat) (f : AF) (A : Option Addr) (uv : Value) (DU : DataW Unit) (ok : Nat → Prop) (W : World) (HU : UnitOk W sp u n 0 16 fb 0) (P : FileParts W ok fb f A rc uv ub DU) :
    Calls Tryz.prog 36 #[sp, .string u, .string n, .int .i64 0] W (UnitsEnd W ok fb rc ub (f.erased u 0) A DU) := by
  have CU := Aside0.mk (HU W (Below.refl _ _))
  obtain ⟨Av, cv, rfl⟩ := Kd.R_slice P.units
  have HP := Aside0.mk P
  clear HU P
  go_enter Tryz.func36, Tryz.ntmps36
  go_wp2_with fail
  refine CU.out.mono ?_
  rintro e w2 ⟨rfl, hb2⟩
  have P2 := HP.out.below hb2
  have hb3 : Below W.heap.size W (w2.alloc (.cells #[.string ⟨#[]⟩, .string ⟨#[]⟩, .int .i64 0] 29)) := hb2.alloc hb2.size _
  have c8 : (w2.alloc (.cells #[.string ⟨#[]⟩, .string ⟨#[]⟩, .int .i64 0] 29)).cell? ⟨fb, 8, none⟩ = some (.slice Av f.units.length cv) := Lib.cell?_alloc_some _ ((blk_cell P2.F 8).trans rfl)
  have f8 : (w2.alloc (.cells #[.string ⟨#[]⟩, .string ⟨#[]⟩, .int .i64 0] 29)).frozen? ⟨fb, 8, none⟩ = false := blk_frozen (P2.below ((Below.refl _ _).alloc (Nat.le_refl _) _)).F 8
  have hrow : Kd.R k29 29 (w2.alloc (.cells #[.string ⟨#[]⟩, .string ⟨#[]⟩, .int .i64 0] 29)) 0 (fun k => W.heap.size ≤ k) (.slice (some ⟨w2.heap.size, 0, none⟩) 1 1) [z29] := by
    refine R_of_uRow' ⟨rfl, .inr ⟨w2.heap.size, 1, #[.string ⟨#[]⟩, .string ⟨#[]⟩, .int .i64 0], rfl, Nat.zero_le _, heap_alloc_new w2 _, Nat.le_refl _, by decide, rfl, rfl⟩⟩ (fun k hk => by
      have : w2.heap.size = k := by simpa [Value.ownBlock] using hk
      have := hb2.size
      omega)
  have PN := HP.out.newUnits ((Chg.of_below hb3 (fun _ => False)).mono (fun _ h => h.elim)) hrow (fun k hk => .inr hk)
  have CG := Aside0.mk (changed_c fb ub f.F _ _ u _ PN.1.F)
  have HPN := Aside0.mk PN
  clear PN P2 hb2 hb3 hrow HP
  go_wp2_with first | (go_at_call 73; refine CG.out.mono ?_; rintro e w14 ⟨rfl, rfl⟩)
  go_ret
  have h14 := HPN.out.1.noted u
  exact ⟨rfl, _, h14.1, HPN.out.2.trans h14.2 (fun k hk => hk)⟩
set_option maxRecDepth 100000 in
set_option maxHeartbeats 2000000 in
theorem Erase_ok (sp : Value) (u n : ByteArray) (i fb rc ub : Nat) (f : AF) (A : Option Addr) (uv : Value) (DU : DataW Unit) (ok : Nat → Prop) (W : World) (HU : UnitOk W sp u n (i : Int) 16 fb 0) (P : FileParts W ok fb f A rc uv ub DU)
    (h0 : 0 < i) (hi : i < f.units.length) (hl : f.units.length ≤ 1000) :
    Calls Tryz.prog 36 #[sp, .string u, .string n, .int .i64 (i : Int)] W (UnitsEnd W ok fb rc ub (f.erased u i) A DU) := by
  have CU := Aside0.mk (HU W (Below.refl _ _))
  have HPW := Aside0.mk P
  have hi0 : ((i : Int) == 0) = false := by simp; omega
  have hi00 : ¬ (i = 0) := by omega
  have HE := Aside0.mk (show f.erased u i = { f with F := f.F.noted u, units := f.units.take i ++ f.units.drop (endOf f.units i) } by unfold AF.erased; rw [if_neg hi00])
  clear HU P
  go_enter Tryz.func36, Tryz.ntmps36
  go_wp2_with fail
  refine CU.out.mono ?_
  rintro e w2 ⟨rfl, hb2⟩
  have HB2 := Aside0.mk hb2
  obtain ⟨g, cu, huv, hlc, hcm⟩ := units_slice (HPW.out.below hb2).units (by omega)
  subst huv
  clear hb2
  have hz8 : w2.cell? ⟨fb, 8, none⟩ = some (.slice (some ⟨g, 0, none⟩) f.units.length cu) := (blk_cell (HPW.out.below HB2.out).F 8).trans rfl
  obtain ⟨he1, he2⟩ := endOf_le hi
  replace he1 : i < endOf f.units i := he1
  go_wp2_with fail
  refine start_ (n := 16) (S := fun w' => w'.cell? ⟨fb, 8, none⟩ = some (.slice (some ⟨g, 0, none⟩) f.units.length cu)) (ds := [12, 15]) #[false, false, false, false, false, false, false, false, false, false, false, false, false, false, false, false] (by kernel_rfl) rfl rfl (hz8) (fun hHeld => ?_)
  refine with_tabW Era.tab8 Era.bits8 (fun HT_ HW_ => ?_)
  have HWD := Aside0.mk (show Below W.heap.size W w2.drew from HB2.out.drew)
  generalize w2.drew = wd at HWD hHeld ⊢
  refine pure_ (i := 0) (N := some 34) (v := ?_) (a' := ?_) #[true, false, false, false, false, false, false, false, false, false, false, false, false, false, false, false] rfl rfl (any_of HT_.out (by kernel_rfl)) (fun _ _ _ h => h) (Or.inl ⟨by rfl, ?_⟩) ?_ ?_
  rotate_left
  · intro w'
    go_simp
    with_reducible rfl
  rotate_left
  · simp only [Act.put, List.setIfInBounds_toArray, List.set_cons_zero, List.set_cons_succ, i64_w, i32_w]
    rfl
  refine pure_ (i := 1) (N := some 35) (v := ?_) (a' := ?_) #[true, true, false, false, false, false, false, false, false, false, false, false, false, false, false, false] rfl rfl (any_of HT_.out (by kernel_rfl)) (fun _ _ _ h => h) (Or.inl ⟨by rfl, ?_⟩) ?_ ?_
  rotate_left
  · intro w'
    go_simp
    with_reducible rfl
  rotate_left
  · simp only [Act.put, List.setIfInBounds_toArray, List.set_cons_zero, List.set_cons_succ, i64_w, i32_w]
    rfl
  refine pure_ (i := 2) (N := some 36) (v := ?_) (a' := ?_) #[true, true, true, false, false, false, false, false, false, false, false, false, false, false, false, false] rfl rfl (any_of HT_.out (by kernel_rfl)) (fun _ _ _ h => h) (Or.inl ⟨by rfl, ?_⟩) ?_ ?_
  rotate_left
  · intro w'
    go_simp
    with_reducible rfl
  rotate_left
  · simp only [Act.put, List.setIfInBounds_toArray, List.set_cons_zero, List.set_cons_succ, i64_w, i32_w]
    rfl
  refine pure_ (i := 3) (N := some 37) (v := ?_) (a' := ?_) #[true, true, true, true, false, false, false, false, false, false, false, false, false, false, false, false] rfl rfl (any_of HT_.out (by kernel_rfl)) (fun _ _ _ h => h) (Or.inl ⟨by rfl, ?_⟩) ?_ ?_
  rotate_left
  · intro w'
    go_simp
    with_reducible rfl
  rotate_left
  · simp only [Act.put, List.setIfInBounds_toArray, List.set_cons_zero, List.set_cons_succ, i64_w, i32_w]
    rfl
  refine pure_ (i := 5) (N := some 39) (v := ?_) (a' := ?_) #[true, true, true, true, false, true, false, false, false, false, false, false, false, false, false, false] rfl rfl (any_of HT_.out (by kernel_rfl)) (fun _ _ _ h => h) (Or.inl ⟨by rfl, ?_⟩) ?_ ?_
  rotate_left
  · intro w'
    go_simp
    with_reducible rfl
  rotate_left
  · simp only [Act.put, List.setIfInBounds_toArray, List.set_cons_zero, List.set_cons_succ, i64_w, i32_w]
    rfl
  refine pure_ (i := 6) (N := some 40) (v := ?_) (a' := ?_) #[true, true, true, true, false, true, true, false, false, false, false, false, false, false, false, false] rfl rfl (any_of HT_.out (by kernel_rfl)) (fun _ _ _ h => h) (Or.inl ⟨by rfl, ?_⟩) ?_ ?_
  rotate_left
  · intro w'
    go_simp
    with_reducible rfl
  rotate_left
  · simp only [Act.put, List.setIfInBounds_toArray, List.set_cons_zero, List.set_cons_succ, i64_w, i32_w]
    rfl
  refine pure_ (i := 7) (N := some 41) (v := ?_) (a' := ?_) #[true, true, true, true, false, true, true, true, false, false, false, false, false, false, false, false] rfl rfl (any_of HT_.out (by kernel_rfl)) (fun _ _ _ h => h) (Or.inl ⟨by rfl, ?_⟩) ?_ ?_
  rotate_left
  · intro w'
    go_simp
    with_reducible rfl
  rotate_left
  · simp only [Act.put, List.setIfInBounds_toArray, List.set_cons_zero, List.set_cons_succ, i64_w, i32_w]
    rfl
  refine pure_ (i := 8) (N := some 42) (v := ?_) (a' := ?_) #[true, true, true, true, false, true, true, true, true, false, false, false, false, false, false, false] rfl rfl (any_of HT_.out (by kernel_rfl)) (fun _ _ _ h => h) (Or.inl ⟨by rfl, ?_⟩) ?_ ?_
  rotate_left
  · intro w'
    go_simp
    with_reducible rfl
  rotate_left
  · simp only [Act.put, List.setIfInBounds_toArray, List.set_cons_zero, List.set_cons_succ, i64_w, i32_w]
    rfl
  refine pure_ (i := 10) (N := some 44) (v := ?_) (a' := ?_) #[true, true, true, true, false, true, true, true, true, false, true, false, false, false, false, false] rfl rfl (any_of HT_.out (by kernel_rfl)) (fun _ _ _ h => h) (Or.inl ⟨by rfl, ?_⟩) ?_ ?_
  rotate_left
  · intro w'
    go_simp
    with_reducible rfl
  rotate_left
  · simp only [Act.put, List.setIfInBounds_toArray, List.set_cons_zero, List.set_cons_succ, i64_w, i32_w]
    rfl
  refine take_ (i := 4) (N := some 38) (v := ?_) (a' := ?_) #[true, true, true, true, true, true, true, true, true, false, true, false, false, false, false, false] rfl rfl (take_ofW HT_.out HW_.out (by kernel_rfl)) (fun _ _ _ h => h) (Or.inl ⟨by rfl, ?_⟩) hHeld ?_ ?_
  rotate_left
  · intro w' s0
    go_simp
    with_reducible rfl
  rotate_left
  · simp only [Act.put, List.setIfInBounds_toArray, List.set_cons_zero, List.set_cons_succ, i64_w, i32_w]
    rfl
  refine take_ (i := 9) (N := some 43) (v := ?_) (a' := ?_) #[true, true, true, true, true, true, true, true, true, true, true, false, false, false, false, false] rfl rfl (take_ofW HT_.out HW_.out (by kernel_rfl)) (fun _ _ _ h => h) (Or.inl ⟨by rfl, ?_⟩) hHeld ?_ ?_
  rotate_left
  · intro w' s0
    go_simp
    with_reducible rfl
  rotate_left
  · simp only [Act.put, List.setIfInBounds_toArray, List.set_cons_zero, List.set_cons_succ, i64_w, i32_w]
    rfl
  refine one_ (i := 11) (N := some 45) #[true, true, true, true, true, true, true, true, true, true, true, true, false, false, false, false] rfl rfl (one_of HT_.out (by kernel_rfl)) (by decide) (fun K hK => ?_)
  refine goes_ Tryz.func70 (by kernel_rfl) rfl #[.slice (some ⟨g, 0, none⟩) f.units.length cu, .int .i64 (i : Int)] (by rfl) rfl rfl (by (try simp only [List.map_toArray, List.map_cons, List.map_nil]); first | done | rfl | (simp only []; rfl)) ?_
  with_reducible refine (beyond_c (some ⟨g, 0, none⟩) cu i f.units _ (Kd.R_reads' (HPW.out.below HWD.out).units).2.2 hlc hi).mono ?_
  rintro e w10 ⟨rfl, hd10⟩
  have HB10 := Aside0.mk hd10.below
  have HB12 := Aside0.mk (HWD.out.trans (HB10.out.mono HWD.out.size))
  clear hd10
  refine ⟨_, rfl, ?_⟩
  refine hK.out _ _ (pw_cell_below HB10.out hHeld) (fun hHeld => ?_)
  clear hK K
  refine norm_ (a' := ?_) ?_ ?_
  rotate_left
  · show Act.put _ (some 45) _ = _
    simp only [Act.put, List.setIfInBounds_toArray, List.set_cons_zero, List.set_cons_succ, i64_w, i32_w]
    rfl
  refine last_ (i := 12) (N := some 46) #[true, true, true, true, true, true, true, true, true, true, true, true, true, false, false, false] rfl rfl (one_of HT_.out (by kernel_rfl)) (by decide) (fun K hK => ?_)
  refine goes_ Tryz.func77 (by kernel_rfl) rfl #[.slice (some ⟨g, 0, none⟩) f.units.length cu, .int .i64 (i : Int), .int .i64 (endOf f.units i : Int)] (by rfl) rfl rfl (by (try simp only [List.map_toArray, List.map_cons, List.map_nil]); first | done | rfl | (simp only []; rfl)) ?_
  with_reducible refine (Del_units g cu i (endOf f.units i) ok f.units _ (HPW.out.below HB12.out).units he1 he2).mono ?_
  rintro e w13 ⟨rfl, hr13, hg13⟩
  have P12 := HPW.out.below HB12.out
  have hfg : some fb ≠ some g := fun e_ => by injection e_ with e_; subst e_; obtain ⟨cells_, hcc_⟩ := own_typed (uRow_of_R P12.units) fb rfl; rw [P12.F] at hcc_; cases hcc_
  have F13 : FileAt w13 fb f.F (.slice A f.rules.length rc) (.slice (some ⟨g, 0, none⟩) f.units.length cu) ub := (hg13.block fb (blk_lt P12.F) hfg).trans P12.F
  have d8 : w13.cell? ⟨fb, 8, none⟩ = some (.slice (some ⟨g, 0, none⟩) f.units.length cu) := (blk_cell F13 8).trans rfl
  have f8 := blk_frozen F13 8
  have HR13 := Aside0.mk hr13
  have HG13 := Aside0.mk hg13
  have HF13 := Aside0.mk F13
  clear hr13 hg13 F13 P12 hfg
  refine ⟨_, rfl, ?_⟩
  refine hK.out _ _ ?_
  clear hK K
  refine norm_ (a' := ?_) ?_ ?_
  rotate_left
  · show Act.put _ (some 46) _ = _
    simp only [Act.put, List.setIfInBounds_toArray, List.set_cons_zero, List.set_cons_succ, i64_w, i32_w]
    rfl
  refine pure_ (i := 13) (N := some 47) (v := ?_) (a' := ?_) #[true, true, true, true, true, true, true, true, true, true, true, true, true, true, false, false] rfl rfl (any_of HT_.out (by kernel_rfl)) (fun _ _ _ h => h) (Or.inl ⟨by rfl, ?_⟩) ?_ ?_
  rotate_left
  · intro w'
    go_simp
    with_reducible rfl
  rotate_left
  · simp only [Act.put, List.setIfInBounds_toArray, List.set_cons_zero, List.set_cons_succ, i64_w, i32_w]
    rfl
  refine pure_ (i := 14) (N := some 48) (v := ?_) (a' := ?_) #[true, true, true, true, true, true, true, true, true, true, true, true, true, true, true, false] rfl rfl (any_of HT_.out (by kernel_rfl)) (fun _ _ _ h => h) (Or.inl ⟨by rfl, ?_⟩) ?_ ?_
  rotate_left
  · intro w'
    go_simp
    with_reducible rfl
  rotate_left
  · simp only [Act.put, List.setIfInBounds_toArray, List.set_cons_zero, List.set_cons_succ, i64_w, i32_w]
    rfl
  refine last_ (i := 15) (N := none) #[true, true, true, true, true, true, true, true, true, true, true, true, true, true, true, true] rfl rfl (one_of HT_.out (by kernel_rfl)) (by decide) (fun K hK => ?_)
  refine skip_ (w1 := ?_) (by rfl) rfl ?_ ?_
  rotate_left
  · go_simp
    rfl
  refine hK.out _ _ ?_
  clear hK K
  refine done_ (done_of HT_.out (by kernel_rfl)) ?_
  go_wp2_with fail
  have PN := HPW.out.newUnits (((Chg.of_below HB12.out (fun _ => False)).mono (fun _ h => h.elim)).trans (Chg.of_grown HG13.out (fun k e => e)) (fun k e => .inl e)) HR13.out (fun k hk => by
    subst hk
    exact .inl (HPW.out.units.1 k rfl))
  have CG := Aside0.mk (changed_c fb ub f.F _ _ u _ PN.1.F)
  have HPN := Aside0.mk PN
  clear PN
  refine CG.out.mono ?_
  rintro e w14 ⟨rfl, rfl⟩
  go_wp2
  go_ret
  have h14 := HPN.out.1.noted u
  refine ⟨rfl, .slice (some ⟨g, 0, none⟩) (f.units.length - (endOf f.units i - i)) cu, ?_, HPN.out.2.trans h14.2 (fun k hk => hk)⟩
  rw [HE.out]
  exact h14.1
end Go.Proofs.YtehlmkgldcfciaaGreat.Files
/- The file store: what Create refuses; Delete as a step of the store. -/
set_option linter.unusedVariables false
set_option linter.unusedSimpArgs false
namespace Go.Proofs.YtehlmkgldcfciaaGreat.Files
open Go.Proofs.YtehlmkgldcfciaaGreat.Common Go.Maps Go.ChangeMaps Go.WideMaps Go.Proofs.YtehlmkgldcfciaaGreat.F
open Go.RowKit Go.Proofs.YtehlmkgldcfciaaGreatW.PrintWords Go.Proofs.YtehlmkgldcfciaaGreatW.PrintLast Go.Proofs.YtehlmkgldcfciaaGreatW.PrintMore
def createB (u n : ByteArray) (kind perm : Int) : Bool := userB u && nameB n && decide (0 ≤ kind) && decide (kind ≤ 2) && setB perm
theorem createB_parts {u n : ByteArray} {kind perm : Int} (h : createB u n kind perm = true) : userB u = true ∧ nameB n = true ∧ (0 ≤ kind ∧ kind ≤ 2) ∧ setB perm = true := by
  unfold createB at h
  simp only [Bool.and_eq_true, decide_eq_true_eq] at h
  exact ⟨h.1.1.1.1, h.1.1.1.2, ⟨h.1.1.2, h.1.2⟩, h.2⟩
set_option maxHeartbeats 2000000 in
theorem Create_arg (sb mb : Nat) (u n : ByteArray) (kind perm : Int) (W : World) (c0 : W.cell? ⟨sb, 0, none⟩ = some (.map (some mb))) (h : createB u n kind perm = false) :
    Calls Tryz.prog 16 #[.pointer (some ⟨sb, 0, none⟩), .string u, .string n, .int .i64 kind, .int .i64 perm] W fun e w' => e = .returned (.int .i64 1) ∧ Below W.heap.size W w' := by
  have CU := Aside0.mk (user_c u W)
  have CN := Aside0.mk (name_c n W)
  have CP := Aside0.mk (set_c perm W)
  have CL := Aside0.mk (no_live sb mb W c0)
  rw [show (decide (1 ≤ u.size) && decide (u.size ≤ 20)) = userB u from rfl] at CU
  rw [show (decide (1 ≤ n.size) && decide (n.size ≤ 30)) = nameB n from rfl] at CN
  rw [show (decide (0 ≤ perm) && decide (perm ≤ 255)) = setB perm from rfl] at CP
  unfold createB at h
  clear c0
  cases h1 : userB u with
  | false =>
    rw [h1] at CU
    clear h h1
    go_enter Tryz.func16, Tryz.ntmps16
    go_wp2_with first | (go_at_call 44; refine CL.out.mono ?_; rintro e w' ⟨rfl, rfl⟩) | (go_at_call 53; refine CU.out.mono ?_; rintro e w' ⟨rfl, rfl⟩)
    go_ret
    exact ⟨rfl, Below.refl _ _⟩
  | true =>
    rw [h1] at CU h
    clear h1
    cases h2 : nameB n with
    | false =>
      rw [h2] at CN
      clear h h2
      go_enter Tryz.func16, Tryz.ntmps16
      go_wp2_with first | (go_at_call 44; refine CL.out.mono ?_; rintro e w' ⟨rfl, rfl⟩) | (go_at_call 53; refine CU.out.mono ?_; rintro e w' ⟨rfl, rfl⟩) | (go_at_call 54; refine CN.out.mono ?_; rintro e w' ⟨rfl, rfl⟩)
      go_ret
      exact ⟨rfl, Below.refl _ _⟩
    | true =>
      rw [h2] at CN h
      clear h2
      by_cases h3 : kind < 0
      · have g3 : decide (kind < 0) = true := decide_eq_true h3
        clear h h3
        go_enter Tryz.func16, Tryz.ntmps16
        go_wp2_with first | (go_at_call 44; refine CL.out.mono ?_; rintro e w' ⟨rfl, rfl⟩) | (go_at_call 53; refine CU.out.mono ?_; rintro e w' ⟨rfl, rfl⟩) | (go_at_call 54; refine CN.out.mono ?_; rintro e w' ⟨rfl, rfl⟩)
        go_ret
        exact ⟨rfl, Below.refl _ _⟩
      · have g3 : decide (kind < 0) = false := decide_eq_false h3
        by_cases h4 : 2 < kind
        · have g4 : decide (2 < kind) = true := decide_eq_true h4
          clear h h3 h4
          go_enter Tryz.func16, Tryz.ntmps16
          go_wp2_with first | (go_at_call 44; refine CL.out.mono ?_; rintro e w' ⟨rfl, rfl⟩) | (go_at_call 53; refine CU.out.mono ?_; rintro e w' ⟨rfl, rfl⟩) | (go_at_call 54; refine CN.out.mono ?_; rintro e w' ⟨rfl, rfl⟩)
          go_ret
          exact ⟨rfl, Below.refl _ _⟩
        · have g4 : decide (2 < kind) = false := decide_eq_false h4
          have h5 : setB perm = false := by
            rw [decide_eq_true (show 0 ≤ kind by omega), decide_eq_true (show kind ≤ 2 by omega)] at h
            simpa using h
          rw [h5] at CP
          clear h h3 h4 h5
          go_enter Tryz.func16, Tryz.ntmps16
          go_wp2_with first | (go_at_call 44; refine CL.out.mono ?_; rintro e w' ⟨rfl, rfl⟩) | (go_at_call 53; refine CU.out.mono ?_; rintro e w' ⟨rfl, rfl⟩) | (go_at_call 54; refine CN.out.mono ?_; rintro e w' ⟨rfl, rfl⟩) | (go_at_call 55; refine CP.out.mono ?_; rintro e w' ⟨rfl, rfl⟩)
          go_ret
          exact ⟨rfl, Below.refl _ _⟩
set_option maxHeartbeats 2000000 in
theorem Create_dup (sb mb k fb : Nat) (D : DataW Unit) (u n : ByteArray) (kind perm : Int) (W : World) (c0 : W.cell? ⟨sb, 0, none⟩ = some (.map (some mb))) (hown : W.ownsMap Tryz.prog 9 Rp mb k D) (h : createB u n kind perm = true) (hD : D.atKey (.string n.data.toList) .nil = .lit (.int .i64 (fb : Nat))) :
    Calls Tryz.prog 16 #[.pointer (some ⟨sb, 0, none⟩), .string u, .string n, .int .i64 kind, .int .i64 perm] W fun e w' => e = .returned (.int .i64 7) ∧ Below W.heap.size W w' := by
  obtain ⟨h1, h2, h3, h5⟩ := createB_parts h
  have hns : n.size ≤ 30 := by unfold nameB at h2; simp only [Bool.and_eq_true, decide_eq_true_eq] at h2; exact h2.2
  have hkey := key_of hns
  obtain ⟨v, ps, hrun, hv⟩ := hown.lookup law9 Tryz.underlying41 (zeroP _) (zd := .nil) (zp := []) rfl hkey
  rw [hD] at hv
  obtain rfl := Rp_at hv
  have CU := Aside0.mk (user_c u W)
  have CN := Aside0.mk (name_c n W)
  have CP := Aside0.mk (set_c perm W)
  have CL := Aside0.mk (no_live sb mb W c0)
  rw [show (decide (1 ≤ u.size) && decide (u.size ≤ 20)) = true from h1] at CU
  rw [show (decide (1 ≤ n.size) && decide (n.size ≤ 30)) = true from h2] at CN
  rw [show (decide (0 ≤ perm) && decide (perm ≤ 255)) = true from h5] at CP
  have g3 : decide (kind < 0) = false := decide_eq_false (by omega)
  have g4 : decide (2 < kind) = false := decide_eq_false (by omega)
  clear h h1 h2 h3 h5 hown hD hv hns
  go_enter Tryz.func16, Tryz.ntmps16
  go_wp2_with first | (go_at_call 44; refine CL.out.mono ?_; rintro e w' ⟨rfl, rfl⟩) | (go_at_call 53; refine CU.out.mono ?_; rintro e w' ⟨rfl, rfl⟩) | (go_at_call 54; refine CN.out.mono ?_; rintro e w' ⟨rfl, rfl⟩) | (go_at_call 55; refine CP.out.mono ?_; rintro e w' ⟨rfl, rfl⟩)
  go_ret
  exact ⟨rfl, Below.refl _ _⟩
set_option maxHeartbeats 2000000 in
theorem Create_full (sb mb : Nat) (D : DataW Unit) (u n : ByteArray) (kind perm : Int) (W : World) (c0 : W.cell? ⟨sb, 0, none⟩ = some (.map (some mb))) (hown : W.ownsMap Tryz.prog 9 Rp mb (Maps.size D) D) (h : createB u n kind perm = true) (hD : D.atKey (.string n.data.toList) .nil = .nil) (hs : 30 ≤ Maps.size D) :
    Calls Tryz.prog 16 #[.pointer (some ⟨sb, 0, none⟩), .string u, .string n, .int .i64 kind, .int .i64 perm] W fun e w' => e = .returned (.int .i64 9) ∧ Below W.heap.size W w' := by
  obtain ⟨h1, h2, h3, h5⟩ := createB_parts h
  have hns : n.size ≤ 30 := by unfold nameB at h2; simp only [Bool.and_eq_true, decide_eq_true_eq] at h2; exact h2.2
  have hkey := key_of hns
  obtain ⟨v, ps, hrun, hv⟩ := hown.lookup law9 Tryz.underlying41 (zeroP _) (zd := .nil) (zp := []) rfl hkey
  rw [hD] at hv
  obtain rfl := Rp_nil hv
  have hlen := fun ty => hown.len Tryz.underlying41 ty
  have hs1 : decide (30 ≤ Maps.size D) = true := decide_eq_true (by omega)
  have hs2 : decide ((30 : Int) ≤ (Maps.size D : Int)) = true := decide_eq_true (by omega)
  have hs3 : (30 : Int) ≤ (Maps.size D : Int) := by omega
  have CU := Aside0.mk (user_c u W)
  have CN := Aside0.mk (name_c n W)
  have CP := Aside0.mk (set_c perm W)
  have CL := Aside0.mk (no_live sb mb W c0)
  rw [show (decide (1 ≤ u.size) && decide (u.size ≤ 20)) = true from h1] at CU
  rw [show (decide (1 ≤ n.size) && decide (n.size ≤ 30)) = true from h2] at CN
  rw [show (decide (0 ≤ perm) && decide (perm ≤ 255)) = true from h5] at CP
  have g3 : decide (kind < 0) = false := decide_eq_false (by omega)
  have g4 : decide (2 < kind) = false := decide_eq_false (by omega)
  clear h h1 h2 h3 h5 hown hD hv hns
  go_enter Tryz.func16, Tryz.ntmps16
  go_wp2_with first | (go_at_call 44; refine CL.out.mono ?_; rintro e w' ⟨rfl, rfl⟩) | (go_at_call 53; refine CU.out.mono ?_; rintro e w' ⟨rfl, rfl⟩) | (go_at_call 54; refine CN.out.mono ?_; rintro e w' ⟨rfl, rfl⟩) | (go_at_call 55; refine CP.out.mono ?_; rintro e w' ⟨rfl, rfl⟩)
  go_ret
  exact ⟨rfl, Below.refl _ _⟩
theorem filesL_drop (L : List (Nat × AF)) (n : ByteArray) : (L.filter fun p => !decide (p.2.F.name = n)).map (fun p => (p.2.key, (DataW.lit (.int .i64 (p.1 : Int)) : DataW Unit))) = drop_ (L.map fun p => (p.2.key, .lit (.int .i64 p.1))) n.data.toList := by
  induction L with
  | nil => rfl
  | cons p l ih =>
    unfold drop_ at *
    rw [List.filter_cons, List.map_cons, List.filter_cons]
    by_cases h : p.2.F.name = n
    · have h2 : p.2.key = n.data.toList := by rw [← h]; rfl
      rw [if_neg (by simp [h]), if_neg (by simp [h2])]
      exact ih
    · have h2 : ¬ p.2.key = n.data.toList := fun e => h (data_inj e)
      rw [if_pos (by simp [h]), if_pos (by simp [h2]), List.map_cons, ih]
theorem S_Delete_ok (sb fb k : Nat) (ok : Nat → Prop) (L : List (Nat × AF)) (f : AF) (u n : ByteArray) (W : World) (hR : StoreRep W ok sb L) (hk : L[k]? = some (fb, f)) (hnm : f.F.name = n)
    (hu : 1 ≤ u.size ∧ u.size ≤ 20) (hn : 1 ≤ n.size ∧ n.size ≤ 30) (hl : f.users = []) (hmay : mayB f.F f.rules u 128 = true) :
    Calls Tryz.prog 18 #[.pointer (some ⟨sb, 0, none⟩), .string u, .string n] W (SOut W ok sb (.int .i64 0) ((L.map (·.2)).filter fun g => !decide (g.F.name = n))) := by
  obtain ⟨mb, D, own, R⟩ := hR
  obtain ⟨HF, A, rc, uv, ub, DU, P⟩ := R.way hk hnm hu hn
  refine (Delete_c sb mb fb u n W _ rc ub f A uv D DU R.S.cell R.M hn.2 HF P hl hmay).mono ?_
  rintro e w' ⟨rfl, W3, m, hb3, hM', hT⟩
  have hne : sb ≠ mb := fun e => by
    have h1 := R.S
    obtain ⟨es, clock, hb, _⟩ := R.M
    rw [← e] at hb
    exact absurd (h1.symm.trans hb) (by simp)
  have hcT : Chg W3 w' (fun q => q = mb) := Chg.of_turned hT rfl
  have hcW : Chg W w' (fun q => q = mb) := ((Chg.of_below hb3 (fun _ => False)).mono (fun _ h => h.elim)).trans hcT (fun q hq => .inl hq)
  have hkeys : ((L.map fun p => (p.2.key, (DataW.lit (.int .i64 (p.1 : Int)) : DataW Unit))).map (·.1)).Nodup := by rw [List.map_map]; exact R.names
  refine ⟨rfl, okP ok W w', L.filter fun p => !decide (p.2.F.name = n), ⟨mb, D.del (.string n.data.toList), own, ?_⟩, by rw [List.filter_map]; rfl, hcW.mono (fun q hq => by rw [hq]; exact R.okm), fun q hq => hq.1⟩
  have hlt : ∀ q, ok q → q < w'.heap.size := fun q hq => Nat.lt_of_lt_of_le (R.lt q hq) hcW.size
  refine ⟨⟨.inl R.oks, hlt _ R.oks⟩, ⟨.inl R.okm, hlt _ R.okm⟩, (hcW.block sb R.S.lt hne).trans R.S, ownsMap_tight hM', ?_, ?_, ?_, fun q hq => hq.2, ?_, ?_⟩
  · rw [filesL_drop]
    exact R.mM.del hkeys _
  · intro p hp
    have hp' := (List.mem_filter.1 hp).1
    refine ((R.files p hp').step hcW (fun q hq e => (R.ownm p hp').1 (by rw [← e]; exact hq.2))).mono (fun q hq => ⟨⟨.inl hq.1, hlt _ hq.1⟩, hq.2⟩)
  · exact fun p hp => R.ownm p (List.mem_filter.1 hp).1
  · exact R.fbs.sublist (List.Sublist.map _ List.filter_sublist)
  · exact R.names.sublist (List.Sublist.map _ List.filter_sublist)
end Go.Proofs.YtehlmkgldcfciaaGreat.Files
/- The file store: Insert's other endings. -/
set_option linter.unusedVariables false
set_option linter.unusedSimpArgs false
namespace Go.Proofs.YtehlmkgldcfciaaGreat.Files
open Go.Proofs.YtehlmkgldcfciaaGreat.Common Go.Maps Go.ChangeMaps Go.WideMaps Go.Proofs.YtehlmkgldcfciaaGreat.F
open Go.RowKit Go.Proofs.YtehlmkgldcfciaaGreatW.PrintWords Go.Proofs.YtehlmkgldcfciaaGreatW.PrintLast Go.Proofs.YtehlmkgldcfciaaGreatW.PrintMore
def insErr (cb : Bool) (dn : Int) : Int := if cb then 7 else if dn = 0 then 9 else 12
set_option maxRecDepth 100000 in
set_option maxHeartbeats 2000000 in
theorem Insert_bad (sp : Value) (u n : ByteArray) (i fb rc ub : Nat) (child : Bool) (a b : ByteArray) (lev0 dn : Int) (f : AF) (A : Option Addr) (uv : Value) (DU : DataW Unit) (ok : Nat → Prop) (W : World) (HU : UnitOk W sp u n (i : Int) 2 fb dn) (P : FileParts W ok fb f A rc uv ub DU)
    (hi : i < f.units.length) (hl : f.units.length ≤ 1000) (h1 : a.size ≤ 30) (h2 : b.size ≤ 400) (hlv : ∀ j, 0 ≤ lv f.units j ∧ lv f.units j ≤ 1000) (hroot : lv f.units 0 = 0) (hbad : insBad f.F.kind (insLev f.units i child) = true) :
    Calls Tryz.prog 30 #[sp, .string u, .string n, .int .i64 (i : Int), .bool child, .agg #[.string a, .string b, .int .i64 lev0]] W fun e w' => e = .returned (.int .i64 1) ∧ Below W.heap.size W w' := by
  have hb0 : Below W.heap.size W (W.alloc (.cells #[.string a, .string b, .int .i64 lev0] 29)) := (Below.refl _ _).alloc (Nat.le_refl _) _
  have CU := Aside0.mk (HU _ hb0)
  have HP := Aside0.mk (P.below hb0)
  have HB0 := Aside0.mk hb0
  have hfl := blk_lt P.F
  have g1 : decide ((30 : Int) < (a.size : Int)) = false := decide_eq_false (by omega)
  have g2 : decide ((400 : Int) < (b.size : Int)) = false := decide_eq_false (by omega)
  obtain ⟨g, cu, huv, hlc, hcm⟩ := units_slice P.units (by omega)
  subst huv
  have HPW := Aside0.mk P
  have hgl : g < W.heap.size := own_lt (uRow_of_R P.units) g rfl
  have HBX := Aside0.mk (show (W.alloc (.cells #[.string a, .string b, .int .i64 lev0] 29)).heap[W.heap.size]? = some (.cells #[.string a, .string b, .int .i64 lev0] 29 (0, 0)) from heap_alloc_new _ _)
  have HSZ := Aside0.mk (show (W.alloc (.cells #[.string a, .string b, .int .i64 lev0] 29)).heap.size = W.heap.size + 1 by simp)
  clear hb0 P HU
  have HLV := Aside0.mk hlv
  have hlvi := hlv i
  have hlev0 : 0 ≤ lv f.units i := hlvi.1
  have hlev1 : lv f.units i ≤ 1000 := hlvi.2
  clear hlv hlvi
  go_enter Tryz.func30, Tryz.ntmps30
  go_wp2_with fail
  refine CU.out.mono ?_
  rintro e w2 ⟨rfl, hb2⟩
  have P2 := HP.out.below hb2
  have hbx2 : w2.heap[W.heap.size]? = some (.cells #[.string a, .string b, .int .i64 lev0] 29 (0, 0)) := (hb2.block _ (by rw [HSZ.out]; exact Nat.lt_succ_self _)).trans HBX.out
  have c8 : w2.cell? ⟨fb, 8, none⟩ = some (.slice (some ⟨g, 0, none⟩) f.units.length cu) := (blk_cell P2.F 8).trans rfl
  have b2 : w2.cell? ⟨W.heap.size, 2, none⟩ = some (.int .i64 lev0) := (blk_cell hbx2 2).trans rfl
  have fb2 := blk_frozen hbx2 2
  have xa : w2.cell? ⟨g, i * 3 + 2, none⟩ = some (.int .i64 (lv f.units i)) := by
    obtain ⟨_, _, hC⟩ := Kd.R_reads' P2.units
    obtain ⟨ad, he, _, _, h3⟩ := at_T29 (xs := f.units) hC (i : Int) (by omega) (by omega)
    cases he
    rw [Int.toNat_natCast, add_plain] at h3
    exact h3
  have hiz : (i : Int) < (f.units.length : Int) := by omega
  have HB2 := Aside0.mk (show Below W.heap.size W w2 from HB0.out.trans (hb2.mono HB0.out.size))
  have HX2 := Aside0.mk hbx2
  obtain ⟨lev, hlev⟩ : ∃ lev, lev = insLev f.units i child := ⟨_, rfl⟩
  have HBAD := Lib.hid (show (lev = 0) ∨ (lev ≠ 0 ∧ f.F.kind < 2 ∧ f.F.kind < lev) by
    unfold insBad at hbad
    rw [← hlev] at hbad
    simp only [Bool.or_eq_true, Bool.and_eq_true, decide_eq_true_eq] at hbad
    by_cases h : lev = 0
    · exact .inl h
    · exact .inr ⟨h, hbad.elim (fun e => absurd e h) (fun e => e)⟩)
  have HLE := Lib.hid hlev
  have HFP := Aside0.mk (HP.out.below hb2)
  have hlev1000 : lev ≤ 1001 := by rw [hlev]; unfold insLev; split <;> omega
  clear hbad hlev hb2 hbx2 P2 CU HBX
  cases child
  all_goals
    go_wp2_with fail
    first
    | (obtain ⟨w3, hw3⟩ : ∃ w3, w3 = (w2.setCell ⟨W.heap.size, 2, none⟩ (.int .i64 (lv f.units i))).setCell ⟨W.heap.size, 2, none⟩ (.int .i64 (lv f.units i + 1)) := ⟨_, rfl⟩
       rw [← hw3]
       have HX3 : Aside0 (w3.heap[W.heap.size]? = some (.cells #[.string a, .string b, .int .i64 lev] 29 (0, 0))) := ⟨by rw [hw3, HLE.out]; exact (blk_set (blk_set HX2.out 2 _) 2 _)⟩
       have HB3 : Aside0 (Below W.heap.size W w3) := ⟨by rw [hw3]; exact (HB2.out.setCell (p := ⟨W.heap.size, 2, none⟩) (Nat.le_refl _) _).setCell (p := ⟨W.heap.size, 2, none⟩) (Nat.le_refl _) _⟩)
    | (obtain ⟨w3, hw3⟩ : ∃ w3, w3 = w2.setCell ⟨W.heap.size, 2, none⟩ (.int .i64 (lv f.units i)) := ⟨_, rfl⟩
       rw [← hw3]
       have HX3 : Aside0 (w3.heap[W.heap.size]? = some (.cells #[.string a, .string b, .int .i64 lev] 29 (0, 0))) := ⟨by rw [hw3, HLE.out, show insLev f.units i false = lv f.units i by simp [insLev]]; exact (blk_set HX2.out 2 _)⟩
       have HB3 : Aside0 (Below W.heap.size W w3) := ⟨by rw [hw3]; exact HB2.out.setCell (p := ⟨W.heap.size, 2, none⟩) (Nat.le_refl _) _⟩)
    clear b2 fb2 xa c8 HX2 HB2 HFP hw3
    have P3 := HPW.out.below HB3.out
    have c8 : w3.cell? ⟨fb, 8, none⟩ = some (.slice (some ⟨g, 0, none⟩) f.units.length cu) := (blk_cell P3.F 8).trans rfl
    have c1 : w3.cell? ⟨fb, 1, none⟩ = some (.int .i64 f.F.kind) := (blk_cell P3.F 1).trans rfl
    have b2 : w3.cell? ⟨W.heap.size, 2, none⟩ = some (.int .i64 lev) := (blk_cell HX3.out 2).trans rfl
    have HP3 := Aside0.mk P3
    clear P3
    rcases HBAD.out with rfl | ⟨hb1, hb2, hb3⟩
    · go_quiet (fail)
      go_wp2
      go_ret
      exact ⟨rfl, pw_below_drewN HB3.out _⟩
    · have hl0 : (lev == 0) = false := beq_eq_false_iff_ne.2 hb1
      have hk1 : decide (f.F.kind < 2) = true := decide_eq_true hb2
      have hk2 : decide (f.F.kind < lev) = true := decide_eq_true hb3
      clear hb1
      go_quiet (fail)
      go_wp2
      go_ret
      exact ⟨rfl, pw_below_drewN HB3.out _⟩
set_option maxRecDepth 100000 in
set_option maxHeartbeats 2000000 in
theorem Insert_rest (sp : Value) (u n : ByteArray) (i fb rc ub : Nat) (child : Bool) (a b : ByteArray) (lev0 dn E : Int) (f : AF) (A : Option Addr) (uv : Value) (DU : DataW Unit) (ok : Nat → Prop) (W : World) (HU : UnitOk W sp u n (i : Int) 2 fb dn) (P : FileParts W ok fb f A rc uv ub DU)
    (hi : i < f.units.length) (hl : f.units.length ≤ 1000) (h1 : a.size ≤ 30) (h2 : b.size ≤ 400) (hlv : ∀ j, 0 ≤ lv f.units j ∧ lv f.units j ≤ 1000) (hroot : lv f.units 0 = 0) (hbad : insBad f.F.kind (insLev f.units i child) = false)
    (cb : Bool) (hcl : clashB f.units (kids f.units (aboveOf f.units (insLev f.units i child) i)) a = cb) (hdn : dn = 0 ∨ dn = 12) (hsome : cb = true ∨ dn = 12 ∨ 100 ≤ f.units.length) (hE : E = insErr cb dn) :
    Calls Tryz.prog 30 #[sp, .string u, .string n, .int .i64 (i : Int), .bool child, .agg #[.string a, .string b, .int .i64 lev0]] W fun e w' => e = .returned (.int .i64 E) ∧ Below W.heap.size W w' := by
  have HE := Lib.hid hE
  have HDN := Lib.hid hdn
  have HSO := Lib.hid hsome
  clear hE hdn hsome
  have hb0 : Below W.heap.size W (W.alloc (.cells #[.string a, .string b, .int .i64 lev0] 29)) := (Below.refl _ _).alloc (Nat.le_refl _) _
  have CU := Aside0.mk (HU _ hb0)
  have HP := Aside0.mk (P.below hb0)
  have HB0 := Aside0.mk hb0
  have hfl := blk_lt P.F
  have g1 : decide ((30 : Int) < (a.size : Int)) = false := decide_eq_false (by omega)
  have g2 : decide ((400 : Int) < (b.size : Int)) = false := decide_eq_false (by omega)
  obtain ⟨g, cu, huv, hlc, hcm⟩ := units_slice P.units (by omega)
  subst huv
  have HPW := Aside0.mk P
  have hgl : g < W.heap.size := own_lt (uRow_of_R P.units) g rfl
  have HBX := Aside0.mk (show (W.alloc (.cells #[.string a, .string b, .int .i64 lev0] 29)).heap[W.heap.size]? = some (.cells #[.string a, .string b, .int .i64 lev0] 29 (0, 0)) from heap_alloc_new _ _)
  have HSZ := Aside0.mk (show (W.alloc (.cells #[.string a, .string b, .int .i64 lev0] 29)).heap.size = W.heap.size + 1 by simp)
  clear hb0 P HU
  have HLV := Aside0.mk hlv
  have hlvi := hlv i
  have hlev0 : 0 ≤ lv f.units i := hlvi.1
  have hlev1 : lv f.units i ≤ 1000 := hlvi.2
  clear hlv hlvi
  go_enter Tryz.func30, Tryz.ntmps30
  go_wp2_with fail
  refine CU.out.mono ?_
  rintro e w2 ⟨rfl, hb2⟩
  have P2 := HP.out.below hb2
  have hbx2 : w2.heap[W.heap.size]? = some (.cells #[.string a, .string b, .int .i64 lev0] 29 (0, 0)) := (hb2.block _ (by rw [HSZ.out]; exact Nat.lt_succ_self _)).trans HBX.out
  have c8 : w2.cell? ⟨fb, 8, none⟩ = some (.slice (some ⟨g, 0, none⟩) f.units.length cu) := (blk_cell P2.F 8).trans rfl
  have b2 : w2.cell? ⟨W.heap.size, 2, none⟩ = some (.int .i64 lev0) := (blk_cell hbx2 2).trans rfl
  have fb2 := blk_frozen hbx2 2
  have xa : w2.cell? ⟨g, i * 3 + 2, none⟩ = some (.int .i64 (lv f.units i)) := by
    obtain ⟨_, _, hC⟩ := Kd.R_reads' P2.units
    obtain ⟨ad, he, _, _, h3⟩ := at_T29 (xs := f.units) hC (i : Int) (by omega) (by omega)
    cases he
    rw [Int.toNat_natCast, add_plain] at h3
    exact h3
  have hiz : (i : Int) < (f.units.length : Int) := by omega
  have HB2 := Aside0.mk (show Below W.heap.size W w2 from HB0.out.trans (hb2.mono HB0.out.size))
  have HX2 := Aside0.mk hbx2
  obtain ⟨lev, hlev⟩ : ∃ lev, lev = insLev f.units i child := ⟨_, rfl⟩
  have hbad' := hbad
  unfold insBad at hbad'
  rw [← hlev] at hbad'
  simp only [Bool.or_eq_false_iff, Bool.and_eq_false_iff, decide_eq_false_iff_not] at hbad'
  have hpos : 0 < lev := by
    have h0 : 0 ≤ lev := by rw [hlev]; unfold insLev; split <;> omega
    omega
  have HK : Aside0 (f.F.kind < 2 → ¬ lev > f.F.kind) := ⟨fun h => by rcases hbad'.2 with h2 | h2 <;> omega⟩
  have HLE := Lib.hid hlev
  have HCL := Lib.hid hcl
  have HFP := Aside0.mk (HP.out.below hb2)
  have hlev1000 : lev ≤ 1001 := by rw [hlev]; unfold insLev; split <;> omega
  clear hbad hbad' hlev hcl hb2 hbx2 P2 CU HBX
  cases child
  all_goals
    go_wp2_with fail
    first
    | (obtain ⟨w3, hw3⟩ : ∃ w3, w3 = (w2.setCell ⟨W.heap.size, 2, none⟩ (.int .i64 (lv f.units i))).setCell ⟨W.heap.size, 2, none⟩ (.int .i64 (lv f.units i + 1)) := ⟨_, rfl⟩
       rw [← hw3]
       have HX3 : Aside0 (w3.heap[W.heap.size]? = some (.cells #[.string a, .string b, .int .i64 lev] 29 (0, 0))) := ⟨by rw [hw3, HLE.out]; exact (blk_set (blk_set HX2.out 2 _) 2 _)⟩
       have HB3 : Aside0 (Below W.heap.size W w3) := ⟨by rw [hw3]; exact (HB2.out.setCell (p := ⟨W.heap.size, 2, none⟩) (Nat.le_refl _) _).setCell (p := ⟨W.heap.size, 2, none⟩) (Nat.le_refl _) _⟩)
    | (obtain ⟨w3, hw3⟩ : ∃ w3, w3 = w2.setCell ⟨W.heap.size, 2, none⟩ (.int .i64 (lv f.units i)) := ⟨_, rfl⟩
       rw [← hw3]
       have HX3 : Aside0 (w3.heap[W.heap.size]? = some (.cells #[.string a, .string b, .int .i64 lev] 29 (0, 0))) := ⟨by rw [hw3, HLE.out, show insLev f.units i false = lv f.units i by simp [insLev]]; exact (blk_set HX2.out 2 _)⟩
       have HB3 : Aside0 (Below W.heap.size W w3) := ⟨by rw [hw3]; exact HB2.out.setCell (p := ⟨W.heap.size, 2, none⟩) (Nat.le_refl _) _⟩)
    clear b2 fb2 xa c8 HX2 HB2 HFP hw3
    have P3 := HPW.out.below HB3.out
    have c8 : w3.cell? ⟨fb, 8, none⟩ = some (.slice (some ⟨g, 0, none⟩) f.units.length cu) := (blk_cell P3.F 8).trans rfl
    have c1 : w3.cell? ⟨fb, 1, none⟩ = some (.int .i64 f.F.kind) := (blk_cell P3.F 1).trans rfl
    have b2 : w3.cell? ⟨W.heap.size, 2, none⟩ = some (.int .i64 lev) := (blk_cell HX3.out 2).trans rfl
    have hl0 : (lev == 0) = false := beq_eq_false_iff_ne.2 (by omega)
    have HP3 := Aside0.mk P3
    clear P3
    have hkk : (decide (f.F.kind < 2) = true ∧ decide (f.F.kind < lev) = false) ∨ decide (f.F.kind < 2) = false := by
      rcases Decidable.em (f.F.kind < 2) with hk | hk
      · exact .inl ⟨decide_eq_true hk, decide_eq_false (by have := HK.out hk; omega)⟩
      · exact .inr (decide_eq_false hk)
    rcases hkk with ⟨hk1, hk2⟩ | hk1
    all_goals
      go_quiet (fail)
      clear hk1
      go_wp2_with fail
  all_goals
    have HWV := Aside0.mk (fun j => show wrap64 (lv f.units j + 1) = lv f.units j + 1 by have := HLV.out j; unfold wrap64; omega)
    clear c8 c1 b2
    go_loopw [16] (fun s wr => ∃ j : Nat, j ≤ i ∧ s = .int .i64 j ∧ Aside0 (Below w3.heap.size w3 wr) ∧ Aside0 (aboveOf f.units lev j = aboveOf f.units lev i)) (fun s _ => (intOf s).toNat)
    case atStart => exact ⟨i, Nat.le_refl _, rfl, ⟨pw_below_drewN (Below.refl _ _) _⟩, ⟨rfl⟩⟩
    case round =>
      obtain ⟨j, hji, rfl, HBR, HJ⟩ := hrel
      have HB4 := Aside0.mk (show Below W.heap.size W wr from HB3.out.trans (HBR.out.mono HB3.out.size))
      have HX4 := Aside0.mk ((HBR.out.block _ (blk_lt HX3.out)).trans HX3.out)
      have P4 := HPW.out.below HB4.out
      have c8 : wr.cell? ⟨fb, 8, none⟩ = some (.slice (some ⟨g, 0, none⟩) f.units.length cu) := (blk_cell P4.F 8).trans rfl
      have b2 : wr.cell? ⟨W.heap.size, 2, none⟩ = some (.int .i64 lev) := (blk_cell HX4.out 2).trans rfl
      have hjl : j < f.units.length := by omega
      have xj : wr.cell? ⟨g, j * 3 + 2, none⟩ = some (.int .i64 (lv f.units j)) := by
        obtain ⟨_, _, hC⟩ := Kd.R_reads' P4.units
        obtain ⟨ad, he, _, _, h3⟩ := at_T29 (xs := f.units) hC (j : Int) (by omega) (by omega)
        cases he
        rw [Int.toNat_natCast, add_plain] at h3
        exact h3
      have hjz : (j : Int) < (f.units.length : Int) := by omega
      have hjz0 : decide ((j : Int) < 0) = false := decide_eq_false (by omega)
      clear P4
      by_cases hge : lev ≤ lv f.units j
      · have hg1 : decide (lev ≤ lv f.units j) = true := decide_eq_true hge
        obtain ⟨j, rfl⟩ : ∃ j2, j = j2 + 1 := ⟨j - 1, by
          have : j ≠ 0 := fun e => by rw [e, hroot] at hge; omega
          omega⟩
        have HA := Aside0.mk (show aboveOf f.units lev (j + 1) = aboveOf f.units lev j by show (if lv f.units (j + 1) ≥ lev then _ else _) = _; rw [if_pos hge])
        clear hge
        go_wp2_with fail
        go_quiet (fail)
        go_wp2_with fail
        go_roundw
        case rel => exact ⟨j, by omega, by go_num, ⟨pw_below_drewN HBR.out _⟩, ⟨by rw [← HA.out]; exact HJ.out⟩⟩
        case measure => simp [intOf]
      · have hg1 : decide (lev ≤ lv f.units j) = false := decide_eq_false hge
        have HA := Aside0.mk (show aboveOf f.units lev j = j by
          cases j with
          | zero => rfl
          | succ j => show (if lv f.units (j + 1) ≥ lev then _ else _) = _; rw [if_neg hge])
        replace HJ := Aside0.mk (show j = aboveOf f.units lev i from HA.out.symm.trans HJ.out)
        clear hge
        go_wp2_with fail
        go_quiet (fail)
        have HB5 := Aside0.mk (show Below W.heap.size W (wr.drewN nq) from pw_below_drewN HB4.out _)
        have HX5 := Aside0.mk (show (wr.drewN nq).heap[W.heap.size]? = _ from HX4.out)
        generalize wr.drewN nq = w5 at HB5 HX5 ⊢
        go_wp2_with fail
        clear c8 b2 xj
        have hz8 : w5.cell? ⟨fb, 8, none⟩ = some (.slice (some ⟨g, 0, none⟩) f.units.length cu) := (blk_cell (HPW.out.below HB5.out).F 8).trans rfl
        have hz0 : w5.cell? ⟨W.heap.size, 0, none⟩ = some (.string a) := (blk_cell HX5.out 0).trans rfl
        refine start_ (n := 14) (S := fun w' => w'.cell? ⟨fb, 8, none⟩ = some (.slice (some ⟨g, 0, none⟩) f.units.length cu) ∧ w'.cell? ⟨W.heap.size, 0, none⟩ = some (.string a)) (ds := [12]) #[false, false, false, false, false, false, false, false, false, false, false, false, false, false] (by kernel_rfl) rfl rfl ⟨hz8, hz0⟩ (fun hHeld => ?_)
        refine with_tabW Ins.tab14 Ins.bits14 (fun HT_ HW_ => ?_)
        have HWD := Aside0.mk (show Below W.heap.size W w5.drew from HB5.out.drew)
        have HBL := Aside0.mk (show W.heap.size < w5.drew.heap.size from blk_lt HX5.out)
        have HXD := Aside0.mk (show w5.drew.heap[W.heap.size]? = _ from HX5.out)
        generalize w5.drew = wd at HWD HBL HXD hHeld ⊢
        refine pure_ (i := 0) (N := some 89) (v := ?_) (a' := ?_) #[true, false, false, false, false, false, false, false, false, false, false, false, false, false] rfl rfl (any_of HT_.out (by kernel_rfl)) (fun _ _ _ h => h) (Or.inl ⟨by rfl, ?_⟩) ?_ ?_
        rotate_left
        · intro w'
          go_simp
          with_reducible rfl
        rotate_left
        · simp only [Act.put, List.setIfInBounds_toArray, List.set_cons_zero, List.set_cons_succ, i64_w, i32_w]
          rfl
        refine pure_ (i := 1) (N := some 90) (v := ?_) (a' := ?_) #[true, true, false, false, false, false, false, false, false, false, false, false, false, false] rfl rfl (any_of HT_.out (by kernel_rfl)) (fun _ _ _ h => h) (Or.inl ⟨by rfl, ?_⟩) ?_ ?_
        rotate_left
        · intro w'
          go_simp
          with_reducible rfl
        rotate_left
        · simp only [Act.put, List.setIfInBounds_toArray, List.set_cons_zero, List.set_cons_succ, i64_w, i32_w]
          rfl
        refine pure_ (i := 2) (N := some 91) (v := ?_) (a' := ?_) #[true, true, true, false, false, false, false, false, false, false, false, false, false, false] rfl rfl (any_of HT_.out (by kernel_rfl)) (fun _ _ _ h => h) (Or.inl ⟨by rfl, ?_⟩) ?_ ?_
        rotate_left
        · intro w'
          go_simp
          with_reducible rfl
        rotate_left
        · simp only [Act.put, List.setIfInBounds_toArray, List.set_cons_zero, List.set_cons_succ, i64_w, i32_w]
          rfl
        refine pure_ (i := 4) (N := some 93) (v := ?_) (a' := ?_) #[true, true, true, false, true, false, false, false, false, false, false, false, false, false] rfl rfl (any_of HT_.out (by kernel_rfl)) (fun _ _ _ h => h) (Or.inl ⟨by rfl, ?_⟩) ?_ ?_
        rotate_left
        · intro w'
          go_simp
          with_reducible rfl
        rotate_left
        · simp only [Act.put, List.setIfInBounds_toArray, List.set_cons_zero, List.set_cons_succ, i64_w, i32_w]
          rfl
        refine pure_ (i := 5) (N := some 94) (v := ?_) (a' := ?_) #[true, true, true, false, true, true, false, false, false, false, false, false, false, false] rfl rfl (any_of HT_.out (by kernel_rfl)) (fun _ _ _ h => h) (Or.inl ⟨by rfl, ?_⟩) ?_ ?_
        rotate_left
        · intro w'
          go_simp
          with_reducible rfl
        rotate_left
        · simp only [Act.put, List.setIfInBounds_toArray, List.set_cons_zero, List.set_cons_succ, i64_w, i32_w]
          rfl
        refine pure_ (i := 6) (N := some 95) (v := ?_) (a' := ?_) #[true, true, true, false, true, true, true, false, false, false, false, false, false, false] rfl rfl (any_of HT_.out (by kernel_rfl)) (fun _ _ _ h => h) (Or.inl ⟨by rfl, ?_⟩) ?_ ?_
        rotate_left
        · intro w'
          go_simp
          with_reducible rfl
        rotate_left
        · simp only [Act.put, List.setIfInBounds_toArray, List.set_cons_zero, List.set_cons_succ, i64_w, i32_w]
          rfl
        refine pure_ (i := 8) (N := some 97) (v := ?_) (a' := ?_) #[true, true, true, false, true, true, true, false, true, false, false, false, false, false] rfl rfl (any_of HT_.out (by kernel_rfl)) (fun _ _ _ h => h) (Or.inl ⟨by rfl, ?_⟩) ?_ ?_
        rotate_left
        · intro w'
          go_simp
          with_reducible rfl
        rotate_left
        · simp only [Act.put, List.setIfInBounds_toArray, List.set_cons_zero, List.set_cons_succ, i64_w, i32_w]
          rfl
        refine pure_ (i := 10) (N := some 99) (v := ?_) (a' := ?_) #[true, true, true, false, true, true, true, false, true, false, true, false, false, false] rfl rfl (any_of HT_.out (by kernel_rfl)) (fun _ _ _ h => h) (Or.inl ⟨by rfl, ?_⟩) ?_ ?_
        rotate_left
        · intro w'
          go_simp
          with_reducible rfl
        rotate_left
        · simp only [Act.put, List.setIfInBounds_toArray, List.set_cons_zero, List.set_cons_succ, i64_w, i32_w]
          rfl
        refine take_ (i := 3) (N := some 92) (v := ?_) (a' := ?_) #[true, true, true, true, true, true, true, false, true, false, true, false, false, false] rfl rfl (take_ofW HT_.out HW_.out (by kernel_rfl)) (fun _ _ _ h => h) (Or.inl ⟨by rfl, ?_⟩) hHeld ?_ ?_
        rotate_left
        · rintro w' ⟨s0, s1⟩
          go_simp
          with_reducible rfl
        rotate_left
        · simp only [Act.put, List.setIfInBounds_toArray, List.set_cons_zero, List.set_cons_succ, i64_w, i32_w]
          rfl
        refine take_ (i := 7) (N := some 96) (v := ?_) (a' := ?_) #[true, true, true, true, true, true, true, true, true, false, true, false, false, false] rfl rfl (take_ofW HT_.out HW_.out (by kernel_rfl)) (fun _ _ _ h => h) (Or.inl ⟨by rfl, ?_⟩) hHeld ?_ ?_
        rotate_left
        · rintro w' ⟨s0, s1⟩
          go_simp
          with_reducible rfl
        rotate_left
        · simp only [Act.put, List.setIfInBounds_toArray, List.set_cons_zero, List.set_cons_succ, i64_w, i32_w]
          rfl
        refine take_ (i := 11) (N := some 100) (v := ?_) (a' := ?_) #[true, true, true, true, true, true, true, true, true, false, true, true, false, false] rfl rfl (take_ofW HT_.out HW_.out (by kernel_rfl)) (fun _ _ _ h => h) (Or.inl ⟨by rfl, ?_⟩) hHeld ?_ ?_
        rotate_left
        · rintro w' ⟨s0, s1⟩
          go_simp
          with_reducible rfl
        rotate_left
        · simp only [Act.put, List.setIfInBounds_toArray, List.set_cons_zero, List.set_cons_succ, i64_w, i32_w]
          rfl
        refine one_ (i := 9) (N := some 98) #[true, true, true, true, true, true, true, true, true, true, true, true, false, false] rfl rfl (one_of HT_.out (by kernel_rfl)) (by decide) (fun K hK => ?_)
        refine goes_ Tryz.func64 (by kernel_rfl) rfl #[.slice (some ⟨g, 0, none⟩) f.units.length cu, .int .i64 (j : Int)] (by rfl) rfl rfl (by (try simp only [List.map_toArray, List.map_cons, List.map_nil]); first | done | rfl | (simp only []; rfl)) ?_
        with_reducible refine (children_c (some ⟨g, 0, none⟩) cu j f.units _ (Kd.R_reads' (HPW.out.below HWD.out).units).2.2 hlc hjl (by omega) (HWV.out j)).mono ?_
        rintro e w6 ⟨v6, rfl, hr6, hb6⟩
        obtain ⟨A6, c6, rfl, hc6, hC6⟩ := Kd.R_reads hr6
        have HB6 := Aside0.mk hb6
        have HC6 := Aside0.mk hC6
        have HW6 := Aside0.mk (HWD.out.trans (hb6.mono HWD.out.size))
        have CC := Aside0.mk (clash_c cu c6 (some ⟨g, 0, none⟩) A6 f.units (kids f.units j) a w6 (Kd.R_reads' (HPW.out.below HW6.out).units).2.2 hlc hC6 hc6 (kids_in hjl))
        rw [show clashB f.units (kids f.units j) a = cb by rw [HJ.out, HLE.out]; exact HCL.out] at CC
        clear hr6 hb6 hC6
        have hb6s := HB6.out.size
        refine ⟨_, rfl, ?_⟩
        refine hK.out _ _ ⟨pw_cell_below HB6.out hHeld.1, pw_cell_below HB6.out hHeld.2⟩ (fun hHeld => ?_)
        clear hK K
        refine norm_ (a' := ?_) ?_ ?_
        rotate_left
        · show Act.put _ (some 98) _ = _
          simp only [Act.put, List.setIfInBounds_toArray, List.set_cons_zero, List.set_cons_succ, i64_w, i32_w]
          rfl
        refine last_ (i := 12) (N := some 101) #[true, true, true, true, true, true, true, true, true, true, true, true, true, false] rfl rfl (one_of HT_.out (by kernel_rfl)) (by decide) (fun K hK => ?_)
        refine goes_ Tryz.func71 (by kernel_rfl) rfl #[.slice (some ⟨g, 0, none⟩) f.units.length cu, .slice A6 (kids f.units j).length c6, .string a] (by rfl) rfl rfl (by (try simp only [List.map_toArray, List.map_cons, List.map_nil]); first | done | rfl | (simp only []; rfl)) ?_
        with_reducible refine CC.out.mono ?_
        rintro e w7 ⟨rfl, hb7⟩
        have HB7 := Aside0.mk (HW6.out.trans (hb7.mono HW6.out.size))
        have HX7 := Aside0.mk ((hb7.block _ (Nat.lt_of_lt_of_le HBL.out hb6s)).trans ((HB6.out.block _ HBL.out).trans HXD.out))
        clear hb7
        refine ⟨_, rfl, ?_⟩
        refine hK.out _ _ ?_
        clear hK K
        refine norm_ (a' := ?_) ?_ ?_
        rotate_left
        · show Act.put _ (some 101) _ = _
          simp only [Act.put, List.setIfInBounds_toArray, List.set_cons_zero, List.set_cons_succ, i64_w, i32_w]
          rfl
        refine pure_ (i := 13) (N := some 88) (v := ?_) (a' := ?_) #[true, true, true, true, true, true, true, true, true, true, true, true, true, true] rfl rfl (any_of HT_.out (by kernel_rfl)) (fun _ _ _ h => h) (Or.inl ⟨by rfl, ?_⟩) ?_ ?_
        rotate_left
        · intro w'
          go_simp
          with_reducible rfl
        rotate_left
        · simp only [Act.put, List.setIfInBounds_toArray, List.set_cons_zero, List.set_cons_succ, i64_w, i32_w]
          rfl
        refine done_ (done_of HT_.out (by kernel_rfl)) ?_
        have hz8 : w7.cell? ⟨fb, 8, none⟩ = some (.slice (some ⟨g, 0, none⟩) f.units.length cu) := (blk_cell (HPW.out.below HB7.out).F 8).trans rfl
        clear hz0
        cases cb
        · rcases HDN.out with rfl | rfl
          · have hfull : 100 ≤ f.units.length := by
              rcases HSO.out with h | h | h
              · cases h
              · cases h
              · exact h
            have hfz : decide ((100 : Int) ≤ (f.units.length : Int)) = true := decide_eq_true (by omega)
            have hfz2 : (100 : Int) ≤ (f.units.length : Int) := by omega
            go_wp2
            go_ret
            exact ⟨by rw [HE.out]; rfl, HB7.out⟩
          · go_wp2
            go_ret
            exact ⟨by rw [HE.out]; rfl, HB7.out⟩
        · go_wp2
          go_ret
          exact ⟨by rw [HE.out]; rfl, HB7.out⟩
end Go.Proofs.YtehlmkgldcfciaaGreat.Files
/- The file store as a machine over its files, and each method as a step of it. -/
set_option linter.unusedVariables false
set_option linter.unusedSimpArgs false
namespace Go.Proofs.YtehlmkgldcfciaaGreat.Files
open Go.Proofs.YtehlmkgldcfciaaGreat.Common Go.Maps Go.ChangeMaps Go.WideMaps Go.Proofs.YtehlmkgldcfciaaGreat.F
open Go.RowKit Go.Proofs.YtehlmkgldcfciaaGreatW.PrintWords Go.Proofs.YtehlmkgldcfciaaGreatW.PrintLast Go.Proofs.YtehlmkgldcfciaaGreatW.PrintMore
abbrev Fs := List AF
def posF (st : Fs) (n : ByteArray) : Option (Nat × AF) := (st.zipIdx.find? fun p => decide (p.1.F.name = n)).map fun p => (p.2, p.1)
def mFound (st : Fs) (u n : ByteArray) : Except Int (Nat × AF) := if (userB u && nameB n) = false then .error 1 else match posF st n with | none => .error 3 | some p => .ok p
def mOpened (st : Fs) (u n : ByteArray) (action : Int) : Except Int (Nat × AF × Int) := match mFound st u n with
  | .error E => .error E
  | .ok (k, f) => match lookU f.users u with | none => .error 8 | some (a, _) => .ok (k, f, denied a action)
def mUnit (st : Fs) (u n : ByteArray) (at_ action : Int) : Except Int (Nat × AF × Nat × Int) := if at_ < 0 then .error 1 else match mOpened st u n action with
  | .error E => .error E
  | .ok (k, f, dn) => if (f.units.length : Int) ≤ at_ then .error 3 else .ok (k, f, at_.toNat, dn)
def mCreate (st : Fs) (u n : ByteArray) (kind perm : Int) : Int × Fs := if createB u n kind perm = false then (1, st) else if (posF st n).isSome then (7, st) else if 30 ≤ st.length then (9, st) else (0, st ++ [newF u n kind perm])
def mDelete (st : Fs) (u n : ByteArray) : Int × Fs := match mFound st u n with
  | .error E => (E, st)
  | .ok (k, f) => if 0 < f.users.length then (8, st) else if mayB f.F f.rules u 128 = false then (12, st) else (0, st.filter fun g => !decide (g.F.name = n))
def okSets (a x : Int) : Bool := setB a && setB x && decide (bits .andNot .i64 x a = 0)
def mOpen (st : Fs) (u n : ByteArray) (a x : Int) : Int × Fs := if okSets a x = false then (1, st) else match mFound st u n with
  | .error E => (E, st)
  | .ok (k, f) => if (lookU f.users u).isSome then (8, st) else if mayB f.F f.rules u a = false then (12, st) else if freeB f.users a x then (0, st.set k (f.opened u a x)) else (12, st)
def mClose (st : Fs) (u n : ByteArray) : Int × Fs := match mFound st u n with
  | .error E => (E, st)
  | .ok (k, f) => match lookU f.users u with | none => (8, st) | some _ => (0, st.set k (f.closed u))
def mRead (st : Fs) (u n : ByteArray) (at_ : Int) (whole : Bool) : List S29 × Int × Fs := match mUnit st u n at_ 1 with
  | .error E => ([], E, st)
  | .ok (k, f, i, dn) => if dn = 0 then (readL f.units i whole, 0, st.set k f.read) else ([], dn, st)
def mInsert (st : Fs) (u n : ByteArray) (at_ : Int) (child : Bool) (a b : ByteArray) : Int × Fs := if (decide (a.size ≤ 30) && decide (b.size ≤ 400)) = false then (1, st) else match mUnit st u n at_ 2 with
  | .error E => (E, st)
  | .ok (k, f, i, dn) => if insBad f.F.kind (insLev f.units i child) then (1, st) else
    let cb := clashB f.units (kids f.units (aboveOf f.units (insLev f.units i child) i)) a
    if cb = true ∨ dn = 12 ∨ 100 ≤ f.units.length then (insErr cb dn, st) else (0, st.set k (f.ins u i ⟨a, b, insLev f.units i child⟩))
def mReplace (st : Fs) (u n : ByteArray) (at_ : Int) (d : ByteArray) : Int × Fs := if 400 < d.size then (1, st) else match mUnit st u n at_ 4 with
  | .error E => (E, st)
  | .ok (k, f, i, dn) => if dn = 0 then (0, st.set k (f.data u i d)) else (dn, st)
def mExtend (st : Fs) (u n : ByteArray) (at_ : Int) (d : ByteArray) : Int × Fs := if 400 < d.size then (1, st) else match mUnit st u n at_ 8 with
  | .error E => (E, st)
  | .ok (k, f, i, dn) => if dn = 0 then (if 400 < (rd_T29 f.units (i : Int)).f1.size + d.size then (9, st) else (0, st.set k (f.data u i ((rd_T29 f.units (i : Int)).f1 ++ d)))) else (dn, st)
def mErase (st : Fs) (u n : ByteArray) (at_ : Int) : Int × Fs := match mUnit st u n at_ 16 with
  | .error E => (E, st)
  | .ok (k, f, i, dn) => if dn = 0 then (0, st.set k (f.erased u i)) else (dn, st)
def mChange (st : Fs) (u n : ByteArray) (perm : Int) (rules : List S100) : Int × Fs := if changeOk perm rules = false then (1, st) else match mOpened st u n 64 with
  | .error E => (E, st)
  | .ok (k, f, dn) => if dn = 0 then (0, st.set k (f.change perm rules)) else (dn, st)
structure FInv (c : Nat) (f : AF) : Prop where
  name : 1 ≤ f.F.name.size ∧ f.F.name.size ≤ 30
  units : UOk f.units
  data : ∀ x ∈ f.units, x.f1.size ≤ 400
  users : (f.users.map (fun p => p.1.data.toList)).Nodup
  count : f.users.length ≤ c
structure SInv (c : Nat) (st : Fs) : Prop where
  files : ∀ f ∈ st, FInv c f
  count : st.length ≤ 30
theorem userB_iff {u : ByteArray} : userB u = true ↔ 1 ≤ u.size ∧ u.size ≤ 20 := by unfold userB; simp
theorem nameB_iff {u : ByteArray} : nameB u = true ↔ 1 ≤ u.size ∧ u.size ≤ 30 := by unfold nameB; simp
theorem posF_some {st : Fs} {n : ByteArray} {k : Nat} {f : AF} (h : posF st n = some (k, f)) : st[k]? = some f ∧ f.F.name = n := by
  unfold posF at h
  obtain ⟨p, hp, he⟩ := Option.map_eq_some_iff.1 h
  injection he with h1 h2
  have hm := List.mem_of_find?_eq_some hp
  have hd := List.find?_some hp
  have := List.mem_zipIdx' hm
  obtain ⟨h3, h4⟩ := this
  subst h1 h2
  exact ⟨by rw [List.getElem?_eq_getElem h3, h4], by simpa using hd⟩
theorem posF_none {st : Fs} {n : ByteArray} (h : posF st n = none) : ∀ f ∈ st, f.F.name ≠ n := by
  unfold posF at h
  rw [Option.map_eq_none_iff, List.find?_eq_none] at h
  intro f hf e
  obtain ⟨k, hk, he⟩ := List.getElem_of_mem hf
  have := h (f, k) (by rw [List.mem_zipIdx_iff_getElem?]; simp [List.getElem?_eq_getElem hk, he])
  simp [e] at this
section steps
variable {W : World} {ok : Nat → Prop} {sb : Nat} {L : List (Nat × AF)} {st : Fs} {c : Nat}
theorem at_L (hst : L.map (·.2) = st) {k : Nat} {f : AF} (h : st[k]? = some f) : ∃ fb, L[k]? = some (fb, f) := by
  subst hst
  rw [List.getElem?_map] at h
  obtain ⟨p, hp, rfl⟩ := Option.map_eq_some_iff.1 h
  exact ⟨p.1, hp⟩
theorem found_err (hR : StoreRep W ok sb L) (hst : L.map (·.2) = st) {u n : ByteArray} {E : Int} (h : mFound st u n = .error E) : FoundErr W (.pointer (some ⟨sb, 0, none⟩)) u n E := by
  obtain ⟨mb, D, own, R⟩ := hR
  unfold mFound at h
  by_cases hb : (userB u && nameB n) = false
  · rw [if_pos hb] at h
    injection h with h
    subst h
    refine ⟨by decide, fun W' hbw => ?_⟩
    have c0 := (R.below hbw).S.cell
    cases hu : userB u with
    | false => exact found_user sb mb u n W' c0 hu
    | true => exact found_name sb mb u n W' c0 hu (by rw [hu] at hb; simpa using hb)
  · rw [if_neg hb] at h
    simp only [Bool.not_eq_false, Bool.and_eq_true] at hb
    cases hp : posF st n with
    | some p => rw [hp] at h; cases h
    | none =>
      rw [hp] at h
      injection h with h
      subst h
      refine ⟨by decide, fun W' hbw => ?_⟩
      have R' := R.below hbw
      refine found_none sb mb D u n W' ⟨R'.S.cell, R'.M, userB_iff.1 hb.1, nameB_iff.1 hb.2⟩ ?_
      rw [R.mM.at_, filesL_none R.mM (fun p hp2 => posF_none hp p.2 (by rw [← hst]; exact List.mem_map.2 ⟨p, hp2, rfl⟩))]
      all_goals rfl
theorem found_ok {u n : ByteArray} {k : Nat} {f : AF} (h : mFound st u n = .ok (k, f)) : (1 ≤ u.size ∧ u.size ≤ 20) ∧ (1 ≤ n.size ∧ n.size ≤ 30) ∧ st[k]? = some f ∧ f.F.name = n := by
  unfold mFound at h
  by_cases hb : (userB u && nameB n) = false
  · rw [if_pos hb] at h; cases h
  · rw [if_neg hb] at h
    simp only [Bool.not_eq_false, Bool.and_eq_true] at hb
    cases hp : posF st n with
    | none => rw [hp] at h; cases h
    | some p =>
      rw [hp] at h
      injection h with h
      subst h
      exact ⟨userB_iff.1 hb.1, nameB_iff.1 hb.2, (posF_some hp).1, (posF_some hp).2⟩
theorem denied_cases (a action : Int) : denied a action = 0 ∨ denied a action = 12 := by unfold denied; split <;> simp
end steps
end Go.Proofs.YtehlmkgldcfciaaGreat.Files
/- The reference's store: how it lies in memory; what it finds. -/
set_option linter.unusedVariables false
set_option linter.unusedSimpArgs false
namespace Go.Proofs.YtehlmkgldcfciaaGreat.Files
open Go.Proofs.YtehlmkgldcfciaaGreat.Common Go.Maps Go.ChangeMaps Go.WideMaps Go.Proofs.YtehlmkgldcfciaaGreat.F
open Go.RowKit Go.Proofs.YtehlmkgldcfciaaGreatW.PrintWords Go.Proofs.YtehlmkgldcfciaaGreatW.PrintLast Go.Proofs.YtehlmkgldcfciaaGreatW.PrintMore
def toU (x : S29) : S62 := ⟨x.f0, x.f1, x.f2⟩
def toRu (x : S100) : S129 := ⟨x.f0, x.f1⟩
def toO (p : ByteArray × (Int × Int)) : S95 := ⟨p.1, p.2.1, p.2.2⟩
def toR (f : AF) : S85 := ⟨⟨f.F.name, f.F.kind, f.F.perm, f.F.owner, f.F.last, f.F.ch, f.F.rd, f.rules.map toRu⟩, f.units.map toU, f.users.map toO⟩
def rows (st : Fs) : List S85 := st.map toR
theorem rows_len (st : Fs) : (rows st).length = st.length := by simp [rows]
theorem rd_rows (st : Fs) (i : Nat) (f : AF) (h : st[i]? = some f) : rd_T85 (rows st) (i : Int) = toR f := by
  simp [rd_T85, rows, List.getElem?_map, h]
structure RParts (W : World) (ok : Nat → Prop) (rb : Nat) (st : Fs) (A : Option Addr) (c : Nat) : Prop where
  okr : ok rb
  S : W.heap[rb]? = some (.cells #[.bool true, .slice A st.length c] 46 (0, 0))
  F : Kd.R k85 85 W 0 (fun k => ok k ∧ k ≠ rb) (.slice A st.length c) (rows st)
  lt : ∀ k, ok k → k < W.heap.size
def RRep (W : World) (ok : Nat → Prop) (rb : Nat) (st : Fs) : Prop := ∃ A c, RParts W ok rb st A c
section
variable {W w' : World} {ok S : Nat → Prop} {rb c : Nat} {st : Fs} {A : Option Addr}
theorem RParts.cap (h : RParts W ok rb st A c) : st.length ≤ c ∧ Kd.C k85 W A (rows st).length (rows st) := ⟨(Kd.R_reads' h.F).2.1, (Kd.R_reads' h.F).2.2⟩
theorem RParts.C (h : RParts W ok rb st A c) : Kd.C k85 W A st.length (rows st) := by have := h.cap.2; rw [rows_len] at this; exact this
theorem RParts.c1 (h : RParts W ok rb st A c) : W.cell? ⟨rb, 1, none⟩ = some (.slice A st.length c) := (blk_cell h.S 1).trans rfl
theorem RParts.c0 (h : RParts W ok rb st A c) : W.cell? ⟨rb, 0, none⟩ = some (.bool true) := (blk_cell h.S 0).trans rfl
theorem RParts.small (h : RParts W ok rb st A c) : st.length ≤ 9223372036854775807 := h.C.2.1
theorem RParts.other (h : RParts W ok rb st A c) (hc : Chg W w' S) (hs : ∀ k, ok k → ¬ S k) : RParts w' ok rb st A c :=
  ⟨h.okr, (hc.block rb (h.lt rb h.okr) (hs rb h.okr)).trans h.S, hc.row h.F (fun k hk => hs k hk.1), fun k hk => Nat.lt_of_lt_of_le (h.lt k hk) hc.size⟩
theorem RParts.below (h : RParts W ok rb st A c) (hb : Below W.heap.size W w') : RParts w' ok rb st A c := h.other (Chg.of_below hb (fun _ => False)) (fun _ _ h => h)
theorem RRep.other (h : RRep W ok rb st) (hc : Chg W w' S) (hs : ∀ k, ok k → ¬ S k) : RRep w' ok rb st := by
  obtain ⟨A, c, h⟩ := h
  exact ⟨A, c, h.other hc hs⟩
theorem RRep.below (h : RRep W ok rb st) (hb : Below W.heap.size W w') : RRep w' ok rb st := h.other (Chg.of_below hb (fun _ => False)) (fun _ _ h => h)
end
def posI (st : Fs) (n : ByteArray) : Int := match posF st n with | some p => p.1 | none => -1
theorem find_shift (n : ByteArray) : ∀ (l : List AF) (s : Nat), ((l.zipIdx s).find? fun p => decide (p.1.F.name = n)).map (fun p => (p.2, p.1)) = (((l.zipIdx 0).find? fun p => decide (p.1.F.name = n)).map fun p => (p.2, p.1)).map fun p => (p.1 + s, p.2)
  | [], s => rfl
  | f :: l, s => by
    rw [List.zipIdx_cons, List.zipIdx_cons]
    by_cases h : f.F.name = n
    · rw [List.find?_cons_of_pos (by simp [h]), List.find?_cons_of_pos (by simp [h])]
      simp
    · rw [List.find?_cons_of_neg (by simp [h]), List.find?_cons_of_neg (by simp [h]), find_shift n l (s + 1), find_shift n l (0 + 1)]
      simp only [Option.map_map]
      congr 1
      funext p
      simp
      omega
theorem posF_cons (f : AF) (l : Fs) (n : ByteArray) : posF (f :: l) n = if f.F.name = n then some (0, f) else (posF l n).map fun p => (p.1 + 1, p.2) := by
  unfold posF
  rw [List.zipIdx_cons]
  by_cases h : f.F.name = n
  · rw [List.find?_cons_of_pos (by simp [h]), if_pos h]; rfl
  · rw [List.find?_cons_of_neg (by simp [h]), if_neg h]
    exact find_shift n l (0 + 1)
theorem posF_hit : ∀ (st : Fs) (n : ByteArray) (k : Nat) (f : AF), st[k]? = some f → f.F.name = n → (∀ (j : Nat) (g : AF), j < k → st[j]? = some g → g.F.name ≠ n) → posF st n = some (k, f)
  | [], n, k, f, h, _, _ => by simp at h
  | a :: l, n, 0, f, h, hn, _ => by
    obtain rfl : a = f := by simpa using h
    rw [posF_cons, if_pos hn]
  | a :: l, n, k + 1, f, h, hn, hb => by
    rw [posF_cons, if_neg (hb 0 a (by omega) rfl), posF_hit l n k f (by simpa using h) hn (fun j g hj hg => hb (j + 1) g (by omega) (by simpa using hg))]
    all_goals rfl
theorem posF_miss : ∀ (st : Fs) (n : ByteArray), (∀ (j : Nat) (g : AF), st[j]? = some g → g.F.name ≠ n) → posF st n = none
  | [], n, _ => rfl
  | a :: l, n, hb => by
    rw [posF_cons, if_neg (hb 0 a rfl), posF_miss l n (fun j g hg => hb (j + 1) g (by simpa using hg))]
    all_goals rfl
theorem posI_range (st : Fs) (n : ByteArray) : posI st n = -1 ∧ posF st n = none ∨ ∃ k f, posI st n = (k : Nat) ∧ posF st n = some (k, f) ∧ st[k]? = some f ∧ f.F.name = n := by
  unfold posI
  cases h : posF st n with
  | none => exact .inl ⟨rfl, rfl⟩
  | some p =>
    obtain ⟨h1, h2⟩ := posF_some (k := p.1) (f := p.2) h
    exact .inr ⟨p.1, p.2, rfl, rfl, h1, h2⟩
theorem ruser_c (u : ByteArray) (w : World) : Calls Tryz.prog 80 #[.string u] w fun e w' => e = .returned (.bool (userB u)) ∧ w = w' := by
  unfold userB
  by_cases c : 1 ≤ u.size
  · have h0 : decide (1 ≤ (u.size : Int)) = true := decide_eq_true (by omega)
    have h1 : decide (1 ≤ u.size) = true := decide_eq_true c
    have h2 : decide ((u.size : Int) ≤ 20) = decide (u.size ≤ 20) := decide_eq_decide.2 (by omega)
    go_enter Tryz.func80, Tryz.ntmps80
    go_wp2
    go_ret
    exact ⟨by simp [h1, h2], rfl⟩
  · have h0 : decide (1 ≤ (u.size : Int)) = false := decide_eq_false (by omega)
    have h1 : decide (1 ≤ u.size) = false := decide_eq_false c
    go_enter Tryz.func80, Tryz.ntmps80
    go_wp2
    go_ret
    exact ⟨by simp [h1], rfl⟩
theorem rnamed_c (u : ByteArray) (w : World) : Calls Tryz.prog 86 #[.string u] w fun e w' => e = .returned (.bool (nameB u)) ∧ w = w' := by
  unfold nameB
  by_cases c : 1 ≤ u.size
  · have h0 : decide (1 ≤ (u.size : Int)) = true := decide_eq_true (by omega)
    have h1 : decide (1 ≤ u.size) = true := decide_eq_true c
    have h2 : decide ((u.size : Int) ≤ 30) = decide (u.size ≤ 30) := decide_eq_decide.2 (by omega)
    go_enter Tryz.func86, Tryz.ntmps86
    go_wp2
    go_ret
    exact ⟨by simp [h1, h2], rfl⟩
  · have h0 : decide (1 ≤ (u.size : Int)) = false := decide_eq_false (by omega)
    have h1 : decide (1 ≤ u.size) = false := decide_eq_false c
    go_enter Tryz.func86, Tryz.ntmps86
    go_wp2
    go_ret
    exact ⟨by simp [h1], rfl⟩
theorem rset_c (n : Int) (w : World) : Calls Tryz.prog 57 #[.int .i64 n] w fun e w' => e = .returned (.bool (setB n)) ∧ w = w' := by
  unfold setB
  by_cases c : 0 ≤ n
  · have h0 : decide (0 ≤ n) = true := decide_eq_true c
    go_enter Tryz.func57, Tryz.ntmps57
    go_wp2
    go_ret
    exact ⟨by simp [h0], rfl⟩
  · have h0 : decide (0 ≤ n) = false := decide_eq_false c
    go_enter Tryz.func57, Tryz.ntmps57
    go_wp2
    go_ret
    exact ⟨by simp [h0], rfl⟩
theorem rwithin_c (a b : Int) (w : World) : Calls Tryz.prog 61 #[.int .i64 a, .int .i64 b] w fun e w' => e = .returned (.bool (decide (bits .and .i64 a b = a))) ∧ w = w' := by
  by_cases c : bits .and .i64 a b = a
  · have h0 : (bits .and .i64 a b == a) = true := by simpa using c
    rw [decide_eq_true c]
    go_enter Tryz.func61, Tryz.ntmps61
    go_wp2
    go_ret
    exact ⟨by simp [h0], rfl⟩
  · have h0 : (bits .and .i64 a b == a) = false := by simpa using c
    rw [decide_eq_false c]
    go_enter Tryz.func61, Tryz.ntmps61
    go_wp2
    go_ret
    exact ⟨by simp [h0], rfl⟩
theorem rbad_c (rb : Nat) (u n : ByteArray) (W : World) (c0 : W.cell? ⟨rb, 0, none⟩ = some (.bool true)) : Calls Tryz.prog 56 #[.pointer (some ⟨rb, 0, none⟩), .string u, .string n] W fun e w' => e = .returned (.bool (!(userB u && nameB n))) ∧ W = w' := by
  have CU := Aside0.mk (ruser_c u W)
  have CN := Aside0.mk (rnamed_c n W)
  cases hu : userB u with
  | false =>
    rw [hu] at CU
    go_enter Tryz.func56, Tryz.ntmps56
    go_wp2_with first | (go_at_call 80; refine CU.out.mono ?_; rintro e w' ⟨rfl, rfl⟩)
    go_ret
    exact ⟨by simp, rfl⟩
  | true =>
    rw [hu] at CU
    go_enter Tryz.func56, Tryz.ntmps56
    go_wp2_with first | (go_at_call 80; refine CU.out.mono ?_; rintro e w' ⟨rfl, rfl⟩) | (go_at_call 86; refine CN.out.mono ?_; rintro e w' ⟨rfl, rfl⟩)
    go_ret
    exact ⟨by simp, rfl⟩
set_option maxRecDepth 100000 in
set_option maxHeartbeats 2000000 in
theorem find_c (rb c : Nat) (ok : Nat → Prop) (st : Fs) (A : Option Addr) (n : ByteArray) (W : World) (h : RParts W ok rb st A c) :
    Calls Tryz.prog 49 #[.pointer (some ⟨rb, 0, none⟩), .string n] W fun e w' => e = .returned (.int .i64 (posI st n)) ∧ W = w' := by
  have hl := h.small
  have c1 := h.c1
  have HC := Aside0.mk h.C
  clear h
  go_enter Tryz.func49, Tryz.ntmps49
  go_wp2_with fail
  go_loopw [5] (fun s wr => ∃ k : Nat, s = .int .i64 k ∧ k ≤ st.length ∧ wr = W ∧ Aside0 (∀ (j : Nat) (g : AF), j < k → st[j]? = some g → g.F.name ≠ n)) (fun s _ => st.length - (intOf s).toNat)
  case atStart => exact ⟨0, rfl, by omega, rfl, ⟨fun j g hj _ => absurd hj (by omega)⟩⟩
  case round =>
    obtain ⟨k, rfl, hk, rfl, HB⟩ := hrel
    by_cases hlt : k < st.length
    · have hltz : (k : Int) < (st.length : Int) := by omega
      have hk0 : decide ((k : Int) < 0) = false := decide_eq_false (by omega)
      obtain ⟨ad, A7, c7, A8, c8, A9, c9, rfl, hx⟩ := at_T85 HC.out (k : Int) (by omega) (by omega)
      have x0 := hx.1
      rw [rd_rows st k st[k] (List.getElem?_eq_getElem hlt)] at x0
      have HK := Aside0.mk (List.getElem?_eq_getElem hlt)
      generalize st[k] = f at x0 HK
      have x0' : wr.cell? (ad.add (k * 10)) = some (.string f.F.name) := x0
      clear x0 hx
      by_cases he : f.F.name = n
      · have he' : (f.F.name.toList == n.toList) = true := by rw [he]; exact beq_yes _
        have HP := Aside0.mk (show posI st n = k by unfold posI; rw [posF_hit st n k f HK.out he HB.out])
        clear he
        go_wp2
        refine bodyPost_ret (v := .int .i64 (k : Int)) (by simp [results, Tryz.f49, go_sem]) rfl ?_
        exact ⟨by rw [HP.out], rfl⟩
      · have he' := beq_no he
        have HB2 := Aside0.mk (show ∀ (j : Nat) (g : AF), j < k + 1 → st[j]? = some g → g.F.name ≠ n from fun j g hj hg => by
          by_cases hjk : j = k
          · subst hjk
            rw [HK.out] at hg
            injection hg with hg
            rw [← hg]; exact he
          · exact HB.out j g (by omega) hg)
        clear he
        go_wp2_with fail
        go_roundw
        case rel => exact ⟨k + 1, by go_num, by omega, by trivial, HB2⟩
        case measure => simp [intOf]; omega
    · have hltz : ¬ (k : Int) < (st.length : Int) := by omega
      have HP := Aside0.mk (show posI st n = -1 by
        unfold posI
        rw [posF_miss st n (fun j g hg => HB.out j g (by have := (List.getElem?_eq_some_iff.1 hg).1; omega) hg)])
      go_wp2
      refine bodyPost_ret (v := .int .i64 (-1)) (by simp [results, Tryz.f49, go_sem]) rfl ?_
      exact ⟨by rw [HP.out], rfl⟩
end Go.Proofs.YtehlmkgldcfciaaGreat.Files
/- The reference's store: one file's row, read and written. -/
set_option linter.unusedVariables false
set_option linter.unusedSimpArgs false
namespace Go.Proofs.YtehlmkgldcfciaaGreat.Files
open Go.Proofs.YtehlmkgldcfciaaGreat.Common Go.Maps Go.ChangeMaps Go.WideMaps Go.Proofs.YtehlmkgldcfciaaGreat.F
open Go.RowKit Go.Proofs.YtehlmkgldcfciaaGreatW.PrintWords Go.Proofs.YtehlmkgldcfciaaGreatW.PrintLast Go.Proofs.YtehlmkgldcfciaaGreatW.PrintMore
def RowIs (f : AF) (rv uv ov : Value) : List Value := [.string f.F.name, .int .i64 f.F.kind, .int .i64 f.F.perm, .string f.F.owner, .string f.F.last, .int .i64 f.F.ch, .int .i64 f.F.rd, rv, uv, ov]
structure InR (W : World) (okI : Nat → Prop) (f : AF) (Ar : Option Addr) (cr : Nat) (Au : Option Addr) (cu : Nat) (Ao : Option Addr) (co : Nat) : Prop where
  r : k129.R 129 W 0 okI (.slice Ar f.rules.length cr) (f.rules.map toRu)
  u : k62.R 62 W 0 okI (.slice Au f.units.length cu) (f.units.map toU)
  o : k95.R 95 W 0 okI (.slice Ao f.users.length co) (f.users.map toO)
section
variable {W w' : World} {ok okI S : Nat → Prop} {rb c i g cr cu co : Nat} {st : Fs} {A Ar Au Ao : Option Addr} {f : AF}
theorem InR.step (h : InR W okI f Ar cr Au cu Ao co) (hc : Chg W w' S) (hs : ∀ k, okI k → ¬ S k) : InR w' okI f Ar cr Au cu Ao co := ⟨hc.row h.r hs, hc.row h.u hs, hc.row h.o hs⟩
theorem InR.mono {ok2 : Nat → Prop} (h : InR W okI f Ar cr Au cu Ao co) (hs : ∀ k, okI k → ok2 k) : InR W ok2 f Ar cr Au cu Ao co := ⟨Kd.R_mono h.r hs, Kd.R_mono h.u hs, Kd.R_mono h.o hs⟩
theorem InR.rC (h : InR W okI f Ar cr Au cu Ao co) : f.rules.length ≤ cr ∧ Kd.C k129 W Ar (f.rules.map toRu).length (f.rules.map toRu) := ⟨(Kd.R_reads' h.r).2.1, (Kd.R_reads' h.r).2.2⟩
theorem InR.uC (h : InR W okI f Ar cr Au cu Ao co) : f.units.length ≤ cu ∧ Kd.C k62 W Au (f.units.map toU).length (f.units.map toU) := ⟨(Kd.R_reads' h.u).2.1, (Kd.R_reads' h.u).2.2⟩
theorem InR.oC (h : InR W okI f Ar cr Au cu Ao co) : f.users.length ≤ co ∧ Kd.C k95 W Ao (f.users.map toO).length (f.users.map toO) := ⟨(Kd.R_reads' h.o).2.1, (Kd.R_reads' h.o).2.2⟩
structure RowAt (W : World) (ok : Nat → Prop) (rb : Nat) (A : Option Addr) (i g : Nat) (f : AF) (Ar : Option Addr) (cr : Nat) (Au : Option Addr) (cu : Nat) (Ao : Option Addr) (co : Nat) : Prop where
  hA : A = some ⟨g, 0, none⟩
  okg : ok g ∧ g ≠ rb
  cells : ∀ j u, (RowIs f (.slice Ar f.rules.length cr) (.slice Au f.units.length cu) (.slice Ao f.users.length co))[j]? = some u → W.cell? ⟨g, i * 10 + j, none⟩ = some u
  In : InR W (fun k => (ok k ∧ k ≠ rb) ∧ k ≠ g) f Ar cr Au cu Ao co
  fz : ∀ o, W.frozen? ⟨g, o, none⟩ = false
theorem RParts.row (h : RParts W ok rb st A c) (hi : st[i]? = some f) : ∃ g Ar cr Au cu Ao co, RowAt W ok rb A i g f Ar cr Au cu Ao co := by
  have hil : i < st.length := (List.getElem?_eq_some_iff.1 hi).1
  obtain ⟨h0, inner, ho, hl, hr⟩ := h.F
  have hx : (rows st)[i]? = some (toR f) := by simp [rows, List.getElem?_map, hi]
  have hM := hr i _ hx
  obtain ⟨v7, v8, v9, hcs, g7, g8, g9⟩ := k85_openM hM
  obtain ⟨g, hAg, hblk⟩ : ∃ g, A = some ⟨g, 0, none⟩ ∧ ∃ cur, W.heap[g]? = some (.cells cur 85 (0, 0)) := by
    rcases ho.2 with ⟨hv, hn⟩ | ⟨g, cap, cur, hv, _, hh, _⟩
    · rw [rows_len] at hn; omega
    · injection hv with hv _ _
      exact ⟨g, hv, cur, hh⟩
  subst hAg
  obtain ⟨cur, hblk⟩ := hblk
  obtain ⟨ad, cs, he, hcl, hK, hcc⟩ := Kd.C_get h.C z85 (i : Int) (by omega) (by omega)
  cases he
  obtain ⟨Ar, cr, e7⟩ := Kd.R_slice g7
  obtain ⟨Au, cu, e8⟩ := Kd.R_slice g8
  obtain ⟨Ao, co, e9⟩ := Kd.R_slice g9
  subst e7 e8 e9
  have r7 : (toR f).f0.f7.length = f.rules.length := by simp [toR]
  have r8 : (toR f).f1.length = f.units.length := by simp [toR]
  have r9 : (toR f).f2.length = f.users.length := by simp [toR]
  rw [r7] at hcs g7
  rw [r8] at hcs g8
  rw [r9] at hcs g9
  have hok : ∀ k, ((ok k ∧ k ≠ rb) ∧ some k ≠ (Value.slice (some ⟨g, 0, none⟩) st.length c).ownBlock) → (ok k ∧ k ≠ rb) ∧ k ≠ g := fun k hk => ⟨hk.1, fun e => hk.2 (by rw [e]; rfl)⟩
  refine ⟨g, Ar, cr, Au, cu, Ao, co, rfl, h0 g rfl, fun j u hj => ?_, ⟨Kd.R_mono g7 hok, Kd.R_mono g8 hok, Kd.R_mono g9 hok⟩, fun o => by simp [World.frozen?, hblk]⟩
  have hk2 : inner.length = st.length * 10 := by rw [hl, rows_len]; rfl
  have hcell : ∀ q, q < inner.length → W.cell? ⟨g, q, none⟩ = inner[q]? := fun q hq => by
    rcases ho.2 with ⟨hv, _⟩ | ⟨g', cap, cur', hv, _, hh, hnc, _, hcs2, htk⟩
    · cases hv
    · injection hv with hv1 _ hv3
      injection hv1 with hv1
      injection hv1 with hv1
      subst hv1
      have e1 : W.cell? ⟨g, q, none⟩ = cur'[q]? := blk_cell hh q
      rw [e1, ← htk, List.getElem?_take]
      rw [← htk, List.length_take] at hq
      rw [if_pos (by omega)]
      simp
  have hj10 : j < 10 := by
    have := (List.getElem?_eq_some_iff.1 hj).1
    simpa [RowIs] using this
  rw [hcell _ (by omega)]
  have h10 : (inner.drop (i * k85.sz)).take k85.sz = RowIs f (.slice Ar f.rules.length cr) (.slice Au f.units.length cu) (.slice Ao f.users.length co) := hcs
  have : k85.sz = 10 := rfl
  rw [this] at h10
  rw [← h10, List.getElem?_take, if_pos hj10, List.getElem?_drop] at hj
  exact hj
theorem RowAt.step (h : RowAt W ok rb A i g f Ar cr Au cu Ao co) (hb : Below W.heap.size W w') (hg : g < W.heap.size) : RowAt w' ok rb A i g f Ar cr Au cu Ao co :=
  ⟨h.hA, h.okg, fun j u hj => (hb.cell (p := ⟨g, i * 10 + j, none⟩) hg).trans (h.cells j u hj), h.In.step (Chg.of_below hb (fun _ => False)) (fun _ _ h => h), fun o => by rw [World.frozen?_of_block (hb.block g hg)]; exact h.fz o⟩
theorem RowAt.x (h : RowAt W ok rb A i g f Ar cr Au cu Ao co) : W.cell? ⟨g, i * 10, none⟩ = some (.string f.F.name) ∧ W.cell? ⟨g, i * 10 + 1, none⟩ = some (.int .i64 f.F.kind) ∧ W.cell? ⟨g, i * 10 + 2, none⟩ = some (.int .i64 f.F.perm) ∧
    W.cell? ⟨g, i * 10 + 3, none⟩ = some (.string f.F.owner) ∧ W.cell? ⟨g, i * 10 + 4, none⟩ = some (.string f.F.last) ∧ W.cell? ⟨g, i * 10 + 5, none⟩ = some (.int .i64 f.F.ch) ∧ W.cell? ⟨g, i * 10 + 6, none⟩ = some (.int .i64 f.F.rd) ∧
    W.cell? ⟨g, i * 10 + 7, none⟩ = some (.slice Ar f.rules.length cr) ∧ W.cell? ⟨g, i * 10 + 8, none⟩ = some (.slice Au f.units.length cu) ∧ W.cell? ⟨g, i * 10 + 9, none⟩ = some (.slice Ao f.users.length co) :=
  ⟨h.cells 0 _ rfl, h.cells 1 _ rfl, h.cells 2 _ rfl, h.cells 3 _ rfl, h.cells 4 _ rfl, h.cells 5 _ rfl, h.cells 6 _ rfl, h.cells 7 _ rfl, h.cells 8 _ rfl, h.cells 9 _ rfl⟩
theorem RParts.glt (h : RParts W ok rb st A c) (T : RowAt W ok rb A i g f Ar cr Au cu Ao co) : g < W.heap.size := h.lt g T.okg.1
theorem RParts.set (h : RParts W ok rb st A c) (T : RowAt W ok rb A i g f Ar cr Au cu Ao co) (hi : st[i]? = some f) (j : Nat) (u : Value) {f' : AF} {Ar' Au' Ao' : Option Addr} {cr' cu' co' : Nat}
    (hj : j < 10) (hc : (RowIs f (.slice Ar f.rules.length cr) (.slice Au f.units.length cu) (.slice Ao f.users.length co)).set j u = RowIs f' (.slice Ar' f'.rules.length cr') (.slice Au' f'.units.length cu') (.slice Ao' f'.users.length co'))
    (hI : InR W (fun k => (ok k ∧ k ≠ rb) ∧ k ≠ g) f' Ar' cr' Au' cu' Ao' co') :
    RParts (W.setCell ⟨g, i * 10 + j, none⟩ u) ok rb (st.set i f') A c ∧ Chg W (W.setCell ⟨g, i * 10 + j, none⟩ u) (fun k => k = g) := by
  have hil : i < st.length := (List.getElem?_eq_some_iff.1 hi).1
  have hA := T.hA
  subst hA
  have hM : k85.M W 0 (fun k => (ok k ∧ k ≠ rb) ∧ k ≠ g) (toR f') (RowIs f' (.slice Ar' f'.rules.length cr') (.slice Au' f'.units.length cu') (.slice Ao' f'.users.length co')) :=
    k85_mkM W 0 _ (toR f') hI.r hI.u hI.o
  have hlen : (RowIs f (.slice Ar f.rules.length cr) (.slice Au f.units.length cu) (.slice Ao f.users.length co)).length = k85.sz := rfl
  have hset : ∀ (l : List Value), j < l.length → l.take j ++ [u] ++ l.drop (j + [u].length) = l.set j u := fun l hl => by
    rw [List.set_eq_take_append_cons_drop, if_pos hl]
    simp
  obtain ⟨h1, h2⟩ := Kd.R_seg (okp := fun k => (ok k ∧ k ≠ rb) ∧ k ≠ g) h.F (i : Int) (by omega) (by omega) (c := RowIs f (.slice Ar f.rules.length cr) (.slice Au f.units.length cu) (.slice Ao f.users.length co)) (seg := [u]) (j := j) hlen
    (fun j' u' hj' => by rw [Int.toNat_natCast]; exact T.cells j' u' hj') (by show j + 1 ≤ 10; omega) (x' := toR f') (by rw [hset _ (by rw [hlen]; exact hj), hc]; exact hM) (fun k hk => hk)
  rw [Int.toNat_natCast] at h1 h2
  have e : W.setCells g (i * k85.sz + j) [u] = W.setCell ⟨g, i * 10 + j, none⟩ u := rfl
  rw [e] at h1 h2
  have hC : Chg W (W.setCell ⟨g, i * 10 + j, none⟩ u) (fun k => k = g) := Chg.of_grown h2 (fun k hk => by injection hk)
  have hrows : (rows st).set i (toR f') = rows (st.set i f') := by unfold rows; rw [List.map_set]
  rw [hrows] at h1
  refine ⟨⟨h.okr, ?_, ?_, fun k hk => Nat.lt_of_lt_of_le (h.lt k hk) hC.size⟩, hC⟩
  · rw [List.length_set]
    exact (hC.block rb (h.lt rb h.okr) (fun e => T.okg.2 e.symm)).trans h.S
  · rw [List.length_set]
    exact h1
theorem RParts.mono (h : RParts W ok rb st A c) {ok' : Nat → Prop} (hs : ∀ k, ok k → ok' k) (hl : ∀ k, ok' k → k < W.heap.size) : RParts W ok' rb st A c :=
  ⟨hs _ h.okr, h.S, Kd.R_mono h.F (fun k hk => ⟨hs _ hk.1, hk.2⟩), hl⟩
theorem RowAt.mono (h : RowAt W ok rb A i g f Ar cr Au cu Ao co) {ok' : Nat → Prop} (hs : ∀ k, ok k → ok' k) : RowAt W ok' rb A i g f Ar cr Au cu Ao co :=
  ⟨h.hA, ⟨hs _ h.okg.1, h.okg.2⟩, h.cells, h.In.mono (fun k hk => ⟨⟨hs _ hk.1.1, hk.1.2⟩, hk.2⟩), h.fz⟩
end
def ROut (W : World) (ok : Nat → Prop) (rb : Nat) (v : Value) (st' : Fs) (e : Ending) (w' : World) : Prop := e = .returned v ∧ ∃ ok', RRep w' ok' rb st' ∧ Chg W w' ok ∧ ∀ q, ok' q → ok q ∨ W.heap.size ≤ q
theorem ROut.below {W w' : World} {ok : Nat → Prop} {rb : Nat} {st : Fs} {v : Value} (h : RRep W ok rb st) (hb : Below W.heap.size W w') : ROut W ok rb v st (.returned v) w' := ⟨rfl, ok, h.below hb, Chg.of_below hb _, fun q hq => .inl hq⟩
end Go.Proofs.YtehlmkgldcfciaaGreat.Files
/- The reference's store: who has a file open, what a user may do. -/
set_option linter.unusedVariables false
set_option linter.unusedSimpArgs false
namespace Go.Proofs.YtehlmkgldcfciaaGreat.Files
open Go.Proofs.YtehlmkgldcfciaaGreat.Common Go.Maps Go.ChangeMaps Go.WideMaps Go.Proofs.YtehlmkgldcfciaaGreat.F
open Go.RowKit Go.Proofs.YtehlmkgldcfciaaGreatW.PrintWords Go.Proofs.YtehlmkgldcfciaaGreatW.PrintLast Go.Proofs.YtehlmkgldcfciaaGreatW.PrintMore
def isU (u : ByteArray) (p : ByteArray × (Int × Int)) : Bool := decide (p.1 = u)
def hasI (l : List (ByteArray × (Int × Int))) (u : ByteArray) : Int := idxP (isU u) l
theorem rd_toO (l : List (ByteArray × (Int × Int))) (k : Nat) (h : k < l.length) : rd_T95 (l.map toO) (k : Int) = toO l[k] := by
  simp [rd_T95, List.getElem?_map, List.getElem?_eq_getElem h]
theorem rd_toRu (l : List S100) (k : Nat) (h : k < l.length) : rd_T129 (l.map toRu) (k : Int) = toRu l[k] := by
  simp [rd_T129, List.getElem?_map, List.getElem?_eq_getElem h]
theorem at_users {W : World} {Ao : Option Addr} {l : List (ByteArray × (Int × Int))} (h : Kd.C k95 W Ao (l.map toO).length (l.map toO)) (k : Nat) (hk : k < l.length) : ∃ ad, Ao = some ad ∧ W.cell? (ad.add (k * 3)) = some (.string l[k].1) ∧
    W.cell? ⟨(ad.add (k * 3)).block, (ad.add (k * 3)).off + 1, none⟩ = some (.int .i64 l[k].2.1) ∧ W.cell? ⟨(ad.add (k * 3)).block, (ad.add (k * 3)).off + 2, none⟩ = some (.int .i64 l[k].2.2) := by
  obtain ⟨ad, e, h0, h1, h2⟩ := at_T95 h (k : Int) (by omega) (by simp; omega)
  rw [rd_toO l k hk, Int.toNat_natCast] at h0 h1 h2
  exact ⟨ad, e, h0, h1, h2⟩
theorem at_rules {W : World} {Ar : Option Addr} {l : List S100} (h : Kd.C k129 W Ar (l.map toRu).length (l.map toRu)) (k : Nat) (hk : k < l.length) : ∃ ad, Ar = some ad ∧ W.cell? (ad.add (k * 2)) = some (.string l[k].f0) ∧
    W.cell? ⟨(ad.add (k * 2)).block, (ad.add (k * 2)).off + 1, none⟩ = some (.int .i64 l[k].f1) := by
  obtain ⟨ad, e, h0, h1⟩ := at_T129 h (k : Int) (by omega) (by simp; omega)
  rw [rd_toRu l k hk, Int.toNat_natCast] at h0 h1
  exact ⟨ad, e, h0, h1⟩
set_option maxRecDepth 100000 in
set_option maxHeartbeats 2000000 in
theorem has_c (okI : Nat → Prop) (f : AF) (Ar Au Ao : Option Addr) (cr cu co : Nat) (u : ByteArray) (W : World) (h : InR W okI f Ar cr Au cu Ao co) :
    Calls Tryz.prog 62 #[.agg (RowIs f (.slice Ar f.rules.length cr) (.slice Au f.units.length cu) (.slice Ao f.users.length co)).toArray, .string u] W fun e w' => e = .returned (.int .i64 (hasI f.users u)) ∧ Below W.heap.size W w' := by
  have hl : (f.users.length : Int) ≤ 9223372036854775807 := by have := h.oC.2.2.1; simp at this; omega
  have hb1 : Below W.heap.size W (W.alloc (.cells (RowIs f (.slice Ar f.rules.length cr) (.slice Au f.units.length cu) (.slice Ao f.users.length co)).toArray 85)) := (Below.refl _ _).alloc (Nat.le_refl _) _
  have HC := Aside0.mk (Kd.C_below h.oC.2 hb1)
  have HB1 := Aside0.mk hb1
  clear h hb1
  unfold RowIs at *
  go_enter Tryz.func62, Tryz.ntmps62
  go_wp2_with fail
  go_loopw [5] (fun s wr => ∃ k : Nat, s = .int .i64 k ∧ k ≤ f.users.length ∧ wr = W.alloc (.cells #[.string f.F.name, .int .i64 f.F.kind, .int .i64 f.F.perm, .string f.F.owner, .string f.F.last, .int .i64 f.F.ch, .int .i64 f.F.rd, .slice Ar f.rules.length cr, .slice Au f.units.length cu, .slice Ao f.users.length co] 85) ∧ Aside0 (∀ j, j < k → isU u (f.users.getD j (⟨#[]⟩, 0, 0)) = false)) (fun s _ => f.users.length - (intOf s).toNat)
  case atStart => exact ⟨0, rfl, by omega, rfl, ⟨fun j hj => absurd hj (by omega)⟩⟩
  case round =>
    obtain ⟨k, rfl, hk, rfl, HF⟩ := hrel
    by_cases hlt : k < f.users.length
    · have hltz : (k : Int) < (f.users.length : Int) := by omega
      have hk0 : decide ((k : Int) < 0) = false := decide_eq_false (by omega)
      obtain ⟨ad, rfl, x0, _, _⟩ := at_users HC.out k hlt
      have HG := Aside0.mk (show f.users.getD k (⟨#[]⟩, 0, 0) = f.users[k] by rw [List.getD_eq_getElem?_getD, List.getElem?_eq_getElem hlt]; rfl)
      generalize f.users[k] = p at x0 HG
      by_cases he : p.1 = u
      · have he' : (p.1.toList == u.toList) = true := by rw [he]; exact beq_yes _
        have HP := Aside0.mk (show hasI f.users u = k from idxP_hit _ (⟨#[]⟩, 0, 0) _ k hlt (by rw [HG.out]; simp [isU, he]) HF.out)
        clear he
        go_wp2
        refine bodyPost_ret (v := .int .i64 (k : Int)) (by simp [results, Tryz.f62, go_sem]) rfl ?_
        exact ⟨by rw [HP.out], HB1.out⟩
      · have he' := beq_no he
        have HF2 := Aside0.mk (show ∀ j, j < k + 1 → isU u (f.users.getD j (⟨#[]⟩, 0, 0)) = false from fun j hj => by
          by_cases hjk : j = k
          · subst hjk
            rw [HG.out]; simp [isU, he]
          · exact HF.out j (by omega))
        clear he
        go_wp2_with fail
        go_roundw
        case rel => exact ⟨k + 1, by go_num, by omega, by trivial, HF2⟩
        case measure => simp [intOf]; omega
    · have hltz : ¬ (k : Int) < (f.users.length : Int) := by omega
      have HP := Aside0.mk (show hasI f.users u = -1 from idxP_all _ (⟨#[]⟩, 0, 0) _ k (by omega) HF.out)
      go_wp2
      refine bodyPost_ret (v := .int .i64 (-1)) (by simp [results, Tryz.f62, go_sem]) rfl ?_
      exact ⟨by rw [HP.out], HB1.out⟩
theorem hasI_lookU (l : List (ByteArray × (Int × Int))) (u : ByteArray) : (hasI l u = -1 ∧ lookU l u = none) ∨ ∃ k : Nat, ∃ q, hasI l u = k ∧ k < l.length ∧ l[k]? = some (u, q) ∧ lookU l u = some q := by
  induction l with
  | nil => exact .inl ⟨rfl, rfl⟩
  | cons p l ih =>
    unfold hasI lookU at ih ⊢
    rw [idxP]
    by_cases h : p.1 = u
    · refine .inr ⟨0, p.2, ?_, by simp, ?_, ?_⟩
      · simp [isU, h]
      · rw [← h]; rfl
      · rw [List.find?_cons_of_pos (by simp [h])]; rfl
    · rw [if_neg (by simp [isU, h]), List.find?_cons_of_neg (by simp [h])]
      rcases ih with ⟨h1, h2⟩ | ⟨k, q, h1, h2, h3, h4⟩
      · exact .inl ⟨by rw [h1]; rfl, h2⟩
      · exact .inr ⟨k + 1, q, by rw [h1, if_neg (by omega)]; omega, by simp; omega, by simpa using h3, h4⟩
theorem and_comm64 (a b : Int) : bits .and .i64 a b = bits .and .i64 b a := by
  show IntKind.i64.wrap ((BitVec.ofInt 64 a &&& BitVec.ofInt 64 b).toNat : Int) = IntKind.i64.wrap ((BitVec.ofInt 64 b &&& BitVec.ofInt 64 a).toNat : Int)
  rw [BitVec.and_comm]
theorem find_hit {α : Type} (p : α → Bool) (d : α) : ∀ (l : List α) (k : Nat) (x : α), l[k]? = some x → p x = true → (∀ j, j < k → p (l.getD j d) = false) → l.find? p = some x
  | [], k, x, h, _, _ => by simp at h
  | a :: l, 0, x, h, hp, _ => by
    obtain rfl : a = x := by simpa using h
    rw [List.find?_cons_of_pos hp]
  | a :: l, k + 1, x, h, hp, hb => by
    have h0 : p a = false := by simpa using hb 0 (by omega)
    rw [List.find?_cons_of_neg (by simp [h0])]
    exact find_hit p d l k x (by simpa using h) hp (fun j hj => by simpa using hb (j + 1) (by omega))
theorem find_all {α : Type} (p : α → Bool) (d : α) (l : List α) (n : Nat) (hn : l.length ≤ n) (h : ∀ j, j < n → p (l.getD j d) = false) : l.find? p = none := by
  rw [List.find?_eq_none]
  intro x hx
  obtain ⟨j, hj, rfl⟩ := List.getElem_of_mem hx
  have := h j (by omega)
  simpa [List.getD_eq_getElem?_getD, List.getElem?_eq_getElem hj] using this
set_option maxRecDepth 100000 in
set_option maxHeartbeats 2000000 in
theorem rmay_c (okI : Nat → Prop) (f : AF) (Ar Au Ao : Option Addr) (cr cu co : Nat) (u : ByteArray) (a : Int) (W : World) (h : InR W okI f Ar cr Au cu Ao co) :
    Calls Tryz.prog 60 #[.agg (RowIs f (.slice Ar f.rules.length cr) (.slice Au f.units.length cu) (.slice Ao f.users.length co)).toArray, .string u, .int .i64 a] W fun e w' => e = .returned (.bool (mayB f.F f.rules u a)) ∧ Below W.heap.size W w' := by
  have hl : (f.rules.length : Int) ≤ 9223372036854775807 := by have := h.rC.2.2.1; simp at this; omega
  have hb1 : Below W.heap.size W (W.alloc (.cells (RowIs f (.slice Ar f.rules.length cr) (.slice Au f.units.length cu) (.slice Ao f.users.length co)).toArray 85)) := (Below.refl _ _).alloc (Nat.le_refl _) _
  have HC := Aside0.mk (Kd.C_below h.rC.2 hb1)
  have HB1 := Aside0.mk hb1
  clear h hb1
  unfold RowIs at *
  go_enter Tryz.func60, Tryz.ntmps60
  go_wp2_with fail
  refine (rwithin_c a f.F.perm _).mono ?_
  rintro e w' ⟨rfl, rfl⟩
  have HCOM := Aside0.mk (and_comm64 f.F.perm a)
  have HBK := Aside0.mk (show (W.alloc (.cells #[.string f.F.name, .int .i64 f.F.kind, .int .i64 f.F.perm, .string f.F.owner, .string f.F.last, .int .i64 f.F.ch, .int .i64 f.F.rd, .slice Ar f.rules.length cr, .slice Au f.units.length cu, .slice Ao f.users.length co] 85)).heap[W.heap.size]? = some (.cells #[.string f.F.name, .int .i64 f.F.kind, .int .i64 f.F.perm, .string f.F.owner, .string f.F.last, .int .i64 f.F.ch, .int .i64 f.F.rd, .slice Ar f.rules.length cr, .slice Au f.units.length cu, .slice Ao f.users.length co] 85 (0, 0)) by simpa using heap_alloc_new W _)
  by_cases hperm : bits .and .i64 a f.F.perm = a
  · have hd : decide (bits .and .i64 a f.F.perm = a) = true := decide_eq_true hperm
    have HM0 := Aside0.mk (fun x (h : f.rules.find? (ruleOf u) = some x) => show mayB f.F f.rules u a = decide (bits .and .i64 a x.f1 = a) by unfold mayB; rw [HCOM.out, if_pos hperm, h, and_comm64 a x.f1])
    have HM1 := Aside0.mk (fun (h : f.rules.find? (ruleOf u) = none) => show mayB f.F f.rules u a = decide (u = f.F.owner) by unfold mayB; rw [HCOM.out, if_pos hperm, h])
    clear hperm
    go_wp2_with fail
    go_loopw [7] (fun s wr => ∃ k : Nat, s = .int .i64 k ∧ k ≤ f.rules.length ∧ Aside0 (Below (W.heap.size + 1) (W.alloc (.cells #[.string f.F.name, .int .i64 f.F.kind, .int .i64 f.F.perm, .string f.F.owner, .string f.F.last, .int .i64 f.F.ch, .int .i64 f.F.rd, .slice Ar f.rules.length cr, .slice Au f.units.length cu, .slice Ao f.users.length co] 85)) wr) ∧ Aside0 (∀ j, j < k → ruleOf u (f.rules.getD j z100) = false)) (fun s _ => f.rules.length - (intOf s).toNat)
    case atStart => exact ⟨0, rfl, by omega, ⟨Below.refl _ _⟩, ⟨fun j hj => absurd hj (by omega)⟩⟩
    case round =>
      obtain ⟨k, rfl, hk, HB, HF⟩ := hrel
      have hblk := (HB.out.block W.heap.size (Nat.lt_succ_self _)).trans HBK.out
      have hc7 : wr.cell? ⟨W.heap.size, 7, none⟩ = some (.slice Ar f.rules.length cr) := (blk_cell hblk 7).trans rfl
      have hc3 : wr.cell? ⟨W.heap.size, 3, none⟩ = some (.string f.F.owner) := (blk_cell hblk 3).trans rfl
      have HL := Aside0.mk (HB1.out.trans (HB.out.mono (Nat.le_succ _)))
      have HSZ := Aside0.mk HB.out.size
      clear hblk
      by_cases hlt : k < f.rules.length
      · have hltz : (k : Int) < (f.rules.length : Int) := by omega
        have hk0 : decide ((k : Int) < 0) = false := decide_eq_false (by omega)
        obtain ⟨ad, rfl, x0, x1⟩ := at_rules (Kd.C_below HC.out (by rw [World.size_alloc]; exact HB.out)) k hlt
        have HG := Aside0.mk (show f.rules.getD k z100 = f.rules[k] by rw [List.getD_eq_getElem?_getD, List.getElem?_eq_getElem hlt]; rfl)
        have HGG := Aside0.mk (List.getElem?_eq_getElem hlt)
        generalize f.rules[k] = p at x0 x1 HG HGG
        have HH := Aside0.mk (fun (h : ruleOf u p = true) => HM0.out p (find_hit _ z100 _ k p HGG.out h HF.out))
        by_cases h1 : p.f0 = u
        · have g1 : (p.f0.toList == u.toList) = true := by rw [h1]; exact beq_yes _
          have HP := Aside0.mk (HH.out (by simp [ruleOf, h1]))
          clear h1
          go_wp2_with fail
          refine (rwithin_c a p.f1 _).mono ?_
          rintro e w' ⟨rfl, rfl⟩
          go_wp2
          refine bodyPost_ret (v := .bool (decide (bits .and .i64 a p.f1 = a))) (by simp [results, Tryz.f60, go_sem]) rfl ?_
          exact ⟨by rw [HP.out], HL.out.trans ((Below.refl _ _).alloc (by have := HSZ.out; simp at this ⊢; omega) _)⟩
        · have g1 := beq_no h1
          by_cases h2 : p.f0 = ⟨#[42]⟩
          · have g2 : (p.f0.toList == [42]) = true := by rw [h2, ByteArray.toList_eq]; rfl
            have HP := Aside0.mk (HH.out (by simp [ruleOf, h2]))
            clear h1 h2
            go_wp2_with fail
            refine (rwithin_c a p.f1 _).mono ?_
            rintro e w' ⟨rfl, rfl⟩
            go_wp2
            refine bodyPost_ret (v := .bool (decide (bits .and .i64 a p.f1 = a))) (by simp [results, Tryz.f60, go_sem]) rfl ?_
            exact ⟨by rw [HP.out], HL.out.trans ((Below.refl _ _).alloc (by have := HSZ.out; simp at this ⊢; omega) _)⟩
          · have g2 : (p.f0.toList == [42]) = false := by
              have := beq_no h2
              rw [ByteArray.toList_eq ⟨#[42]⟩] at this
              exact this
            have HF2 := Aside0.mk (show ∀ j, j < k + 1 → ruleOf u (f.rules.getD j z100) = false from fun j hj => by
              by_cases hjk : j = k
              · subst hjk
                rw [HG.out]; simp [ruleOf, h1, h2]
              · exact HF.out j (by omega))
            have HB3 := Aside0.mk (HB.out.alloc (show W.heap.size + 1 ≤ wr.heap.size by have := HSZ.out; simpa using this) (.cells #[.string p.f0, .int .i64 p.f1] 129))
            clear h1 h2
            go_wp2_with fail
            go_roundw
            case rel => exact ⟨k + 1, by go_num, by omega, HB3, HF2⟩
            case measure => simp [intOf]; omega
      · have hltz : ¬ (k : Int) < (f.rules.length : Int) := by omega
        have HP := Aside0.mk (HM1.out (find_all _ z100 _ k (by omega) HF.out))
        by_cases h1 : f.F.owner = u
        · have g1 : (f.F.owner.toList == u.toList) = true := by rw [h1]; exact beq_yes _
          have HQ := Aside0.mk (show mayB f.F f.rules u a = true by rw [HP.out, h1]; simp)
          clear h1
          go_wp2
          refine bodyPost_ret (v := .bool true) (by simp [results, Tryz.f60, go_sem]) rfl ?_
          exact ⟨by rw [HQ.out], HL.out⟩
        · have g1 := beq_no h1
          have HQ := Aside0.mk (show mayB f.F f.rules u a = false by rw [HP.out]; simpa using fun e => h1 e.symm)
          clear h1
          go_wp2
          refine bodyPost_ret (v := .bool false) (by simp [results, Tryz.f60, go_sem]) rfl ?_
          exact ⟨by rw [HQ.out], HL.out⟩
  · have hd : decide (bits .and .i64 a f.F.perm = a) = false := decide_eq_false hperm
    have HM := Aside0.mk (show mayB f.F f.rules u a = false by unfold mayB; rw [HCOM.out, if_neg hperm])
    clear hperm
    go_wp2
    refine bodyPost_ret (v := .bool false) (by simp [results, Tryz.f60, go_sem]) rfl ?_
    exact ⟨by rw [HM.out], HB1.out⟩
def mBegin (st : Fs) (u n : ByteArray) : Except Int (Nat × AF × Int) := match posF st n with
  | none => .error 3
  | some (k, f) => match lookU f.users u with | none => .error 8 | some (a, _) => .ok (k, f, a)
def BeginOut (W : World) (r : Except Int (Nat × AF × Int)) (e : Ending) (w' : World) : Prop := Below W.heap.size W w' ∧ match r with
  | .error E => e = .returned (.tuple #[.int .i64 0, .int .i64 0, .int .i64 E])
  | .ok (k, _, a) => e = .returned (.tuple #[.int .i64 (k : Int), .int .i64 a, .int .i64 0])
set_option maxRecDepth 100000 in
set_option maxHeartbeats 2000000 in
theorem begin_c (rb c : Nat) (ok : Nat → Prop) (st : Fs) (A : Option Addr) (u n : ByteArray) (W : World) (h : RParts W ok rb st A c) :
    Calls Tryz.prog 67 #[.pointer (some ⟨rb, 0, none⟩), .string u, .string n] W (BeginOut W (mBegin st u n)) := by
  have CF := Aside0.mk (find_c rb c ok st A n W h)
  unfold mBegin
  rcases posI_range st n with ⟨hp, hpf⟩ | ⟨k, f, hp, hpf, hk, hnm⟩
  · rw [hpf]
    rw [hp] at CF
    have c1 := h.c1
    clear h
    go_enter Tryz.func67, Tryz.ntmps67
    go_wp2_with first | (go_at_call 49; refine CF.out.mono ?_; rintro e w' ⟨rfl, rfl⟩)
    go_ret3
    exact ⟨Below.refl _ _, rfl⟩
  · rw [hpf]
    rw [hp] at CF
    have hil : k < st.length := (List.getElem?_eq_some_iff.1 hk).1
    obtain ⟨g, Ar, cr, Au, cu, Ao, co, T⟩ := h.row hk
    have c1 := h.c1
    have hlz : (k : Int) < (st.length : Int) := by omega
    have hk0 : decide ((k : Int) < 0) = false := decide_eq_false (by omega)
    have hA := T.hA
    subst hA
    obtain ⟨x0, x1, x2, x3, x4, x5, x6, x7, x8, x9⟩ := T.x
    have CH := Aside0.mk (has_c _ f Ar Au Ao cr cu co u W T.In)
    unfold RowIs at CH
    have HIn := Aside0.mk T.In
    have hrb := h.lt rb h.okr
    have hgl := h.glt T
    clear h T hnm hpf hp
    rcases hasI_lookU f.users u with ⟨hh, hlu⟩ | ⟨q, p, hh, hql, hq, hlu⟩
    · rw [hh] at CH
      simp only [hlu]
      go_enter Tryz.func67, Tryz.ntmps67
      go_wp2_with first | (go_at_call 49; refine CF.out.mono ?_; rintro e w' ⟨rfl, rfl⟩)
      refine CH.out.mono ?_
      rintro e w2 ⟨rfl, hb2⟩
      go_wp2
      go_ret3
      exact ⟨hb2, rfl⟩
    · rw [hh] at CH
      obtain ⟨pa, px⟩ := p
      simp only [hlu]
      have hqz : (q : Int) < (f.users.length : Int) := by omega
      have hq0 : decide ((q : Int) < 0) = false := decide_eq_false (by omega)
      go_enter Tryz.func67, Tryz.ntmps67
      go_wp2_with first | (go_at_call 49; refine CF.out.mono ?_; rintro e w' ⟨rfl, rfl⟩)
      refine CH.out.mono ?_
      rintro e w2 ⟨rfl, hb2⟩
      have d1 := (hb2.cell (p := ⟨rb, 1, none⟩) hrb).trans c1
      have d9 := (hb2.cell (p := ⟨g, k * 10 + 9, none⟩) hgl).trans x9
      obtain ⟨ad, rfl, y0, y1, y2⟩ := at_users (HIn.out.step (Chg.of_below hb2 (fun _ => False)) (fun _ _ h => h)).oC.2 q hql
      have e1 : f.users[q] = (u, (pa, px)) := by
        rw [List.getElem?_eq_getElem hql] at hq
        injection hq
      rw [e1] at y1
      simp only at y1
      clear y0 y2 e1 x0 x1 x2 x3 x4 x5 x6 x7 x8 x9 c1
      go_wp2
      go_region
      go_wp2
      go_ret3
      exact ⟨by first | exact hb2.drew | exact pw_below_drewN hb2 _, rfl⟩
end Go.Proofs.YtehlmkgldcfciaaGreat.Files
/- The reference's store: a change noted. -/
set_option linter.unusedVariables false
set_option linter.unusedSimpArgs false
namespace Go.Proofs.YtehlmkgldcfciaaGreat.Files
open Go.Proofs.YtehlmkgldcfciaaGreat.Common Go.Maps Go.ChangeMaps Go.WideMaps Go.Proofs.YtehlmkgldcfciaaGreat.F
open Go.RowKit Go.Proofs.YtehlmkgldcfciaaGreatW.PrintWords Go.Proofs.YtehlmkgldcfciaaGreatW.PrintLast Go.Proofs.YtehlmkgldcfciaaGreatW.PrintMore
section
variable {W w' X : World} {ok okI S : Nat → Prop} {rb c i g cr cu co : Nat} {st : Fs} {A Ar Au Ao : Option Addr} {f : AF}
theorem R_made {α : Type} {d : Kd α} {e : Nat} {v : Value} {xs : List α} (hr : d.R e X W.heap.size (fun _ => True) v xs) (hb : Below W.heap.size W X) (h : RParts W ok rb st A c) (T : RowAt W ok rb A i g f Ar cr Au cu Ao co) :
    d.R e X 0 (fun k => (((ok k ∨ W.heap.size ≤ k) ∧ k < X.heap.size) ∧ k ≠ rb) ∧ k ≠ g) v xs :=
  Kd.R_mono (Kd.R_lower (Kd.R_bound hr) (Nat.zero_le _)) (fun k hk => ⟨⟨⟨.inr hk.2.1, hk.2.2.1⟩, fun e => by have := h.lt rb h.okr; have := hk.2.1; omega⟩, fun e => by have := h.glt T; have := hk.2.1; omega⟩)
theorem InR.old (h : RParts W ok rb st A c) (hI : InR W (fun k => (ok k ∧ k ≠ rb) ∧ k ≠ g) f Ar cr Au cu Ao co) (hb : Below W.heap.size W X) :
    InR X (fun k => (((ok k ∨ W.heap.size ≤ k) ∧ k < X.heap.size) ∧ k ≠ rb) ∧ k ≠ g) f Ar cr Au cu Ao co :=
  (hI.step (Chg.of_below hb (fun _ => False)) (fun _ _ h => h)).mono (fun k hk => ⟨⟨⟨.inl hk.1.1, Nat.lt_of_lt_of_le (h.lt k hk.1.1) hb.size⟩, hk.1.2⟩, hk.2⟩)
theorem RParts.later (h : RParts W ok rb st A c) (hb : Below W.heap.size W X) : RParts X (okP ok W X) rb st A c :=
  (h.below hb).mono (fun k hk => ⟨.inl hk, Nat.lt_of_lt_of_le (h.lt k hk) hb.size⟩) (fun k hk => hk.2)
theorem RowAt.later (h : RParts W ok rb st A c) (T : RowAt W ok rb A i g f Ar cr Au cu Ao co) (hb : Below W.heap.size W X) : RowAt X (okP ok W X) rb A i g f Ar cr Au cu Ao co :=
  (T.step hb (h.glt T)).mono (fun k hk => ⟨.inl hk, Nat.lt_of_lt_of_le (h.lt k hk) hb.size⟩)
theorem RParts.put (h : RParts W ok rb st A c) (T : RowAt W ok rb A i g f Ar cr Au cu Ao co) (hi : st[i]? = some f) (hb : Below W.heap.size W X) (j : Nat) (u : Value) {f' : AF} {Ar' Au' Ao' : Option Addr} {cr' cu' co' : Nat}
    (hj : j < 10) (hc : (RowIs f (.slice Ar f.rules.length cr) (.slice Au f.units.length cu) (.slice Ao f.users.length co)).set j u = RowIs f' (.slice Ar' f'.rules.length cr') (.slice Au' f'.units.length cu') (.slice Ao' f'.users.length co'))
    (hI : InR X (fun k => (((ok k ∨ W.heap.size ≤ k) ∧ k < X.heap.size) ∧ k ≠ rb) ∧ k ≠ g) f' Ar' cr' Au' cu' Ao' co') (v : Value) :
    ROut W ok rb v (st.set i f') (.returned v) (X.setCell ⟨g, i * 10 + j, none⟩ u) := by
  obtain ⟨h1, h2⟩ := (h.later hb).set (T.later h hb) hi j u hj hc hI
  refine ⟨rfl, okP ok W X, ⟨A, c, h1⟩, ((Chg.of_below hb (fun _ => False)).mono (fun _ h => h.elim)).trans h2 (fun q hq => .inl (by rw [hq]; exact T.okg.1)), fun q hq => hq.1⟩
end
def AF.units' (f : AF) (who : ByteArray) (l : List S29) : AF := { f with F := f.F.noted who, units := l }
set_option maxRecDepth 100000 in
set_option maxHeartbeats 4000000 in
theorem rchanged_c (rb c i g cr cu co cl : Nat) (ok : Nat → Prop) (st : Fs) (f : AF) (A Ar Au Ao Al : Option Addr) (who : ByteArray) (l : List S29) (W : World) (h : RParts W ok rb st A c) (hi : st[i]? = some f) (T : RowAt W ok rb A i g f Ar cr Au cu Ao co) :
    Calls Tryz.prog 75 #[.pointer (some ⟨rb, 0, none⟩), .int .i64 (i : Int), .string who, .slice Al l.length cl] W fun e w' => e = .returned (.int .i64 0) ∧ ∃ m, w' = (((W.setCell ⟨g, i * 10 + 8, none⟩ (.slice Al l.length cl)).drewN m).setCell ⟨g, i * 10 + 5, none⟩ (.int .i64 (wrap64 (f.F.ch + 1)))).setCell ⟨g, i * 10 + 4, none⟩ (.string who) := by
  have hil : i < st.length := (List.getElem?_eq_some_iff.1 hi).1
  have hilz : (i : Int) < (st.length : Int) := by omega
  have hi0 : decide ((i : Int) < 0) = false := decide_eq_false (by omega)
  have c1 := h.c1
  have hA := T.hA
  subst hA
  obtain ⟨x0, x1, x2, x3, x4, x5, x6, x7, x8, x9⟩ := T.x
  have f8 := T.fz (i * 10 + 8)
  have f5 := T.fz (i * 10 + 5)
  have f4 := T.fz (i * 10 + 4)
  have hne : g ≠ rb := T.okg.2
  have hne2 : rb ≠ g := Ne.symm hne
  clear h T x0 x1 x2 x3 x6 x7 x9
  go_enter Tryz.func75, Tryz.ntmps75
  go_wp2
  go_region
  go_wp2
  go_ret
  exact ⟨rfl, 1, rfl⟩
end Go.Proofs.YtehlmkgldcfciaaGreat.Files
/- The reference's store: what its steps are, plainly. -/
set_option linter.unusedVariables false
set_option linter.unusedSimpArgs false
namespace Go.Proofs.YtehlmkgldcfciaaGreat.Files
open Go.Proofs.YtehlmkgldcfciaaGreat.Common Go.Maps Go.ChangeMaps Go.WideMaps Go.Proofs.YtehlmkgldcfciaaGreat.F
open Go.RowKit Go.Proofs.YtehlmkgldcfciaaGreatW.PrintWords Go.Proofs.YtehlmkgldcfciaaGreatW.PrintLast Go.Proofs.YtehlmkgldcfciaaGreatW.PrintMore
theorem pow_cast (k : Nat) : ((2 : Int) ^ k) = ((2 ^ k : Nat) : Int) := by rw [Int.natCast_pow]; rfl
theorem wrap_small (m : Nat) (hm : m < 4611686018427387904) : IntKind.i64.wrap (m : Int) = (m : Int) := by
  rw [show IntKind.i64.wrap (m : Int) = wrap64 (m : Int) from (i64_w _).symm ▸ rfl]
  unfold wrap64
  omega
theorem andTwo (b : Int) (k : Nat) (hk : k < 62) : (bits .and .i64 (2 ^ k) b = 2 ^ k) ↔ ¬ bits .and .i64 b (2 ^ k) = 0 := by
  have hp : (2 : Nat) ^ k < 4611686018427387904 := Nat.lt_of_lt_of_le (Nat.pow_lt_pow_right (by decide) hk) (by decide)
  have hp0 : 0 < (2 : Nat) ^ k := Nat.two_pow_pos k
  have ht : (BitVec.twoPow 64 k).toNat = 2 ^ k := by rw [BitVec.toNat_twoPow, Nat.mod_eq_of_lt (by omega)]
  have h1 : BitVec.ofInt 64 ((2 ^ k : Nat) : Int) = BitVec.twoPow 64 k := by
    apply BitVec.eq_of_toNat_eq
    rw [BitVec.ofInt_natCast, BitVec.toNat_ofNat, ht, Nat.mod_eq_of_lt (by omega)]
  rw [pow_cast]
  have e1 : bits .and .i64 ((2 ^ k : Nat) : Int) b = IntKind.i64.wrap ((BitVec.ofInt 64 ((2 ^ k : Nat) : Int) &&& BitVec.ofInt 64 b).toNat : Int) := rfl
  have e2 : bits .and .i64 b ((2 ^ k : Nat) : Int) = IntKind.i64.wrap ((BitVec.ofInt 64 b &&& BitVec.ofInt 64 ((2 ^ k : Nat) : Int)).toNat : Int) := rfl
  rw [e1, e2, h1, BitVec.and_comm, BitVec.and_twoPow]
  clear e1 e2 h1
  split
  · rw [ht, wrap_small _ hp]
    omega
  · rw [show (0#64).toNat = 0 from rfl, wrap_small 0 (by omega)]
    omega
theorem within_den (a action : Int) (k : Nat) (hk : k < 62) (h : action = 2 ^ k) : decide (bits .and .i64 action a = action) = decide (denied a action = 0) := by
  subst h
  have := andTwo a k hk
  unfold denied
  by_cases h2 : bits .and .i64 a (2 ^ k) = 0
  · rw [if_pos h2, decide_eq_false (fun e => (this.1 e) h2)]; rfl
  · rw [if_neg h2, decide_eq_true (this.2 h2)]; rfl
section
variable {st : Fs} {u n : ByteArray} {k : Nat} {f : AF} {E a : Int}
theorem mFound_bad (h : (userB u && nameB n) = false) : mFound st u n = .error 1 := by unfold mFound; rw [if_pos h]
theorem mFound_none (h : (userB u && nameB n) = true) (hp : posF st n = none) : mFound st u n = .error 3 := by unfold mFound; rw [if_neg (by simp [h]), hp]
theorem mFound_ok (h : (userB u && nameB n) = true) (hp : posF st n = some (k, f)) : mFound st u n = .ok (k, f) := by unfold mFound; rw [if_neg (by simp [h]), hp]
theorem mOpened_bad (h : (userB u && nameB n) = false) (action : Int) : mOpened st u n action = .error 1 := by unfold mOpened; rw [mFound_bad h]
theorem mOpened_err (h : (userB u && nameB n) = true) (hb : mBegin st u n = .error E) (action : Int) : mOpened st u n action = .error E := by
  unfold mBegin at hb
  cases hp : posF st n with
  | none =>
    rw [hp] at hb
    injection hb with hb
    unfold mOpened
    rw [mFound_none h hp, hb]
  | some p =>
    obtain ⟨k, f⟩ := p
    rw [hp] at hb
    simp only at hb
    cases hl : lookU f.users u with
    | none =>
      rw [hl] at hb
      injection hb with hb
      unfold mOpened
      rw [mFound_ok h hp]
      simp only [hl, hb]
    | some q => rw [hl] at hb; cases hb
theorem mOpened_ok (h : (userB u && nameB n) = true) (hb : mBegin st u n = .ok (k, f, a)) (action : Int) : mOpened st u n action = .ok (k, f, denied a action) := by
  unfold mBegin at hb
  cases hp : posF st n with
  | none => rw [hp] at hb; cases hb
  | some p =>
    obtain ⟨k, f⟩ := p
    rw [hp] at hb
    simp only at hb
    cases hl : lookU f.users u with
    | none => rw [hl] at hb; cases hb
    | some q =>
      obtain ⟨q1, q2⟩ := q
      rw [hl] at hb
      injection hb with hb
      injection hb with h1 hb
      injection hb with h2 h3
      subst h1 h2 h3
      unfold mOpened
      rw [mFound_ok h hp]
      simp only [hl]
theorem mBegin_at (hb : mBegin st u n = .ok (k, f, a)) : st[k]? = some f ∧ f.F.name = n := by
  unfold mBegin at hb
  cases hp : posF st n with
  | none => rw [hp] at hb; cases hb
  | some p =>
    obtain ⟨k', f'⟩ := p
    rw [hp] at hb
    simp only at hb
    cases hl : lookU f'.users u with
    | none => rw [hl] at hb; cases hb
    | some q =>
      rw [hl] at hb
      injection hb with hb
      injection hb with h1 hb
      injection hb with h2 h3
      subst h1 h2
      exact posF_some hp
theorem mBegin_E (hb : mBegin st u n = .error E) : (E == 0) = false := by
  unfold mBegin at hb
  cases hp : posF st n with
  | none => rw [hp] at hb; injection hb with hb; rw [← hb]; rfl
  | some p =>
    obtain ⟨k', f'⟩ := p
    rw [hp] at hb
    simp only at hb
    cases hl : lookU f'.users u with
    | none => rw [hl] at hb; injection hb with hb; rw [← hb]; rfl
    | some q => rw [hl] at hb; cases hb
theorem mUnit_neg {at_ action : Int} (h : at_ < 0) : mUnit st u n at_ action = .error 1 := by unfold mUnit; rw [if_pos h]
theorem mUnit_err {at_ action : Int} (h : ¬ at_ < 0) (ho : mOpened st u n action = .error E) : mUnit st u n at_ action = .error E := by unfold mUnit; rw [if_neg h, ho]
theorem mUnit_none {at_ action dn : Int} (h : ¬ at_ < 0) (ho : mOpened st u n action = .ok (k, f, dn)) (hl : (f.units.length : Int) ≤ at_) : mUnit st u n at_ action = .error 3 := by unfold mUnit; rw [if_neg h, ho]; simp only [if_pos hl]
theorem mUnit_ok {at_ action dn : Int} (h : ¬ at_ < 0) (ho : mOpened st u n action = .ok (k, f, dn)) (hl : ¬ (f.units.length : Int) ≤ at_) : mUnit st u n at_ action = .ok (k, f, at_.toNat, dn) := by unfold mUnit; rw [if_neg h, ho]; simp only [if_neg hl]
end
theorem ROut.stay {W w' : World} {ok : Nat → Prop} {rb : Nat} {st st' : Fs} {E E' : Int} (h : RRep W ok rb st) (hb : Below W.heap.size W w') (h1 : E' = E) (h2 : st' = st) : ROut W ok rb (.int .i64 E') st' (.returned (.int .i64 E)) w' := by
  subst h1 h2
  exact ROut.below h hb
theorem filter_erase : ∀ (l : List (ByteArray × (Int × Int))) (u : ByteArray) (q : Nat), hasI l u = (q : Int) → (l.map (fun p => p.1.data.toList)).Nodup → l.filter (fun p => !decide (p.1 = u)) = l.take q ++ l.drop (q + 1)
  | [], u, q, h, _ => by simp [hasI, idxP] at h
  | p :: l, u, q, h, hn => by
    simp only [List.map_cons, List.nodup_cons] at hn
    unfold hasI at h
    rw [idxP] at h
    by_cases hp : p.1 = u
    · rw [if_pos (by simp [isU, hp])] at h
      obtain rfl : q = 0 := by omega
      rw [List.filter_cons_of_neg (by simp [hp])]
      simp only [List.take_zero, List.nil_append, Nat.zero_add, List.drop_succ_cons, List.drop_zero]
      refine List.filter_eq_self.2 fun x hx => ?_
      have : ¬ x.1 = u := fun e => hn.1 (List.mem_map.2 ⟨x, hx, by rw [e, hp]⟩)
      simp [this]
    · rw [if_neg (by simp [isU, hp])] at h
      have hr := idxP_range (isU u) l
      split at h
      · omega
      · obtain ⟨q', rfl⟩ : ∃ q', q = q' + 1 := ⟨q - 1, by omega⟩
        rw [List.filter_cons_of_pos (by simp [hp]), filter_erase l u q' (by unfold hasI; omega) hn.2]
        simp
theorem closed_erase (f : AF) (u : ByteArray) (q : Nat) (h : hasI f.users u = (q : Int)) (hn : (f.users.map (fun p => p.1.data.toList)).Nodup) : f.closed u = { f with users := f.users.take q ++ f.users.drop (q + 1) } := by
  unfold AF.closed
  rw [filter_erase f.users u q h hn]
theorem take_row {α : Type} {d : Kd α} {W : World} {A : Option Addr} {n m : Nat} {xs : List α} (h : d.C W A xs.length xs) (hn : xs.length = n) (hm : m ≤ n) : d.C W A m (xs.take m) := by
  have := Kd.C_take (m := m) h (by omega)
  rwa [List.length_take, Nat.min_eq_left (by omega)] at this
theorem drop_row {α : Type} {d : Kd α} {W : World} {A : Option Addr} {n m c : Nat} {xs : List α} (h : d.C W A xs.length xs) (hn : xs.length = n) (hm : m ≤ n) (hc : n ≤ c) : d.C W (if c = m then A else A.map (·.add (m * d.sz))) (n - m) (xs.drop m) := by
  have := Kd.C_drop (m := m) (c := c) h (by omega) (by omega)
  rwa [List.length_drop, hn] at this
end Go.Proofs.YtehlmkgldcfciaaGreat.Files
/- The reference's store: Close. -/
set_option linter.unusedVariables false
set_option linter.unusedSimpArgs false
namespace Go.Proofs.YtehlmkgldcfciaaGreat.Files
open Go.Proofs.YtehlmkgldcfciaaGreat.Common Go.Maps Go.ChangeMaps Go.WideMaps Go.Proofs.YtehlmkgldcfciaaGreat.F
open Go.RowKit Go.Proofs.YtehlmkgldcfciaaGreatW.PrintWords Go.Proofs.YtehlmkgldcfciaaGreatW.PrintLast Go.Proofs.YtehlmkgldcfciaaGreatW.PrintMore
def RClose.T10 : Bool × List (List Nat × List Nat) := (true, [([], []), ([0], [0]), ([1], [1]), ([2], [2]), ([], []), ([], []), ([], []), ([6], [6]), ([], []), ([7, 8], [7, 8]), ([5, 9], [5, 9]), ([], []), ([11], [11]), ([], []), ([13], [13]), ([12, 14], [12, 14]), ([10, 15, 10], [10, 15]), ([3, 4, 0, 1, 2, 3, 4, 5, 6, 7, 8, 9, 10, 11, 12, 13, 14, 15, 16], [3, 4]), ([17, 0, 1, 2, 3, 4, 5, 6, 7, 8, 9, 10, 11, 12, 13, 14, 15, 16], [17]), ([18, 16, 16, 0, 1, 2, 3, 4, 5, 6, 7, 8, 9, 10, 11, 12, 13, 14, 15, 16], [16, 18])])
def RClose.B10 : List Nat := [0, 1, 3, 7, 0, 0, 0, 64, 0, 448, 992, 0, 2048, 0, 8192, 30720, 65504, 131071, 262143, 524287]
theorem RClose.tab10 : rtab .any (opsOf Tryz.f23 10) = RClose.T10 := by kernel_rfl
theorem RClose.bits10 : waitsOk RClose.T10.2 RClose.B10 = true := by kernel_rfl
set_option maxRecDepth 100000 in
set_option maxHeartbeats 4000000 in
theorem rClose_c (rb c : Nat) (ok : Nat → Prop) (st : Fs) (A : Option Addr) (u n : ByteArray) (W : World) (h : RParts W ok rb st A c) (hU : ∀ f ∈ st, f.users.length ≤ 1000 ∧ (f.users.map (fun p => p.1.data.toList)).Nodup) :
    Calls Tryz.prog 23 #[.pointer (some ⟨rb, 0, none⟩), .string u, .string n] W (ROut W ok rb (.int .i64 (mClose st u n).1) (mClose st u n).2) := by
  have C56 := Aside0.mk (rbad_c rb u n W h.c0)
  have CF := Aside0.mk (find_c rb c ok st A n W h)
  have HRR := Aside0.mk (show RRep W ok rb st from ⟨A, c, h⟩)
  have c1 := h.c1
  cases hbad : (userB u && nameB n) with
  | false =>
    rw [hbad] at C56
    have HM := Aside0.mk (show mClose st u n = (1, st) by unfold mClose; rw [mFound_bad hbad])
    clear h hbad c1 CF hU
    go_enter Tryz.func23, Tryz.ntmps23
    go_wp2_with first | (go_at_call 56; refine C56.out.mono ?_; rintro e w' ⟨rfl, rfl⟩)
    go_ret
    exact ROut.stay HRR.out (Below.refl _ _) (by rw [HM.out]) (by rw [HM.out])
  | true =>
   rw [hbad] at C56
   rcases posI_range st n with ⟨hp, hpf⟩ | ⟨k, f, hp, hpf, hk, hnm⟩
   · rw [hp] at CF
     have HM := Aside0.mk (show mClose st u n = (3, st) by unfold mClose; rw [mFound_none hbad hpf])
     clear h hbad c1 hU hp hpf
     go_enter Tryz.func23, Tryz.ntmps23
     go_wp2_with first | (go_at_call 56; refine C56.out.mono ?_; rintro e w' ⟨rfl, rfl⟩) | (go_at_call 49; refine CF.out.mono ?_; rintro e w' ⟨rfl, rfl⟩)
     go_ret
     exact ROut.stay HRR.out (Below.refl _ _) (by rw [HM.out]) (by rw [HM.out])
   · rw [hp] at CF
     obtain ⟨g, Ar, cr, Au, cu, Ao, co, T⟩ := h.row hk
     have hil : k < st.length := (List.getElem?_eq_some_iff.1 hk).1
     have hlz : (k : Int) < (st.length : Int) := by omega
     have hk0 : decide ((k : Int) < 0) = false := decide_eq_false (by omega)
     have hA := T.hA
     subst hA
     obtain ⟨x0, x1, x2, x3, x4, x5, x6, x7, x8, x9⟩ := T.x
     have HH := Aside0.mk h
     have HT := Aside0.mk T
     have HK := Aside0.mk hk
     have hrb := h.lt rb h.okr
     have hgl := h.glt T
     have hne : g ≠ rb := T.okg.2
     have hne2 : rb ≠ g := Ne.symm hne
     have hul := (hU f (List.mem_of_getElem? hk)).1
     have hnd := Aside0.mk (hU f (List.mem_of_getElem? hk)).2
     have CH := Aside0.mk (fun W' (hb : Below W.heap.size W W') => has_c _ f Ar Au Ao cr cu co u W' (T.In.step (Chg.of_below hb (fun _ => False)) (fun _ _ h => h)))
     unfold RowIs at CH
     have HMF := Aside0.mk (mFound_ok hbad hpf)
     have HBX := Aside0.mk (show Below W.heap.size W (W.alloc (.cells #[.string f.F.name, .int .i64 f.F.kind, .int .i64 f.F.perm, .string f.F.owner, .string f.F.last, .int .i64 f.F.ch, .int .i64 f.F.rd, .slice Ar f.rules.length cr, .slice Au f.units.length cu, .slice Ao f.users.length co] 85)) from (Below.refl _ _).alloc (Nat.le_refl _) _)
     have HBK := Aside0.mk (show (W.alloc (.cells #[.string f.F.name, .int .i64 f.F.kind, .int .i64 f.F.perm, .string f.F.owner, .string f.F.last, .int .i64 f.F.ch, .int .i64 f.F.rd, .slice Ar f.rules.length cr, .slice Au f.units.length cu, .slice Ao f.users.length co] 85)).heap[W.heap.size]? = some (.cells #[.string f.F.name, .int .i64 f.F.kind, .int .i64 f.F.perm, .string f.F.owner, .string f.F.last, .int .i64 f.F.ch, .int .i64 f.F.rd, .slice Ar f.rules.length cr, .slice Au f.units.length cu, .slice Ao f.users.length co] 85 (0, 0)) by simpa using heap_alloc_new W _)
     have HL9 := Aside0.mk (T.In.oC)
     clear h T hnm hpf hp hbad hU hk
     rcases hasI_lookU f.users u with ⟨hh, hlu⟩ | ⟨q, p, hh, hql, hq, hlu⟩
     · have HM := Aside0.mk (show mClose st u n = (8, st) by unfold mClose; rw [HMF.out]; simp only [hlu])
       rw [hh] at CH
       clear hlu hh
       go_enter Tryz.func23, Tryz.ntmps23
       go_wp2_with first | (go_at_call 56; refine C56.out.mono ?_; rintro e w' ⟨rfl, rfl⟩) | (go_at_call 49; refine CF.out.mono ?_; rintro e w' ⟨rfl, rfl⟩)
       refine (CH.out _ HBX.out).mono ?_
       rintro e w2 ⟨rfl, hb2⟩
       have HB := Aside0.mk (HBX.out.trans (hb2.mono HBX.out.size))
       clear hb2 x0 x1 x2 x3 x4 x5 x6 x7 x8 x9
       go_wp2
       go_ret
       exact ROut.stay HRR.out HB.out (by rw [HM.out]) (by rw [HM.out])
     · have HM := Aside0.mk (show mClose st u n = (0, st.set k (f.closed u)) by unfold mClose; rw [HMF.out]; simp only [hlu])
       rw [hh] at CH
       have HCL := Aside0.mk (closed_erase f u q hh hnd.out)
       have hqz : (q : Int) ≤ (f.users.length : Int) := by omega
       have hq1z : (q : Int) + 1 ≤ (f.users.length : Int) := by omega
       have hq0 : decide ((q : Int) < 0) = false := decide_eq_false (by omega)
       have hqc : q ≤ co := by have := HL9.out.1; omega
       have hqw : wrap64 ((q : Int) + 1) = ((q + 1 : Nat) : Int) := by unfold wrap64; omega
       have hqn : ((q + 1 : Nat) : Int) ≤ (f.users.length : Int) := by omega
       have hqm : (0 : Int) ≤ (q : Int) + 1 := by omega
       have HTK := Aside0.mk (fun w (hb : Below W.heap.size W w) => take_row (Kd.C_below HL9.out.2 hb) (n := f.users.length) (by simp) (Nat.le_of_lt hql))
       have HDR := Aside0.mk (fun w (hb : Below W.heap.size W w) => drop_row (m := q + 1) (c := co) (Kd.C_below HL9.out.2 hb) (n := f.users.length) (by simp) (by omega) HL9.out.1)
       clear hlu hh hq
       go_enter Tryz.func23, Tryz.ntmps23
       go_wp2_with first | (go_at_call 56; refine C56.out.mono ?_; rintro e w' ⟨rfl, rfl⟩) | (go_at_call 49; refine CF.out.mono ?_; rintro e w' ⟨rfl, rfl⟩)
       refine (CH.out _ HBX.out).mono ?_
       rintro e w2 ⟨rfl, hb2⟩
       have HB := Aside0.mk (HBX.out.trans (hb2.mono HBX.out.size))
       have d9 : w2.cell? ⟨W.heap.size, 9, none⟩ = some (.slice Ao f.users.length co) := (hb2.cell (p := ⟨W.heap.size, 9, none⟩) (by simp)).trans ((blk_cell HBK.out 9).trans rfl)
       have d1 : w2.cell? ⟨rb, 1, none⟩ = some (.slice (some ⟨g, 0, none⟩) st.length c) := (HB.out.cell (p := ⟨rb, 1, none⟩) hrb).trans c1
       have HX9 := Aside0.mk x9
       obtain ⟨N, hN⟩ : ∃ N, N = (f.users.take q ++ f.users.drop (q + 1)).length := ⟨_, rfl⟩
       have HN := Aside0.mk hN
       have HLEN := Aside0.mk (show ((f.users.map toO).take q ++ (f.users.map toO).drop (q + 1)).length = N by rw [hN]; simp)
       clear hN
       clear hb2 x0 x1 x2 x3 x4 x5 x6 x7 x8 x9 c1
       go_wp2_with fail
       refine start_ (n := 20) (S := fun w' => w'.cell? ⟨rb, 1, none⟩ = some (.slice (some ⟨g, 0, none⟩) st.length c) ∧ w'.cell? ⟨W.heap.size, 9, none⟩ = some (.slice Ao f.users.length co)) (ds := [19]) #[false, false, false, false, false, false, false, false, false, false, false, false, false, false, false, false, false, false, false, false] (by kernel_rfl) rfl rfl ⟨d1, d9⟩ (fun hHeld => ?_)
       refine with_tabW RClose.tab10 RClose.bits10 (fun HT_ HW_ => ?_)
       have HWD := Aside0.mk (show Below W.heap.size W w2.drew from HB.out.drew)
       generalize w2.drew = wd at HWD hHeld ⊢
       have HF0 := Aside0.mk hHeld
       refine pure_ (i := 0) (N := some 31) (v := ?_) (a' := ?_) #[true, false, false, false, false, false, false, false, false, false, false, false, false, false, false, false, false, false, false, false] rfl rfl (any_of HT_.out (by kernel_rfl)) (fun _ _ _ h => h) (Or.inl ⟨by rfl, ?_⟩) ?_ ?_
       rotate_left
       · intro w'
         go_simp
         with_reducible rfl
       rotate_left
       · simp only [Act.put, List.setIfInBounds_toArray, List.set_cons_zero, List.set_cons_succ, i64_w, i32_w]
         rfl
       refine pure_ (i := 1) (N := some 32) (v := ?_) (a' := ?_) #[true, true, false, false, false, false, false, false, false, false, false, false, false, false, false, false, false, false, false, false] rfl rfl (any_of HT_.out (by kernel_rfl)) (fun _ _ _ h => h) (Or.inl ⟨by rfl, ?_⟩) ?_ ?_
       rotate_left
       · intro w'
         go_simp
         with_reducible rfl
       rotate_left
       · simp only [Act.put, List.setIfInBounds_toArray, List.set_cons_zero, List.set_cons_succ, i64_w, i32_w]
         rfl
       refine pure_ (i := 2) (N := some 33) (v := ?_) (a' := ?_) #[true, true, true, false, false, false, false, false, false, false, false, false, false, false, false, false, false, false, false, false] rfl rfl (any_of HT_.out (by kernel_rfl)) (fun _ _ _ h => h) (Or.inl ⟨by rfl, ?_⟩) ?_ ?_
       rotate_left
       · intro w'
         go_simp
         with_reducible rfl
       rotate_left
       · simp only [Act.put, List.setIfInBounds_toArray, List.set_cons_zero, List.set_cons_succ, i64_w, i32_w]
         rfl
       refine pure_ (i := 4) (N := some 35) (v := ?_) (a' := ?_) #[true, true, true, false, true, false, false, false, false, false, false, false, false, false, false, false, false, false, false, false] rfl rfl (any_of HT_.out (by kernel_rfl)) (fun _ _ _ h => h) (Or.inl ⟨by rfl, ?_⟩) ?_ ?_
       rotate_left
       · intro w'
         go_simp
         with_reducible rfl
       rotate_left
       · simp only [Act.put, List.setIfInBounds_toArray, List.set_cons_zero, List.set_cons_succ, i64_w, i32_w]
         rfl
       refine pure_ (i := 6) (N := some 37) (v := ?_) (a' := ?_) #[true, true, true, false, true, false, true, false, false, false, false, false, false, false, false, false, false, false, false, false] rfl rfl (any_of HT_.out (by kernel_rfl)) (fun _ _ _ h => h) (Or.inl ⟨by rfl, ?_⟩) ?_ ?_
       rotate_left
       · intro w'
         go_simp
         with_reducible rfl
       rotate_left
       · simp only [Act.put, List.setIfInBounds_toArray, List.set_cons_zero, List.set_cons_succ, i64_w, i32_w]
         rfl
       refine pure_ (i := 8) (N := some 39) (v := ?_) (a' := ?_) #[true, true, true, false, true, false, true, false, true, false, false, false, false, false, false, false, false, false, false, false] rfl rfl (any_of HT_.out (by kernel_rfl)) (fun _ _ _ h => h) (Or.inl ⟨by rfl, ?_⟩) ?_ ?_
       rotate_left
       · intro w'
         go_simp
         with_reducible rfl
       rotate_left
       · simp only [Act.put, List.setIfInBounds_toArray, List.set_cons_zero, List.set_cons_succ, i64_w, i32_w]
         rfl
       refine pure_ (i := 11) (N := some 42) (v := ?_) (a' := ?_) #[true, true, true, false, true, false, true, false, true, false, false, true, false, false, false, false, false, false, false, false] rfl rfl (any_of HT_.out (by kernel_rfl)) (fun _ _ _ h => h) (Or.inl ⟨by rfl, ?_⟩) ?_ ?_
       rotate_left
       · intro w'
         go_simp
         with_reducible rfl
       rotate_left
       · simp only [Act.put, List.setIfInBounds_toArray, List.set_cons_zero, List.set_cons_succ, i64_w, i32_w]
         rfl
       refine pure_ (i := 13) (N := some 44) (v := ?_) (a' := ?_) #[true, true, true, false, true, false, true, false, true, false, false, true, false, true, false, false, false, false, false, false] rfl rfl (any_of HT_.out (by kernel_rfl)) (fun _ _ _ h => h) (Or.inl ⟨by rfl, ?_⟩) ?_ ?_
       rotate_left
       · intro w'
         go_simp
         with_reducible rfl
       rotate_left
       · simp only [Act.put, List.setIfInBounds_toArray, List.set_cons_zero, List.set_cons_succ, i64_w, i32_w]
         rfl
       refine pure_ (i := 14) (N := some 45) (v := ?_) (a' := ?_) #[true, true, true, false, true, false, true, false, true, false, false, true, false, true, true, false, false, false, false, false] rfl rfl (any_of HT_.out (by kernel_rfl)) (fun _ _ _ h => h) (Or.inl ⟨by rfl, ?_⟩) ?_ ?_
       rotate_left
       · intro w'
         go_simp
         with_reducible rfl
       rotate_left
       · simp only [Act.put, List.setIfInBounds_toArray, List.set_cons_zero, List.set_cons_succ, i64_w, i32_w]
         rfl
       refine take_ (i := 3) (N := some 34) (v := ?_) (a' := ?_) #[true, true, true, true, true, false, true, false, true, false, false, true, false, true, true, false, false, false, false, false] rfl rfl (take_ofW HT_.out HW_.out (by kernel_rfl)) (fun _ _ _ h => h) (Or.inl ⟨by rfl, ?_⟩) hHeld ?_ ?_
       rotate_left
       · rintro w' ⟨s0, s1⟩
         go_simp
         with_reducible rfl
       rotate_left
       · simp only [Act.put, List.setIfInBounds_toArray, List.set_cons_zero, List.set_cons_succ, i64_w, i32_w]
         rfl
       refine take_ (i := 7) (N := some 38) (v := ?_) (a' := ?_) #[true, true, true, true, true, false, true, true, true, false, false, true, false, true, true, false, false, false, false, false] rfl rfl (take_ofW HT_.out HW_.out (by kernel_rfl)) (fun _ _ _ h => h) (Or.inl ⟨by rfl, ?_⟩) hHeld ?_ ?_
       rotate_left
       · rintro w' ⟨s0, s1⟩
         go_simp
         with_reducible rfl
       rotate_left
       · simp only [Act.put, List.setIfInBounds_toArray, List.set_cons_zero, List.set_cons_succ, i64_w, i32_w]
         rfl
       refine pure_ (i := 9) (N := some 40) (v := ?_) (a' := ?_) #[true, true, true, true, true, false, true, true, true, true, false, true, false, true, true, false, false, false, false, false] rfl rfl (any_of HT_.out (by kernel_rfl)) (fun _ _ _ h => h) (Or.inl ⟨by rfl, ?_⟩) ?_ ?_
       rotate_left
       · intro w'
         go_simp
         with_reducible rfl
       rotate_left
       · simp only [Act.put, List.setIfInBounds_toArray, List.set_cons_zero, List.set_cons_succ, i64_w, i32_w]
         rfl
       refine take_ (i := 12) (N := some 43) (v := ?_) (a' := ?_) #[true, true, true, true, true, false, true, true, true, true, false, true, true, true, true, false, false, false, false, false] rfl rfl (take_ofW HT_.out HW_.out (by kernel_rfl)) (fun _ _ _ h => h) (Or.inl ⟨by rfl, ?_⟩) hHeld ?_ ?_
       rotate_left
       · rintro w' ⟨s0, s1⟩
         go_simp
         with_reducible rfl
       rotate_left
       · simp only [Act.put, List.setIfInBounds_toArray, List.set_cons_zero, List.set_cons_succ, i64_w, i32_w]
         rfl
       refine pure_ (i := 15) (N := some 46) (v := ?_) (a' := ?_) #[true, true, true, true, true, false, true, true, true, true, false, true, true, true, true, true, false, false, false, false] rfl rfl (any_of HT_.out (by kernel_rfl)) (fun _ _ _ h => h) (Or.inl ⟨by rfl, ?_⟩) ?_ ?_
       rotate_left
       · intro w'
         go_simp
         with_reducible rfl
       rotate_left
       · simp only [Act.put, List.setIfInBounds_toArray, List.set_cons_zero, List.set_cons_succ, i64_w, i32_w]
         rfl
       refine one_ (i := 5) (N := some 36) #[true, true, true, true, true, true, true, true, true, true, false, true, true, true, true, true, false, false, false, false] rfl rfl (one_of HT_.out (by kernel_rfl)) (by decide) (fun K hK => ?_)
       refine Kd.R_lit_step k95 (w0 := wd) wd.heap.size 95 ?hg (N := 36) ?hd (xs := ([] : List S95)) (inner := []) (ok := fun _ => True) (okp := fun _ => True) ?hr ?hp (fun _ hk => hk) trivial (Below.refl _ _) (Nat.le_refl _) (by simp) ?_; (case hd => rfl); (case hg => rfl); (case hr => first | (go_simp; done) | (go_simp; rfl)); (case hp => exact (Reps.none _ _))
       intro v1 x1 ho hb _ _
       have HO1 := Aside0.mk ho
       have HB1 := Aside0.mk hb
       clear ho hb
       refine hK.out _ _ ⟨pw_cell_below HB1.out HF0.out.1, pw_cell_below HB1.out HF0.out.2⟩ (fun hHeld => ?_)
       clear hK K
       refine norm_ (a' := ?_) ?_ ?_
       rotate_left
       · show Act.put _ (some 36) _ = _
         simp only [Act.put, List.setIfInBounds_toArray, List.set_cons_zero, List.set_cons_succ, i64_w, i32_w]
         rfl
       refine one_ (i := 10) (N := some 41) #[true, true, true, true, true, true, true, true, true, true, true, true, true, true, true, true, false, false, false, false] rfl rfl (one_of HT_.out (by kernel_rfl)) (by decide) (fun K hK => ?_)
       refine Kd.R_append_rows_step k95 (Rr := k95.K x1) (w0 := wd) wd.heap.size (by rfl) (.tmp 36) (.tmp 40) 83 95 (.agg #[.string ⟨#[]⟩, .int .i64 0, .int .i64 0]) 32 rfl Tryz.underlying83 (by kernel_rfl) rfl (by decide) (by omega) v1 [] ((f.users.map toO).take q) Ao q co (fun _ => True) (fun _ => False) rfl rfl HO1.out (HTK.out _ (HWD.out.trans (HB1.out.mono HWD.out.size))) (fun x cs h => by rw [k95_open h]; exact k95_mkM _ _ _ _) (fun _ h => h.elim) (fun _ _ => trivial) HB1.out HB1.out.size (by simp only [List.length_nil]; omega) ?_
       intro v2 x2 ho hb _ _
       rw [List.nil_append] at ho
       have HB2 := Aside0.mk hb
       have HO2 := Aside0.mk ho
       clear ho hb
       refine hK.out _ _ ⟨pw_cell_below HB2.out HF0.out.1, pw_cell_below HB2.out HF0.out.2⟩ (fun hHeld => ?_)
       clear hK K
       refine norm_ (a' := ?_) ?_ ?_
       rotate_left
       · show Act.put _ (some 41) _ = _
         simp only [Act.put, List.setIfInBounds_toArray, List.set_cons_zero, List.set_cons_succ, i64_w, i32_w]
         rfl
       refine one_ (i := 16) (N := some 47) #[true, true, true, true, true, true, true, true, true, true, true, true, true, true, true, true, true, false, false, false] rfl rfl (one_of HT_.out (by kernel_rfl)) (by decide) (fun K hK => ?_)
       refine Kd.R_append_rows_step k95 (Rr := k95.K x2) (w0 := wd) wd.heap.size (by rfl) (.tmp 41) (.tmp 46) 83 95 (.agg #[.string ⟨#[]⟩, .int .i64 0, .int .i64 0]) 32 rfl Tryz.underlying83 (by kernel_rfl) rfl (by decide) (by omega) v2 ((f.users.map toO).take q) ((f.users.map toO).drop (q + 1)) _ (f.users.length - (q + 1)) _ (fun _ => True) (fun _ => False) rfl rfl HO2.out (HDR.out _ (HWD.out.trans (HB2.out.mono HWD.out.size))) (fun x cs h => by rw [k95_open h]; exact k95_mkM _ _ _ _) (fun _ h => h.elim) (fun _ _ => trivial) HB2.out HB2.out.size (by rw [List.length_take, List.length_map]; omega) ?_
       intro v3 x3 ho hb _ _
       have HB3 := Aside0.mk hb
       obtain ⟨A3, c3, hv3⟩ := Kd.R_slice ho
       rw [HLEN.out] at hv3
       subst hv3
       have HBW3 := Aside0.mk (HWD.out.trans (HB3.out.mono HWD.out.size))
       have y_3 := (HBW3.out.cell (p := ⟨g, k * 10 + 9, none⟩) hgl).trans HX9.out
       have z_3 : x3.frozen? ⟨g, k * 10 + 9, none⟩ = false := by rw [World.frozen?_of_block (HBW3.out.block g hgl)]; exact HT.out.fz _
       have HO3 := Aside0.mk ho
       clear ho hb
       refine hK.out _ _ ⟨pw_cell_below HB3.out HF0.out.1, pw_cell_below HB3.out HF0.out.2⟩ (fun hHeld => ?_)
       clear hK K
       refine norm_ (a' := ?_) ?_ ?_
       rotate_left
       · show Act.put _ (some 47) _ = _
         simp only [Act.put, List.setIfInBounds_toArray, List.set_cons_zero, List.set_cons_succ, i64_w, i32_w]
         rfl
       refine pure_ (i := 17) (N := some 48) (v := ?_) (a' := ?_) #[true, true, true, true, true, true, true, true, true, true, true, true, true, true, true, true, true, true, false, false] rfl rfl (any_of HT_.out (by kernel_rfl)) (fun _ _ _ h => h) (Or.inl ⟨by rfl, ?_⟩) ?_ ?_
       rotate_left
       · intro w'
         go_simp
         with_reducible rfl
       rotate_left
       · simp only [Act.put, List.setIfInBounds_toArray, List.set_cons_zero, List.set_cons_succ, i64_w, i32_w]
         rfl
       refine pure_ (i := 18) (N := some 49) (v := ?_) (a' := ?_) #[true, true, true, true, true, true, true, true, true, true, true, true, true, true, true, true, true, true, true, false] rfl rfl (any_of HT_.out (by kernel_rfl)) (fun _ _ _ h => h) (Or.inl ⟨by rfl, ?_⟩) ?_ ?_
       rotate_left
       · intro w'
         go_simp
         with_reducible rfl
       rotate_left
       · simp only [Act.put, List.setIfInBounds_toArray, List.set_cons_zero, List.set_cons_succ, i64_w, i32_w]
         rfl
       refine last_ (i := 19) (N := none) #[true, true, true, true, true, true, true, true, true, true, true, true, true, true, true, true, true, true, true, true] rfl rfl (one_of HT_.out (by kernel_rfl)) (by decide) (fun K hK => ?_)
       refine skip_ (w1 := ?_) (by rfl) rfl ?_ ?_
       rotate_left
       · go_simp
         rfl
       refine hK.out _ _ ?_
       clear hK K
       refine done_ (done_of HT_.out (by kernel_rfl)) ?_
       have HR3 := Aside0.mk (show k95.R 95 x3 W.heap.size (fun _ => True) (.slice A3 N c3) ((f.users.take q ++ f.users.drop (q + 1)).map toO) by
         rw [List.map_append, List.map_take, List.map_drop]
         exact Kd.R_lower HO3.out HWD.out.size)
       go_wp2
       all_goals
         refine bodyPost_ret (v := .int .i64 0) (by simp [results, Tryz.f23, go_sem]) rfl ?_
         rw [HM.out, HCL.out]
         have hN := HN.out
         subst hN
         exact HH.out.put HT.out HK.out HBW3.out 9 _ (f' := { f with users := f.users.take q ++ f.users.drop (q + 1) }) (by decide) rfl ⟨(InR.old HH.out HT.out.In HBW3.out).r, (InR.old HH.out HT.out.In HBW3.out).u, R_made HR3.out HBW3.out HH.out HT.out⟩ _
end Go.Proofs.YtehlmkgldcfciaaGreat.Files
/- The reference's store: a change noted, as a method's end; one unit written. -/
set_option linter.unusedVariables false
set_option linter.unusedSimpArgs false
namespace Go.Proofs.YtehlmkgldcfciaaGreat.Files
open Go.Proofs.YtehlmkgldcfciaaGreat.Common Go.Maps Go.ChangeMaps Go.WideMaps Go.Proofs.YtehlmkgldcfciaaGreat.F
open Go.RowKit Go.Proofs.YtehlmkgldcfciaaGreatW.PrintWords Go.Proofs.YtehlmkgldcfciaaGreatW.PrintLast Go.Proofs.YtehlmkgldcfciaaGreatW.PrintMore
theorem ROut.from_ {W w2 w' : World} {ok : Nat → Prop} {rb : Nat} {v : Value} {st' : Fs} {e : Ending} (hb : Below W.heap.size W w2) (h : ROut w2 ok rb v st' e w') : ROut W ok rb v st' e w' := by
  obtain ⟨he, ok', h1, h2, h3⟩ := h
  exact ⟨he, ok', h1, ((Chg.of_below hb (fun _ => False)).mono (fun _ h => h.elim)).trans h2 (fun i hi => .inl hi), fun q hq => (h3 q hq).elim .inl (fun e => .inr (Nat.le_trans hb.size e))⟩
theorem set_at {α : Type} {l : List α} {i : Nat} {x y : α} (h : l[i]? = some x) : (l.set i y)[i]? = some y := by
  have := (List.getElem?_eq_some_iff.1 h).1
  rw [List.getElem?_set, if_pos rfl, if_pos this]
theorem rchanged_out {W X : World} {ok : Nat → Prop} {rb c i g cr cu co cl : Nat} {st : Fs} {f : AF} {A Ar Au Ao Al : Option Addr} {who : ByteArray} {l : List S29} (h : RParts W ok rb st A c) (hi : st[i]? = some f) (T : RowAt W ok rb A i g f Ar cr Au cu Ao co) (hb : Below W.heap.size W X)
    (hl : k62.R 62 X W.heap.size (fun _ => True) (.slice Al l.length cl) (l.map toU)) :
    Calls Tryz.prog 75 #[.pointer (some ⟨rb, 0, none⟩), .int .i64 (i : Int), .string who, .slice Al l.length cl] X (ROut W ok rb (.int .i64 0) (st.set i (f.units' who l))) := by
  have h0 := h.later hb
  have T0 := T.later h hb
  refine (rchanged_c rb c i g cr cu co cl _ st f A Ar Au Ao Al who l X h0 hi T0).mono ?_
  rintro e w' ⟨rfl, m, rfl⟩
  have hI := InR.old h T.In hb
  obtain ⟨h1, c1⟩ := h0.set T0 hi 8 (.slice Al l.length cl) (f' := { f with units := l }) (by decide) rfl ⟨hI.r, R_made hl hb h T, hI.o⟩
  have hd : Below (X.setCell ⟨g, i * 10 + 8, none⟩ (.slice Al l.length cl)).heap.size (X.setCell ⟨g, i * 10 + 8, none⟩ (.slice Al l.length cl)) ((X.setCell ⟨g, i * 10 + 8, none⟩ (.slice Al l.length cl)).drewN m) := pw_below_drewN (Below.refl _ _) m
  have h1d := h1.below hd
  obtain ⟨g1, Ar1, cr1, Au1, cu1, Ao1, co1, T1⟩ := h1d.row (set_at hi)
  obtain rfl : g1 = g := by have := T1.hA.symm.trans T.hA; injection this with this; injection this
  obtain ⟨h2, c2⟩ := h1d.set T1 (set_at hi) 5 (.int .i64 (wrap64 (f.F.ch + 1))) (f' := { f with F := { f.F with ch := wrap64 (f.F.ch + 1) }, units := l }) (by decide) rfl ⟨T1.In.r, T1.In.u, T1.In.o⟩
  rw [List.set_set] at h2
  obtain ⟨g2, Ar2, cr2, Au2, cu2, Ao2, co2, T2⟩ := h2.row (set_at hi)
  obtain rfl : g2 = g1 := by have := T2.hA.symm.trans T1.hA; injection this with this; injection this
  obtain ⟨h3, c3⟩ := h2.set T2 (set_at hi) 4 (.string who) (f' := f.units' who l) (by decide) rfl ⟨T2.In.r, T2.In.u, T2.In.o⟩
  rw [List.set_set] at h3
  have hg : ok g2 := T.okg.1
  have hC : Chg W _ ok := (((((Chg.of_below hb (fun _ => False)).mono (fun _ h => h.elim)).trans (c1.mono (T := ok) (fun k hk => by rw [hk]; exact hg)) (fun i hi => .inl hi)).trans ((Chg.of_below hd (fun _ => False)).mono (T := ok) (fun _ h => h.elim)) (fun i hi => .inl hi)).trans (c2.mono (T := ok) (fun k hk => by rw [hk]; exact hg)) (fun i hi => .inl hi)).trans (c3.mono (T := ok) (fun k hk => by rw [hk]; exact hg)) (fun i hi => .inl hi)
  exact ⟨rfl, okP ok W X, ⟨A, c, h3⟩, hC, fun q hq => hq.1⟩
theorem add_zero' {W : World} {ad : Addr} {v : Value} (h : W.cell? (ad.add 0) = some v) : W.cell? ad = some v := h
def gOf : Option Addr → Nat
  | some a => a.block
  | none => 0
theorem U_slice {W : World} {base : Nat} {ok : Nat → Prop} {v : Value} {l : List S62} (h : k62.R 62 W base ok v l) (hn : 0 < l.length) : ∃ g cp, v = .slice (some ⟨g, 0, none⟩) l.length cp ∧ base ≤ g ∧ l.length ≤ cp ∧ (∃ cur, W.heap[g]? = some (.cells cur 62 (0, 0))) := by
  obtain ⟨_, inner, ho, _⟩ := h
  rcases ho.2 with ⟨_, h0⟩ | ⟨g, cap, cur, hv, hb, hh, hc, _⟩
  · omega
  · exact ⟨g, cap, hv, hb, hc, cur, hh⟩
theorem at_units {W : World} {Au : Option Addr} {l : List S29} (h : Kd.C k62 W Au (l.map toU).length (l.map toU)) (k : Nat) (hk : k < l.length) : ∃ ad, Au = some ad ∧ W.cell? (ad.add (k * 3)) = some (.string l[k].f0) ∧
    W.cell? ⟨(ad.add (k * 3)).block, (ad.add (k * 3)).off + 1, none⟩ = some (.string l[k].f1) ∧ W.cell? ⟨(ad.add (k * 3)).block, (ad.add (k * 3)).off + 2, none⟩ = some (.int .i64 l[k].f2) := by
  obtain ⟨ad, e, h0, h1, h2⟩ := at_T62 h (k : Int) (by omega) (by simp; omega)
  have hrd : rd_T62 (l.map toU) (k : Int) = toU l[k] := by simp [rd_T62, List.getElem?_map, List.getElem?_eq_getElem hk]
  rw [hrd, Int.toNat_natCast] at h0 h1 h2
  exact ⟨ad, e, h0, h1, h2⟩
theorem U_set {W : World} {base g n cap i : Nat} {ok : Nat → Prop} {l : List S29} (h : k62.R 62 W base ok (.slice (some ⟨g, 0, none⟩) n cap) (l.map toU)) (hi : i < l.length) (d : ByteArray) :
    k62.R 62 (W.setCell ⟨g, i * 3 + 1, none⟩ (.string d)) base ok (.slice (some ⟨g, 0, none⟩) n cap) ((withData l i d).map toU) ∧ W.grownBy (W.setCell ⟨g, i * 3 + 1, none⟩ (.string d)) (some g) := by
  obtain ⟨hn, _, hC⟩ := Kd.R_reads' h
  obtain ⟨ad, e, x0, x1, x2⟩ := at_units hC i hi
  cases e
  rw [add_plain] at x0 x1 x2
  obtain ⟨h1, h2⟩ := Kd.R_seg (okp := fun k => ok k ∧ k ≠ g) h (i : Int) (by omega) (by rw [hn]; simp; omega) (c := [.string l[i].f0, .string l[i].f1, .int .i64 l[i].f2]) (seg := [.string d]) (j := 1) rfl
    (fun j u hj => by
      rw [Int.toNat_natCast]
      rcases j with _ | _ | _ | j
      · injection hj with hj; subst hj; exact x0
      · injection hj with hj; subst hj; exact x1
      · injection hj with hj; subst hj; exact x2
      · simp at hj) (Nat.le_of_ble_eq_true rfl) (x' := ⟨l[i].f0, d, l[i].f2⟩) (k62_mkM _ _ _ _) (fun k hk => hk)
  rw [Int.toNat_natCast] at h1 h2
  refine ⟨?_, h2⟩
  have e2 : (l.map toU).set i ⟨l[i].f0, d, l[i].f2⟩ = (withData l i d).map toU := by
    unfold withData
    rw [rd_get l i hi, List.map_set]
    all_goals rfl
  rw [← e2]
  exact h1
end Go.Proofs.YtehlmkgldcfciaaGreat.Files
/- The reference's store: Replace, Extend. -/
set_option linter.unusedVariables false
set_option linter.unusedSimpArgs false
namespace Go.Proofs.YtehlmkgldcfciaaGreat.Files
open Go.Proofs.YtehlmkgldcfciaaGreat.Common Go.Maps Go.ChangeMaps Go.WideMaps Go.Proofs.YtehlmkgldcfciaaGreat.F
open Go.RowKit Go.Proofs.YtehlmkgldcfciaaGreatW.PrintWords Go.Proofs.YtehlmkgldcfciaaGreatW.PrintLast Go.Proofs.YtehlmkgldcfciaaGreatW.PrintMore
def mPut (st : Fs) (u n : ByteArray) (at_ action : Int) (d : ByteArray) (whole : Bool) : Int × Fs :=
  if (userB u && nameB n) = false ∨ decide (at_ < 0) = true ∨ decide (400 < d.size) = true then (1, st) else match mBegin st u n with
  | .error E => (E, st)
  | .ok (k, f, a) => if (f.units.length : Int) ≤ at_ then (3, st) else if denied a action = 0 then (if whole then (0, st.set k (f.data u at_.toNat d)) else if 400 < (rd_T29 f.units at_).f1.size + d.size then (9, st) else (0, st.set k (f.data u at_.toNat ((rd_T29 f.units at_).f1 ++ d)))) else (denied a action, st)
set_option maxRecDepth 100000 in
set_option maxHeartbeats 4000000 in
theorem rput_c (rb c : Nat) (ok : Nat → Prop) (st : Fs) (A : Option Addr) (u n : ByteArray) (at_ action : Int) (d : ByteArray) (whole : Bool) (ka : Nat) (W : World) (h : RParts W ok rb st A c) (hka : ka < 62) (ha : action = 2 ^ ka) (hU : ∀ f ∈ st, 1 ≤ f.units.length ∧ f.units.length ≤ 1000) (hD : ∀ f ∈ st, ∀ x ∈ f.units, x.f1.size ≤ 400) :
    Calls Tryz.prog 76 #[.pointer (some ⟨rb, 0, none⟩), .string u, .string n, .int .i64 at_, .int .i64 action, .string d, .bool whole] W (ROut W ok rb (.int .i64 (mPut st u n at_ action d whole).1) (mPut st u n at_ action d whole).2) := by
  have C56 := Aside0.mk (rbad_c rb u n W h.c0)
  have CB := Aside0.mk (begin_c rb c ok st A u n W h)
  have HRR := Aside0.mk (show RRep W ok rb st from ⟨A, c, h⟩)
  cases hbad : (userB u && nameB n) with
  | false =>
    rw [hbad] at C56
    have HM := Aside0.mk (show mPut st u n at_ action d whole = (1, st) by unfold mPut; rw [hbad]; rfl)
    clear h hbad CB hU ha hka
    go_enter Tryz.func76, Tryz.ntmps76
    go_wp2_with first | (go_at_call 56; refine C56.out.mono ?_; rintro e w' ⟨rfl, rfl⟩)
    refine bodyPost_ret (v := .int .i64 1) (by simp [results, Tryz.f76, go_sem]) rfl ?_
    exact ROut.stay HRR.out (Below.refl _ _) (by rw [HM.out]) (by rw [HM.out])
  | true =>
   rw [hbad] at C56
   by_cases hr : at_ < 0
   · have g1 : decide (at_ < 0) = true := decide_eq_true hr
     have HM := Aside0.mk (show mPut st u n at_ action d whole = (1, st) by unfold mPut; rw [hbad, decide_eq_true hr]; rfl)
     clear h hbad CB hr hU ha hka
     go_enter Tryz.func76, Tryz.ntmps76
     go_wp2_with first | (go_at_call 56; refine C56.out.mono ?_; rintro e w' ⟨rfl, rfl⟩)
     refine bodyPost_ret (v := .int .i64 1) (by simp [results, Tryz.f76, go_sem]) rfl ?_
     exact ROut.stay HRR.out (Below.refl _ _) (by rw [HM.out]) (by rw [HM.out])
   have g1 : decide (at_ < 0) = false := decide_eq_false hr
   have HN0 := Aside0.mk hr
   clear hr
   by_cases hr : 400 < d.size
   · have g2 : decide ((400 : Int) < (d.size : Int)) = true := decide_eq_true (by omega)
     have HM := Aside0.mk (show mPut st u n at_ action d whole = (1, st) by unfold mPut; rw [hbad, decide_eq_true hr]; simp)
     clear h hbad CB hr hU ha hka
     go_enter Tryz.func76, Tryz.ntmps76
     go_wp2_with first | (go_at_call 56; refine C56.out.mono ?_; rintro e w' ⟨rfl, rfl⟩)
     refine bodyPost_ret (v := .int .i64 1) (by simp [results, Tryz.f76, go_sem]) rfl ?_
     exact ROut.stay HRR.out (Below.refl _ _) (by rw [HM.out]) (by rw [HM.out])
   have g2 : decide ((400 : Int) < (d.size : Int)) = false := decide_eq_false (by omega)
   have HD0 := Aside0.mk hr
   clear hr
   cases hB : mBegin st u n with
   | error E =>
     rw [hB] at CB
     have hE := mBegin_E hB
     have HM := Aside0.mk (show mPut st u n at_ action d whole = (E, st) by unfold mPut; rw [hbad, decide_eq_false HN0.out, decide_eq_false HD0.out]; simp [hB])
     clear h hbad hB hU ha hka
     go_enter Tryz.func76, Tryz.ntmps76
     go_wp2_with first | (go_at_call 56; refine C56.out.mono ?_; rintro e w' ⟨rfl, rfl⟩) | (go_at_call 67; refine CB.out.mono ?_; rintro e w2 ⟨hb2, rfl⟩)
     refine bodyPost_ret (v := .int .i64 E) (by simp [results, Tryz.f76, go_sem]) rfl ?_
     exact ROut.stay HRR.out (hb2) (by rw [HM.out]) (by rw [HM.out])
   | ok p =>
     obtain ⟨k, f, a⟩ := p
     rw [hB] at CB
     obtain ⟨hk, hnm⟩ := mBegin_at hB
     have HMP := Aside0.mk (show mPut st u n at_ action d whole = (if (f.units.length : Int) ≤ at_ then (3, st) else if denied a action = 0 then (if whole then (0, st.set k (f.data u at_.toNat d)) else if 400 < (rd_T29 f.units at_).f1.size + d.size then (9, st) else (0, st.set k (f.data u at_.toNat ((rd_T29 f.units at_).f1 ++ d)))) else (denied a action, st)) by unfold mPut; rw [hbad, decide_eq_false HN0.out, decide_eq_false HD0.out]; simp [hB])
     have HDD := Aside0.mk (denied_cases a action)
     have HWI := Aside0.mk (within_den a action ka hka ha)
     have HUL := Aside0.mk (hU f (List.mem_of_getElem? hk))
     have HR := Aside0.mk h
     have HHK := Aside0.mk hk
     clear hB hnm hk ha hka hU h
     go_enter Tryz.func76, Tryz.ntmps76
     go_wp2_with first | (go_at_call 56; refine C56.out.mono ?_; rintro e w' ⟨rfl, rfl⟩)
     refine CB.out.mono ?_
     rintro e w2 ⟨hb2, rfl⟩
     have h := HR.out
     have hk := HHK.out
     have R2 := h.below hb2
     obtain ⟨g, Ar, cr, Au, cu, Ao, co, T⟩ := R2.row hk
     have hil : k < st.length := (List.getElem?_eq_some_iff.1 hk).1
     have hlz : (k : Int) < (st.length : Int) := by omega
     have hk0 : decide ((k : Int) < 0) = false := decide_eq_false (by omega)
     have c1 := R2.c1
     have hA := T.hA
     subst hA
     obtain ⟨x0, x1, x2, x3, x4, x5, x6, x7, x8, x9⟩ := T.x
     have HH := Aside0.mk R2
     have HT := Aside0.mk T
     have HK := Aside0.mk hk
     have hrb := R2.lt rb R2.okr
     have hgl := R2.glt T
     have hne : g ≠ rb := T.okg.2
     have hne2 : rb ≠ g := Ne.symm hne
     have HB2 := Aside0.mk hb2
     have HIN := Aside0.mk T.In
     have HUC := Aside0.mk (fun w (hb : Below w2.heap.size w2 w) => (show Kd.C k62 w Au f.units.length (f.units.map toU) by have := (T.In.step (Chg.of_below hb (fun _ => False)) (fun _ _ h => h)).uC.2; rwa [List.length_map] at this))
     have hul := HUL.out
     have old_small := Aside0.mk (hD f (List.mem_of_getElem? hk))
     clear R2 T h hk hb2 hD x0 x1 x2 x3 x4 x5 x6 x7 x9
     by_cases hpl : (f.units.length : Int) ≤ at_
     · have g3 : decide ((f.units.length : Int) ≤ at_) = true := decide_eq_true hpl
       have HM := Aside0.mk (show mPut st u n at_ action d whole = (3, st) by rw [HMP.out, if_pos hpl])
       clear hpl
       go_wp2_with (first
         | ((with_reducible refine gate_dst (N := 43) rfl ?_); refine Kd.R_lit k62 (w0 := w2) w2.heap.size 62 ?hg (N := 43) ?hd (xs := ([] : List S62)) (inner := []) (ok := fun _ => True) (okp := fun _ => True) ?hr ?hp (fun _ hk => hk) trivial (Below.refl _ _) (Nat.le_refl _) (by simp) ?_; (case hd => rfl); (case hg => rfl); (case hr => first | (go_simp; done) | (go_simp; rfl)); (case hp => exact (Reps.none _ _)); intro v1 x1 ho hb _ _; have HO1 := Aside0.mk ho; have HB1 := Aside0.mk hb; clear ho hb; have d1 := (HB1.out.cell (p := ⟨rb, 1, none⟩) hrb).trans c1; have d8 := (HB1.out.cell (p := ⟨g, k * 10 + 8, none⟩) hgl).trans x8)
         | ((with_reducible refine gate_builtin (b := .append) (xs := #[.tmp 43, .tmp 51]) rfl ?_); at_builtin; refine Kd.R_append_rows k62 (Rr := k62.K x1) (w0 := w2) w2.heap.size rfl (.tmp 43) (.tmp 51) 55 62 (.agg #[.string ⟨#[]⟩, .string ⟨#[]⟩, .int .i64 0]) 40 rfl Tryz.underlying55 (by kernel_rfl) rfl (by decide) (by omega) v1 [] (f.units.map toU) Au f.units.length cu (fun _ => True) (fun _ => False) rfl rfl HO1.out (HUC.out _ HB1.out) (fun x cs h => by rw [k62_open h]; exact k62_mkM _ _ _ _) (fun _ h => h.elim) (fun _ _ => trivial) HB1.out HB1.out.size (by simp only [List.length_nil]; omega) ?_; intro v3 x3 ho hb _ _; rw [List.nil_append] at ho; have HB3 := Aside0.mk hb; obtain ⟨A3, c3, hv3⟩ := Kd.R_slice ho; rw [List.length_map] at hv3; subst hv3; have HO3 := Aside0.mk ho; clear ho hb))
       refine bodyPost_ret (v := .int .i64 3) (by simp [results, Tryz.f76, go_sem]) rfl ?_
       exact ROut.stay HRR.out (HB2.out.trans (HB3.out.mono HB2.out.size)) (by rw [HM.out]) (by rw [HM.out])
     · have g3 : decide ((f.units.length : Int) ≤ at_) = false := decide_eq_false hpl
       have HMP2 := Aside0.mk (HMP.out.trans (if_neg hpl))
       clear HMP
       have hpl2 : at_ < (f.units.length : Int) := by omega
       clear hpl
       go_wp2_with (first
         | ((with_reducible refine gate_dst (N := 43) rfl ?_); refine Kd.R_lit k62 (w0 := w2) w2.heap.size 62 ?hg (N := 43) ?hd (xs := ([] : List S62)) (inner := []) (ok := fun _ => True) (okp := fun _ => True) ?hr ?hp (fun _ hk => hk) trivial (Below.refl _ _) (Nat.le_refl _) (by simp) ?_; (case hd => rfl); (case hg => rfl); (case hr => first | (go_simp; done) | (go_simp; rfl)); (case hp => exact (Reps.none _ _)); intro v1 x1 ho hb _ _; have HO1 := Aside0.mk ho; have HB1 := Aside0.mk hb; clear ho hb; have d1 := (HB1.out.cell (p := ⟨rb, 1, none⟩) hrb).trans c1; have d8 := (HB1.out.cell (p := ⟨g, k * 10 + 8, none⟩) hgl).trans x8)
         | ((with_reducible refine gate_builtin (b := .append) (xs := #[.tmp 43, .tmp 51]) rfl ?_); at_builtin; refine Kd.R_append_rows k62 (Rr := k62.K x1) (w0 := w2) w2.heap.size rfl (.tmp 43) (.tmp 51) 55 62 (.agg #[.string ⟨#[]⟩, .string ⟨#[]⟩, .int .i64 0]) 40 rfl Tryz.underlying55 (by kernel_rfl) rfl (by decide) (by omega) v1 [] (f.units.map toU) Au f.units.length cu (fun _ => True) (fun _ => False) rfl rfl HO1.out (HUC.out _ HB1.out) (fun x cs h => by rw [k62_open h]; exact k62_mkM _ _ _ _) (fun _ h => h.elim) (fun _ _ => trivial) HB1.out HB1.out.size (by simp only [List.length_nil]; omega) ?_; intro v3 x3 ho hb _ _; rw [List.nil_append] at ho; have HB3 := Aside0.mk hb; obtain ⟨A3, c3, hv3⟩ := Kd.R_slice ho; rw [List.length_map] at hv3; subst hv3; have HO3 := Aside0.mk ho; clear ho hb))
       have HHE := Aside0.mk (show ∀ i : Nat, i < f.units.length → at_ = (i : Int) → (∀ d', Calls Tryz.prog 75 #[.pointer (some ⟨rb, 0, none⟩), .int .i64 (k : Int), .string u, .slice A3 f.units.length c3] (x3.setCell ⟨gOf A3, i * 3 + 1, none⟩ (.string d')) (ROut w2 ok rb (.int .i64 0) (st.set k (f.data u i d')))) ∧ ∃ g3, A3 = some ⟨g3, 0, none⟩ ∧ x3.cell? ⟨g3, i * 3 + 1, none⟩ = some (.string (rd_T29 f.units (i : Int)).f1) ∧ ∀ o, x3.frozen? ⟨g3, o, none⟩ = false from fun i hi hat => by
         obtain ⟨g3, cp, hv, hbg, hcp, cur, hblk⟩ := U_slice (l := f.units.map toU) HO3.out (by simp; omega)
         injection hv with hv1 _ hv3
         subst hv1
         refine ⟨fun d' => ?_, g3, rfl, ?_, fun o => by simp [World.frozen?, hblk]⟩
         · obtain ⟨h1, h2⟩ := U_set (l := f.units) HO3.out hi d'
           have hlen : (withData f.units i d').length = f.units.length := by simp [withData]
           have hbX : Below w2.heap.size w2 (x3.setCell ⟨g3, i * 3 + 1, none⟩ (.string d')) := (HB3.out).trans (⟨h2.os, h2.tape, h2.output, h2.size, fun q hq => h2.block q (Nat.lt_of_lt_of_le hq HB3.out.size) (fun e => by injection e with e; omega)⟩ : Below w2.heap.size x3 _)
           have := rchanged_out (who := u) (l := withData f.units i d') (Al := some ⟨g3, 0, none⟩) (cl := c3) HH.out HK.out HT.out hbX (by rw [hlen]; exact h1)
           rw [hlen] at this
           exact this
         · obtain ⟨_, _, hC⟩ := Kd.R_reads' HO3.out
           obtain ⟨ad, e, _, y1, _⟩ := at_units hC i hi
           cases e
           rw [add_plain] at y1
           rw [rd_get _ _ hi]
           exact y1)
       rcases HDD.out with hd0 | hd12
       · have gW : decide (bits .and .i64 action a = action) = true := by rw [HWI.out, hd0]; rfl
         obtain ⟨i, rfl⟩ : ∃ i : Nat, at_ = (i : Int) := ⟨at_.toNat, by have := HN0.out; omega⟩
         obtain ⟨CC0, gg, rfl, y1, yz⟩ := HHE.out i (by omega) rfl
         have y1z := yz (i * 3 + 1)
         have hiz : (i : Int) < (f.units.length : Int) := by omega
         have hi0 : decide ((i : Int) < 0) = false := decide_eq_false (by omega)
         generalize hold : (rd_T29 f.units (i : Int)).f1 = old at y1
         have CC := Aside0.mk CC0
         clear CC0 yz HHE
         cases whole with
         | true =>
           have HM := Aside0.mk (show mPut st u n (i : Int) action d true = (0, st.set k (f.data u i d)) by rw [HMP2.out, if_pos hd0]; rfl)
           clear hd0 hold
           go_wp2_with fail
           refine (rwithin_c action a _).mono ?_
           rintro e w' ⟨rfl, rfl⟩
           go_wp2_with fail
           refine (CC.out d).mono ?_
           rintro e w5 hR
           obtain ⟨rfl, hR'⟩ := hR
           have HR5 := Aside0.mk hR'
           clear hR'
           go_wp2
           refine bodyPost_ret (v := .int .i64 0) (by simp [results, Tryz.f76, go_sem]) rfl ?_
           rw [HM.out]
           exact ROut.from_ HB2.out ⟨rfl, HR5.out⟩
         | false =>
           by_cases hfull : 400 < old.size + d.size
           · have HM := Aside0.mk (show mPut st u n (i : Int) action d false = (9, st) by rw [HMP2.out, if_pos hd0, hold]; simp [hfull])
             have gw : IntKind.i64.wrap ((old.size : Int) + (d.size : Int)) = (old.size : Int) + (d.size : Int) := by have := old_small.out _ (by rw [rd_get _ _ (show i < f.units.length by omega)]; exact List.getElem_mem _ : rd_T29 f.units (i : Int) ∈ f.units); rw [hold] at this; have := HD0.out; rw [IntKind.wrap_i64]; omega
             have g5 : decide ((400 : Int) < (old.size : Int) + (d.size : Int)) = true := decide_eq_true (by omega)
             have g6 : (400 : Int) < (old.size : Int) + (d.size : Int) := by omega
             clear hd0 hold hfull
             go_wp2_with fail
             refine (rwithin_c action a _).mono ?_
             rintro e w' ⟨rfl, rfl⟩
             go_wp2
             refine bodyPost_ret (v := .int .i64 9) (by simp [results, Tryz.f76, go_sem]) rfl ?_
             exact ROut.stay HRR.out (HB2.out.trans (HB3.out.mono HB2.out.size)) (by rw [HM.out]) (by rw [HM.out])
           · have HM := Aside0.mk (show mPut st u n (i : Int) action d false = (0, st.set k (f.data u i (old ++ d))) by rw [HMP2.out, if_pos hd0, hold]; simp [hfull])
             have gw : IntKind.i64.wrap ((old.size : Int) + (d.size : Int)) = (old.size : Int) + (d.size : Int) := by rw [IntKind.wrap_i64]; omega
             have g5 : decide ((400 : Int) < (old.size : Int) + (d.size : Int)) = false := decide_eq_false (by omega)
             have g6 : ¬ ((400 : Int) < (old.size : Int) + (d.size : Int)) := by omega
             have g7 : old.size + d.size < 8796093022208 := by omega
             have g8 : ¬ 8796093022208 ≤ old.size + d.size := by omega
             clear hd0 hold hfull
             go_wp2_with fail
             refine (rwithin_c action a _).mono ?_
             rintro e w' ⟨rfl, rfl⟩
             go_wp2_with fail
             refine (CC.out (old ++ d)).mono ?_
             rintro e w5 hR
             obtain ⟨rfl, hR'⟩ := hR
             have HR5 := Aside0.mk hR'
             clear hR'
             go_wp2
             refine bodyPost_ret (v := .int .i64 0) (by simp [results, Tryz.f76, go_sem]) rfl ?_
             rw [HM.out]
             exact ROut.from_ HB2.out ⟨rfl, HR5.out⟩
       · have gW : decide (bits .and .i64 action a = action) = false := by rw [HWI.out, hd12]; rfl
         have HM := Aside0.mk (show mPut st u n at_ action d whole = (12, st) by rw [HMP2.out, hd12]; rfl)
         clear hd12
         go_wp2_with fail
         refine (rwithin_c action a _).mono ?_
         rintro e w' ⟨rfl, rfl⟩
         go_wp2
         refine bodyPost_ret (v := .int .i64 12) (by simp [results, Tryz.f76, go_sem]) rfl ?_
         exact ROut.stay HRR.out (HB2.out.trans (HB3.out.mono HB2.out.size)) (by rw [HM.out]) (by rw [HM.out])
end Go.Proofs.YtehlmkgldcfciaaGreat.Files
/- Validity of units: what it reckons (the plain part of FilesN). -/
set_option linter.unusedVariables false
set_option linter.unusedSimpArgs false
namespace Go.Proofs.YtehlmkgldcfciaaGreat.Files
open Go.Proofs.YtehlmkgldcfciaaGreat.Common Go.Maps Go.ChangeMaps Go.WideMaps Go.Proofs.YtehlmkgldcfciaaGreat.F
open Go.RowKit Go.Proofs.YtehlmkgldcfciaaGreatW.PrintWords Go.Proofs.YtehlmkgldcfciaaGreatW.PrintLast Go.Proofs.YtehlmkgldcfciaaGreatW.PrintMore
end Go.Proofs.YtehlmkgldcfciaaGreat.Files
/- Children of units, plainly. -/
set_option linter.unusedVariables false
set_option linter.unusedSimpArgs false
namespace Go.Proofs.YtehlmkgldcfciaaGreat.Files
open Go.Proofs.YtehlmkgldcfciaaGreat.Common Go.Maps Go.ChangeMaps Go.WideMaps Go.Proofs.YtehlmkgldcfciaaGreat.F
open Go.RowKit Go.Proofs.YtehlmkgldcfciaaGreatW.PrintWords Go.Proofs.YtehlmkgldcfciaaGreatW.PrintLast Go.Proofs.YtehlmkgldcfciaaGreatW.PrintMore
def nmP (l : List S29) (i : Nat) : ByteArray := (rd_T29 l (i : Int)).f0
theorem mem_kidsFrom (lev : Int) : ∀ (l : List S29) (i : Nat) (m : Int), m ∈ kidsFrom lev i l ↔ ∃ q : Nat, m = ((i + q : Nat) : Int) ∧ q < l.length ∧ (rd_T29 l (q : Int)).f2 = lev + 1 ∧ ∀ t, t ≤ q → (rd_T29 l (t : Int)).f2 > lev
  | [], i, m => by simp [kidsFrom]
  | u :: r, i, m => by
    have ih := mem_kidsFrom lev r (i + 1) m
    have h0 : rd_T29 (u :: r) ((0 : Nat) : Int) = u := rfl
    have hs : ∀ q : Nat, rd_T29 (u :: r) ((q + 1 : Nat) : Int) = rd_T29 r (q : Int) := fun q => by simp [rd_T29]
    have tail : u.f2 > lev → ((∃ q : Nat, m = ((i + 1 + q : Nat) : Int) ∧ q < r.length ∧ (rd_T29 r (q : Int)).f2 = lev + 1 ∧ ∀ t, t ≤ q → (rd_T29 r (t : Int)).f2 > lev) ↔ ∃ q : Nat, m = ((i + (q + 1) : Nat) : Int) ∧ q + 1 < (u :: r).length ∧ (rd_T29 (u :: r) ((q + 1 : Nat) : Int)).f2 = lev + 1 ∧ ∀ t, t ≤ q + 1 → (rd_T29 (u :: r) (t : Int)).f2 > lev) := fun hu => by
      constructor
      · rintro ⟨q, h1, h2, h3, h4⟩
        refine ⟨q, by rw [h1]; congr 1; omega, by simpa using h2, by rw [hs]; exact h3, fun t ht => ?_⟩
        cases t with
        | zero => rw [h0]; exact hu
        | succ t => rw [hs]; exact h4 t (by omega)
      · rintro ⟨q, h1, h2, h3, h4⟩
        rw [hs] at h3
        exact ⟨q, by rw [h1]; congr 1; omega, by simpa using h2, h3, fun t ht => by have := h4 (t + 1) (by omega); rwa [hs] at this⟩
    unfold kidsFrom
    by_cases hu : u.f2 > lev
    · rw [if_pos hu]
      by_cases he : u.f2 = lev + 1
      · rw [if_pos he, List.mem_cons, ih, tail hu]
        constructor
        · rintro (rfl | ⟨q, h⟩)
          · exact ⟨0, rfl, by simp, by rw [h0]; exact he, fun t ht => by rw [Nat.le_zero.1 ht]; exact hu⟩
          · exact ⟨q + 1, h⟩
        · rintro ⟨q, h1, h⟩
          cases q with
          | zero => exact .inl h1
          | succ q => exact .inr ⟨q, h1, h⟩
      · rw [if_neg he, ih, tail hu]
        constructor
        · rintro ⟨q, h⟩
          exact ⟨q + 1, h⟩
        · rintro ⟨q, h1, h2, h3, h4⟩
          cases q with
          | zero => exact absurd h3 (by rw [h0]; exact he)
          | succ q => exact ⟨q, h1, h2, h3, h4⟩
    · rw [if_neg hu]
      constructor
      · intro h; cases h
      · rintro ⟨q, _, _, _, h4⟩
        have := h4 0 (Nat.zero_le _)
        rw [h0] at this
        exact absurd this hu
theorem rd_drop (l : List S29) (a q : Nat) : rd_T29 (l.drop a) (q : Int) = rd_T29 l ((a + q : Nat) : Int) := by simp only [rd_T29, Int.toNat_natCast, List.getD_eq_getElem?_getD, List.getElem?_drop]
def Child (l : List S29) (p m : Nat) : Prop := p < m ∧ m < l.length ∧ lv l m = lv l p + 1 ∧ ∀ t, p < t → t ≤ m → lv l t > lv l p
theorem mem_kids (l : List S29) (p : Nat) (m : Int) : m ∈ kids l p ↔ ∃ q : Nat, m = (q : Int) ∧ Child l p q := by
  unfold kids
  rw [mem_kidsFrom]
  constructor
  · rintro ⟨q, h1, h2, h3, h4⟩
    rw [List.length_drop] at h2
    refine ⟨p + 1 + q, h1, by omega, by omega, ?_, fun t h5 h6 => ?_⟩
    · rw [rd_drop] at h3; exact h3
    · have := h4 (t - (p + 1)) (by omega)
      rw [rd_drop, show p + 1 + (t - (p + 1)) = t by omega] at this
      exact this
  · rintro ⟨q, h1, h2, h3, h4, h5⟩
    refine ⟨q - (p + 1), by rw [h1]; congr 1; omega, by rw [List.length_drop]; omega, ?_, fun t ht => ?_⟩
    · rw [rd_drop, show p + 1 + (q - (p + 1)) = q by omega]; exact h4
    · rw [rd_drop]; exact h5 _ (by omega) (by omega)
theorem kidsFrom_sorted (lev : Int) : ∀ (l : List S29) (i : Nat), (kidsFrom lev i l).Pairwise (· < ·)
  | [], i => List.Pairwise.nil
  | u :: r, i => by
    unfold kidsFrom
    have ih := kidsFrom_sorted lev r (i + 1)
    split
    · split
      · refine List.pairwise_cons.2 ⟨fun a ha => ?_, ih⟩
        have := kidsFrom_in lev (i + 1) r a ha
        omega
      · exact ih
    · exact List.Pairwise.nil
def Steps (l : List S29) : Prop := lv l 0 = 0 ∧ ∀ i, i < l.length → i ≠ 0 → 1 ≤ lv l i ∧ lv l i ≤ lv l (i - 1) + 1
end Go.Proofs.YtehlmkgldcfciaaGreat.Files
-- Written by this repo's wip/tools/myprint.py (the kit's print program, with contracts of our own beside). Lean checks it.
namespace Go.Proofs.YtehlmkgldcfciaaGreat.F
open Go.Proofs.YtehlmkgldcfciaaGreat.Common
open Go.RowKit Go.Proofs.YtehlmkgldcfciaaGreatW.PrintWords Go.Proofs.YtehlmkgldcfciaaGreatW.PrintLast Go.Proofs.YtehlmkgldcfciaaGreatW.PrintMore
set_option linter.unusedVariables false
set_option linter.unusedSimpArgs false
def heptadref28_under.l0 : Nat → List (S62) → Int → Int → Option (Int)
 | 0, _, _, _ => none
 | k + 1, x0, x1, x5 => if x5 < (x0.length : Int) then (if 0 ≤ x5 then (if 0 ≤ x1 then (if x1 < (x0.length : Int) then (if ((rd_T62 x0 x5).f2) > ((rd_T62 x0 x1).f2) then (heptadref28_under.l0 k x0 x1 (wrap64 (x5 + 1))) else (some x5)) else (none)) else (none)) else (none)) else (some x5)
def heptadref28_under.f (k : Nat) (l0 : List (S62)) (a1 : Int) : Option (Int) := heptadref28_under.l0 k l0 a1 (wrap64 (a1 + 1))
set_option maxHeartbeats 8000000 in
set_option maxRecDepth 100000 in
theorem heptadref28_under.calls (k : Nat) (A0 : Option Addr) (c0 : Nat) (l0 : List (S62)) (a1 : Int) (r : Int) (w : World) (hr0 : Kd.C k62 w A0 l0.length l0) (hc0 : l0.length ≤ c0) (h : heptadref28_under.f k l0 a1 = some r) :
  Calls Tryz.prog 68 #[.slice A0 l0.length c0, .int .i64 a1] w fun e w' => e = .returned (.int .i64 r) ∧ Drawn0 w w' := by
 have HR0 := Aside0.mk hr0
 have HC0 := Aside0.mk hc0
 clear hr0 hc0
 have H : (heptadref28_under.l0 k l0 a1 (wrap64 (a1 + 1))) = some r := h
 clear h
 have H' := Aside0.mk H
 clear H
 go_enter Tryz.func68, Tryz.ntmps68
 go_wp2
 repeat (go_quiet (fail); try go_wp2)
 go_loopg [5] k (fun kq v5 w' => ∃ (x5_1 : Int), v5 = .int .i64 x5_1 ∧ Aside0 (heptadref28_under.l0 kq l0 a1 x5_1 = some r) ∧ Aside0 (kq ≤ k) ∧ Drawn0 w w')
 case atStart => exact ⟨(wrap64 (a1 + 1)), (by first | rfl | (simp; done) | (simp [*]; done)), H', ⟨Nat.le_refl _⟩, by repeat (first | exact Drawn0.refl _ | apply Drawn0.step)⟩
 case round =>
  clear H'
  try clear p2
  obtain ⟨x5_1, rfl, HA, HK1, ⟨m1, rfl⟩⟩ := hrel
  cases gk with
  | zero => exact absurd HA.out (by simp [heptadref28_under.l0])
  | succ k1 =>
   have H := HA.out
   clear HA
   simp only [heptadref28_under.l0] at H
   by_cases c3 : x5_1 < (l0.length : Int)
   ·rw [if_pos c3] at H
    have c3b0 : decide (x5_1 < (l0.length : Int)) = true := decide_eq_true c3
    clear c3
    by_cases c4 : 0 ≤ x5_1
    ·rw [if_pos c4] at H
     have c4b0 : decide (0 ≤ x5_1) = true := decide_eq_true c4
     clear c4
     by_cases c5 : 0 ≤ a1
     ·rw [if_pos c5] at H
      have c5b0 : decide (0 ≤ a1) = true := decide_eq_true c5
      clear c5
      by_cases c6 : a1 < (l0.length : Int)
      ·rw [if_pos c6] at H
       have c6b0 : decide (a1 < (l0.length : Int)) = true := decide_eq_true c6
       clear c6
       by_cases c7 : ((rd_T62 l0 x5_1).f2) > ((rd_T62 l0 a1).f2)
       ·rw [if_pos c7] at H
        have c7b0 : decide (((rd_T62 l0 a1).f2) < ((rd_T62 l0 x5_1).f2)) = true := decide_eq_true c7
        clear c7
        have H' := Aside0.mk H
        clear H
        have p124 : 0 ≤ (x5_1 : Int) := of_decide_eq_true (by first | (with_reducible assumption) | assumption)
        have q124 : x5_1 < (l0.length : Int) := of_decide_eq_true (by first | (with_reducible assumption) | assumption)
        obtain ⟨ad124, e124, hx124_0, hx124_1, hx124_2⟩ := at_T62 HR0.out x5_1 p124 q124
        cases e124
        replace p124 := eq_true p124
        replace q124 := eq_true q124
        have p125 : 0 ≤ (a1 : Int) := of_decide_eq_true (by first | (with_reducible assumption) | assumption)
        have q125 : a1 < (l0.length : Int) := of_decide_eq_true (by first | (with_reducible assumption) | assumption)
        obtain ⟨ad125, e125, hx125_0, hx125_1, hx125_2⟩ := at_T62 HR0.out a1 p125 q125
        obtain rfl : ad124 = ad125 := (by injection e125)
        replace p125 := eq_true p125
        replace q125 := eq_true q125
        go_wp2
        repeat (go_quiet (fail); try go_wp2)
        go_roundg k1
        case measure => have := HK1.out; omega
        case rel => exact ⟨(wrap64 (x5_1 + 1)), (by first | rfl | (simp; done) | (simp [*]; done)), H', ⟨by have := HK1.out; omega⟩, by repeat (first | exact Drawn0.refl _ | apply Drawn0.step)⟩
       ·rw [if_neg c7] at H
        have c7b0 : decide (((rd_T62 l0 a1).f2) < ((rd_T62 l0 x5_1).f2)) = false := decide_eq_false c7
        clear c7
        obtain rfl := Option.some.inj H
        have p124 : 0 ≤ (x5_1 : Int) := of_decide_eq_true (by first | (with_reducible assumption) | assumption)
        have q124 : x5_1 < (l0.length : Int) := of_decide_eq_true (by first | (with_reducible assumption) | assumption)
        obtain ⟨ad124, e124, hx124_0, hx124_1, hx124_2⟩ := at_T62 HR0.out x5_1 p124 q124
        cases e124
        replace p124 := eq_true p124
        replace q124 := eq_true q124
        have p125 : 0 ≤ (a1 : Int) := of_decide_eq_true (by first | (with_reducible assumption) | assumption)
        have q125 : a1 < (l0.length : Int) := of_decide_eq_true (by first | (with_reducible assumption) | assumption)
        obtain ⟨ad125, e125, hx125_0, hx125_1, hx125_2⟩ := at_T62 HR0.out a1 p125 q125
        obtain rfl : ad124 = ad125 := (by injection e125)
        replace p125 := eq_true p125
        replace q125 := eq_true q125
        go_wp2
        repeat (go_quiet (fail); try go_wp2)
        go_ret
        exact ⟨by first | rfl | (simp; done) | (simp [*]; done), by repeat (first | exact Drawn0.refl _ | apply Drawn0.step)⟩
      ·rw [if_neg c6] at H
       exact absurd H (by simp)
     ·rw [if_neg c5] at H
      exact absurd H (by simp)
    ·rw [if_neg c4] at H
     exact absurd H (by simp)
   ·rw [if_neg c3] at H
    have c3b0 : decide (x5_1 < (l0.length : Int)) = false := decide_eq_false c3
    clear c3
    obtain rfl := Option.some.inj H
    go_wp2
    repeat (go_quiet (fail); try go_wp2)
    go_ret
    exact ⟨by first | rfl | (simp; done) | (simp [*]; done), by repeat (first | exact Drawn0.refl _ | apply Drawn0.step)⟩
end Go.Proofs.YtehlmkgldcfciaaGreat.F
/- The reference's store: where what is below a unit ends; Replace, Extend. -/
set_option linter.unusedVariables false
set_option linter.unusedSimpArgs false
namespace Go.Proofs.YtehlmkgldcfciaaGreat.Files
open Go.Proofs.YtehlmkgldcfciaaGreat.Common Go.Maps Go.ChangeMaps Go.WideMaps Go.Proofs.YtehlmkgldcfciaaGreat.F
open Go.RowKit Go.Proofs.YtehlmkgldcfciaaGreatW.PrintWords Go.Proofs.YtehlmkgldcfciaaGreatW.PrintLast Go.Proofs.YtehlmkgldcfciaaGreatW.PrintMore
theorem runLen_at' (lev : Int) : ∀ (l : List S29), runLen lev l < l.length → (rd_T29 l (runLen lev l : Int)).f2 ≤ lev
  | [], h => by simp at h
  | u :: r, h => by
    by_cases c : u.f2 > lev
    · rw [runLen_cons, if_pos c] at h ⊢
      have := runLen_at' lev r (by simpa using h)
      have e : rd_T29 (u :: r) ((runLen lev r + 1 : Nat) : Int) = rd_T29 r (runLen lev r : Int) := by simp [rd_T29]
      rw [e]; exact this
    · rw [runLen_cons, if_neg c]
      show u.f2 ≤ lev
      omega
theorem endOf_at' {l : List S29} {i : Nat} (h : endOf l i < l.length) : lv l (endOf l i) ≤ lv l i := by
  have := runLen_at' (lv l i) (l.drop (i + 1)) (by unfold endOf at h; rw [List.length_drop]; omega)
  rw [rd_drop] at this
  exact this
theorem endOf_root {l : List S29} (hs : Steps l) (hp : 1 ≤ l.length) : endOf l 0 = l.length := by
  have h1 := endOf_le (l := l) (i := 0) (by omega)
  by_cases h : endOf l 0 = l.length
  · exact h
  · exfalso
    have h2 := endOf_at' (l := l) (i := 0) (by omega)
    rw [hs.1] at h2
    have := (hs.2 (endOf l 0) (by omega) (by omega)).1
    omega
theorem rd_toU (l : List S29) (k : Nat) (h : k < l.length) : rd_T62 (l.map toU) (k : Int) = toU (rd_T29 l (k : Int)) := by
  rw [rd_get l k h]
  simp [rd_T62, List.getElem?_map, List.getElem?_eq_getElem h]
theorem under_l0 (l : List S29) (i : Nat) (hi : i < l.length) (hl : l.length ≤ 9223372036854775807) : ∀ (d j k : Nat), l.length - j = d → j ≤ l.length → d < k → heptadref28_under.l0 k (l.map toU) (i : Int) (j : Int) = some ((j + runLen (lv l i) (l.drop j) : Nat) : Int)
  | 0, j, k, hd, hj, hk => by
    obtain ⟨k, rfl⟩ : ∃ m, k = m + 1 := ⟨k - 1, by omega⟩
    obtain rfl : j = l.length := by omega
    simp only [heptadref28_under.l0, List.length_map]
    rw [if_neg (by omega), List.drop_length]
    simp [runLen]
  | d + 1, j, k, hd, hj, hk => by
    obtain ⟨k, rfl⟩ : ∃ m, k = m + 1 := ⟨k - 1, by omega⟩
    have ih := under_l0 l i hi hl d (j + 1) k (by omega) (by omega) (by omega)
    simp only [heptadref28_under.l0, List.length_map]
    rw [if_pos (by omega), if_pos (by omega), if_pos (by omega), if_pos (by omega), drop_at l j (by omega), wr j l.length (by omega) hl, ih, rd_toU l j (by omega), rd_toU l i hi]
    rw [runLen_cons]
    show (if (rd_T29 l (j : Int)).f2 > lv l i then _ else _) = _
    by_cases c : (rd_T29 l (j : Int)).f2 > lv l i
    · rw [if_pos c, if_pos c]; congr 1; omega
    · rw [if_neg c, if_neg c]; rfl
theorem under_f (l : List S29) (i : Nat) (hi : i < l.length) (hl : l.length ≤ 9223372036854775807) : heptadref28_under.f (l.length + 1) (l.map toU) (i : Int) = some (endOf l i : Int) := by
  unfold heptadref28_under.f
  rw [wr i l.length hi hl, under_l0 l i hi hl _ (i + 1) _ rfl (by omega) (by omega)]
  all_goals rfl
theorem under_c (A : Option Addr) (c i : Nat) (l : List S29) (W : World) (hr : Kd.C k62 W A (l.map toU).length (l.map toU)) (hc : l.length ≤ c) (hi : i < l.length) :
    Calls Tryz.prog 68 #[.slice A l.length c, .int .i64 (i : Int)] W fun e w' => e = .returned (.int .i64 (endOf l i : Int)) ∧ Drawn0 W w' := by
  have := heptadref28_under.calls _ A c (l.map toU) (i : Int) _ W hr (by simpa using hc) (under_f l i hi (by have := hr.2.1; simpa using this))
  rw [List.length_map] at this
  exact this
theorem mPut_shape (st : Fs) (u n : ByteArray) (at_ action : Int) (d : ByteArray) (whole : Bool) : mPut st u n at_ action d whole = if 400 < d.size then (1, st) else match mUnit st u n at_ action with
    | .error E => (E, st)
    | .ok (k, f, i, dn) => if dn = 0 then (if whole then (0, st.set k (f.data u i d)) else if 400 < (rd_T29 f.units (i : Int)).f1.size + d.size then (9, st) else (0, st.set k (f.data u i ((rd_T29 f.units (i : Int)).f1 ++ d)))) else (dn, st) := by
  unfold mPut
  by_cases hd : 400 < d.size
  · rw [if_pos (by simp [hd]), if_pos hd]
  · rw [if_neg hd]
    by_cases hn : at_ < 0
    · rw [if_pos (by simp [hn]), mUnit_neg hn]
    · cases hbad : (userB u && nameB n) with
      | false => rw [if_pos (.inl rfl), mUnit_err hn (mOpened_bad hbad action)]
      | true =>
        rw [if_neg (by simp [hd, hn])]
        cases hB : mBegin st u n with
        | error E => rw [mUnit_err hn (mOpened_err hbad hB action)]
        | ok p =>
          obtain ⟨k, f, a⟩ := p
          have ho := mOpened_ok hbad hB action
          by_cases hl : (f.units.length : Int) ≤ at_
          · rw [mUnit_none hn ho hl]
            simp only [if_pos hl]
          · rw [mUnit_ok hn ho hl]
            have e : ((at_.toNat : Nat) : Int) = at_ := Int.toNat_of_nonneg (by omega)
            simp only [if_neg hl, e]
theorem mReplace_eq (st : Fs) (u n : ByteArray) (at_ : Int) (d : ByteArray) : mReplace st u n at_ d = mPut st u n at_ 4 d true := by rw [mPut_shape]; rfl
theorem mExtend_eq (st : Fs) (u n : ByteArray) (at_ : Int) (d : ByteArray) : mExtend st u n at_ d = mPut st u n at_ 8 d false := by rw [mPut_shape]; rfl
theorem mUnit_bad {st : Fs} {u n : ByteArray} {at_ action : Int} (h : (userB u && nameB n) = false) : mUnit st u n at_ action = .error 1 := by
  by_cases h0 : at_ < 0
  · exact mUnit_neg h0
  · exact mUnit_err h0 (mOpened_bad h action)
structure RInv (st : Fs) : Prop where
  units : ∀ f ∈ st, UOk f.units ∧ (∀ x ∈ f.units, x.f1.size ≤ 400) ∧ nm f.units 0 = ⟨#[]⟩ ∧ Steps f.units
  users : ∀ f ∈ st, f.users.length ≤ 1000 ∧ (f.users.map (fun p => p.1.data.toList)).Nodup
  rules : ∀ f ∈ st, f.rules.length ≤ 10
  names : (st.map (·.key)).Nodup
  count : st.length ≤ 30
  kinds : ∀ f ∈ st, 0 ≤ f.F.kind ∧ f.F.kind ≤ 2
set_option maxRecDepth 100000 in
theorem rReplace_c (rb c : Nat) (ok : Nat → Prop) (st : Fs) (A : Option Addr) (u n : ByteArray) (at_ : Int) (d : ByteArray) (W : World) (h : RParts W ok rb st A c) (hI : RInv st) :
    Calls Tryz.prog 33 #[.pointer (some ⟨rb, 0, none⟩), .string u, .string n, .int .i64 at_, .string d] W (ROut W ok rb (.int .i64 (mReplace st u n at_ d).1) (mReplace st u n at_ d).2) := by
  have CP := Aside0.mk (rput_c rb c ok st A u n at_ 4 d true 2 W h (by decide) rfl (fun f hf => by have := (hI.units f hf).1.pos; have := (hI.units f hf).1.len; exact ⟨by omega, by omega⟩) (fun f hf => (hI.units f hf).2.1))
  rw [← mReplace_eq] at CP
  generalize mReplace st u n at_ d = r at CP ⊢
  clear h hI
  go_enter Tryz.func33, Tryz.ntmps33
  go_wp2_with fail
  refine CP.out.mono ?_
  rintro e w5 ⟨rfl, hR'⟩
  have HR5 := Aside0.mk hR'
  clear hR'
  go_wp2
  refine bodyPost_ret (v := .int .i64 r.1) (by simp [results, Tryz.f33, go_sem]) rfl ?_
  exact ⟨rfl, HR5.out⟩
set_option maxRecDepth 100000 in
theorem rExtend_c (rb c : Nat) (ok : Nat → Prop) (st : Fs) (A : Option Addr) (u n : ByteArray) (at_ : Int) (d : ByteArray) (W : World) (h : RParts W ok rb st A c) (hI : RInv st) :
    Calls Tryz.prog 35 #[.pointer (some ⟨rb, 0, none⟩), .string u, .string n, .int .i64 at_, .string d] W (ROut W ok rb (.int .i64 (mExtend st u n at_ d).1) (mExtend st u n at_ d).2) := by
  have CP := Aside0.mk (rput_c rb c ok st A u n at_ 8 d false 3 W h (by decide) rfl (fun f hf => by have := (hI.units f hf).1.pos; have := (hI.units f hf).1.len; exact ⟨by omega, by omega⟩) (fun f hf => (hI.units f hf).2.1))
  rw [← mExtend_eq] at CP
  generalize mExtend st u n at_ d = r at CP ⊢
  clear h hI
  go_enter Tryz.func35, Tryz.ntmps35
  go_wp2_with fail
  refine CP.out.mono ?_
  rintro e w5 ⟨rfl, hR'⟩
  have HR5 := Aside0.mk hR'
  clear hR'
  go_wp2
  refine bodyPost_ret (v := .int .i64 r.1) (by simp [results, Tryz.f35, go_sem]) rfl ?_
  exact ⟨rfl, HR5.out⟩
end Go.Proofs.YtehlmkgldcfciaaGreat.Files
/- The file store: each method is a step of the machine. -/
set_option linter.unusedVariables false
set_option linter.unusedSimpArgs false
namespace Go.Proofs.YtehlmkgldcfciaaGreat.Files
open Go.Proofs.YtehlmkgldcfciaaGreat.Common Go.Maps Go.ChangeMaps Go.WideMaps Go.Proofs.YtehlmkgldcfciaaGreat.F
open Go.RowKit Go.Proofs.YtehlmkgldcfciaaGreatW.PrintWords Go.Proofs.YtehlmkgldcfciaaGreatW.PrintLast Go.Proofs.YtehlmkgldcfciaaGreatW.PrintMore
section steps
variable {W : World} {ok : Nat → Prop} {sb : Nat} {L : List (Nat × AF)} {st : Fs} {c : Nat}
theorem SOut.stay (hR : StoreRep W ok sb L) (hst : L.map (·.2) = st) {v : Value} {e : Ending} {w' : World} (h : e = .returned v ∧ Below W.heap.size W w') : SOut W ok sb v st e w' := by
  obtain ⟨rfl, hb⟩ := h
  rw [← hst]
  exact SOut.below hR hb
structure Found (W : World) (ok : Nat → Prop) (sb : Nat) (L : List (Nat × AF)) (u n : ByteArray) (k : Nat) (f : AF) (mb fb rc ub : Nat) (D DU : DataW Unit) (own : Nat → Nat) (A : Option Addr) (uv : Value) : Prop where
  R : StoreParts W ok sb L mb D own
  at_ : L[k]? = some (fb, f)
  P : FileParts W (fun q => ok q ∧ own q = fb) fb f A rc uv ub DU
  us : 1 ≤ u.size ∧ u.size ≤ 20
  ns : 1 ≤ n.size ∧ n.size ≤ 30
  nm : f.F.name = n
  F : FoundOk W (.pointer (some ⟨sb, 0, none⟩)) u n fb
theorem found_all (hR : StoreRep W ok sb L) (hst : L.map (·.2) = st) {u n : ByteArray} {k : Nat} {f : AF} (h : mFound st u n = .ok (k, f)) : ∃ mb fb rc ub D DU own A uv, Found W ok sb L u n k f mb fb rc ub D DU own A uv := by
  obtain ⟨hu, hn, hk, hnm⟩ := found_ok h
  obtain ⟨fb, hL⟩ := at_L hst hk
  obtain ⟨mb, D, own, R⟩ := hR
  obtain ⟨HF, A, rc, uv, ub, DU, P⟩ := R.way hL hnm hu hn
  exact ⟨mb, fb, rc, ub, D, DU, own, A, uv, R, hL, P, hu, hn, hnm, HF⟩
theorem opened_error (hR : StoreRep W ok sb L) (hst : L.map (·.2) = st) {u n : ByteArray} {action E : Int} (h : mOpened st u n action = .error E) : OpenedErr W (.pointer (some ⟨sb, 0, none⟩)) u n action E := by
  unfold mOpened at h
  cases hf : mFound st u n with
  | error E' =>
    rw [hf] at h
    injection h with h
    subst h
    exact opened_err _ u n action _ W (found_err hR hst hf)
  | ok p =>
    obtain ⟨k, f⟩ := p
    rw [hf] at h
    obtain ⟨mb, fb, rc, ub, D, DU, own, A, uv, G⟩ := found_all hR hst hf
    simp only at h
    cases hl : lookU f.users u with
    | some q => rw [hl] at h; cases h
    | none =>
      rw [hl] at h
      injection h with h
      subst h
      exact opened_not _ u n action W _ fb rc ub f A uv DU G.F G.P (by have := G.us; omega) hl
theorem opened_all (hR : StoreRep W ok sb L) (hst : L.map (·.2) = st) {u n : ByteArray} {action : Int} {k : Nat} {f : AF} {dn : Int} (h : mOpened st u n action = .ok (k, f, dn)) :
    (dn = 0 ∨ dn = 12) ∧ ∃ ac ex mb fb rc ub D DU own A uv, Found W ok sb L u n k f mb fb rc ub D DU own A uv ∧ lookU f.users u = some (ac, ex) ∧ dn = denied ac action ∧ OpenedOk W (.pointer (some ⟨sb, 0, none⟩)) u n action fb dn := by
  unfold mOpened at h
  cases hf : mFound st u n with
  | error E' => rw [hf] at h; cases h
  | ok p =>
    obtain ⟨k', f'⟩ := p
    rw [hf] at h
    simp only at h
    cases hl : lookU f'.users u with
    | none => rw [hl] at h; cases h
    | some q =>
      obtain ⟨ac, ex⟩ := q
      rw [hl] at h
      injection h with h
      injection h with h1 h
      injection h with h2 h3
      subst h1 h2 h3
      obtain ⟨mb, fb, rc, ub, D, DU, own, A, uv, G⟩ := found_all hR hst hf
      exact ⟨denied_cases ac action, ac, ex, mb, fb, rc, ub, D, DU, own, A, uv, G, hl, rfl, opened_ok _ u n action W _ fb rc ub f' A uv DU ac ex G.F G.P (by have := G.us; omega) hl⟩
theorem unit_error (hR : StoreRep W ok sb L) (hst : L.map (·.2) = st) {u n : ByteArray} {at_ action E : Int} (h : mUnit st u n at_ action = .error E) : UnitErr W (.pointer (some ⟨sb, 0, none⟩)) u n at_ action E := by
  unfold mUnit at h
  by_cases h0 : at_ < 0
  · rw [if_pos h0] at h
    injection h with h
    subst h
    exact unit_neg _ u n at_ action W h0
  · rw [if_neg h0] at h
    cases ho : mOpened st u n action with
    | error E' =>
      rw [ho] at h
      injection h with h
      subst h
      exact unit_err _ u n at_ action _ W (by omega) (opened_error hR hst ho)
    | ok p =>
      obtain ⟨k, f, dn⟩ := p
      rw [ho] at h
      simp only at h
      by_cases hl : (f.units.length : Int) ≤ at_
      · rw [if_pos hl] at h
        injection h with h
        subst h
        obtain ⟨hd, ac, ex, mb, fb, rc, ub, D, DU, own, A, uv, G, hlu, hdn, HO⟩ := opened_all hR hst ho
        exact unit_none _ u n at_ action dn W _ fb rc ub f A uv DU HO G.P hl
      · rw [if_neg hl] at h; cases h
theorem unit_all (hR : StoreRep W ok sb L) (hst : L.map (·.2) = st) {u n : ByteArray} {at_ action : Int} {k i : Nat} {f : AF} {dn : Int} (h : mUnit st u n at_ action = .ok (k, f, i, dn)) :
    (dn = 0 ∨ dn = 12) ∧ at_ = (i : Int) ∧ i < f.units.length ∧ ∃ ac ex mb fb rc ub D DU own A uv, Found W ok sb L u n k f mb fb rc ub D DU own A uv ∧ lookU f.users u = some (ac, ex) ∧ UnitOk W (.pointer (some ⟨sb, 0, none⟩)) u n (i : Int) action fb dn := by
  unfold mUnit at h
  by_cases h0 : at_ < 0
  · rw [if_pos h0] at h; cases h
  · rw [if_neg h0] at h
    cases ho : mOpened st u n action with
    | error E' => rw [ho] at h; cases h
    | ok p =>
      obtain ⟨k', f', dn'⟩ := p
      rw [ho] at h
      simp only at h
      by_cases hl : (f'.units.length : Int) ≤ at_
      · rw [if_pos hl] at h; cases h
      · rw [if_neg hl] at h
        injection h with h
        injection h with h1 h
        injection h with h2 h
        injection h with h3 h4
        subst h1 h2 h4
        have e : at_ = (i : Int) := by omega
        obtain ⟨hd, ac, ex, mb, fb, rc, ub, D, DU, own, A, uv, G, hlu, hdn, HO⟩ := opened_all hR hst ho
        refine ⟨hd, e, by omega, ac, ex, mb, fb, rc, ub, D, DU, own, A, uv, G, hlu, ?_⟩
        rw [← e]
        exact unit_ok _ u n at_ action dn' W _ fb rc ub f' A uv DU HO G.P (by omega) (by omega)
theorem inv_at (hI : SInv c st) (hst : L.map (·.2) = st) {k fb : Nat} {f : AF} (h : L[k]? = some (fb, f)) : FInv c f := hI.files f (by rw [← hst]; exact List.mem_map.2 ⟨(fb, f), List.mem_of_getElem? h, rfl⟩)
theorem S_Read (hR : StoreRep W ok sb L) (hst : L.map (·.2) = st) (hI : SInv c st) (u n : ByteArray) (at_ : Int) (whole : Bool) :
    Calls Tryz.prog 26 #[.pointer (some ⟨sb, 0, none⟩), .string u, .string n, .int .i64 at_, .bool whole] W (RdOut W ok sb (mRead st u n at_ whole).1 (mRead st u n at_ whole).2.1 (mRead st u n at_ whole).2.2) := by
  unfold mRead
  cases h : mUnit st u n at_ 1 with
  | error E =>
    refine (Read_err _ u n at_ E whole W (unit_error hR hst h)).mono ?_
    rintro e w' ⟨rfl, hb⟩
    exact ⟨_, SOut.stay hR hst ⟨rfl, hb⟩, Kd.R_nil _ _ _ _ _⟩
  | ok p =>
    obtain ⟨k, f, i, dn⟩ := p
    obtain ⟨hd, rfl, hi, ac, ex, mb, fb, rc, ub, D, DU, own, A, uv, G, hlu, HU⟩ := unit_all hR hst h
    rcases hd with rfl | rfl
    · simp only [if_pos]
      refine (Read_ok _ u n i fb rc ub whole f A uv DU _ W HU G.P hi (by have := (inv_at hI hst G.at_).units.len; omega)).mono ?_
      rintro e w' ⟨v, rfl, hr, hP, hC⟩
      rw [← hst]
      exact ⟨v, SOut.step G.R G.at_ rfl ⟨A, rc, uv, ub, DU, hP.mono (fun q hq => .inl hq)⟩ (hC.mono (fun q hq => by rw [hq]; exact G.P.okb)), hr⟩
    · simp only [show ¬ ((12 : Int) = 0) by decide, if_false]
      refine (Read_denied _ u n i fb whole W HU).mono ?_
      rintro e w' ⟨rfl, hb⟩
      exact ⟨_, SOut.stay hR hst ⟨rfl, hb⟩, Kd.R_nil _ _ _ _ _⟩
theorem S_Replace (hR : StoreRep W ok sb L) (hst : L.map (·.2) = st) (hI : SInv c st) (u n : ByteArray) (at_ : Int) (d : ByteArray) :
    Calls Tryz.prog 32 #[.pointer (some ⟨sb, 0, none⟩), .string u, .string n, .int .i64 at_, .string d] W (SOut W ok sb (.int .i64 (mReplace st u n at_ d).1) (mReplace st u n at_ d).2) := by
  unfold mReplace
  by_cases hd4 : 400 < d.size
  · rw [if_pos hd4]
    exact (Replace_arg _ u n at_ d W (by omega)).mono fun e w' h => SOut.stay hR hst h
  rw [if_neg hd4]
  cases h : mUnit st u n at_ 4 with
  | error E => exact (Replace_err _ u n at_ E d W (by omega) (unit_error hR hst h)).mono fun e w' h => SOut.stay hR hst h
  | ok p =>
    obtain ⟨k, f, i, dn⟩ := p
    obtain ⟨hd, rfl, hi, ac, ex, mb, fb, rc, ub, D, DU, own, A, uv, G, hlu, HU⟩ := unit_all hR hst h
    rcases hd with rfl | rfl
    · simp only [if_pos]
      refine (Replace_ok _ u n i fb rc ub d f A uv DU _ W (by omega) HU G.P hi (by have := (inv_at hI hst G.at_).units.len; omega)).mono ?_
      rintro e w' ⟨rfl, uv', hP, hC⟩
      rw [← hst]
      exact SOut.step G.R G.at_ rfl ⟨A, rc, uv', ub, DU, hP⟩ hC
    · simp only [show ¬ ((12 : Int) = 0) by decide, if_false]
      exact (Replace_denied _ u n i fb d W (by omega) HU).mono fun e w' h => SOut.stay hR hst h
theorem S_Extend (hR : StoreRep W ok sb L) (hst : L.map (·.2) = st) (hI : SInv c st) (u n : ByteArray) (at_ : Int) (d : ByteArray) :
    Calls Tryz.prog 34 #[.pointer (some ⟨sb, 0, none⟩), .string u, .string n, .int .i64 at_, .string d] W (SOut W ok sb (.int .i64 (mExtend st u n at_ d).1) (mExtend st u n at_ d).2) := by
  unfold mExtend
  by_cases hd4 : 400 < d.size
  · rw [if_pos hd4]
    exact (Extend_arg _ u n at_ d W (by omega)).mono fun e w' h => SOut.stay hR hst h
  rw [if_neg hd4]
  cases h : mUnit st u n at_ 8 with
  | error E => exact (Extend_err _ u n at_ E d W (by omega) (unit_error hR hst h)).mono fun e w' h => SOut.stay hR hst h
  | ok p =>
    obtain ⟨k, f, i, dn⟩ := p
    obtain ⟨hd, rfl, hi, ac, ex, mb, fb, rc, ub, D, DU, own, A, uv, G, hlu, HU⟩ := unit_all hR hst h
    have hI' := inv_at hI hst G.at_
    have hlen := hI'.units.len
    rcases hd with rfl | rfl
    · simp only [if_pos]
      by_cases hf : 400 < (rd_T29 f.units (i : Int)).f1.size + d.size
      · rw [if_pos hf]
        refine (Extend_full _ u n i fb rc ub d f A uv DU _ W (by omega) HU G.P hi (by omega) ?_ hf).mono fun e w' h => SOut.stay hR hst h
        rw [rd_get f.units i hi]
        exact hI'.data _ (List.getElem_mem hi)
      · rw [if_neg hf]
        refine (Extend_ok _ u n i fb rc ub d f A uv DU _ W (by omega) HU G.P hi (by omega) (by omega)).mono ?_
        rintro e w' ⟨rfl, uv', hP, hC⟩
        rw [← hst]
        exact SOut.step G.R G.at_ rfl ⟨A, rc, uv', ub, DU, hP⟩ hC
    · simp only [show ¬ ((12 : Int) = 0) by decide, if_false]
      exact (Extend_denied _ u n i fb d W (by omega) HU).mono fun e w' h => SOut.stay hR hst h
theorem S_Erase (hR : StoreRep W ok sb L) (hst : L.map (·.2) = st) (hI : SInv c st) (u n : ByteArray) (at_ : Int) :
    Calls Tryz.prog 36 #[.pointer (some ⟨sb, 0, none⟩), .string u, .string n, .int .i64 at_] W (SOut W ok sb (.int .i64 (mErase st u n at_).1) (mErase st u n at_).2) := by
  unfold mErase
  cases h : mUnit st u n at_ 16 with
  | error E => exact (Erase_err _ u n at_ E W (unit_error hR hst h)).mono fun e w' h => SOut.stay hR hst h
  | ok p =>
    obtain ⟨k, f, i, dn⟩ := p
    obtain ⟨hd, rfl, hi, ac, ex, mb, fb, rc, ub, D, DU, own, A, uv, G, hlu, HU⟩ := unit_all hR hst h
    have hlen := (inv_at hI hst G.at_).units.len
    rcases hd with rfl | rfl
    · simp only [if_pos]
      by_cases h0 : i = 0
      · subst h0
        refine (Erase_root _ u n fb rc ub f A uv DU _ W HU G.P).mono ?_
        rintro e w' ⟨rfl, uv', hP, hC⟩
        rw [← hst]
        exact SOut.step G.R G.at_ rfl ⟨A, rc, uv', ub, DU, hP⟩ hC
      · refine (Erase_ok _ u n i fb rc ub f A uv DU _ W HU G.P (by omega) hi (by omega)).mono ?_
        rintro e w' ⟨rfl, uv', hP, hC⟩
        rw [← hst]
        exact SOut.step G.R G.at_ rfl ⟨A, rc, uv', ub, DU, hP⟩ hC
    · simp only [show ¬ ((12 : Int) = 0) by decide, if_false]
      exact (Erase_denied _ u n i fb W HU).mono fun e w' h => SOut.stay hR hst h
end steps
end Go.Proofs.YtehlmkgldcfciaaGreat.Files
/- The file store: Create, Delete, Open, Close, Insert, Change as steps of the machine. -/
set_option linter.unusedVariables false
set_option linter.unusedSimpArgs false
namespace Go.Proofs.YtehlmkgldcfciaaGreat.Files
open Go.Proofs.YtehlmkgldcfciaaGreat.Common Go.Maps Go.ChangeMaps Go.WideMaps Go.Proofs.YtehlmkgldcfciaaGreat.F
open Go.RowKit Go.Proofs.YtehlmkgldcfciaaGreatW.PrintWords Go.Proofs.YtehlmkgldcfciaaGreatW.PrintLast Go.Proofs.YtehlmkgldcfciaaGreatW.PrintMore
section steps
variable {W : World} {ok : Nat → Prop} {sb : Nat} {L : List (Nat × AF)} {st : Fs} {c : Nat}
theorem setB_iff {n : Int} : setB n = true ↔ 0 ≤ n ∧ n ≤ 255 := by unfold setB; simp
theorem S_Insert (hR : StoreRep W ok sb L) (hst : L.map (·.2) = st) (hI : SInv c st) (u n : ByteArray) (at_ : Int) (child : Bool) (a b : ByteArray) (lev0 : Int) :
    Calls Tryz.prog 30 #[.pointer (some ⟨sb, 0, none⟩), .string u, .string n, .int .i64 at_, .bool child, .agg #[.string a, .string b, .int .i64 lev0]] W (SOut W ok sb (.int .i64 (mInsert st u n at_ child a b).1) (mInsert st u n at_ child a b).2) := by
  unfold mInsert
  by_cases hab : (decide (a.size ≤ 30) && decide (b.size ≤ 400)) = false
  · rw [if_pos hab]
    exact (Insert_arg _ u n at_ child a b lev0 W hab).mono fun e w' h => SOut.stay hR hst h
  rw [if_neg hab]
  have hab' : a.size ≤ 30 ∧ b.size ≤ 400 := by simpa using hab
  cases h : mUnit st u n at_ 2 with
  | error E => exact (Insert_err _ u n at_ child a b lev0 E W hab'.1 hab'.2 (unit_error hR hst h)).mono fun e w' h => SOut.stay hR hst h
  | ok p =>
    obtain ⟨k, f, i, dn⟩ := p
    obtain ⟨hd, rfl, hi, ac, ex, mb, fb, rc, ub, D, DU, own, A, uv, G, hlu, HU⟩ := unit_all hR hst h
    have hU := (inv_at hI hst G.at_).units
    have hlen := hU.len
    simp only
    cases hbad : insBad f.F.kind (insLev f.units i child) with
    | true =>
      rw [if_pos rfl]
      exact (Insert_bad _ u n i fb rc ub child a b lev0 dn f A uv DU _ W HU G.P hi (by omega) hab'.1 hab'.2 hU.lev hU.root hbad).mono fun e w' h => SOut.stay hR hst h
    | false =>
      rw [if_neg (by simp)]
      by_cases hs : clashB f.units (kids f.units (aboveOf f.units (insLev f.units i child) i)) a = true ∨ dn = 12 ∨ 100 ≤ f.units.length
      · rw [if_pos hs]
        exact (Insert_rest _ u n i fb rc ub child a b lev0 dn _ f A uv DU _ W HU G.P hi (by omega) hab'.1 hab'.2 hU.lev hU.root hbad _ rfl hd hs rfl).mono fun e w' h => SOut.stay hR hst h
      · rw [if_neg hs]
        have hcl : clashB f.units (kids f.units (aboveOf f.units (insLev f.units i child) i)) a = false := by
          cases e : clashB f.units (kids f.units (aboveOf f.units (insLev f.units i child) i)) a with
          | false => rfl
          | true => exact absurd (.inl e) hs
        have hdn : dn = 0 := hd.elim (fun e => e) (fun e => absurd (.inr (.inl e)) hs)
        have hfull : f.units.length < 100 := Nat.lt_of_not_le fun e => hs (.inr (.inr e))
        refine (Insert_ok _ u n i fb rc ub child a b lev0 dn f A uv DU _ W HU G.P hi (by omega) hab'.1 hab'.2 hU.lev hU.root hbad hcl hdn hfull).mono ?_
        rintro e w' ⟨rfl, uv', hP, hC⟩
        rw [← hst]
        exact SOut.step G.R G.at_ rfl ⟨A, rc, uv', ub, DU, hP⟩ hC
theorem S_Change (hR : StoreRep W ok sb L) (hst : L.map (·.2) = st) (u n : ByteArray) (perm : Int) (A : Option Addr) (cc : Nat) (rules : List S100) (hr : Kd.C k100 W A rules.length rules) (hc : rules.length ≤ cc) :
    Calls Tryz.prog 42 #[.pointer (some ⟨sb, 0, none⟩), .string u, .string n, .int .i64 perm, .slice A rules.length cc] W (SOut W ok sb (.int .i64 (mChange st u n perm rules).1) (mChange st u n perm rules).2) := by
  unfold mChange
  by_cases hok : changeOk perm rules = false
  · rw [if_pos hok]
    exact (Change_arg _ u n perm A cc rules W hr hc hok).mono fun e w' h => SOut.stay hR hst h
  rw [if_neg hok]
  have hok' : changeOk perm rules = true := by simpa using hok
  cases h : mOpened st u n 64 with
  | error E => exact (Change_err _ u n perm E A cc rules W hr hc hok' (opened_error hR hst h)).mono fun e w' h => SOut.stay hR hst h
  | ok p =>
    obtain ⟨k, f, dn⟩ := p
    obtain ⟨hd, ac, ex, mb, fb, rc, ub, D, DU, own, Ar, uv, G, hlu, hdn, HO⟩ := opened_all hR hst h
    rcases hd with rfl | rfl
    · simp only [if_pos]
      refine (Change_ok _ u n perm fb rc ub A cc rules f Ar uv DU _ W hr hc hok' HO G.P).mono ?_
      rintro e w' ⟨rfl, A', rc', hP, hC⟩
      rw [← hst]
      exact SOut.step G.R G.at_ rfl ⟨A', rc', uv, ub, DU, hP⟩ hC
    · simp only [show ¬ ((12 : Int) = 0) by decide, if_false]
      exact (Change_denied _ u n perm fb A cc rules W hr hc hok' HO).mono fun e w' h => SOut.stay hR hst h
theorem S_Close (hR : StoreRep W ok sb L) (hst : L.map (·.2) = st) (hI : SInv c st) (u n : ByteArray) :
    Calls Tryz.prog 22 #[.pointer (some ⟨sb, 0, none⟩), .string u, .string n] W (SOut W ok sb (.int .i64 (mClose st u n).1) (mClose st u n).2) := by
  unfold mClose
  cases h : mFound st u n with
  | error E => exact (Close_err _ u n E W (found_err hR hst h)).mono fun e w' h => SOut.stay hR hst h
  | ok p =>
    obtain ⟨k, f⟩ := p
    obtain ⟨mb, fb, rc, ub, D, DU, own, A, uv, G⟩ := found_all hR hst h
    simp only
    cases hl : lookU f.users u with
    | none => exact (Close_state _ u n W _ fb rc ub f A uv DU G.F G.P (by have := G.us; omega) hl).mono fun e w' h => SOut.stay hR hst h
    | some q =>
      obtain ⟨a, b⟩ := q
      rw [← hst]
      exact S_Close_ok sb fb k ok L f u n a b W hR G.at_ G.nm G.us G.ns hl (inv_at hI hst G.at_).users
theorem S_Delete (hR : StoreRep W ok sb L) (hst : L.map (·.2) = st) (hI : SInv c st) (u n : ByteArray) :
    Calls Tryz.prog 18 #[.pointer (some ⟨sb, 0, none⟩), .string u, .string n] W (SOut W ok sb (.int .i64 (mDelete st u n).1) (mDelete st u n).2) := by
  unfold mDelete
  cases h : mFound st u n with
  | error E => exact (Delete_err _ u n E W (found_err hR hst h)).mono fun e w' h => SOut.stay hR hst h
  | ok p =>
    obtain ⟨k, f⟩ := p
    obtain ⟨mb, fb, rc, ub, D, DU, own, A, uv, G⟩ := found_all hR hst h
    simp only
    by_cases hu : 0 < f.users.length
    · rw [if_pos hu]
      exact (Delete_state _ u n W _ fb rc ub f A uv DU G.F G.P hu).mono fun e w' h => SOut.stay hR hst h
    rw [if_neg hu]
    have hu0 : f.users = [] := List.length_eq_zero_iff.1 (by omega)
    by_cases hm : mayB f.F f.rules u 128 = false
    · rw [if_pos hm]
      exact (Delete_denied _ u n W _ fb rc ub f A uv DU G.F G.P hu0 hm).mono fun e w' h => SOut.stay hR hst h
    rw [if_neg hm, ← hst]
    exact S_Delete_ok sb fb k ok L f u n W hR G.at_ G.nm G.us G.ns hu0 (by simpa using hm)
theorem S_Open_all (hR : StoreRep W ok sb L) (hst : L.map (·.2) = st) (hI : SInv c st) (hc : c < 1000) (u n : ByteArray) (a x : Int) :
    Calls Tryz.prog 20 #[.pointer (some ⟨sb, 0, none⟩), .string u, .string n, .int .i64 a, .int .i64 x] W (SOut W ok sb (.int .i64 (mOpen st u n a x).1) (mOpen st u n a x).2) := by
  unfold mOpen
  by_cases hs : okSets a x = false
  · rw [if_pos hs]
    exact (Open_arg _ u n a x W hs).mono fun e w' h => SOut.stay hR hst h
  rw [if_neg hs]
  have hs' : okSets a x = true := by simpa using hs
  unfold okSets at hs'
  simp only [Bool.and_eq_true, decide_eq_true_eq] at hs'
  obtain ⟨⟨ha, hx⟩, hsub⟩ := hs'
  cases h : mFound st u n with
  | error E => exact (Open_err _ u n a x E W ha hx hsub (found_err hR hst h)).mono fun e w' h => SOut.stay hR hst h
  | ok p =>
    obtain ⟨k, f⟩ := p
    obtain ⟨mb, fb, rc, ub, D, DU, own, A, uv, G⟩ := found_all hR hst h
    have hI' := inv_at hI hst G.at_
    simp only
    cases hl : lookU f.users u with
    | some q =>
      rw [if_pos (by simp)]
      exact (Open_state _ u n a x W _ fb rc ub f A uv DU q.1 q.2 ha hx hsub G.F G.P (by have := G.us; omega) hl).mono fun e w' h => SOut.stay hR hst h
    | none =>
      rw [if_neg (by simp)]
      by_cases hm : mayB f.F f.rules u a = false
      · rw [if_pos hm]
        exact (Open_denied _ u n a x W _ fb rc ub f A uv DU ha hx hsub G.F G.P (by have := G.us; omega) hl hm).mono fun e w' h => SOut.stay hR hst h
      rw [if_neg hm]
      have := S_Open sb fb k ok L f u n a x W hR G.at_ G.nm G.us G.ns (setB_iff.1 ha) (setB_iff.1 hx) hsub hl (by simpa using hm) hI'.users (by have := hI'.count; omega)
      rw [hst] at this
      cases hf : freeB f.users a x with
      | true => rw [hf] at this; simpa using this
      | false => rw [hf] at this; simpa using this
theorem S_Create (hR : StoreRep W ok sb L) (hst : L.map (·.2) = st) (hI : SInv c st) (u n : ByteArray) (kind perm : Int) :
    Calls Tryz.prog 16 #[.pointer (some ⟨sb, 0, none⟩), .string u, .string n, .int .i64 kind, .int .i64 perm] W (SOut W ok sb (.int .i64 (mCreate st u n kind perm).1) (mCreate st u n kind perm).2) := by
  have hR0 := hR
  obtain ⟨mb, D, own, R⟩ := hR
  unfold mCreate
  have hsz : Maps.size D = st.length := by rw [R.mM.size, List.length_map, ← hst, List.length_map]
  by_cases hb : createB u n kind perm = false
  · rw [if_pos hb]
    exact (Create_arg sb mb u n kind perm W R.S.cell hb).mono fun e w' h => SOut.stay hR0 hst h
  rw [if_neg hb]
  have hb' : createB u n kind perm = true := by simpa using hb
  obtain ⟨b1, b2, b3, b4⟩ := createB_parts hb'
  cases hp : posF st n with
  | some p =>
    obtain ⟨k, f⟩ := p
    obtain ⟨h1, h2⟩ := posF_some hp
    obtain ⟨fb, hL⟩ := at_L hst h1
    rw [if_pos (by simp)]
    have hD := filesL_look R.mM R.names (List.mem_of_getElem? hL)
    rw [h2] at hD
    exact (Create_dup sb mb _ fb D u n kind perm W R.S.cell R.M hb' hD).mono fun e w' h => SOut.stay hR0 hst h
  | none =>
    rw [if_neg (by simp)]
    have hno : ∀ p ∈ L, p.2.F.name ≠ n := fun p hp2 => posF_none hp p.2 (by rw [← hst]; exact List.mem_map.2 ⟨p, hp2, rfl⟩)
    have hD : D.atKey (.string n.data.toList) .nil = .nil := by rw [R.mM.at_, filesL_none R.mM hno]; rfl
    by_cases hfull : 30 ≤ st.length
    · rw [if_pos hfull]
      exact (Create_full sb mb D u n kind perm W R.S.cell R.M hb' hD (by omega)).mono fun e w' h => SOut.stay hR0 hst h
    rw [if_neg hfull, ← hst]
    refine S_Create_ok sb ok L u n kind perm W hR0 (userB_iff.1 b1) (nameB_iff.1 b2) b3 (setB_iff.1 b4) hno ?_
    rw [← hst, List.length_map] at hfull
    omega
end steps
end Go.Proofs.YtehlmkgldcfciaaGreat.Files
/- An act as a step of the machine. -/
set_option linter.unusedVariables false
set_option linter.unusedSimpArgs false
namespace Go.Proofs.YtehlmkgldcfciaaGreat.Files
open Go.Proofs.YtehlmkgldcfciaaGreat.Common Go.Maps Go.ChangeMaps Go.WideMaps Go.Proofs.YtehlmkgldcfciaaGreat.F
open Go.RowKit Go.Proofs.YtehlmkgldcfciaaGreatW.PrintWords Go.Proofs.YtehlmkgldcfciaaGreatW.PrintLast Go.Proofs.YtehlmkgldcfciaaGreatW.PrintMore
def mDo (st : Fs) (do_ A B : Int) (u n : ByteArray) (flag : Bool) (x : S29) (rules : List S100) : Fs :=
  if do_ = 0 then (mCreate st u n A B).2 else if do_ = 1 then (mDelete st u n).2 else if do_ = 2 then (mOpen st u n A B).2 else if do_ = 3 then (mClose st u n).2 else if do_ = 5 then (mRead st u n A flag).2.2 else if do_ = 6 then (mInsert st u n A flag x.f0 x.f1).2 else if do_ = 7 then (mReplace st u n A x.f1).2 else if do_ = 8 then (mExtend st u n A x.f1).2 else if do_ = 9 then (mErase st u n A).2 else if do_ = 11 then (mChange st u n B rules).2 else st
end Go.Proofs.YtehlmkgldcfciaaGreat.Files
/- The shelf's contracts at this dump, in plain words (written by lay-plain.mjs). -/
namespace Go.Proofs
open Go.Shelf
def Tryz.keys46_ren : Go.Shelf.Ren := ⟨fun | 7 => 46 | 10 => 83 | n => n, fun | 23 => 41 | 26 => 9 | 3 => 82 | 28 => 80 | 0 => 0 | 27 => 79 | 33 => 101 | 4 => 4 | n => n, fun | n => n⟩
theorem Tryz.keys46 : Go.Proofs.SlLaysZ.n7 Tryz.prog Tryz.keys46_ren := {
  mixed := by kernel_rfl
  f7 := ⟨Tryz.f46.name, by decide, Tryz.func46.trans (congrArg some (by kernel_rfl))⟩
  f10 := ⟨Tryz.f83.name, by decide, Tryz.func83.trans (congrArg some (by kernel_rfl))⟩
  t0 := Tryz.underlying0
  a0 := Tryz.isAgg0
  z0 := Tryz.sizeOf0
  v0 := Tryz.zeroValue0
  t4 := Tryz.underlying4
  a4 := Tryz.isAgg4
  z4 := Tryz.sizeOf4
  v4 := Tryz.zeroValue4
  t23 := Tryz.underlying41
  a23 := Tryz.isAgg41
  z23 := Tryz.sizeOf41
  v23 := Tryz.zeroValue41
  t26 := Tryz.underlying9
  a26 := Tryz.isAgg9
  z26 := Tryz.sizeOf9
  v26 := Tryz.zeroValue9
  t27 := Tryz.underlying79
  a27 := Tryz.isAgg79
  z27 := Tryz.sizeOf79
  v27 := Tryz.zeroValue79
  t28 := Tryz.underlying80
  a28 := Tryz.isAgg80
  z28 := Tryz.sizeOf80
  v28 := Tryz.zeroValue80
  t33 := Tryz.underlying101
  a33 := Tryz.isAgg101
  z33 := Tryz.sizeOf101
  v33 := Tryz.zeroValue101 }
def Tryz.sorted45_ren : Go.Shelf.Ren := ⟨fun | 6 => 45 | 8 => 81 | 9 => 82 | 11 => 93 | 13 => 95 | 12 => 94 | 23 => 106 | 24 => 107 | 14 => 97 | 15 => 98 | 16 => 99 | 17 => 100 | 18 => 101 | 19 => 102 | 20 => 103 | 21 => 104 | 22 => 105 | 25 => 109 | 26 => 110 | 27 => 111 | 28 => 112 | 29 => 113 | 30 => 114 | 31 => 115 | n => n, fun | 26 => 9 | 28 => 80 | 24 => 30 | 0 => 0 | 3 => 3 | 37 => 141 | 48 => 151 | 50 => 153 | 4 => 4 | 40 => 144 | 39 => 143 | 45 => 148 | 5 => 5 | 9 => 9 | 51 => 155 | 55 => 159 | 57 => 161 | 58 => 162 | 33 => 101 | n => n, fun | n => n⟩
theorem Tryz.sorted45 : Go.Proofs.SlLaysZ.n6 Tryz.prog Tryz.sorted45_ren := {
  mixed := by kernel_rfl
  f6 := ⟨Tryz.f45.name, by decide, Tryz.func45.trans (congrArg some (by kernel_rfl))⟩
  f8 := ⟨Tryz.f81.name, by decide, Tryz.func81.trans (congrArg some (by kernel_rfl))⟩
  f11 := ⟨Tryz.f93.name, by decide, Tryz.func93.trans (congrArg some (by kernel_rfl))⟩
  t0 := Tryz.underlying0
  a0 := Tryz.isAgg0
  z0 := Tryz.sizeOf0
  v0 := Tryz.zeroValue0
  t24 := Tryz.underlying30
  a24 := Tryz.isAgg30
  z24 := Tryz.sizeOf30
  v24 := Tryz.zeroValue30
  t26 := Tryz.underlying9
  a26 := Tryz.isAgg9
  z26 := Tryz.sizeOf9
  v26 := Tryz.zeroValue9
  t28 := Tryz.underlying80
  a28 := Tryz.isAgg80
  z28 := Tryz.sizeOf80
  v28 := Tryz.zeroValue80
  i26 := by kernel_rfl }
def Tryz.sort82_ren : Go.Shelf.Ren := ⟨fun | 6 => 82 | 8 => 95 | 9 => 94 | 19 => 106 | 20 => 107 | 21 => 97 | 22 => 98 | 23 => 99 | 24 => 100 | 25 => 101 | 26 => 102 | 27 => 103 | 28 => 104 | 29 => 105 | 36 => 109 | 31 => 110 | 32 => 111 | 37 => 112 | 38 => 113 | 39 => 114 | 41 => 115 | n => n, fun | 27 => 30 | 29 => 9 | 3 => 3 | 32 => 141 | 26 => 30 | 0 => 0 | 44 => 151 | 46 => 153 | 4 => 4 | 36 => 144 | 35 => 143 | 41 => 148 | 5 => 5 | 9 => 9 | 53 => 155 | 57 => 159 | 63 => 161 | 64 => 162 | n => n, fun | n => n⟩
theorem Tryz.sort82 : Go.Proofs.SlLaysM.n6 Tryz.prog Tryz.sort82_ren := {
  mixed := by kernel_rfl
  f6 := ⟨Tryz.f82.name, by decide, Tryz.func82.trans (congrArg some (by kernel_rfl))⟩
  f8 := Tryz.func95.trans (congrArg some (by kernel_rfl))
  f9 := ⟨Tryz.f94.name, by decide, Tryz.func94.trans (congrArg some (by kernel_rfl))⟩
  f19 := Tryz.func106.trans (congrArg some (by kernel_rfl))
  f20 := Tryz.func107.trans (congrArg some (by kernel_rfl))
  f21 := ⟨Tryz.f97.name, by decide, Tryz.func97.trans (congrArg some (by kernel_rfl))⟩
  f22 := ⟨Tryz.f98.name, by decide, Tryz.func98.trans (congrArg some (by kernel_rfl))⟩
  f23 := ⟨Tryz.f99.name, by decide, Tryz.func99.trans (congrArg some (by kernel_rfl))⟩
  f24 := ⟨Tryz.f100.name, by decide, Tryz.func100.trans (congrArg some (by kernel_rfl))⟩
  f25 := ⟨Tryz.f101.name, by decide, Tryz.func101.trans (congrArg some (by kernel_rfl))⟩
  f26 := ⟨Tryz.f102.name, by decide, Tryz.func102.trans (congrArg some (by kernel_rfl))⟩
  f27 := ⟨Tryz.f103.name, by decide, Tryz.func103.trans (congrArg some (by kernel_rfl))⟩
  f28 := ⟨Tryz.f104.name, by decide, Tryz.func104.trans (congrArg some (by kernel_rfl))⟩
  f29 := ⟨Tryz.f105.name, by decide, Tryz.func105.trans (congrArg some (by kernel_rfl))⟩
  f31 := Tryz.func110.trans (congrArg some (by kernel_rfl))
  f32 := Tryz.func111.trans (congrArg some (by kernel_rfl))
  f36 := ⟨Tryz.f109.name, by decide, Tryz.func109.trans (congrArg some (by kernel_rfl))⟩
  f37 := ⟨Tryz.f112.name, by decide, Tryz.func112.trans (congrArg some (by kernel_rfl))⟩
  f38 := ⟨Tryz.f113.name, by decide, Tryz.func113.trans (congrArg some (by kernel_rfl))⟩
  f39 := ⟨Tryz.f114.name, by decide, Tryz.func114.trans (congrArg some (by kernel_rfl))⟩
  f41 := ⟨Tryz.f115.name, by decide, Tryz.func115.trans (congrArg some (by kernel_rfl))⟩
  t0 := Tryz.underlying0
  a0 := Tryz.isAgg0
  z0 := Tryz.sizeOf0
  v0 := Tryz.zeroValue0
  t3 := Tryz.underlying3
  a3 := Tryz.isAgg3
  z3 := Tryz.sizeOf3
  v3 := Tryz.zeroValue3
  t4 := Tryz.underlying4
  a4 := Tryz.isAgg4
  z4 := Tryz.sizeOf4
  v4 := Tryz.zeroValue4
  t5 := Tryz.underlying5
  a5 := Tryz.isAgg5
  z5 := Tryz.sizeOf5
  v5 := Tryz.zeroValue5
  t9 := Tryz.underlying9
  a9 := Tryz.isAgg9
  z9 := Tryz.sizeOf9
  v9 := Tryz.zeroValue9
  t26 := Tryz.underlying30
  a26 := Tryz.isAgg30
  z26 := Tryz.sizeOf30
  v26 := Tryz.zeroValue30
  t27 := Tryz.underlying30
  a27 := Tryz.isAgg30
  z27 := Tryz.sizeOf30
  v27 := Tryz.zeroValue30
  t29 := Tryz.underlying9
  a29 := Tryz.isAgg9
  z29 := Tryz.sizeOf9
  v29 := Tryz.zeroValue9
  t32 := Tryz.underlying141
  a32 := Tryz.isAgg141
  z32 := Tryz.sizeOf141
  v32 := Tryz.zeroValue141
  t35 := Tryz.underlying143
  a35 := Tryz.isAgg143
  z35 := Tryz.sizeOf143
  v35 := Tryz.zeroValue143
  t36 := Tryz.underlying144
  a36 := Tryz.isAgg144
  z36 := Tryz.sizeOf144
  v36 := Tryz.zeroValue144
  t41 := Tryz.underlying148
  a41 := Tryz.isAgg148
  z41 := Tryz.sizeOf148
  v41 := Tryz.zeroValue148
  t44 := Tryz.underlying151
  a44 := Tryz.isAgg151
  z44 := Tryz.sizeOf151
  v44 := Tryz.zeroValue151
  t46 := Tryz.underlying153
  a46 := Tryz.isAgg153
  z46 := Tryz.sizeOf153
  v46 := Tryz.zeroValue153
  t53 := Tryz.underlying155
  a53 := Tryz.isAgg155
  z53 := Tryz.sizeOf155
  v53 := Tryz.zeroValue155
  t57 := Tryz.underlying159
  a57 := Tryz.isAgg159
  z57 := Tryz.sizeOf159
  v57 := Tryz.zeroValue159
  t63 := Tryz.underlying161
  a63 := Tryz.isAgg161
  z63 := Tryz.sizeOf161
  v63 := Tryz.zeroValue161
  t64 := Tryz.underlying162
  a64 := Tryz.isAgg162
  z64 := Tryz.sizeOf162
  v64 := Tryz.zeroValue162 }
def Tryz.keys48_ren : Go.Shelf.Ren := ⟨fun | 7 => 48 | 10 => 84 | n => n, fun | 23 => 88 | 26 => 9 | 3 => 90 | 28 => 80 | 0 => 0 | 27 => 79 | 33 => 101 | 4 => 4 | n => n, fun | n => n⟩
theorem Tryz.keys48 : Go.Proofs.SlLaysZ.n7 Tryz.prog Tryz.keys48_ren := {
  mixed := by kernel_rfl
  f7 := ⟨Tryz.f48.name, by decide, Tryz.func48.trans (congrArg some (by kernel_rfl))⟩
  f10 := ⟨Tryz.f84.name, by decide, Tryz.func84.trans (congrArg some (by kernel_rfl))⟩
  t0 := Tryz.underlying0
  a0 := Tryz.isAgg0
  z0 := Tryz.sizeOf0
  v0 := Tryz.zeroValue0
  t4 := Tryz.underlying4
  a4 := Tryz.isAgg4
  z4 := Tryz.sizeOf4
  v4 := Tryz.zeroValue4
  t23 := Tryz.underlying88
  a23 := Tryz.isAgg88
  z23 := Tryz.sizeOf88
  v23 := Tryz.zeroValue88
  t26 := Tryz.underlying9
  a26 := Tryz.isAgg9
  z26 := Tryz.sizeOf9
  v26 := Tryz.zeroValue9
  t27 := Tryz.underlying79
  a27 := Tryz.isAgg79
  z27 := Tryz.sizeOf79
  v27 := Tryz.zeroValue79
  t28 := Tryz.underlying80
  a28 := Tryz.isAgg80
  z28 := Tryz.sizeOf80
  v28 := Tryz.zeroValue80
  t33 := Tryz.underlying101
  a33 := Tryz.isAgg101
  z33 := Tryz.sizeOf101
  v33 := Tryz.zeroValue101 }
end Go.Proofs
/- The shelf's contracts on sorted keys, laid at this dump. -/
namespace Go.Proofs
open Go.RowKit Go.Maps Go.Sort Go.Shelf
theorem Tryz.sorts45 (m : Nat) : AnyZ.SortsIn Tryz.prog Tryz.sorted45_ren Fence.wide m :=
  ⟨fun blk off cap ss W hH hblk hsz => callsIn_wide.2 (AnyM.slices_Sort_string Tryz.sort82 blk off cap ss W hH hblk hsz),
   fun p cap W => callsIn_wide.2 (AnyM.slices_Sort_string_none Tryz.sort82 p cap W)⟩
theorem Tryz.maps_Keys_46 (mb : Option Nat) (W : World) : CallsIn Fence.wide 5 Tryz.prog 46 #[.map mb] W fun e w' => e = .returned (.func (.func 83) #[] #[.pointer (some ⟨W.heap.size, 0, none⟩)]) ∧ w' = W.alloc (.cells #[.map mb] 41) :=
  AnyZ.keys_in Tryz.keys46 Fence.wide 5 trivial rfl mb W
set_option maxHeartbeats 1000000 in
theorem Tryz.slices_Sorted_keys_45_46 {H : Type} (b nn : Nat) (D0 : DataW H) (R : Value → Option (DataW H × List MemPlace)) (w : World) (hown : w.ownsMap Tryz.prog 9 R b nn D0) (hmax : Maps.size D0 ≤ maxLen) (hbytes : Maps.size D0 * 16 ≤ 140737488355328) :
    CallsIn Fence.wide 5 Tryz.prog 45 #[.func (.func 83) #[] #[.pointer (some ⟨w.heap.size, 0, none⟩)]] (w.alloc (.cells #[.map (some b)] 41)) fun e w' => ∃ (v : Value) (ss : List (List UInt8)), e = .returned v ∧ ss.Perm (strKeys D0) ∧
      w'.ownsRow (w.alloc (.cells #[.map (some b)] 41)).heap.size 9 1 v ss.length ((ss.mergeSort (fun x y => decide (x ≤ y))).map encStr) ∧ (v = .slice none 0 0 ↔ ss = []) ∧ Below (w.alloc (.cells #[.map (some b)] 41)).heap.size (w.alloc (.cells #[.map (some b)] 41)) w' := by
  have hbl := hown.lt
  have hseq : SeqGives Fence.wide 2 Tryz.prog 83 #[.pointer (some ⟨w.heap.size, 0, none⟩)] encStr (fun ss => ss.Perm (strKeys D0)) (Maps.size D0) (w.alloc (.cells #[.map (some b)] 41)) :=
    AnyZ.keys_gives (ρ := Tryz.keys46_ren) { Tryz.keys46 with } Fence.wide _ trivial rfl (by omega) w.heap.size b nn D0 _ (by simp) (by simp) (by
      obtain ⟨es, clock, hb, Ft, hs, hD⟩ := hown
      exact ⟨es, clock, (Below.heap_alloc _ _ b hbl).trans hb, Ft, hs, hD⟩)
  exact AnyZ.sorted_in Tryz.sorted45 Fence.wide 5 trivial trivial trivial trivial rfl (by omega) (Tryz.sorts45 _) (enters_of Tryz.func82 (by kernel_rfl) rfl) 83 #[.pointer (some ⟨w.heap.size, 0, none⟩)] trivial (enters_of Tryz.func83 (by kernel_rfl) rfl) _ _ hmax hbytes _ hseq
theorem Tryz.maps_Keys_48 (mb : Option Nat) (W : World) : CallsIn Fence.wide 5 Tryz.prog 48 #[.map mb] W fun e w' => e = .returned (.func (.func 84) #[] #[.pointer (some ⟨W.heap.size, 0, none⟩)]) ∧ w' = W.alloc (.cells #[.map mb] 88) :=
  AnyZ.keys_in Tryz.keys48 Fence.wide 5 trivial rfl mb W
set_option maxHeartbeats 1000000 in
theorem Tryz.slices_Sorted_keys_45_48 {H : Type} (b nn : Nat) (D0 : DataW H) (R : Value → Option (DataW H × List MemPlace)) (w : World) (hown : w.ownsMap Tryz.prog 9 R b nn D0) (hmax : Maps.size D0 ≤ maxLen) (hbytes : Maps.size D0 * 16 ≤ 140737488355328) :
    CallsIn Fence.wide 5 Tryz.prog 45 #[.func (.func 84) #[] #[.pointer (some ⟨w.heap.size, 0, none⟩)]] (w.alloc (.cells #[.map (some b)] 88)) fun e w' => ∃ (v : Value) (ss : List (List UInt8)), e = .returned v ∧ ss.Perm (strKeys D0) ∧
      w'.ownsRow (w.alloc (.cells #[.map (some b)] 88)).heap.size 9 1 v ss.length ((ss.mergeSort (fun x y => decide (x ≤ y))).map encStr) ∧ (v = .slice none 0 0 ↔ ss = []) ∧ Below (w.alloc (.cells #[.map (some b)] 88)).heap.size (w.alloc (.cells #[.map (some b)] 88)) w' := by
  have hbl := hown.lt
  have hseq : SeqGives Fence.wide 2 Tryz.prog 84 #[.pointer (some ⟨w.heap.size, 0, none⟩)] encStr (fun ss => ss.Perm (strKeys D0)) (Maps.size D0) (w.alloc (.cells #[.map (some b)] 88)) :=
    AnyZ.keys_gives (ρ := Tryz.keys48_ren) { Tryz.keys48 with } Fence.wide _ trivial rfl (by omega) w.heap.size b nn D0 _ (by simp) (by simp) (by
      obtain ⟨es, clock, hb, Ft, hs, hD⟩ := hown
      exact ⟨es, clock, (Below.heap_alloc _ _ b hbl).trans hb, Ft, hs, hD⟩)
  exact AnyZ.sorted_in Tryz.sorted45 Fence.wide 5 trivial trivial trivial trivial rfl (by omega) (Tryz.sorts45 _) (enters_of Tryz.func82 (by kernel_rfl) rfl) 84 #[.pointer (some ⟨w.heap.size, 0, none⟩)] trivial (enters_of Tryz.func84 (by kernel_rfl) rfl) _ _ hmax hbytes _ hseq
end Go.Proofs
/- The file store: Names and Users. -/
set_option linter.unusedVariables false
set_option linter.unusedSimpArgs false
namespace Go.Proofs.YtehlmkgldcfciaaGreat.Files
open Go.Proofs.YtehlmkgldcfciaaGreat.Common Go.Maps Go.ChangeMaps Go.WideMaps Go.Proofs.YtehlmkgldcfciaaGreat.F
open Go.RowKit Go.Proofs.YtehlmkgldcfciaaGreatW.PrintWords Go.Proofs.YtehlmkgldcfciaaGreatW.PrintLast Go.Proofs.YtehlmkgldcfciaaGreatW.PrintMore
open Go.Sort Go.Shelf
def KeysEnd (W : World) (D : DataW Unit) (e : Ending) (w' : World) : Prop := ∃ (v : Value) (ss : List (List UInt8)), e = .returned v ∧ ss.Perm (strKeys D) ∧ w'.ownsRow W.heap.size 9 1 v ss.length ((ss.mergeSort (fun x y => decide (x ≤ y))).map encStr) ∧ Below W.heap.size W w'
theorem Names_c (sb mb n : Nat) (D : DataW Unit) (W : World) (c0 : W.cell? ⟨sb, 0, none⟩ = some (.map (some mb))) (hown : W.ownsMap Tryz.prog 9 Rp mb n D) (hsz : Maps.size D ≤ 1000) :
    Calls Tryz.prog 9 #[.pointer (some ⟨sb, 0, none⟩)] W (KeysEnd W D) := by
  refine (callsIn_wide (n := 6)).1 ?_
  have hmax : Maps.size D ≤ maxLen := by unfold maxLen; omega
  have hbytes : Maps.size D * 16 ≤ 140737488355328 := by omega
  have hfK : Fence.wide.fn 46 := trivial
  have hfS : Fence.wide.fn 45 := trivial
  have hfN : Fence.wide.fn 44 := trivial
  refine callsIn_of_wp Tryz.func9 rfl trivial ?_ rfl
  simp only [Tryz.ntmps9, List.size_toArray, List.length_cons, List.length_nil, Nat.reduceAdd, Nat.reduceSub, Array.replicate_succ, Array.replicate_zero, List.push_toArray, List.append_toArray, List.nil_append, List.cons_append]
  gi_wp2_with (first
    | (gi_at_call 44; refine (callsIn_wide.2 (no_live sb mb W c0)).mono ?_; rintro e w' ⟨rfl, rfl⟩)
    | (gi_at_call 46; refine (Tryz.maps_Keys_46 _ _).mono ?_; rintro e w' ⟨rfl, rfl⟩)
    | (gi_at_call 45; refine (Tryz.slices_Sorted_keys_45_46 mb n D Rp W hown hmax hbytes).mono ?_; rintro e w' ⟨v, ss, rfl, hS, hrow, hnil, hb⟩))
  go_ret
  exact ⟨v, ss, rfl, hS, ownsRow_base_a hrow (by simp), ((Below.refl _ W).alloc (Nat.le_refl _) _).trans (hb.mono (by simp))⟩
theorem Users_none (sb mb m : Nat) (D : DataW Unit) (n : ByteArray) (W : World) (c0 : W.cell? ⟨sb, 0, none⟩ = some (.map (some mb))) (hown : W.ownsMap Tryz.prog 9 Rp mb m D) (hn : n.size ≤ 140737488355328) (hD : D.atKey (.string n.data.toList) .nil = .nil) :
    Calls Tryz.prog 11 #[.pointer (some ⟨sb, 0, none⟩), .string n] W fun e w' => e = .returned (.slice none 0 0) ∧ Below W.heap.size W w' := by
  have hkey : keyOf Tryz.prog 9 (.string n) = some (.string n.data.toList) := keyOf_string_mk Tryz.underlying9 (by unfold maxLen; omega)
  obtain ⟨v, ps, hrun, hv⟩ := hown.lookup law9 Tryz.underlying41 (zeroP _) (zd := .nil) (zp := []) rfl hkey
  rw [hD] at hv
  obtain rfl := Rp_nil hv
  have CL := Aside0.mk (no_live sb mb W c0)
  clear hv hown hD
  go_enter Tryz.func11, Tryz.ntmps11
  go_wp2_with first | (go_at_call 44; refine CL.out.mono ?_; rintro e w' ⟨rfl, rfl⟩)
  go_ret
  exact ⟨rfl, Below.refl _ _⟩
theorem Users_c (sb mb m fb ub m2 : Nat) (D DU : DataW Unit) (n : ByteArray) (W : World) (c0 : W.cell? ⟨sb, 0, none⟩ = some (.map (some mb))) (hown : W.ownsMap Tryz.prog 9 Rp mb m D) (hn : n.size ≤ 140737488355328) (hD : D.atKey (.string n.data.toList) .nil = .lit (.int .i64 (fb : Nat)))
    (c9 : W.cell? ⟨fb, 9, none⟩ = some (.map (some ub))) (hU : W.ownsMap Tryz.prog 9 Ro ub m2 DU) (hsz : Maps.size DU ≤ 1000) :
    Calls Tryz.prog 11 #[.pointer (some ⟨sb, 0, none⟩), .string n] W (KeysEnd W DU) := by
  refine (callsIn_wide (n := 6)).1 ?_
  have hkey : keyOf Tryz.prog 9 (.string n) = some (.string n.data.toList) := keyOf_string_mk Tryz.underlying9 (by unfold maxLen; omega)
  obtain ⟨v, ps, hrun, hv⟩ := hown.lookup law9 Tryz.underlying41 (zeroP _) (zd := .nil) (zp := []) rfl hkey
  rw [hD] at hv
  obtain rfl := Rp_at hv
  have hmax : Maps.size DU ≤ maxLen := by unfold maxLen; omega
  have hbytes : Maps.size DU * 16 ≤ 140737488355328 := by omega
  have hfK : Fence.wide.fn 48 := trivial
  have hfS : Fence.wide.fn 45 := trivial
  have hfN : Fence.wide.fn 44 := trivial
  clear hv hD
  refine callsIn_of_wp Tryz.func11 rfl trivial ?_ rfl
  simp only [Tryz.ntmps11, List.size_toArray, List.length_cons, List.length_nil, Nat.reduceAdd, Nat.reduceSub, Array.replicate_succ, Array.replicate_zero, List.push_toArray, List.append_toArray, List.nil_append, List.cons_append]
  gi_wp2_with (first
    | (gi_at_call 44; refine (callsIn_wide.2 (no_live sb mb W c0)).mono ?_; rintro e w' ⟨rfl, rfl⟩)
    | (gi_at_call 48; refine (Tryz.maps_Keys_48 _ _).mono ?_; rintro e w' ⟨rfl, rfl⟩)
    | (gi_at_call 45; refine (Tryz.slices_Sorted_keys_45_48 ub m2 DU Ro W hU hmax hbytes).mono ?_; rintro e w' ⟨v, ss, rfl, hS, hrow, hnil, hb⟩))
  go_ret
  exact ⟨v, ss, rfl, hS, ownsRow_base_a hrow (by simp), ((Below.refl _ W).alloc (Nat.le_refl _) _).trans (hb.mono (by simp))⟩
end Go.Proofs.YtehlmkgldcfciaaGreat.Files
/- maps.Clone of a file's users. -/
set_option linter.unusedVariables false
set_option linter.unusedSimpArgs false
namespace Go.Proofs.YtehlmkgldcfciaaGreat.Files
open Go.Proofs.YtehlmkgldcfciaaGreat.Common Go.Maps Go.ChangeMaps Go.WideMaps Go.Proofs.YtehlmkgldcfciaaGreat.F
open Go.RowKit Go.Proofs.YtehlmkgldcfciaaGreatW.PrintWords Go.Proofs.YtehlmkgldcfciaaGreatW.PrintLast Go.Proofs.YtehlmkgldcfciaaGreatW.PrintMore
open Go.Sort Go.Shelf
end Go.Proofs.YtehlmkgldcfciaaGreat.Files
/- The keys of a map, as a list. -/
set_option linter.unusedVariables false
set_option linter.unusedSimpArgs false
namespace Go.Proofs.YtehlmkgldcfciaaGreat.Files
open Go.Proofs.YtehlmkgldcfciaaGreat.Common Go.Maps Go.ChangeMaps Go.WideMaps Go.Proofs.YtehlmkgldcfciaaGreat.F
open Go.RowKit Go.Proofs.YtehlmkgldcfciaaGreatW.PrintWords Go.Proofs.YtehlmkgldcfciaaGreatW.PrintLast Go.Proofs.YtehlmkgldcfciaaGreatW.PrintMore
open Go.Sort Go.Shelf
theorem look_isSome {α : Type} {l : List (Key × α)} {k : Key} : (look l k).isSome = true ↔ k ∈ l.map (·.1) := by
  constructor
  · intro h
    obtain ⟨x, hx⟩ := Option.isSome_iff_exists.1 h
    exact List.mem_map.2 ⟨(k, x), look_mem hx, rfl⟩
  · intro h
    cases hl : look l k with
    | some x => rfl
    | none =>
      obtain ⟨p, hp, rfl⟩ := List.mem_map.1 h
      exact absurd rfl (look_none.1 hl p hp)
theorem keys_perm {P : Program} {W : World} {R : Value → Option (DataW Unit × List MemPlace)} {b n : Nat} {D : DataW Unit} {l : List (Key × DataW Unit)} (hown : W.ownsMap P 9 R b n D) (K : Keyed P 9) (hk9 : P.underlying 9 = some .string) (h : MapIs D l) (hn : (l.map (·.1)).Nodup) : (l.map (·.1)).Perm (strKeys D) := by
  obtain ⟨es, rfl, hp⟩ := h.tidy
  have hk : ∀ p ∈ es, ∃ x, p.1 = .string x := by
    obtain ⟨es', hD', hko⟩ := hown.keysOf
    obtain rfl : es = es' := by simpa using hD'
    exact fun p hp => by obtain ⟨v, hv⟩ := hko p hp; obtain ⟨x, _, hx, _⟩ := Maps.keyOf_str hk9 hv; exact ⟨x, hx⟩
  exact perm_strKeys hp hk hn (fun x => by rw [← look_isSome, ← h.has])
def sortedNames (l : List ByteArray) : List (List UInt8) := (l.map (·.data.toList)).mergeSort (fun x y => decide (x ≤ y))
def WordsEnd (W : World) (l : List ByteArray) (e : Ending) (w' : World) : Prop := ∃ v : Value, e = .returned v ∧ w'.ownsRow W.heap.size 9 1 v l.length ((sortedNames l).map encStr) ∧ Below W.heap.size W w'
theorem WordsEnd.of {P : Program} {W : World} {R : Value → Option (DataW Unit × List MemPlace)} {b n : Nat} {D : DataW Unit} {names : List ByteArray} {l : List (Key × DataW Unit)} (hown : W.ownsMap P 9 R b n D) (K : Keyed P 9) (hk9 : P.underlying 9 = some .string) (h : MapIs D l) (hn : (l.map (·.1)).Nodup) (hl : l.map (·.1) = names.map (·.data.toList)) {e : Ending} {w' : World} (hk : KeysEnd W D e w') : WordsEnd W names e w' := by
  obtain ⟨v, ss, rfl, hp, hr, hb⟩ := hk
  have hp2 := hp.trans (keys_perm hown K hk9 h hn).symm
  rw [hl] at hp2
  have hlen : ss.length = names.length := by rw [hp2.length_eq, List.length_map]
  have hsrt : ss.mergeSort (fun x y => decide (x ≤ y)) = sortedNames names := mergeSort_of_perm hp2
  rw [hlen, hsrt] at hr
  exact ⟨v, rfl, hr, hb⟩
section steps
variable {W : World} {ok : Nat → Prop} {sb : Nat} {L : List (Nat × AF)} {st : Fs} {c : Nat}
theorem S_Names (hR : StoreRep W ok sb L) (hst : L.map (·.2) = st) (hI : SInv c st) :
    Calls Tryz.prog 9 #[.pointer (some ⟨sb, 0, none⟩)] W (WordsEnd W (st.map (·.F.name))) := by
  obtain ⟨mb, D, own, R⟩ := hR
  have hsz : Maps.size D = st.length := by rw [R.mM.size, List.length_map, ← hst, List.length_map]
  have hkeys : ((L.map fun p => (p.2.key, (DataW.lit (.int .i64 (p.1 : Int)) : DataW Unit))).map (·.1)).Nodup := by rw [List.map_map]; exact R.names
  refine (Names_c sb mb _ D W R.S.cell R.M (by have := hI.count; omega)).mono fun e w' h => WordsEnd.of R.M law9 Tryz.underlying9 R.mM hkeys ?_ h
  rw [← hst]
  simp only [List.map_map]
  rfl
theorem S_Users (hR : StoreRep W ok sb L) (hst : L.map (·.2) = st) (hI : SInv c st) (hc : c < 1000) (n : ByteArray) (hn : n.size ≤ 140737488355328) :
    Calls Tryz.prog 11 #[.pointer (some ⟨sb, 0, none⟩), .string n] W (WordsEnd W (match posF st n with | none => [] | some p => p.2.users.map (·.1))) := by
  obtain ⟨mb, D, own, R⟩ := hR
  cases hp : posF st n with
  | none =>
    have hno : ∀ p ∈ L, p.2.F.name ≠ n := fun p hp2 => posF_none hp p.2 (by rw [← hst]; exact List.mem_map.2 ⟨p, hp2, rfl⟩)
    have hD : D.atKey (.string n.data.toList) .nil = .nil := by rw [R.mM.at_, filesL_none R.mM hno]; rfl
    refine (Users_none sb mb _ D n W R.S.cell R.M hn hD).mono ?_
    rintro e w' ⟨rfl, hb⟩
    refine ⟨_, rfl, ?_, hb⟩
    exact ⟨by simp [sortedNames], .inl ⟨rfl, by simp [sortedNames]⟩⟩
  | some p =>
    obtain ⟨k, f⟩ := p
    obtain ⟨h1, h2⟩ := posF_some hp
    obtain ⟨fb, hL⟩ := at_L hst h1
    obtain ⟨A, rc, uv, ub, DU, P⟩ := R.files _ (List.mem_of_getElem? hL)
    have hD := filesL_look R.mM R.names (List.mem_of_getElem? hL)
    rw [h2] at hD
    have hI' := inv_at hI hst hL
    have hsz : Maps.size DU = f.users.length := by rw [P.mU.size]; simp [usersL]
    refine (Users_c sb mb _ fb ub _ D DU n W R.S.cell R.M hn hD ((blk_cell P.F 9).trans rfl) P.U (by have := hI'.count; omega)).mono fun e w' h => WordsEnd.of P.U law9 Tryz.underlying9 P.mU (by rw [users_keys]; exact hI'.users) (by rw [users_keys]; simp) h
end steps
end Go.Proofs.YtehlmkgldcfciaaGreat.Files
/- What is always so stays so: the plain part that no tree is needed for. -/
set_option linter.unusedVariables false
set_option linter.unusedSimpArgs false
namespace Go.Proofs.YtehlmkgldcfciaaGreat.Files
open Go.Proofs.YtehlmkgldcfciaaGreat.Common Go.Maps Go.ChangeMaps Go.WideMaps Go.Proofs.YtehlmkgldcfciaaGreat.F
open Go.RowKit Go.Proofs.YtehlmkgldcfciaaGreatW.PrintWords Go.Proofs.YtehlmkgldcfciaaGreatW.PrintLast Go.Proofs.YtehlmkgldcfciaaGreatW.PrintMore
theorem FInv.closed {c : Nat} {f : AF} (h : FInv c f) (u : ByteArray) : FInv c (f.closed u) :=
  ⟨h.name, h.units, h.data, h.users.sublist (List.Sublist.map _ List.filter_sublist), Nat.le_trans (List.length_filter_le _ _) h.count⟩
theorem FInv.opened {c : Nat} {f : AF} (h : FInv c f) (u : ByteArray) (a x : Int) (hl : lookU f.users u = none) : FInv (c + 1) (f.opened u a x) := by
  refine ⟨h.name, h.units, h.data, ?_, ?_⟩
  · show ((f.users ++ [(u, (a, x))]).map _).Nodup
    rw [List.map_append, List.nodup_append]
    refine ⟨h.users, by simp, fun b hb d hd e => ?_⟩
    obtain ⟨p, hp, rfl⟩ := List.mem_map.1 hb
    have hd' : d = u.data.toList := by simpa using hd
    have hpu : p.1 = u := data_inj (e.trans hd')
    unfold lookU at hl
    rw [Option.map_eq_none_iff, List.find?_eq_none] at hl
    exact absurd (hl p hp) (by simp [hpu])
  · show (f.users ++ [(u, (a, x))]).length ≤ c + 1
    have := h.count
    simp
    omega
end Go.Proofs.YtehlmkgldcfciaaGreat.Files
/- Validity of units as a structure. -/
set_option linter.unusedVariables false
set_option linter.unusedSimpArgs false
namespace Go.Proofs.YtehlmkgldcfciaaGreat.Files
open Go.Proofs.YtehlmkgldcfciaaGreat.Common Go.Maps Go.ChangeMaps Go.WideMaps Go.Proofs.YtehlmkgldcfciaaGreat.F
open Go.RowKit Go.Proofs.YtehlmkgldcfciaaGreatW.PrintWords Go.Proofs.YtehlmkgldcfciaaGreatW.PrintLast Go.Proofs.YtehlmkgldcfciaaGreatW.PrintMore
def Sib (l : List S29) (j i : Nat) : Prop := j < i ∧ i < l.length ∧ lv l j = lv l i ∧ ∀ t, j < t → t < i → lv l i ≤ lv l t
structure VOk (l : List S29) (kind : Int) : Prop where
  k0 : 0 ≤ kind ∧ kind ≤ 2
  len : 1 ≤ l.length ∧ l.length ≤ 100
  cell : ∀ i, i < l.length → (rd_T29 l (i : Int)).f0.size ≤ 30 ∧ (rd_T29 l (i : Int)).f1.size ≤ 400
  steps : Steps l
  top : kind < 2 → ∀ i, i < l.length → lv l i ≤ kind
  names : ∀ j i, Sib l j i → nmP l i ≠ ⟨#[]⟩ → nmP l j ≠ nmP l i
theorem lv_bound {l : List S29} (hs : Steps l) : ∀ i, i < l.length → 0 ≤ lv l i ∧ lv l i ≤ i
  | 0, _ => by rw [hs.1]; omega
  | i + 1, h => by
    have ih := lv_bound hs i (by omega)
    have := hs.2 (i + 1) h (by omega)
    rw [Nat.add_sub_cancel] at this
    omega
end Go.Proofs.YtehlmkgldcfciaaGreat.Files
