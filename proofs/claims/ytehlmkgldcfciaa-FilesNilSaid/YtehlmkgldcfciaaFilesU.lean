/- The file store: how each method fails where there is no store, no file, no opening, no unit; what is refused to who may not. -/
import Derived.Test.YtehlmkgldcfciaaFilesS
import Derived.Test.YtehlmkgldcfciaaFx0
set_option linter.unusedVariables false
set_option linter.unusedSimpArgs false
namespace Go.Proofs.Ytehlmkgldcfciaa.Files
open Go.Proofs.Ytehlmkgldcfciaa.Common Go.Maps Go.ChangeMaps Go.WideMaps Go.Proofs.Ytehlmkgldcfciaa.F
open Go.RowKit Go.Proofs.YtehlmkgldcfciaaW.PrintWords Go.Proofs.YtehlmkgldcfciaaW.PrintLast Go.Proofs.YtehlmkgldcfciaaW.PrintMore
/-- There is no store: a nil one, or a zero one. -/
def NoStore (W : World) (sp : Value) : Prop := ∀ W', Below W.heap.size W W' → Calls Try.prog 31 #[sp] W' fun e w' => e = .returned (.bool true) ∧ W' = w'
theorem noStore_nil (W : World) : NoStore W (.pointer none) := fun W' _ => no_nil W'
theorem noStore_zero {W : World} {zb : Nat} (h : W.cell? ⟨zb, 0, none⟩ = some (.map none)) : NoStore W (.pointer (some ⟨zb, 0, none⟩)) := fun W' hb => no_zero zb W' (pw_cell_below hb h)
theorem NoStore.below {W W' : World} {sp : Value} (h : NoStore W sp) (hb : Below W.heap.size W W') : NoStore W' sp := fun W2 h2 => h W2 (hb.trans (h2.mono hb.size))
theorem NoStore.found {W : World} {sp : Value} (h : NoStore W sp) (u n : ByteArray) : FoundErr W sp u n 1 := ⟨by decide, fun W' hb => found_no sp u n W' (h W' hb)⟩
theorem unit_one {W : World} {sp : Value} {u n : ByteArray} {action : Int} (h : FoundErr W sp u n 1) (at_ : Int) : UnitErr W sp u n at_ action 1 := by
  by_cases h0 : 0 ≤ at_
  · exact unit_err sp u n at_ action 1 W h0 (opened_err sp u n action 1 W h)
  · exact unit_neg sp u n at_ action W (by omega)
theorem Create_no (sp : Value) (u n : ByteArray) (kind perm : Int) (W : World) (h : NoStore W sp) :
    Calls Try.prog 12 #[sp, .string u, .string n, .int .i64 kind, .int .i64 perm] W fun e w' => e = .returned (.int .i64 1) ∧ Below W.heap.size W w' := by
  have HN := Aside0.mk (h W (Below.refl _ _))
  clear h
  go_enter Try.func12, Try.ntmps12
  go_wp2_with first | (go_at_call 31; refine HN.out.mono ?_; rintro e w' ⟨rfl, rfl⟩)
  go_ret
  exact ⟨rfl, Below.refl _ _⟩
theorem Names_no (sp : Value) (W : World) (h : NoStore W sp) : Calls Try.prog 17 #[sp] W fun e w' => e = .returned (.slice none 0 0) ∧ Below W.heap.size W w' := by
  have HN := Aside0.mk (h W (Below.refl _ _))
  clear h
  go_enter Try.func17, Try.ntmps17
  go_wp2_with first | (go_at_call 31; refine HN.out.mono ?_; rintro e w' ⟨rfl, rfl⟩)
  go_ret
  exact ⟨rfl, Below.refl _ _⟩
theorem Users_no (sp : Value) (n : ByteArray) (W : World) (h : NoStore W sp) : Calls Try.prog 19 #[sp, .string n] W fun e w' => e = .returned (.slice none 0 0) ∧ Below W.heap.size W w' := by
  have HN := Aside0.mk (h W (Below.refl _ _))
  clear h
  go_enter Try.func19, Try.ntmps19
  go_wp2_with first | (go_at_call 31; refine HN.out.mono ?_; rintro e w' ⟨rfl, rfl⟩)
  go_ret
  exact ⟨rfl, Below.refl _ _⟩
theorem Copy_no (sp : Value) (W : World) (h : NoStore W sp) : Calls Try.prog 18 #[sp] W fun e w' => e = .returned (.pointer none) ∧ Below W.heap.size W w' := by
  have HN := Aside0.mk (h W (Below.refl _ _))
  clear h
  go_enter Try.func18, Try.ntmps18
  go_wp2_with first | (go_at_call 31; refine HN.out.mono ?_; rintro e w' ⟨rfl, rfl⟩)
  go_ret
  exact ⟨rfl, Below.refl _ _⟩
theorem Delete_err (sp : Value) (u n : ByteArray) (E : Int) (W : World) (HF : FoundErr W sp u n E) :
    Calls Try.prog 23 #[sp, .string u, .string n] W fun e w' => e = .returned (.int .i64 E) ∧ Below W.heap.size W w' := by
  obtain ⟨hE, hf⟩ := HF
  have CF := Aside0.mk (hf W (Below.refl _ _))
  have hE' : (E == 0) = false := by simpa using hE
  clear hf hE
  go_enter Try.func23, Try.ntmps23
  go_wp2_with first | (go_at_call 35; refine CF.out.mono ?_; rintro e w' ⟨rfl, rfl⟩)
  go_ret
  exact ⟨rfl, Below.refl _ _⟩
theorem Close_err (sp : Value) (u n : ByteArray) (E : Int) (W : World) (HF : FoundErr W sp u n E) :
    Calls Try.prog 15 #[sp, .string u, .string n] W fun e w' => e = .returned (.int .i64 E) ∧ Below W.heap.size W w' := by
  obtain ⟨hE, hf⟩ := HF
  have CF := Aside0.mk (hf W (Below.refl _ _))
  have hE' : (E == 0) = false := by simpa using hE
  clear hf hE
  go_enter Try.func15, Try.ntmps15
  go_wp2_with first | (go_at_call 35; refine CF.out.mono ?_; rintro e w' ⟨rfl, rfl⟩)
  go_ret
  exact ⟨rfl, Below.refl _ _⟩
theorem Open_err (sp : Value) (u n : ByteArray) (actions exclusive : Int) (E : Int) (W : World) (ha : setB actions = true) (hx : setB exclusive = true) (hs : bits .andNot .i64 exclusive actions = 0) (HF : FoundErr W sp u n E) :
    Calls Try.prog 13 #[sp, .string u, .string n, .int .i64 actions, .int .i64 exclusive] W fun e w' => e = .returned (.int .i64 E) ∧ Below W.heap.size W w' := by
  obtain ⟨hE, hf⟩ := HF
  have CF := Aside0.mk (hf W (Below.refl _ _))
  have hE' : (E == 0) = false := by simpa using hE
  have CA := Aside0.mk (set_c actions W)
  have CE := Aside0.mk (set_c exclusive W)
  rw [show (decide (0 ≤ actions) && decide (actions ≤ 255)) = true from ha] at CA
  rw [show (decide (0 ≤ exclusive) && decide (exclusive ≤ 255)) = true from hx] at CE
  have g3 : (bits .andNot .i64 exclusive actions == 0) = true := by simpa using hs
  have g4 : (bits .andNot .i64 exclusive actions != 0) = false := by simpa using hs
  clear ha hx hs
  clear hf hE
  go_enter Try.func13, Try.ntmps13
  go_wp2_with first | (go_at_call 35; refine CF.out.mono ?_; rintro e w' ⟨rfl, rfl⟩) | (go_at_call 34; first | ((with_reducible refine CA.out.mono ?_); rintro e w' ⟨rfl, rfl⟩) | ((with_reducible refine CE.out.mono ?_); rintro e w' ⟨rfl, rfl⟩))
  go_ret
  exact ⟨rfl, Below.refl _ _⟩
theorem Replace_arg (sp : Value) (u n : ByteArray) (at_ : Int) (data : ByteArray) (W : World) (hd : ¬ data.size ≤ 400) :
    Calls Try.prog 25 #[sp, .string u, .string n, .int .i64 at_, .string data] W fun e w' => e = .returned (.int .i64 1) ∧ Below W.heap.size W w' := by
  have g1 : decide ((400 : Int) < (data.size : Int)) = true := decide_eq_true (by omega)
  clear hd
  go_enter Try.func25, Try.ntmps25
  go_wp2
  go_ret
  exact ⟨rfl, Below.refl _ _⟩
theorem Replace_err (sp : Value) (u n : ByteArray) (at_ E : Int) (data : ByteArray) (W : World) (hd : data.size ≤ 400) (HU : UnitErr W sp u n at_ 4 E) :
    Calls Try.prog 25 #[sp, .string u, .string n, .int .i64 at_, .string data] W fun e w' => e = .returned (.int .i64 E) ∧ Below W.heap.size W w' := by
  obtain ⟨hE, hu⟩ := HU
  have hE' : (E == 0) = false := by simpa using hE
  have CU := Aside0.mk (hu W (Below.refl _ _))
  have g1 : decide ((400 : Int) < (data.size : Int)) = false := decide_eq_false (by omega)
  clear hd
  clear hu hE
  go_enter Try.func25, Try.ntmps25
  go_wp2_with first | (go_at_call 46; refine CU.out.mono ?_; rintro e w2 ⟨dn, rfl, hb2⟩)
  go_ret
  exact ⟨rfl, hb2⟩
theorem Replace_denied (sp : Value) (u n : ByteArray) (at_ : Int) (fb : Nat) (data : ByteArray) (W : World) (hd : data.size ≤ 400) (HU : UnitOk W sp u n at_ 4 fb 12) :
    Calls Try.prog 25 #[sp, .string u, .string n, .int .i64 at_, .string data] W fun e w' => e = .returned (.int .i64 12) ∧ Below W.heap.size W w' := by
  have CU := Aside0.mk (HU W (Below.refl _ _))
  have g1 : decide ((400 : Int) < (data.size : Int)) = false := decide_eq_false (by omega)
  clear hd
  clear HU
  go_enter Try.func25, Try.ntmps25
  go_wp2_with first | (go_at_call 46; refine CU.out.mono ?_; rintro e w2 ⟨rfl, hb2⟩)
  go_ret
  exact ⟨rfl, hb2⟩
theorem Extend_arg (sp : Value) (u n : ByteArray) (at_ : Int) (data : ByteArray) (W : World) (hd : ¬ data.size ≤ 400) :
    Calls Try.prog 26 #[sp, .string u, .string n, .int .i64 at_, .string data] W fun e w' => e = .returned (.int .i64 1) ∧ Below W.heap.size W w' := by
  have g1 : decide ((400 : Int) < (data.size : Int)) = true := decide_eq_true (by omega)
  clear hd
  go_enter Try.func26, Try.ntmps26
  go_wp2
  go_ret
  exact ⟨rfl, Below.refl _ _⟩
theorem Extend_err (sp : Value) (u n : ByteArray) (at_ E : Int) (data : ByteArray) (W : World) (hd : data.size ≤ 400) (HU : UnitErr W sp u n at_ 8 E) :
    Calls Try.prog 26 #[sp, .string u, .string n, .int .i64 at_, .string data] W fun e w' => e = .returned (.int .i64 E) ∧ Below W.heap.size W w' := by
  obtain ⟨hE, hu⟩ := HU
  have hE' : (E == 0) = false := by simpa using hE
  have CU := Aside0.mk (hu W (Below.refl _ _))
  have g1 : decide ((400 : Int) < (data.size : Int)) = false := decide_eq_false (by omega)
  clear hd
  clear hu hE
  go_enter Try.func26, Try.ntmps26
  go_wp2_with first | (go_at_call 46; refine CU.out.mono ?_; rintro e w2 ⟨dn, rfl, hb2⟩)
  go_ret
  exact ⟨rfl, hb2⟩
theorem Extend_denied (sp : Value) (u n : ByteArray) (at_ : Int) (fb : Nat) (data : ByteArray) (W : World) (hd : data.size ≤ 400) (HU : UnitOk W sp u n at_ 8 fb 12) :
    Calls Try.prog 26 #[sp, .string u, .string n, .int .i64 at_, .string data] W fun e w' => e = .returned (.int .i64 12) ∧ Below W.heap.size W w' := by
  have CU := Aside0.mk (HU W (Below.refl _ _))
  have g1 : decide ((400 : Int) < (data.size : Int)) = false := decide_eq_false (by omega)
  clear hd
  clear HU
  go_enter Try.func26, Try.ntmps26
  go_wp2_with first | (go_at_call 46; refine CU.out.mono ?_; rintro e w2 ⟨rfl, hb2⟩)
  go_ret
  exact ⟨rfl, hb2⟩
theorem Erase_err (sp : Value) (u n : ByteArray) (at_ E : Int) (W : World) (HU : UnitErr W sp u n at_ 16 E) :
    Calls Try.prog 27 #[sp, .string u, .string n, .int .i64 at_] W fun e w' => e = .returned (.int .i64 E) ∧ Below W.heap.size W w' := by
  obtain ⟨hE, hu⟩ := HU
  have hE' : (E == 0) = false := by simpa using hE
  have CU := Aside0.mk (hu W (Below.refl _ _))
  clear hu hE
  go_enter Try.func27, Try.ntmps27
  go_wp2_with first | (go_at_call 46; refine CU.out.mono ?_; rintro e w2 ⟨dn, rfl, hb2⟩)
  go_ret
  exact ⟨rfl, hb2⟩
theorem Erase_denied (sp : Value) (u n : ByteArray) (at_ : Int) (fb : Nat) (W : World) (HU : UnitOk W sp u n at_ 16 fb 12) :
    Calls Try.prog 27 #[sp, .string u, .string n, .int .i64 at_] W fun e w' => e = .returned (.int .i64 12) ∧ Below W.heap.size W w' := by
  have CU := Aside0.mk (HU W (Below.refl _ _))
  clear HU
  go_enter Try.func27, Try.ntmps27
  go_wp2_with first | (go_at_call 46; refine CU.out.mono ?_; rintro e w2 ⟨rfl, hb2⟩)
  go_ret
  exact ⟨rfl, hb2⟩
theorem Locate_err (sp : Value) (u n : ByteArray) (pv : Value) (E : Int) (W : World) (HO : OpenedErr W sp u n 1 E) :
    Calls Try.prog 21 #[sp, .string u, .string n, pv] W fun e w' => e = .returned (.tuple #[.int .i64 0, .int .i64 E]) ∧ Below W.heap.size W w' := by
  obtain ⟨hE, ho⟩ := HO
  have hE' : (E == 0) = false := by simpa using hE
  have CO := Aside0.mk (ho W (Below.refl _ _))
  clear ho hE
  go_enter Try.func21, Try.ntmps21
  go_wp2_with first | (go_at_call 39; refine CO.out.mono ?_; rintro e w2 ⟨rfl, hb2⟩)
  go_ret2
  exact ⟨rfl, hb2.trans (((Below.refl _ _).alloc hb2.size _))⟩
theorem setCell_id {w : World} {a : Addr} {v : Value} (h : w.cell? a = some v) : w.setCell a v = w := by
  have : (w.setCell a v).heap = w.heap := by
    unfold World.setCell
    apply Array.ext_getElem?
    intro i
    simp only [Array.getElem?_modify]
    by_cases hi : a.block = i
    · subst hi
      simp only [if_pos]
      unfold World.cell? at h
      cases hb : w.heap[a.block]? with
      | none => rfl
      | some o =>
        cases o with
        | cells c el fr =>
          rw [hb] at h
          simp only at h
          split at h
          · cases h
          · rename_i hs
            have hs' : a.spot.isSome = false := by simpa using hs
            simp only [Option.map_some, hs', Bool.false_eq_true, if_false, Option.some.injEq, Obj.cells.injEq, and_true]
            apply Array.ext_getElem?
            intro j
            rw [Array.getElem?_setIfInBounds]
            by_cases hj : a.off = j
            · subst hj; rw [if_pos rfl, h]; split <;> rename_i hl
              · rfl
              · rw [Array.getElem?_eq_none (by omega)] at h; cases h
            · rw [if_neg hj]
        | _ => rfl
    · rw [if_neg hi]
  have e : w.setCell a v = { w with heap := (w.setCell a v).heap } := rfl
  rw [e, this]
def zeroInfo : Value := .agg #[.string ByteArray.empty, .int .i64 0, .int .i64 0, .string ByteArray.empty, .string ByteArray.empty, .int .i64 0, .int .i64 0, .slice none 0 0]
theorem Info_arg (sp : Value) (u n : ByteArray) (group : Int) (W : World) (h : group < 0 ∨ 2 < group) :
    Calls Try.prog 22 #[sp, .string u, .string n, .int .i64 group] W fun e w' => e = .returned (.tuple #[zeroInfo, .int .i64 1]) ∧ Below W.heap.size W w' := by
  unfold zeroInfo
  rcases h with h | h
  · have g1 : decide (group < 0) = true := decide_eq_true h
    clear h
    go_enter Try.func22, Try.ntmps22
    go_wp2
    refine bodyPost_ret (v := .tuple #[.agg #[.string ByteArray.empty, .int .i64 0, .int .i64 0, .string ByteArray.empty, .string ByteArray.empty, .int .i64 0, .int .i64 0, .slice none 0 0], .int .i64 1]) (by simp [results, Try.f22, go_sem]; rfl) rfl ?_
    exact ⟨rfl, (Below.refl _ _).alloc (Nat.le_refl _) _⟩
  · have g1 : decide (group < 0) = false := decide_eq_false (by omega)
    have g2 : decide (2 < group) = true := decide_eq_true h
    clear h
    go_enter Try.func22, Try.ntmps22
    go_wp2
    refine bodyPost_ret (v := .tuple #[.agg #[.string ByteArray.empty, .int .i64 0, .int .i64 0, .string ByteArray.empty, .string ByteArray.empty, .int .i64 0, .int .i64 0, .slice none 0 0], .int .i64 1]) (by simp [results, Try.f22, go_sem]; rfl) rfl ?_
    exact ⟨rfl, (Below.refl _ _).alloc (Nat.le_refl _) _⟩
theorem Info_err (sp : Value) (u n : ByteArray) (group E : Int) (W : World) (h0 : 0 ≤ group) (h2 : group ≤ 2) (HO : OpenedErr W sp u n 32 E) :
    Calls Try.prog 22 #[sp, .string u, .string n, .int .i64 group] W fun e w' => e = .returned (.tuple #[zeroInfo, .int .i64 E]) ∧ Below W.heap.size W w' := by
  obtain ⟨hE, ho⟩ := HO
  have hE' : (E == 0) = false := by simpa using hE
  have g1 : decide (group < 0) = false := decide_eq_false (by omega)
  have g2 : decide (2 < group) = false := decide_eq_false (by omega)
  have hb0 : Below W.heap.size W (W.alloc (.cells #[.string ByteArray.empty, .int .i64 0, .int .i64 0, .string ByteArray.empty, .string ByteArray.empty, .int .i64 0, .int .i64 0, .slice none 0 0] 57)) := (Below.refl _ _).alloc (Nat.le_refl _) _
  have HB0 := Aside0.mk hb0
  have HBX := Aside0.mk (heap_alloc_new W (.cells #[.string ByteArray.empty, .int .i64 0, .int .i64 0, .string ByteArray.empty, .string ByteArray.empty, .int .i64 0, .int .i64 0, .slice none 0 0] 57))
  have CO := Aside0.mk (ho _ hb0)
  unfold zeroInfo
  clear ho hE h0 h2 hb0
  go_enter Try.func22, Try.ntmps22
  go_wp2_with fail
  refine CO.out.mono ?_
  rintro e w2 ⟨rfl, hb2⟩
  have hx := (hb2.block _ (by simp)).trans HBX.out
  have x0 := (blk_cell hx 0).trans (show _ = some (Value.string ByteArray.empty) from rfl)
  have x1 := (blk_cell hx 1).trans (show _ = some (Value.int .i64 0) from rfl)
  have x2 := (blk_cell hx 2).trans (show _ = some (Value.int .i64 0) from rfl)
  have x3 := (blk_cell hx 3).trans (show _ = some (Value.string ByteArray.empty) from rfl)
  have x4 := (blk_cell hx 4).trans (show _ = some (Value.string ByteArray.empty) from rfl)
  have x5 := (blk_cell hx 5).trans (show _ = some (Value.int .i64 0) from rfl)
  have x6 := (blk_cell hx 6).trans (show _ = some (Value.int .i64 0) from rfl)
  have x7 := (blk_cell hx 7).trans (show _ = some (Value.slice none 0 0) from rfl)
  have y0 := blk_frozen hx 0
  have y1 := blk_frozen hx 1
  have y2 := blk_frozen hx 2
  have y3 := blk_frozen hx 3
  have y4 := blk_frozen hx 4
  have y5 := blk_frozen hx 5
  have y6 := blk_frozen hx 6
  have y7 := blk_frozen hx 7
  clear hx
  go_wp2
  have e : (⟨#[]⟩ : ByteArray) = ByteArray.empty := rfl
  rw [e, setCell_id x0, setCell_id x1, setCell_id x2, setCell_id x3, setCell_id x4, setCell_id x5, setCell_id x6, setCell_id x7]
  refine bodyPost_ret (v := .tuple #[.agg #[.string ByteArray.empty, .int .i64 0, .int .i64 0, .string ByteArray.empty, .string ByteArray.empty, .int .i64 0, .int .i64 0, .slice none 0 0], .int .i64 E]) (by simp [results, Try.f22, go_sem, x0, x1, x2, x3, x4, x5, x6, x7]) rfl ?_
  exact ⟨rfl, HB0.out.trans (hb2.mono (by simp))⟩
end Go.Proofs.Ytehlmkgldcfciaa.Files
