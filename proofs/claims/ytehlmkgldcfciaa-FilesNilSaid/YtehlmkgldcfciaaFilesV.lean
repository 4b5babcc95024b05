/- The law FilesNil, walked. -/
import Derived.Test.YtehlmkgldcfciaaFilesM
import Derived.Test.YtehlmkgldcfciaaFilesU
import Derived.Test.YtehlmkgldcfciaaFx0
set_option linter.unusedVariables false
set_option linter.unusedSimpArgs false
namespace Go.Proofs.Ytehlmkgldcfciaa.Files
open Go.Proofs.Ytehlmkgldcfciaa.Common Go.Maps Go.ChangeMaps Go.WideMaps Go.Proofs.Ytehlmkgldcfciaa.F
open Go.RowKit Go.Proofs.YtehlmkgldcfciaaW.PrintWords Go.Proofs.YtehlmkgldcfciaaW.PrintLast Go.Proofs.YtehlmkgldcfciaaW.PrintMore
theorem Read_no (sp : Value) (u n : ByteArray) (at_ : Int) (whole : Bool) (W : World) (h : NoStore W sp) :
    Calls Try.prog 20 #[sp, .string u, .string n, .int .i64 at_, .bool whole] W fun e w' => e = .returned (.tuple #[.slice none 0 0, .int .i64 1]) ∧ Below W.heap.size W w' :=
  Read_err sp u n at_ 1 whole W (unit_one (h.found u n) at_)
theorem Locate_no (sp : Value) (u n : ByteArray) (pv : Value) (W : World) (h : NoStore W sp) :
    Calls Try.prog 21 #[sp, .string u, .string n, pv] W fun e w' => e = .returned (.tuple #[.int .i64 0, .int .i64 1]) ∧ Below W.heap.size W w' :=
  Locate_err sp u n pv 1 W (opened_err sp u n 1 1 W (h.found u n))
theorem Info_no (sp : Value) (u n : ByteArray) (group : Int) (W : World) (h : NoStore W sp) :
    Calls Try.prog 22 #[sp, .string u, .string n, .int .i64 group] W fun e w' => e = .returned (.tuple #[zeroInfo, .int .i64 1]) ∧ Below W.heap.size W w' := by
  by_cases h0 : group < 0 ∨ 2 < group
  · exact Info_arg sp u n group W h0
  · exact Info_err sp u n group 1 W (by omega) (by omega) (opened_err sp u n 32 1 W (h.found u n))
theorem Open_no (sp : Value) (W : World) (h : NoStore W sp) (u n : ByteArray) :
    Calls Try.prog 13 #[sp, .string u, .string n, .int .i64 0, .int .i64 0] W fun e w' => e = .returned (.int .i64 1) ∧ Below W.heap.size W w' :=
  Open_err sp u n 0 0 1 W (by decide) (by decide) (by decide) (h.found u n)
theorem Insert_no (sp : Value) (u n : ByteArray) (at_ : Int) (child : Bool) (a b : ByteArray) (lev0 : Int) (W : World) (h : NoStore W sp) :
    Calls Try.prog 24 #[sp, .string u, .string n, .int .i64 at_, .bool child, .agg #[.string a, .string b, .int .i64 lev0]] W fun e w' => e = .returned (.int .i64 1) ∧ Below W.heap.size W w' := by
  by_cases h0 : a.size ≤ 30 ∧ b.size ≤ 400
  · exact Insert_err sp u n at_ child a b lev0 1 W h0.1 h0.2 (unit_one (h.found u n) at_)
  · refine Insert_arg sp u n at_ child a b lev0 W ?_
    by_cases h1 : a.size ≤ 30
    · have : ¬ b.size ≤ 400 := fun h2 => h0 ⟨h1, h2⟩
      simp [this]
    · simp [h1]
theorem Replace_no (sp : Value) (u n : ByteArray) (at_ : Int) (W : World) (h : NoStore W sp) :
    Calls Try.prog 25 #[sp, .string u, .string n, .int .i64 at_, .string ByteArray.empty] W fun e w' => e = .returned (.int .i64 1) ∧ Below W.heap.size W w' :=
  Replace_err sp u n at_ 1 _ W (by decide) (unit_one (h.found u n) at_)
theorem Extend_no (sp : Value) (u n : ByteArray) (at_ : Int) (W : World) (h : NoStore W sp) :
    Calls Try.prog 26 #[sp, .string u, .string n, .int .i64 at_, .string ByteArray.empty] W fun e w' => e = .returned (.int .i64 1) ∧ Below W.heap.size W w' :=
  Extend_err sp u n at_ 1 _ W (by decide) (unit_one (h.found u n) at_)
theorem Erase_no (sp : Value) (u n : ByteArray) (at_ : Int) (W : World) (h : NoStore W sp) :
    Calls Try.prog 27 #[sp, .string u, .string n, .int .i64 at_] W fun e w' => e = .returned (.int .i64 1) ∧ Below W.heap.size W w' :=
  Erase_err sp u n at_ 1 W (unit_one (h.found u n) at_)
theorem Change_no (sp : Value) (u n : ByteArray) (W : World) (h : NoStore W sp) :
    Calls Try.prog 14 #[sp, .string u, .string n, .int .i64 0, .slice none 0 0] W fun e w' => e = .returned (.int .i64 1) ∧ Below W.heap.size W w' :=
  Change_err sp u n 0 1 none 0 [] W (Kd.C_nil k34 W) (Nat.le_refl _) (by decide) (opened_err sp u n 64 1 W (h.found u n))
/-- What all methods tell where there is no store, in all worlds behind W. -/
structure Nos (W : World) (sp : Value) : Prop where
  locate : ∀ u n pv w, Below W.heap.size W w → Calls Try.prog 21 #[sp, .string u, .string n, pv] w fun e w' => e = .returned (.tuple #[.int .i64 0, .int .i64 1]) ∧ Below W.heap.size W w'
  read : ∀ u n at_ whole w, Below W.heap.size W w → Calls Try.prog 20 #[sp, .string u, .string n, .int .i64 at_, .bool whole] w fun e w' => e = .returned (.tuple #[.slice none 0 0, .int .i64 1]) ∧ Below W.heap.size W w'
  info : ∀ u n group w, Below W.heap.size W w → Calls Try.prog 22 #[sp, .string u, .string n, .int .i64 group] w fun e w' => e = .returned (.tuple #[.agg #[.string ByteArray.empty, .int .i64 0, .int .i64 0, .string ByteArray.empty, .string ByteArray.empty, .int .i64 0, .int .i64 0, .slice none 0 0], .int .i64 1]) ∧ Below W.heap.size W w'
  create : ∀ u n k p w, Below W.heap.size W w → Calls Try.prog 12 #[sp, .string u, .string n, .int .i64 k, .int .i64 p] w fun e w' => e = .returned (.int .i64 1) ∧ Below W.heap.size W w'
  delete : ∀ u n w, Below W.heap.size W w → Calls Try.prog 23 #[sp, .string u, .string n] w fun e w' => e = .returned (.int .i64 1) ∧ Below W.heap.size W w'
  open_ : ∀ u n w, Below W.heap.size W w → Calls Try.prog 13 #[sp, .string u, .string n, .int .i64 0, .int .i64 0] w fun e w' => e = .returned (.int .i64 1) ∧ Below W.heap.size W w'
  close : ∀ u n w, Below W.heap.size W w → Calls Try.prog 15 #[sp, .string u, .string n] w fun e w' => e = .returned (.int .i64 1) ∧ Below W.heap.size W w'
  insert : ∀ u n at_ child a b lev w, Below W.heap.size W w → Calls Try.prog 24 #[sp, .string u, .string n, .int .i64 at_, .bool child, .agg #[.string a, .string b, .int .i64 lev]] w fun e w' => e = .returned (.int .i64 1) ∧ Below W.heap.size W w'
  replace : ∀ u n at_ w, Below W.heap.size W w → Calls Try.prog 25 #[sp, .string u, .string n, .int .i64 at_, .string ByteArray.empty] w fun e w' => e = .returned (.int .i64 1) ∧ Below W.heap.size W w'
  extend : ∀ u n at_ w, Below W.heap.size W w → Calls Try.prog 26 #[sp, .string u, .string n, .int .i64 at_, .string ByteArray.empty] w fun e w' => e = .returned (.int .i64 1) ∧ Below W.heap.size W w'
  erase : ∀ u n at_ w, Below W.heap.size W w → Calls Try.prog 27 #[sp, .string u, .string n, .int .i64 at_] w fun e w' => e = .returned (.int .i64 1) ∧ Below W.heap.size W w'
  change : ∀ u n w, Below W.heap.size W w → Calls Try.prog 14 #[sp, .string u, .string n, .int .i64 0, .slice none 0 0] w fun e w' => e = .returned (.int .i64 1) ∧ Below W.heap.size W w'
  names : ∀ w, Below W.heap.size W w → Calls Try.prog 17 #[sp] w fun e w' => e = .returned (.slice none 0 0) ∧ Below W.heap.size W w'
  users : ∀ n w, Below W.heap.size W w → Calls Try.prog 19 #[sp, .string n] w fun e w' => e = .returned (.slice none 0 0) ∧ Below W.heap.size W w'
  copy : ∀ w, Below W.heap.size W w → Calls Try.prog 18 #[sp] w fun e w' => e = .returned (.pointer none) ∧ Below W.heap.size W w'
theorem up {W w : World} (hb : Below W.heap.size W w) {F : Nat} {args : Array Value} {R : Ending → Prop} (h : Calls Try.prog F args w fun e w' => R e ∧ Below w.heap.size w w') : Calls Try.prog F args w fun e w' => R e ∧ Below W.heap.size W w' :=
  h.mono fun e w' ⟨h1, h2⟩ => ⟨h1, hb.trans (h2.mono hb.size)⟩
theorem nos {W : World} {sp : Value} (h : NoStore W sp) : Nos W sp where
  locate u n pv w hb := up hb (Locate_no sp u n pv w (h.below hb))
  read u n a wh w hb := up hb (Read_no sp u n a wh w (h.below hb))
  info u n g w hb := up hb (Info_no sp u n g w (h.below hb))
  create u n k p w hb := up hb (Create_no sp u n k p w (h.below hb))
  delete u n w hb := up hb (Delete_err sp u n 1 w ((h.below hb).found u n))
  open_ u n w hb := up hb (Open_no sp w (h.below hb) u n)
  close u n w hb := up hb (Close_err sp u n 1 w ((h.below hb).found u n))
  insert u n a c x y l w hb := up hb (Insert_no sp u n a c x y l w (h.below hb))
  replace u n a w hb := up hb (Replace_no sp u n a w (h.below hb))
  extend u n a w hb := up hb (Extend_no sp u n a w (h.below hb))
  erase u n a w hb := up hb (Erase_no sp u n a w (h.below hb))
  change u n w hb := up hb (Change_no sp u n w (h.below hb))
  names w hb := up hb (Names_no sp w (h.below hb))
  users n w hb := up hb (Users_no sp n w (h.below hb))
  copy w hb := up hb (Copy_no sp w (h.below hb))
theorem three (W : World) (o1 o2 o3 : Obj) : ∃ W3, W3 = ((W.alloc o1).alloc o2).alloc o3 ∧ W3.heap.size = W.heap.size + 3 ∧ Below W.heap.size W W3 ∧ W3.heap[W.heap.size]? = some o1 ∧ W3.heap[W.heap.size + 1]? = some o2 ∧ W3.heap[W.heap.size + 1 + 1]? = some o3 := by
  have s1 : (W.alloc o1).heap.size = W.heap.size + 1 := by simp
  have s2 : ((W.alloc o1).alloc o2).heap.size = W.heap.size + 1 + 1 := by simp
  have s3 : (((W.alloc o1).alloc o2).alloc o3).heap.size = W.heap.size + 3 := by simp
  have b2 : Below (W.alloc o1).heap.size (W.alloc o1) ((W.alloc o1).alloc o2) := (Below.refl _ _).alloc (Nat.le_refl _) _
  have b3 : Below ((W.alloc o1).alloc o2).heap.size ((W.alloc o1).alloc o2) (((W.alloc o1).alloc o2).alloc o3) := (Below.refl _ _).alloc (Nat.le_refl _) _
  refine ⟨_, rfl, s3, (((Below.refl _ _).alloc (Nat.le_refl _) _).alloc (by omega) _).alloc (by omega) _, ?_, ?_, ?_⟩
  · rw [b3.block _ (by omega), b2.block _ (by omega)]; exact heap_alloc_new W o1
  · rw [b3.block _ (by omega)]; have := heap_alloc_new (W.alloc o1) o2; rwa [s1] at this
  · have := heap_alloc_new ((W.alloc o1).alloc o2) o3; rwa [s2] at this
def ActIs (do_ A B : Int) (u n : ByteArray) (flag : Bool) (x : S41) (pv rv : Value) : Array Value := #[.int .i64 do_, .int .i64 A, .int .i64 B, .string u, .string n, .bool flag, .string x.f0, .string x.f1, .int .i64 x.f2, pv, rv]
set_option maxRecDepth 100000 in
set_option maxHeartbeats 2000000 in
theorem FilesNil_c (do_ A B : Int) (u n : ByteArray) (flag : Bool) (x : S41) (pv rv : Value) (W : World) :
    Calls Try.prog 6 #[.agg (ActIs do_ A B u n flag x pv rv)] W fun e w' => e = .returned (.bool true) ∧ Below W.heap.size W w' := by
  obtain ⟨W3, hW3, hsz, hbel, k0, k1, k2⟩ := three W (.cells (ActIs do_ A B u n flag x pv rv) 44) (.cells #[.map none] 52) (.cells #[.pointer none, .pointer (some ⟨W.heap.size + 1, 0, none⟩)] 28)
  have hl1 : W.heap.size < W3.heap.size := by omega
  have hl3 : W.heap.size + 1 + 1 < W3.heap.size := by omega
  have X0 := Aside0.mk ((blk_cell k0 0).trans (show _ = some (Value.int .i64 do_) from rfl))
  have X1 := Aside0.mk ((blk_cell k0 1).trans (show _ = some (Value.int .i64 A) from rfl))
  have X2 := Aside0.mk ((blk_cell k0 2).trans (show _ = some (Value.int .i64 B) from rfl))
  have X3 := Aside0.mk ((blk_cell k0 3).trans (show _ = some (Value.string u) from rfl))
  have X4 := Aside0.mk ((blk_cell k0 4).trans (show _ = some (Value.string n) from rfl))
  have X5 := Aside0.mk ((blk_cell k0 5).trans (show _ = some (Value.bool flag) from rfl))
  have X6 := Aside0.mk ((blk_cell k0 6).trans (show _ = some (Value.string x.f0) from rfl))
  have X7 := Aside0.mk ((blk_cell k0 7).trans (show _ = some (Value.string x.f1) from rfl))
  have X8 := Aside0.mk ((blk_cell k0 8).trans (show _ = some (Value.int .i64 x.f2) from rfl))
  have X9 := Aside0.mk ((blk_cell k0 9).trans (show _ = some (pv) from rfl))
  have X10 := Aside0.mk ((blk_cell k0 10).trans (show _ = some (rv) from rfl))
  have NA := Aside0.mk (nos (noStore_nil W3))
  have NB := Aside0.mk (nos (noStore_zero ((blk_cell k1 0).trans rfl)))
  have P0 := Aside0.mk ((blk_cell k2 0).trans (show _ = some (Value.pointer none) from rfl))
  have P1 := Aside0.mk ((blk_cell k2 1).trans (show _ = some (Value.pointer (some ⟨W.heap.size + 1, 0, none⟩)) from rfl))
  have HW3 := Aside0.mk hW3
  have HBEL := Aside0.mk hbel
  clear k0 k1 k2 hsz hW3 hbel
  unfold ActIs
  go_enter Try.func6, Try.ntmps6
  go_wp2
  go_loopw [19] (fun s wr => ∃ k : Nat, k ≤ 2 ∧ s = .int .i64 k ∧ Aside0 (Below W3.heap.size W3 wr)) (fun s _ => 2 - (intOf s).toNat)
  case atStart => exact ⟨0, Nat.zero_le _, rfl, ⟨by have e := HW3.out; unfold ActIs at e; rw [e]; exact Below.refl _ _⟩⟩
  case round =>
    obtain ⟨k, hk, rfl, HB⟩ := hrel
    by_cases hlt : k < 2
    · have hltz : (k : Int) < 2 := by omega
      obtain ⟨sp, HN, HP⟩ : ∃ sp, Aside0 (Nos W3 sp) ∧ Aside0 (W3.cell? ⟨W.heap.size + 1 + 1, k, none⟩ = some sp) := by
        rcases Nat.lt_or_ge k 1 with h | h
        · obtain rfl : k = 0 := by omega
          exact ⟨_, NA, P0⟩
        · obtain rfl : k = 1 := by omega
          exact ⟨_, NB, P1⟩
      have sk := (HB.out.cell (p := ⟨W.heap.size + 1 + 1, k, none⟩) hl3).trans HP.out
      have b0 := HB.out
      have y0_3 := (b0.cell (p := ⟨W.heap.size, 3, none⟩) hl1).trans X3.out
      have y0_4 := (b0.cell (p := ⟨W.heap.size, 4, none⟩) hl1).trans X4.out
      have y0_9 := (b0.cell (p := ⟨W.heap.size, 9, none⟩) hl1).trans X9.out
      clear NA NB P0 P1 HP
      go_wp2_with first | (go_at_call 21; refine (HN.out.locate _ _ _ _ b0).mono ?_; rintro e v21 ⟨rfl, b21⟩; have y21_3 := (b21.cell (p := ⟨W.heap.size, 3, none⟩) hl1).trans X3.out; have y21_4 := (b21.cell (p := ⟨W.heap.size, 4, none⟩) hl1).trans X4.out; have y21_1 := (b21.cell (p := ⟨W.heap.size, 1, none⟩) hl1).trans X1.out; have y21_5 := (b21.cell (p := ⟨W.heap.size, 5, none⟩) hl1).trans X5.out) | (go_at_call 20; refine (HN.out.read _ _ _ _ _ b21).mono ?_; rintro e v20 ⟨rfl, b20⟩; have y20_3 := (b20.cell (p := ⟨W.heap.size, 3, none⟩) hl1).trans X3.out; have y20_4 := (b20.cell (p := ⟨W.heap.size, 4, none⟩) hl1).trans X4.out; have y20_1 := (b20.cell (p := ⟨W.heap.size, 1, none⟩) hl1).trans X1.out) | (go_at_call 22; refine (HN.out.info _ _ _ _ b20).mono ?_; rintro e v22 ⟨rfl, b22⟩) | (go_at_call 12; refine (HN.out.create _ _ _ _ _  (b22.alloc b22.size _)).mono ?_; rintro e v12 ⟨rfl, b12⟩) | (go_at_call 23; refine (HN.out.delete _ _ _ b12).mono ?_; rintro e v23 ⟨rfl, b23⟩) | (go_at_call 13; refine (HN.out.open_ _ _ _ b23).mono ?_; rintro e v13 ⟨rfl, b13⟩) | (go_at_call 15; refine (HN.out.close _ _ _ b13).mono ?_; rintro e v15 ⟨rfl, b15⟩; have y15_6 := (b15.cell (p := ⟨W.heap.size, 6, none⟩) hl1).trans X6.out; have y15_7 := (b15.cell (p := ⟨W.heap.size, 7, none⟩) hl1).trans X7.out; have y15_8 := (b15.cell (p := ⟨W.heap.size, 8, none⟩) hl1).trans X8.out) | (go_at_call 24; refine (HN.out.insert _ _ _ _ _ _ _ _ b15).mono ?_; rintro e v24 ⟨rfl, b24⟩) | (go_at_call 25; refine (HN.out.replace _ _ _ _ b24).mono ?_; rintro e v25 ⟨rfl, b25⟩) | (go_at_call 26; refine (HN.out.extend _ _ _ _ b25).mono ?_; rintro e v26 ⟨rfl, b26⟩) | (go_at_call 27; refine (HN.out.erase _ _ _ _ b26).mono ?_; rintro e v27 ⟨rfl, b27⟩) | (go_at_call 14; refine (HN.out.change _ _ _ b27).mono ?_; rintro e v14 ⟨rfl, b14⟩) | (go_at_call 17; refine (HN.out.names _ b14).mono ?_; rintro e v17 ⟨rfl, b17⟩) | (go_at_call 19; refine (HN.out.users _ _ b17).mono ?_; rintro e v19 ⟨rfl, b19⟩) | (go_at_call 18; refine (HN.out.copy _ b19).mono ?_; rintro e v18 ⟨rfl, b18⟩)
      exact ⟨⟨k + 1, by omega, by go_num, ⟨b18⟩⟩, by simp only [intOf]; omega⟩
    · have hge : (k : Int) < 2 ↔ False := iff_false_intro (by omega)
      clear NA NB P0 P1
      go_wp2_with first | (go_at_call 10; refine (sane_c _).mono ?_; rintro e v10 ⟨rfl, b10⟩)
      go_ret
      exact ⟨rfl, HBEL.out.trans (HB.out.trans (b10.mono HB.out.size) |>.mono HBEL.out.size)⟩
theorem FilesNil_leaf (do_ A B : Int) (u n : ByteArray) (flag : Bool) (x0 x1 : ByteArray) (x2 : Int) (pv rv : Value) (W : World) :
    Calls Try.prog 6 #[.agg #[.int .i64 do_, .int .i64 A, .int .i64 B, .string u, .string n, .bool flag, .string x0, .string x1, .int .i64 x2, pv, rv]] W fun e w' => e = .returned (.bool true) ∧ Below W.heap.size W w' := FilesNil_c do_ A B u n flag ⟨x0, x1, x2⟩ pv rv W
end Go.Proofs.Ytehlmkgldcfciaa.Files
