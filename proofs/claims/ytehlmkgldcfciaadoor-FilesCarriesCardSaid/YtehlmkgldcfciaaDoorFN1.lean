/- The parts of this proof that lie in one text. -/
import Derived.Test.YtehlmkgldcfciaaDoorCommon
import Derived.Test.YtehlmkgldcfciaaDoorProg
import Derived.Maps.OwnSet
import Derived.Maps.RangeWalk
import Derived.RangeFuncBox
import Derived.WalkKit
import Derived.WalkSpells
import Derived.Test.YtehlmkgldcfciaaDoorShelf
import Derived.Shelf.Strings.Split
import Derived.Shelf.Strings.Cut
import Derived.Lib.CutLaws
import Derived.Lib.IndexBytes
import Derived.Test.YtehlmkgldcfciaaDoorFx0
import Derived.Test.YtehlmkgldcfciaaDoorFx5
import Derived.BigQuiet
import Derived.Test.YtehlmkgldcfciaaDoorRawIns
import Derived.Test.YtehlmkgldcfciaaDoorFx3
import Derived.Maps.Ext
import Derived.Test.YtehlmkgldcfciaaDoorFx2
import Derived.Test.YtehlmkgldcfciaaDoorFx8
import Derived.Outline
import Derived.Lib.Hide
import Derived.Test.YtehlmkgldcfciaaDoorFx7
import Derived.Deep.QuietTactic
import Derived.Test.YtehlmkgldcfciaaDoorTabE
import Derived.Lib.AtoiAllCases
import Derived.ArgAppend
/- The file store of layer 28: what its functions do with memory, each walked once. -/
set_option linter.unusedVariables false
set_option linter.unusedSimpArgs false
namespace Go.Proofs.YtehlmkgldcfciaaDoor.Files
open Go.Proofs.YtehlmkgldcfciaaDoor.Common Go.Maps Go.ChangeMaps Go.WideMaps
open Go.RowKit Go.Proofs.YtehlmkgldcfciaaDoorW.PrintWords Go.Proofs.YtehlmkgldcfciaaDoorW.PrintLast Go.Proofs.YtehlmkgldcfciaaDoorW.PrintMore
/-- Names and numbers: no change of the world. -/
theorem user_c (u : ByteArray) (w : World) : Calls Tryd.prog 35 #[.string u] w fun e w' => e = .returned (.bool (decide (1 ≤ u.size) && decide (u.size ≤ 20))) ∧ w = w' := by
  by_cases c : 1 ≤ u.size
  · have h0 : decide (1 ≤ (u.size : Int)) = true := decide_eq_true (by omega)
    have h1 : decide (1 ≤ u.size) = true := decide_eq_true c
    have h2 : decide ((u.size : Int) ≤ 20) = decide (u.size ≤ 20) := decide_eq_decide.2 (by omega)
    go_enter Tryd.func35, Tryd.ntmps35
    go_wp2
    go_ret
    exact ⟨by simp [h1, h2], rfl⟩
  · have h0 : decide (1 ≤ (u.size : Int)) = false := decide_eq_false (by omega)
    have h1 : decide (1 ≤ u.size) = false := decide_eq_false c
    go_enter Tryd.func35, Tryd.ntmps35
    go_wp2
    go_ret
    exact ⟨by simp [h1], rfl⟩
theorem name_c (u : ByteArray) (w : World) : Calls Tryd.prog 36 #[.string u] w fun e w' => e = .returned (.bool (decide (1 ≤ u.size) && decide (u.size ≤ 30))) ∧ w = w' := by
  by_cases c : 1 ≤ u.size
  · have h0 : decide (1 ≤ (u.size : Int)) = true := decide_eq_true (by omega)
    have h1 : decide (1 ≤ u.size) = true := decide_eq_true c
    have h2 : decide ((u.size : Int) ≤ 30) = decide (u.size ≤ 30) := decide_eq_decide.2 (by omega)
    go_enter Tryd.func36, Tryd.ntmps36
    go_wp2
    go_ret
    exact ⟨by simp [h1, h2], rfl⟩
  · have h0 : decide (1 ≤ (u.size : Int)) = false := decide_eq_false (by omega)
    have h1 : decide (1 ≤ u.size) = false := decide_eq_false c
    go_enter Tryd.func36, Tryd.ntmps36
    go_wp2
    go_ret
    exact ⟨by simp [h1], rfl⟩
theorem set_c (n : Int) (w : World) : Calls Tryd.prog 37 #[.int .i64 n] w fun e w' => e = .returned (.bool (decide (0 ≤ n) && decide (n ≤ 255))) ∧ w = w' := by
  by_cases c : 0 ≤ n
  · have h0 : decide (0 ≤ n) = true := decide_eq_true c
    go_enter Tryd.func37, Tryd.ntmps37
    go_wp2
    go_ret
    exact ⟨by simp [h0], rfl⟩
  · have h0 : decide (0 ≤ n) = false := decide_eq_false c
    go_enter Tryd.func37, Tryd.ntmps37
    go_wp2
    go_ret
    exact ⟨by simp [h0], rfl⟩
theorem eqlSome (bm : Nat) (w : World) : (binOp .eql 75 (.map (some bm)) (.map none)).run Tryd.prog w = .ok (.bool false) w := by kernel_rfl
theorem eqlNil (w : World) : (binOp .eql 75 (.map none) (.map none)).run Tryd.prog w = .ok (.bool true) w := by kernel_rfl
set_option maxRecDepth 100000 in
theorem no_live (sb mb : Nat) (w : World) (c0 : w.cell? ⟨sb, 0, none⟩ = some (.map (some mb))) : Calls Tryd.prog 34 #[.pointer (some ⟨sb, 0, none⟩)] w fun e w' => e = .returned (.bool false) ∧ w = w' := by
  have q := eqlSome mb
  go_enter Tryd.func34, Tryd.ntmps34
  go_wp2
  go_ret
  exact ⟨rfl, rfl⟩
set_option maxRecDepth 100000 in
theorem no_nil (w : World) : Calls Tryd.prog 34 #[.pointer none] w fun e w' => e = .returned (.bool true) ∧ w = w' := by
  go_enter Tryd.func34, Tryd.ntmps34
  go_wp2
  go_ret
  exact ⟨rfl, rfl⟩
set_option maxRecDepth 100000 in
theorem no_zero (sb : Nat) (w : World) (c0 : w.cell? ⟨sb, 0, none⟩ = some (.map none)) : Calls Tryd.prog 34 #[.pointer (some ⟨sb, 0, none⟩)] w fun e w' => e = .returned (.bool true) ∧ w = w' := by
  have q := eqlNil
  go_enter Tryd.func34, Tryd.ntmps34
  go_wp2
  go_ret
  exact ⟨rfl, rfl⟩
theorem New_c (w : World) : Calls Tryd.prog 18 #[] w fun e w' => e = .returned (.pointer (some ⟨w.heap.size + 1, 0, none⟩)) ∧ w' = (w.alloc (.map #[] 0)).alloc (.cells #[.map (some w.heap.size)] 77) := by
  have hmm := @run_makeMap Tryd.prog
  go_enter Tryd.func18, Tryd.ntmps18
  go_wp2
  go_ret
  exact ⟨rfl, rfl⟩
/-! What lies where. -/
theorem law9 : Keyed Tryd.prog 9 := string_keyed Tryd.underlying9
/-- How a pointer to a file reads in the store's map; how a user's opening reads. -/
def Rp : Value → Option (DataW Unit × List MemPlace)
  | .pointer none => some (.nil, [])
  | .pointer (some ⟨b, 0, none⟩) => some (.lit (.int .i64 b), [])
  | _ => none
theorem Rp_nil {v : Value} {ps : List MemPlace} (h : Rp v = some (.nil, ps)) : v = .pointer none := by
  unfold Rp at h
  split at h
  · rfl
  · cases h
  · cases h
theorem Rp_at {v : Value} {b : Nat} {ps : List MemPlace} (h : Rp v = some (.lit (.int .i64 b), ps)) : v = .pointer (some ⟨b, 0, none⟩) := by
  unfold Rp at h
  split at h
  · cases h
  · rename_i c
    injection h with h
    injection h with h
    injection h with h
    injection h with _ h
    have : c = b := by omega
    rw [this]
  · cases h
def Ro : Value → Option (DataW Unit × List MemPlace)
  | .agg ⟨[.int .i64 a, .int .i64 b]⟩ => some (.agg [.lit (.int .i64 a), .lit (.int .i64 b)], [])
  | _ => none
theorem zeroP (w : World) : (zeroValue 80).run Tryd.prog w = .ok (.pointer none) w := by kernel_rfl
theorem zeroO (w : World) : (zeroValue 90).run Tryd.prog w = .ok (.agg #[.int .i64 0, .int .i64 0]) w := by kernel_rfl
/-- A file's own words. -/
structure FS where
  name : ByteArray
  kind : Int
  perm : Int
  owner : ByteArray
  last : ByteArray
  ch : Int
  rd : Int
def FS.cells (F : FS) (rv uv : Value) (ub : Nat) : Array Value := #[.string F.name, .int .i64 F.kind, .int .i64 F.perm, .string F.owner, .string F.last, .int .i64 F.ch, .int .i64 F.rd, rv, uv, .map (some ub)]
def FileAt (W : World) (fb : Nat) (F : FS) (rv uv : Value) (ub : Nat) : Prop := W.heap[fb]? = some (.cells (F.cells rv uv ub) 86 (0, 0))
/-- The store, its one map, and one file in it. -/
structure St (w W : World) (sb mb fb ub : Nat) (F : FS) (rv uv : Value) (D DU : DataW Unit) : Prop where
  low : Below w.heap.size w W
  bs : w.heap.size ≤ sb
  bm : w.heap.size ≤ mb
  bf : w.heap.size ≤ fb
  bu : w.heap.size ≤ ub
  ne : mb ≠ ub
  S : Boxed W sb 77 (.map (some mb))
  M : W.ownsMap Tryd.prog 9 Rp mb 100 D
  F : FileAt W fb F rv uv ub
  U : W.ownsMap Tryd.prog 9 Ro ub 100 DU
theorem key_of {s : ByteArray} (h : s.size ≤ 30) : keyOf Tryd.prog 9 (.string s) = some (.string s.data.toList) := keyOf_string_mk Tryd.underlying9 (by unfold maxLen; omega)
set_option maxRecDepth 100000 in
set_option maxHeartbeats 2000000 in
theorem Create_c (sb mb k : Nat) (D : DataW Unit) (u n : ByteArray) (kind perm : Int) (W : World) (c0 : W.cell? ⟨sb, 0, none⟩ = some (.map (some mb))) (hown : W.ownsMap Tryd.prog 9 Rp mb k D) (hk : k < 1000)
    (hu : 1 ≤ u.size ∧ u.size ≤ 20) (hn : 1 ≤ n.size ∧ n.size ≤ 30) (hkd : 0 ≤ kind ∧ kind ≤ 2) (hpm : 0 ≤ perm ∧ perm ≤ 255) (hD : D.atKey (.string n.data.toList) .nil = .nil) (hs : Maps.size D < 30) :
    Calls Tryd.prog 19 #[.pointer (some ⟨sb, 0, none⟩), .string u, .string n, .int .i64 kind, .int .i64 perm] W fun e w' => e = .returned (.int .i64 0) ∧
      ∃ W3, ((W.alloc (.cells #[.string ByteArray.empty, .string ByteArray.empty, .int .i64 0] 46)).alloc (.map #[] 0)).alloc (.cells (FS.cells ⟨n, kind, perm, u, ByteArray.empty, 0, 0⟩ (.slice none 0 0) (.slice (some ⟨W.heap.size, 0, none⟩) 1 1) (W.heap.size + 1)) 86) = W3 ∧
        w'.ownsMap Tryd.prog 9 Rp mb (k + 1) (D.put (.string n.data.toList) (.lit (.int .i64 (W.heap.size + 2 : Nat)))) ∧ W3.mapTurned w' mb := by
  have hkey := key_of hn.2
  obtain ⟨v, ps, hrun, hv⟩ := hown.lookup law9 Tryd.underlying75 (zeroP _) (zd := .nil) (zp := []) rfl hkey
  rw [hD] at hv
  obtain rfl := Rp_nil hv
  have hlen := fun ty => hown.len Tryd.underlying75 ty
  have hmm := @run_makeMap Tryd.prog
  have hu1 : (decide (1 ≤ u.size) && decide (u.size ≤ 20)) = true := by simp [hu.1, hu.2]
  have hn1 : (decide (1 ≤ n.size) && decide (n.size ≤ 30)) = true := by simp [hn.1, hn.2]
  have hp1 : (decide (0 ≤ perm) && decide (perm ≤ 255)) = true := by simp [hpm.1, hpm.2]
  have hk1 : decide (kind < 0) = false := decide_eq_false (by omega)
  have hk2 : decide (2 < kind) = false := decide_eq_false (by omega)
  have hs1 : decide (30 ≤ Maps.size D) = false := decide_eq_false (by omega)
  have hs2 : decide ((30 : Int) ≤ (Maps.size D : Int)) = false := decide_eq_false (by omega)
  have CU := Aside0.mk (user_c u W)
  have CN := Aside0.mk (name_c n W)
  have CP := Aside0.mk (set_c perm W)
  rw [hu1] at CU
  rw [hn1] at CN
  rw [hp1] at CP
  go_enter Tryd.func19, Tryd.ntmps19
  go_wp2_with first | (go_at_call 34; refine (no_live sb mb _ c0).mono ?_; rintro e w' ⟨rfl, rfl⟩) | (go_at_call 35; refine CU.out.mono ?_; rintro e w' ⟨rfl, rfl⟩) | (go_at_call 36; refine CN.out.mono ?_; rintro e w' ⟨rfl, rfl⟩) | (go_at_call 37; refine CP.out.mono ?_; rintro e w' ⟨rfl, rfl⟩) | (at_mapUpdate; refine wpList_mapUpdate_in _ rfl _ _ _ 75 rfl 9 80 law9 Tryd.underlying75 _ mb k D rfl (((hown.alloc _).alloc _).alloc _) (by unfold maxLen; omega) _ _ _ rfl rfl hkey (.lit (.int .i64 (W.heap.size + 2 : Nat))) [] rfl ?_; intro w1 hown1 hturn1)
  go_ret
  exact ⟨rfl, _, rfl, hown1, hturn1⟩
set_option maxRecDepth 100000 in
theorem found_c (sb mb k fb : Nat) (D : DataW Unit) (u n : ByteArray) (W : World) (c0 : W.cell? ⟨sb, 0, none⟩ = some (.map (some mb))) (hown : W.ownsMap Tryd.prog 9 Rp mb k D)
    (hu : 1 ≤ u.size ∧ u.size ≤ 20) (hn : 1 ≤ n.size ∧ n.size ≤ 30) (hD : D.atKey (.string n.data.toList) .nil = .lit (.int .i64 (fb : Nat))) :
    Calls Tryd.prog 38 #[.pointer (some ⟨sb, 0, none⟩), .string u, .string n] W fun e w' => e = .returned (.tuple #[.pointer (some ⟨fb, 0, none⟩), .int .i64 0]) ∧ W = w' := by
  have hkey := key_of hn.2
  obtain ⟨v, ps, hrun, hv⟩ := hown.lookup law9 Tryd.underlying75 (zeroP _) (zd := .nil) (zp := []) rfl hkey
  rw [hD] at hv
  obtain rfl := Rp_at hv
  have hu1 : (decide (1 ≤ u.size) && decide (u.size ≤ 20)) = true := by simp [hu.1, hu.2]
  have hn1 : (decide (1 ≤ n.size) && decide (n.size ≤ 30)) = true := by simp [hn.1, hn.2]
  have CU := Aside0.mk (user_c u W)
  have CN := Aside0.mk (name_c n W)
  rw [hu1] at CU
  rw [hn1] at CN
  go_enter Tryd.func38, Tryd.ntmps38
  go_wp2_with first | (go_at_call 34; refine (no_live sb mb _ c0).mono ?_; rintro e w' ⟨rfl, rfl⟩) | (go_at_call 35; refine CU.out.mono ?_; rintro e w' ⟨rfl, rfl⟩) | (go_at_call 36; refine CN.out.mono ?_; rintro e w' ⟨rfl, rfl⟩)
  refine bodyPost_ret (v := .tuple #[.pointer (some ⟨fb, 0, none⟩), .int .i64 0]) (by simp [results, Tryd.f38, go_sem]) rfl ?_
  exact ⟨rfl, rfl⟩
theorem Ro_at {v : Value} {a b : Int} {ps : List MemPlace} (h : Ro v = some (.agg [.lit (.int .i64 a), .lit (.int .i64 b)], ps)) : v = .agg #[.int .i64 a, .int .i64 b] := by
  unfold Ro at h
  split at h
  · rename_i c d
    simp only [Option.some.injEq, Prod.mk.injEq, DataW.agg.injEq, List.cons.injEq, DataW.lit.injEq, Lit.int.injEq, true_and, and_true] at h
    rw [h.1.1, h.1.2]
  · cases h
set_option maxRecDepth 100000 in
theorem opened_c (sb mb k fb ub k2 : Nat) (D DU : DataW Unit) (F : FS) (rv uv : Value) (u n : ByteArray) (action a b : Int) (W : World) (c0 : W.cell? ⟨sb, 0, none⟩ = some (.map (some mb))) (hown : W.ownsMap Tryd.prog 9 Rp mb k D)
    (hu : 1 ≤ u.size ∧ u.size ≤ 20) (hn : 1 ≤ n.size ∧ n.size ≤ 30) (hD : D.atKey (.string n.data.toList) .nil = .lit (.int .i64 (fb : Nat))) (hF : FileAt W fb F rv uv ub) (hU : W.ownsMap Tryd.prog 9 Ro ub k2 DU)
    (hhas : Maps.has DU (.string u.data.toList) = true) (hat : DU.atKey (.string u.data.toList) (.agg [.lit (.int .i64 0), .lit (.int .i64 0)]) = .agg [.lit (.int .i64 a), .lit (.int .i64 b)]) :
    Calls Tryd.prog 56 #[.pointer (some ⟨sb, 0, none⟩), .string u, .string n, .int .i64 action] W fun e w' => e = .returned (.tuple #[.pointer (some ⟨fb, 0, none⟩), .int .i64 0, .int .i64 (if bits .and .i64 a action = 0 then 12 else 0)]) ∧ Below W.heap.size W w' := by
  have hkey := key_of (s := u) (by omega)
  obtain ⟨v, ps, hrun, hv⟩ := hU.look_ok law9 Tryd.underlying84 (zeroO _) (zd := .agg [.lit (.int .i64 0), .lit (.int .i64 0)]) (zp := []) rfl hkey
  rw [hat] at hv
  obtain rfl := Ro_at hv
  rw [hhas] at hrun
  have c9 : W.cell? ⟨fb, 9, none⟩ = some (.map (some ub)) := (blk_cell hF 9).trans rfl
  have CF := Aside0.mk (found_c sb mb k fb D u n W c0 hown hu hn hD)
  go_enter Tryd.func56, Tryd.ntmps56
  go_wp2_with first | (go_at_call 38; refine CF.out.mono ?_; rintro e w' ⟨rfl, rfl⟩)
  all_goals
    go_ret3
    exact ⟨by first | rfl | (simp only [beq_iff_eq, beq_eq_false_iff_ne, ne_eq] at *; first | rfl | contradiction | omega), (Below.refl _ _).alloc (Nat.le_refl _) _⟩
end Go.Proofs.YtehlmkgldcfciaaDoor.Files
/- Cut and Split at one byte: contracts at this program. -/
set_option linter.unusedVariables false
set_option linter.unusedSimpArgs false
namespace Go.Proofs.YtehlmkgldcfciaaDoor.Files
open Go.Proofs.YtehlmkgldcfciaaDoor.Common Go.RowKit Go.Lib Go.Shelf Go.Proofs.YtehlmkgldcfciaaDoorW.PrintWords
/-- What strings.Cut hands back. -/
def cutV (s : ByteArray) (c : UInt8) : Value := .tuple #[.string ⟨(Lib.cut s.data.toList [c]).1.toArray⟩, .string ⟨(Lib.cut s.data.toList [c]).2.1.toArray⟩, .bool (Lib.cut s.data.toList [c]).2.2]
theorem idx_one (s : ByteArray) (c : UInt8) : Lib.indexByte s.data.toList c = Lib.indexB s ⟨#[c]⟩ := (Lib.index_one s.data.toList c).symm
set_option maxRecDepth 100000 in
theorem slCut_c (s : ByteArray) (c : UInt8) (w : World) (hs : s.size < 4294967281) : Calls Tryd.prog 49 #[.string s, .string ⟨#[c]⟩] w fun e w' => e = .returned (cutV s c) ∧ ∃ n, w' = w.drewN n := by
  have HI := Aside0.mk (fun W => Any.stringslite_Index_one Tryd.lays219 s c W)
  unfold cutV
  rcases Lib.indexB_cases s ⟨#[c]⟩ with hix | ⟨i, hix, hroom⟩
  · obtain ⟨e1, e2, e3⟩ := Lib.cutB_miss s ⟨#[c]⟩ hix
    have e1' : (⟨(Lib.cut s.data.toList [c]).1.toArray⟩ : ByteArray) = s := e1
    have e2' : (⟨(Lib.cut s.data.toList [c]).2.1.toArray⟩ : ByteArray) = ByteArray.empty := e2
    have e3' : (Lib.cut s.data.toList [c]).2.2 = false := e3
    rw [e1', e2', e3']
    have HX := Lib.hid hix
    clear hix e1 e2 e3 e1' e2' e3'
    go_enter Tryd.func49, Tryd.ntmps49
    go_wp2_with (go_at_call 62; refine (HI.out _).mono ?_; rintro e w' ⟨rfl, rfl⟩; rw [idx_one, HX.out])
    go_ret3
    exact ⟨rfl, 0, rfl⟩
  · obtain ⟨e1, e2, e3⟩ := Lib.cutB_hit s ⟨#[c]⟩ i hix
    have hsz : (⟨#[c]⟩ : ByteArray).size = 1 := rfl
    rw [hsz] at hroom e2
    have e1' : (⟨(Lib.cut s.data.toList [c]).1.toArray⟩ : ByteArray) = s.extract 0 i := e1
    have e2' : (⟨(Lib.cut s.data.toList [c]).2.1.toArray⟩ : ByteArray) = s.extract (i + 1) s.size := e2
    have e3' : (Lib.cut s.data.toList [c]).2.2 = true := e3
    rw [e1', e2', e3']
    have c1 : (0 : Int) ≤ ↑i := by omega
    have c2 : (↑i : Int) ≤ ↑s.size := by omega
    have c3 : (0 : Int) ≤ ↑i + 1 := by omega
    have c4 : (↑i + 1 : Int) ≤ ↑s.size := by omega
    have HX := Lib.hid hix
    clear hix e1 e2 e3 e1' e2' e3' hsz
    go_enter Tryd.func49, Tryd.ntmps49
    go_wp2_with (go_at_call 62; refine (HI.out _).mono ?_; rintro e w' ⟨rfl, rfl⟩; rw [idx_one, HX.out])
    go_region
    go_wp2
    go_ret3
    exact ⟨rfl, 1, rfl⟩
set_option maxRecDepth 100000 in
theorem Cut_c (s : ByteArray) (c : UInt8) (w : World) (hs : s.size < 4294967281) : Calls Tryd.prog 30 #[.string s, .string ⟨#[c]⟩] w fun e w' => e = .returned (cutV s c) ∧ ∃ n, w' = w.drewN n := by
  have HI := Aside0.mk (slCut_c s c w hs)
  unfold cutV at *
  go_enter Tryd.func30, Tryd.ntmps30
  go_wp2_with (go_at_call 49; refine HI.out.mono ?_; rintro e w' ⟨rfl, n, rfl⟩)
  go_ret3
  exact ⟨rfl, n, rfl⟩
/-- A text's pieces between a byte. -/
def pieces (s : ByteArray) (c : UInt8) : List ByteArray := Lib.splitB ⟨#[c]⟩ 0 (Lib.countB s ⟨#[c]⟩) s
theorem cnt_one (s : ByteArray) (c : UInt8) : Lib.countByte s.data.toList c = Lib.countB s ⟨#[c]⟩ := (Lib.count_one c s.data.toList).symm
set_option maxRecDepth 100000 in
theorem Split_c (s : ByteArray) (c : UInt8) (w : World) (hs : s.size < 4294967281) :
    Calls Tryd.prog 31 #[.string s, .string ⟨#[c]⟩] w fun e w' => e = .returned (.slice (some ⟨w.heap.size, 0, none⟩) (pieces s c).length (pieces s c).length) ∧ w' = w.alloc (.cells ((pieces s c).map Value.string).toArray 9) := by
  have hlen : (pieces s c).length = Lib.countB s ⟨#[c]⟩ + 1 := Lib.splitB_all ⟨#[c]⟩ (Nat.le_refl 1) 0 _ s rfl
  have hle := Lib.countB_le ⟨#[c]⟩ (Nat.le_refl 1) s.size s (Nat.le_refl _)
  have G := Any.strings_genSplit_core Tryd.lays221 (by kernel_rfl) s ⟨#[c]⟩ 0 (-1) (Lib.countB s ⟨#[c]⟩ + 1) w hs (Nat.le_refl 1) (Nat.zero_le _)
    (fun x cs hx => (Any.strings_Index_one { Tryd.lays221 with } x c _).mono fun e w' ⟨he, hw⟩ => ⟨he.trans (by rw [idx_one]), hw⟩)
    ((Any.strings_Count_one { Tryd.lays221 with } s c w).mono fun e w' ⟨he, hw⟩ => ⟨he.trans (by rw [cnt_one]), hw⟩)
    (by decide) (by decide) (by rw [if_pos (by decide)]; omega)
  rw [Nat.add_sub_cancel] at G
  have e2 : Lib.cellsOf (Lib.splitB ⟨#[c]⟩ 0 (Lib.countB s ⟨#[c]⟩) s) (Lib.countB s ⟨#[c]⟩ + 1) = ((pieces s c).map Value.string).toArray := by rw [← hlen]; exact Lib.cellsOf_full _
  rw [e2, ← hlen] at G
  have HG := Aside0.mk (show Calls Tryd.prog 50 #[.string s, .string ⟨#[c]⟩, .int .i64 0, .int .i64 (-1)] w fun e w' => e = .returned (.slice (some ⟨w.heap.size, 0, none⟩) (pieces s c).length (pieces s c).length) ∧ w' = w.alloc (.cells ((pieces s c).map Value.string).toArray 9) from G)
  clear G e2 hle hlen
  generalize pieces s c = ps at *
  go_enter Tryd.func31, Tryd.ntmps31
  go_wp2_with (go_at_call 50; refine HG.out.mono ?_; rintro e w' ⟨rfl, hw⟩; rw [hw])
  go_ret
  exact ⟨rfl, rfl⟩
end Go.Proofs.YtehlmkgldcfciaaDoor.Files
/- The file store: who may do what; Open. -/
set_option linter.unusedVariables false
set_option linter.unusedSimpArgs false
namespace Go.Proofs.YtehlmkgldcfciaaDoor.Files
open Go.Proofs.YtehlmkgldcfciaaDoor.Common Go.Maps Go.ChangeMaps Go.WideMaps Go.Proofs.YtehlmkgldcfciaaDoor.F
open Go.RowKit Go.Proofs.YtehlmkgldcfciaaDoorW.PrintWords Go.Proofs.YtehlmkgldcfciaaDoorW.PrintLast Go.Proofs.YtehlmkgldcfciaaDoorW.PrintMore
/-- What a rule says of a user. -/
def ruleOf (u : ByteArray) (x : S105) : Bool := decide (x.f0 = u) || decide (x.f0 = ⟨#[42]⟩)
theorem beq_yes (a : ByteArray) : (a.toList == a.toList) = true := by simp
theorem beq_no {a b : ByteArray} (h : a ≠ b) : (a.toList == b.toList) = false := by
  rw [beq_eq_false_iff_ne, ByteArray.toList_eq, ByteArray.toList_eq]
  intro e
  apply h
  cases a; cases b
  simpa using e
set_option maxRecDepth 100000 in
theorem may1_c (B : Nat) (u : ByteArray) (x : S105) (W : World) (cu : W.cell? ⟨B, 0, none⟩ = some (.string u)) :
    Calls Tryd.prog 55 #[.agg #[.string x.f0, .int .i64 x.f1], .pointer (some ⟨B, 0, none⟩)] W fun e w' => e = .returned (.bool (ruleOf u x)) ∧ Below W.heap.size W w' := by
  have hB : (W.alloc (.cells #[.string x.f0, .int .i64 x.f1] 105)).cell? ⟨B, 0, none⟩ = some (.string u) := Lib.cell?_alloc_some _ cu
  by_cases h1 : x.f0 = u
  · have hr : ruleOf u x = true := by simp [ruleOf, h1]
    have h1' : (x.f0.toList == u.toList) = true := by rw [h1]; exact beq_yes u
    rw [hr]
    clear cu hr h1
    go_enter Tryd.func55, Tryd.ntmps55
    go_wp2
    go_ret
    exact ⟨rfl, (Below.refl _ _).alloc (Nat.le_refl _) _⟩
  · have h1' := beq_no h1
    by_cases h2 : x.f0 = ⟨#[42]⟩
    · have hr : ruleOf u x = true := by simp [ruleOf, h2]
      have h2' : (x.f0.toList == [42]) = true := by rw [h2, ByteArray.toList_eq]; rfl
      rw [hr]
      clear cu hr h1 h2
      go_enter Tryd.func55, Tryd.ntmps55
      go_wp2
      go_ret
      exact ⟨by first | rfl | simp [*], (Below.refl _ _).alloc (Nat.le_refl _) _⟩
    · have hr : ruleOf u x = false := by simp [ruleOf, h1, h2]
      have h2' : (x.f0.toList == [42]) = false := by
        have := beq_no h2
        rw [ByteArray.toList_eq (⟨#[42]⟩ : ByteArray)] at this
        exact this
      rw [hr]
      clear cu hr h1
      go_enter Tryd.func55, Tryd.ntmps55
      go_wp2
      go_ret
      exact ⟨by first | rfl | simp [*], (Below.refl _ _).alloc (Nat.le_refl _) _⟩
/-- What a file lets a user do. -/
def mayB (F : FS) (rules : List S105) (u : ByteArray) (actions : Int) : Bool :=
  if bits .and .i64 F.perm actions = actions then
    (match rules.find? (ruleOf u) with
    | none => decide (u = F.owner)
    | some x => decide (bits .and .i64 x.f1 actions = actions))
  else false
theorem idx_find {α : Type} (p : α → Bool) : ∀ l : List α, ∃ r, idxM (fun x => some (p x)) l = some r ∧ ((r = -1 ∧ l.find? p = none) ∨ (∃ i : Nat, r = i ∧ i < l.length ∧ ∃ x, l[i]? = some x ∧ l.find? p = some x))
  | [] => ⟨-1, rfl, .inl ⟨rfl, rfl⟩⟩
  | x :: l => by
    obtain ⟨r, h1, h2⟩ := idx_find p l
    cases hp : p x with
    | true => exact ⟨0, by simp [idxM, hp], .inr ⟨0, rfl, by simp, x, rfl, by simp [List.find?, hp]⟩⟩
    | false =>
      refine ⟨if r < 0 then -1 else r + 1, by simp [idxM, hp, h1], ?_⟩
      rcases h2 with ⟨rfl, hn⟩ | ⟨i, rfl, hi, y, hy, hf⟩
      · exact .inl ⟨by simp, by simp [List.find?, hp, hn]⟩
      · exact .inr ⟨i + 1, by rw [if_neg (by omega)]; omega, by simp; omega, y, by simpa using hy, by simp [List.find?, hp, hf]⟩
set_option maxRecDepth 100000 in
set_option maxHeartbeats 2000000 in
theorem may_c (fb ub c : Nat) (F : FS) (A : Option Addr) (rules : List S105) (uv : Value) (u : ByteArray) (actions : Int) (W : World) (hF : FileAt W fb F (.slice A rules.length c) uv ub) (hr : Kd.C k105 W A rules.length rules) (hc : rules.length ≤ c) :
    Calls Tryd.prog 39 #[.pointer (some ⟨fb, 0, none⟩), .string u, .int .i64 actions] W fun e w' => e = .returned (.bool (mayB F rules u actions)) ∧ Below W.heap.size W w' := by
  have hlt : fb < W.heap.size := (Array.getElem?_eq_some_iff.1 hF).1
  have hcell : ∀ j v, (F.cells (.slice A rules.length c) uv ub)[j]? = some v → (W.alloc (.cells #[.string u] 9)).cell? ⟨fb, j, none⟩ = some v := fun j v h => Lib.cell?_alloc_some _ ((blk_cell hF j).trans h)
  have c2 : (W.alloc (.cells #[.string u] 9)).cell? ⟨fb, 2, none⟩ = some (.int .i64 F.perm) := hcell 2 _ rfl
  have c3 : (W.alloc (.cells #[.string u] 9)).cell? ⟨fb, 3, none⟩ = some (.string F.owner) := hcell 3 _ rfl
  have c7 : (W.alloc (.cells #[.string u] 9)).cell? ⟨fb, 7, none⟩ = some (.slice A rules.length c) := hcell 7 _ rfl
  clear hcell
  have hb0 : Below W.heap.size W (W.alloc (.cells #[.string u] 9)) := (Below.refl _ _).alloc (Nat.le_refl _) _
  have hcu : (W.alloc (.cells #[.string u] 9)).cell? ⟨W.heap.size, 0, none⟩ = some (.string u) := (Boxed.new W 9 (.string u)).cell
  have hsz : (W.alloc (.cells #[.string u] 9)).heap.size = W.heap.size + 1 := by simp
  by_cases hp : bits .and .i64 F.perm actions = actions
  · have hm : mayB F rules u actions = (match rules.find? (ruleOf u) with
      | none => decide (u = F.owner)
      | some x => decide (bits .and .i64 x.f1 actions = actions)) := if_pos hp
    obtain ⟨r, hi, hfind⟩ := idx_find (ruleOf u) rules
    have HI := Aside0.mk (files_Rule.calls 55 #[.pointer (some ⟨W.heap.size, 0, none⟩)] (enters_of Tryd.func55 (by kernel_rfl) rfl) (fun x => some (ruleOf u x)) A c rules r (W.alloc (.cells #[.string u] 9)) (Kd.C_below hr hb0) hc hi
      (fun W2 x cs b hb2 hk hx => by
        obtain rfl := Option.some.inj hx
        rw [k105_open hk]
        exact may1_c W.heap.size u x W2 ((hb2.cell (p := ⟨W.heap.size, 0, none⟩) (by rw [hsz]; exact Nat.lt_succ_self _)).trans hcu)))
    have hp' : (bits .and .i64 F.perm actions == actions) = true := by simpa using hp
    have HR := Aside0.mk (fun (w2 : World) (hb2 : Below (W.alloc (.cells #[.string u] 9)).heap.size (W.alloc (.cells #[.string u] 9)) w2) => Kd.C_below (Kd.C_below hr hb0) hb2)
    rw [hm]
    clear hm hr hF
    rcases hfind with ⟨rfl, hf⟩ | ⟨i, rfl, hil, x, hx, hf⟩
    · rw [hf]
      dsimp only
      have HX : Aside0 (∀ w2 : World, Below (W.alloc (.cells #[.string u] 9)).heap.size (W.alloc (.cells #[.string u] 9)) w2 → True) := ⟨fun _ _ => trivial⟩
      have hend : ∀ w2 : World, Below (W.alloc (.cells #[.string u] 9)).heap.size (W.alloc (.cells #[.string u] 9)) w2 → Below W.heap.size W w2.drew := fun w2 hb2 => (hb0.trans (hb2.mono (by rw [hsz]; exact Nat.le_succ _))).trans ⟨rfl, rfl, rfl, Nat.le_refl _, fun _ _ => rfl⟩
      by_cases ho : u = F.owner
      · have ho' : (u.toList == F.owner.toList) = true := by rw [ho]; exact beq_yes _
        rw [show (decide (u = F.owner)) = true from decide_eq_true ho]
        clear ho hp
        go_enter Tryd.func39, Tryd.ntmps39
        go_wp2_with (go_at_call 54; refine HI.out.mono ?_; rintro e w2 ⟨rfl, hb2⟩; have d3 := (hb2.cell (p := ⟨fb, 3, none⟩) (by rw [hsz]; exact Nat.lt_succ_of_lt hlt)).trans c3; have d7 := (hb2.cell (p := ⟨fb, 7, none⟩) (by rw [hsz]; exact Nat.lt_succ_of_lt hlt)).trans c7; have du := (hb2.cell (p := ⟨W.heap.size, 0, none⟩) (by rw [hsz]; exact Nat.lt_succ_self _)).trans hcu; have hx2 := HX.out w2 hb2)
        go_region
        go_wp2
        go_ret
        exact ⟨rfl, hend _ hb2⟩
      · have ho' := beq_no ho
        rw [show (decide (u = F.owner)) = false from decide_eq_false ho]
        clear ho hp
        go_enter Tryd.func39, Tryd.ntmps39
        go_wp2_with (go_at_call 54; refine HI.out.mono ?_; rintro e w2 ⟨rfl, hb2⟩; have d3 := (hb2.cell (p := ⟨fb, 3, none⟩) (by rw [hsz]; exact Nat.lt_succ_of_lt hlt)).trans c3; have d7 := (hb2.cell (p := ⟨fb, 7, none⟩) (by rw [hsz]; exact Nat.lt_succ_of_lt hlt)).trans c7; have du := (hb2.cell (p := ⟨W.heap.size, 0, none⟩) (by rw [hsz]; exact Nat.lt_succ_self _)).trans hcu; have hx2 := HX.out w2 hb2)
        go_region
        go_wp2
        go_ret
        exact ⟨rfl, hend _ hb2⟩
    · rw [hf]
      dsimp only
      have hilz : (i : Int) < (rules.length : Int) := by omega
      have HX : Aside0 (∀ w2 : World, Below (W.alloc (.cells #[.string u] 9)).heap.size (W.alloc (.cells #[.string u] 9)) w2 → ∃ ad, A = some ad ∧ w2.cell? ⟨(ad.add (i * 2)).block, (ad.add (i * 2)).off + 1, none⟩ = some (.int .i64 x.f1)) := ⟨fun w2 hb2 => by
        obtain ⟨ad, e1, _, h2⟩ := at_T105 (HR.out w2 hb2) (i : Int) (by omega) (by omega)
        rw [Int.toNat_natCast] at h2
        have e2 : rd_T105 rules (i : Int) = x := by simp [rd_T105, hx]
        rw [e2] at h2
        exact ⟨ad, e1, h2⟩⟩
      have hend : ∀ w2 : World, Below (W.alloc (.cells #[.string u] 9)).heap.size (W.alloc (.cells #[.string u] 9)) w2 → Below W.heap.size W w2 := fun w2 hb2 => hb0.trans (hb2.mono (by rw [hsz]; exact Nat.le_succ _))
      have hi0 : decide ((i : Int) < 0) = false := decide_eq_false (by omega)
      by_cases ho : bits .and .i64 x.f1 actions = actions
      · have ho' : (bits .and .i64 x.f1 actions == actions) = true := by simpa using ho
        rw [show decide (bits .and .i64 x.f1 actions = actions) = true from decide_eq_true ho]
        clear ho hp
        go_enter Tryd.func39, Tryd.ntmps39
        go_wp2_with (go_at_call 54; refine HI.out.mono ?_; rintro e w2 ⟨rfl, hb2⟩; have d3 := (hb2.cell (p := ⟨fb, 3, none⟩) (by rw [hsz]; exact Nat.lt_succ_of_lt hlt)).trans c3; have d7 := (hb2.cell (p := ⟨fb, 7, none⟩) (by rw [hsz]; exact Nat.lt_succ_of_lt hlt)).trans c7; have du := (hb2.cell (p := ⟨W.heap.size, 0, none⟩) (by rw [hsz]; exact Nat.lt_succ_self _)).trans hcu; obtain ⟨ad, rfl, hx2⟩ := HX.out w2 hb2)
        go_ret
        exact ⟨by first | rfl | simp [*], hend _ hb2⟩
      · have ho' : (bits .and .i64 x.f1 actions == actions) = false := by simpa using ho
        rw [show decide (bits .and .i64 x.f1 actions = actions) = false from decide_eq_false ho]
        clear ho hp
        go_enter Tryd.func39, Tryd.ntmps39
        go_wp2_with (go_at_call 54; refine HI.out.mono ?_; rintro e w2 ⟨rfl, hb2⟩; have d3 := (hb2.cell (p := ⟨fb, 3, none⟩) (by rw [hsz]; exact Nat.lt_succ_of_lt hlt)).trans c3; have d7 := (hb2.cell (p := ⟨fb, 7, none⟩) (by rw [hsz]; exact Nat.lt_succ_of_lt hlt)).trans c7; have du := (hb2.cell (p := ⟨W.heap.size, 0, none⟩) (by rw [hsz]; exact Nat.lt_succ_self _)).trans hcu; obtain ⟨ad, rfl, hx2⟩ := HX.out w2 hb2)
        go_ret
        exact ⟨by first | rfl | simp [*], hend _ hb2⟩
  · have hp' : (bits .and .i64 F.perm actions == actions) = false := by simpa using hp
    rw [show mayB F rules u actions = false from if_neg hp]
    clear hp hF hr
    go_enter Tryd.func39, Tryd.ntmps39
    go_wp2
    go_ret
    exact ⟨rfl, hb0⟩
theorem key_str {x : ByteArray} {kl : Lit} (h : keyOf Tryd.prog 9 (.string x) = some kl) : kl = .string x.data.toList ∧ x.size ≤ maxLen := by
  have h' := h
  simp only [keyOf, Tryd.underlying9, mapKey] at h'
  split at h'
  · rename_i hs
    injection h' with h'
    exact ⟨h'.symm, hs⟩
  · cases h'
theorem Ro_shape {v : Value} {y : DataW Unit × List MemPlace} (h : Ro v = some y) : ∃ p : Int × Int, v = .agg #[.int .i64 p.1, .int .i64 p.2] := by
  unfold Ro at h
  split at h
  · exact ⟨(_, _), rfl⟩
  · cases h
theorem key_shape {key : Value} {kl : Lit} (h : keyOf Tryd.prog 9 key = some kl) : ∃ x : ByteArray, key = .string x := by
  cases key <;> simp [keyOf, Tryd.underlying9, mapKey] at h
  exact ⟨_, rfl⟩
/-- Nobody's opening stands against these actions. -/
def Free (DU : DataW Unit) (actions exclusive : Int) : Prop := ∀ (l : List UInt8) (a b : Int), (∀ zd, DU.atKey (.string l) zd = .agg [.lit (.int .i64 a), .lit (.int .i64 b)]) → bits .and .i64 b actions = 0 ∧ bits .and .i64 exclusive a = 0
/-- How Open may end. -/
def OpenEnd (W : World) (ub k2 : Nat) (DU : DataW Unit) (u : ByteArray) (actions exclusive : Int) (e : Ending) (w' : World) : Prop :=
  (e = .returned (.int .i64 0) ∧ Free DU actions exclusive ∧ w'.ownsMap Tryd.prog 9 Ro ub (k2 + 1) (DU.put (.string u.data.toList) (.agg [.lit (.int .i64 actions), .lit (.int .i64 exclusive)])) ∧ ∃ w3, Below W.heap.size W w3 ∧ w3.mapTurned w' ub) ∨
      (e = .returned (.int .i64 12) ∧ ¬ Free DU actions exclusive ∧ Below W.heap.size W w')
set_option maxRecDepth 100000 in
set_option maxHeartbeats 4000000 in
theorem Open_c (sb mb k fb ub k2 c : Nat) (D DU : DataW Unit) (F : FS) (A : Option Addr) (rules : List S105) (uv : Value) (u n : ByteArray) (actions exclusive : Int) (W : World) (c0 : W.cell? ⟨sb, 0, none⟩ = some (.map (some mb))) (hown : W.ownsMap Tryd.prog 9 Rp mb k D)
    (hu : 1 ≤ u.size ∧ u.size ≤ 20) (hn : 1 ≤ n.size ∧ n.size ≤ 30) (hD : D.atKey (.string n.data.toList) .nil = .lit (.int .i64 (fb : Nat))) (hF : FileAt W fb F (.slice A rules.length c) uv ub) (hU : W.ownsMap Tryd.prog 9 Ro ub k2 DU) (hk2 : k2 < 1000)
    (hr : Kd.C k105 W A rules.length rules) (hc : rules.length ≤ c) (hact : 0 ≤ actions ∧ actions ≤ 255) (hexc : 0 ≤ exclusive ∧ exclusive ≤ 255) (hsub : bits .andNot .i64 exclusive actions = 0)
    (hhas : Maps.has DU (.string u.data.toList) = false) (hmay : mayB F rules u actions = true) :
    Calls Tryd.prog 20 #[.pointer (some ⟨sb, 0, none⟩), .string u, .string n, .int .i64 actions, .int .i64 exclusive] W (OpenEnd W ub k2 DU u actions exclusive) := by
  have hkey := key_of (s := u) (by omega)
  obtain ⟨v, ps, hrun, hv⟩ := hU.look_ok law9 Tryd.underlying84 (zeroO _) (zd := .agg [.lit (.int .i64 0), .lit (.int .i64 0)]) (zp := []) rfl hkey
  rw [atKey_of_not_has hhas] at hv
  obtain rfl := Ro_at hv
  rw [hhas] at hrun
  have hlt : fb < W.heap.size := (Array.getElem?_eq_some_iff.1 hF).1
  have c9 : W.cell? ⟨fb, 9, none⟩ = some (.map (some ub)) := (blk_cell hF 9).trans rfl
  have CF := Aside0.mk (found_c sb mb k fb D u n W c0 hown hu hn hD)
  have CA := Aside0.mk (set_c actions W)
  have CE := Aside0.mk (set_c exclusive W)
  rw [show (decide (0 ≤ actions) && decide (actions ≤ 255)) = true by simp [hact.1, hact.2]] at CA
  rw [show (decide (0 ≤ exclusive) && decide (exclusive ≤ 255)) = true by simp [hexc.1, hexc.2]] at CE
  have hb1 : Below W.heap.size W (W.alloc (.cells #[.int .i64 0, .int .i64 0] 90)) := (Below.refl _ _).alloc (Nat.le_refl _) _
  have CM := Aside0.mk (may_c fb ub c F A rules uv u actions (W.alloc (.cells #[.int .i64 0, .int .i64 0] 90)) ((hb1.block fb hlt).trans hF) (Kd.C_below hr hb1) hc)
  rw [hmay] at CM
  have hsz : (W.alloc (.cells #[.int .i64 0, .int .i64 0] 90)).heap.size = W.heap.size + 1 := by simp
  have HU := Aside0.mk hU
  have hul : ub < W.heap.size := hU.lt
  clear hF hr hU hown
  go_enter Tryd.func20, Tryd.ntmps20
  go_wp2_with first | (go_at_call 38; refine CF.out.mono ?_; rintro e w' ⟨rfl, rfl⟩) | (go_at_call 37; first | (refine CA.out.mono ?_; rintro e w' ⟨rfl, rfl⟩) | (refine CE.out.mono ?_; rintro e w' ⟨rfl, rfl⟩)) | (go_at_call 39; refine CM.out.mono ?_; rintro e w2 ⟨rfl, hb2⟩; have d9 := (hb2.cell (p := ⟨fb, 9, none⟩) (by rw [hsz]; exact Nat.lt_succ_of_lt hlt)).trans ((hb1.cell (p := ⟨fb, 9, none⟩) hlt).trans c9)) | (at_range; refine wpList_range_own _ rfl _ 84 rfl 9 90 law9 Tryd.underlying84 _ ub k2 DU rfl ((HU.out.alloc _).kept (row := none) ⟨hb2.os, hb2.tape, hb2.output, hb2.size, fun i hi _ => hb2.block i hi⟩ (by simp)) ?_; intro w3 hrg3 hg3 hs3)
  have hb3 : Below W.heap.size W w3 := (hb1.trans (hb2.mono (by rw [hsz]; exact Nat.le_succ _))).grown hg3 (by have := hb2.size; rw [hsz] at this; omega) (fun k e => by cases e)
  have hszw : W.heap.size ≤ w2.heap.size := by have := hb2.size; rw [hsz] at this; omega
  clear hrun hmay hhas CF CA CE CM hb2 hg3
  go_frame
  go_loopw [61] (fun _ wr => ∃ (left : Lit → Bool) (cnt : Nat), wr.ranges Tryd.prog 9 Ro ub w2.heap.size k2 DU left cnt ∧ Below W.heap.size W wr ∧
      ∀ (l : List UInt8) (a b : Int), left (.string l) = false → (∀ zd, DU.atKey (.string l) zd = .agg [.lit (.int .i64 a), .lit (.int .i64 b)]) → bits .and .i64 b actions = 0 ∧ bits .and .i64 exclusive a = 0)
    (fun _ wr => wr.rangeLeft ub w2.heap.size)
  case atStart => exact ⟨_, _, hrg3, hb3, fun l a b hl hz => absurd (has_true_of_atKey hz) (by rw [hl]; simp)⟩
  case round =>
    clear hrg3 hb3 hs3
    obtain ⟨left, cnt, hrg, hbw, hfree⟩ := hrel
    have HF := Aside0.mk hfree
    clear hfree
    go_wp2_with first | (at_next; refine wpList_next_ranges _ rfl _ rfl 9 law9 Ro Value.string (fun p : Int × Int => .agg #[.int .i64 p.1, .int .i64 p.2]) (fun key kl h => key_shape h) (fun v y h => Ro_shape h) ub w2.heap.size k2 DU left cnt rfl hrg ?_ ?_)
    · intro _ hl0
      have hfr : Free DU actions exclusive := fun l a b hz => HF.out l a b (hl0 _) hz
      have d9 : wr.cell? ⟨fb, 9, none⟩ = some (.map (some ub)) := (hbw.cell (p := ⟨fb, 9, none⟩) hlt).trans c9
      have hownr := hrg.owns
      go_wp2_with first | (at_mapUpdate; refine wpList_mapUpdate_in _ rfl _ _ _ 84 rfl 9 90 law9 Tryd.underlying84 _ ub k2 DU rfl hownr (by unfold maxLen; omega) _ _ _ rfl rfl hkey (.agg [.lit (.int .i64 actions), .lit (.int .i64 exclusive)]) [] rfl ?_; intro w4 hown4 hturn4)
      go_ret
      exact .inl ⟨rfl, hfr, hown4, wr, hbw, hturn4⟩
    · intro x ca cb kl y1 y2 w4 cnt4 hkx hlk hvy hat hrg4 hlt4 hgr4 hsz4 hen
      obtain ⟨rfl, hxs⟩ := key_str hkx
      have hy : (y1, y2) = (.agg [.lit (.int .i64 ca), .lit (.int .i64 cb)], []) := (Option.some.inj hvy).symm
      obtain ⟨rfl, rfl⟩ := Prod.mk.inj hy
      have hb4 : Below W.heap.size W w4 := hbw.grown hgr4 hbw.size (fun k e => by cases e; exact hszw)
      by_cases h1 : bits .and .i64 cb actions = 0
      · have h1' : (bits .and .i64 cb actions == 0) = true := by simpa using h1
        by_cases h2 : bits .and .i64 exclusive ca = 0
        · have h2' : (bits .and .i64 exclusive ca == 0) = true := by simpa using h2
          have HN := Aside0.mk (show ∀ (l : List UInt8) (a b : Int), (left (.string l) && !(Lit.string l).sameKey (.string x.data.toList)) = false → (∀ zd, DU.atKey (.string l) zd = .agg [.lit (.int .i64 a), .lit (.int .i64 b)]) → bits .and .i64 b actions = 0 ∧ bits .and .i64 exclusive a = 0 from fun l a b hl hz => by
            rcases Bool.and_eq_false_iff.1 hl with hl | hl
            · exact HF.out l a b hl hz
            · have hs : (Lit.string l).sameKey (.string x.data.toList) = true := by simpa using hl
              have := WideAt.sameKey_eq hs
              injection this with this
              subst this
              have e := (hz .nil).symm.trans (hat .nil)
              simp only [DataW.agg.injEq, List.cons.injEq, DataW.lit.injEq, Lit.int.injEq, true_and, and_true] at e
              rw [e.1, e.2]
              exact ⟨h1, h2⟩)
          clear HF hat hvy hkx
          go_wp2
          go_roundw
          case rel => exact ⟨_, cnt4, hrg4.alloc _, hb4.alloc hb4.size _, HN.out⟩
          case measure => rw [(hrg4.alloc _).left_eq, hrg.left_eq]; exact hlt4
        · have h2' : (bits .and .i64 exclusive ca == 0) = false := by simpa using h2
          have hnf : ¬ Free DU actions exclusive := fun hf => h2 (hf x.data.toList ca cb hat).2
          clear HF hat hvy hkx
          go_wp2
          go_ret
          exact .inr ⟨rfl, hnf, hb4.alloc hb4.size _⟩
      · have h1' : (bits .and .i64 cb actions == 0) = false := by simpa using h1
        have hnf : ¬ Free DU actions exclusive := fun hf => h1 (hf x.data.toList ca cb hat).1
        clear HF hat hvy hkx
        go_wp2
        go_ret
        exact .inr ⟨rfl, hnf, hb4.alloc hb4.size _⟩
end Go.Proofs.YtehlmkgldcfciaaDoor.Files
/- The file store: units; a change noted; names that clash. -/
set_option linter.unusedVariables false
set_option linter.unusedSimpArgs false
namespace Go.Proofs.YtehlmkgldcfciaaDoor.Files
open Go.Proofs.YtehlmkgldcfciaaDoor.Common Go.Maps Go.ChangeMaps Go.WideMaps Go.Proofs.YtehlmkgldcfciaaDoor.F
open Go.RowKit Go.Proofs.YtehlmkgldcfciaaDoorW.PrintWords Go.Proofs.YtehlmkgldcfciaaDoorW.PrintLast Go.Proofs.YtehlmkgldcfciaaDoorW.PrintMore
set_option maxRecDepth 100000 in
set_option maxHeartbeats 2000000 in
theorem unit_c (sb mb k fb ub k2 len cu : Nat) (Au : Option Addr) (D DU : DataW Unit) (F : FS) (rv : Value) (u n : ByteArray) (at_ action a b : Int) (W : World) (c0 : W.cell? ⟨sb, 0, none⟩ = some (.map (some mb))) (hown : W.ownsMap Tryd.prog 9 Rp mb k D)
    (hu : 1 ≤ u.size ∧ u.size ≤ 20) (hn : 1 ≤ n.size ∧ n.size ≤ 30) (hD : D.atKey (.string n.data.toList) .nil = .lit (.int .i64 (fb : Nat))) (hF : FileAt W fb F rv (.slice Au len cu) ub) (hU : W.ownsMap Tryd.prog 9 Ro ub k2 DU)
    (hhas : Maps.has DU (.string u.data.toList) = true) (hat : DU.atKey (.string u.data.toList) (.agg [.lit (.int .i64 0), .lit (.int .i64 0)]) = .agg [.lit (.int .i64 a), .lit (.int .i64 b)])
    (h0 : 0 ≤ at_) (h1 : at_ < (len : Int)) (hok : bits .and .i64 a action ≠ 0) :
    Calls Tryd.prog 40 #[.pointer (some ⟨sb, 0, none⟩), .string u, .string n, .int .i64 at_, .int .i64 action] W fun e w' => e = .returned (.tuple #[.pointer (some ⟨fb, 0, none⟩), .int .i64 0, .int .i64 0]) ∧ Below W.heap.size W w' := by
  have hlt : fb < W.heap.size := (Array.getElem?_eq_some_iff.1 hF).1
  have CO := Aside0.mk (opened_c sb mb k fb ub k2 D DU F rv (.slice Au len cu) u n action a b W c0 hown hu hn hD hF hU hhas hat)
  rw [if_neg hok] at CO
  have c8 : W.cell? ⟨fb, 8, none⟩ = some (.slice Au len cu) := (blk_cell hF 8).trans rfl
  have h0' : decide (at_ < 0) = false := decide_eq_false (by omega)
  have h1' : decide ((len : Int) ≤ at_) = false := decide_eq_false (by omega)
  clear hown hF hU
  go_enter Tryd.func40, Tryd.ntmps40
  go_wp2_with first | (go_at_call 56; refine CO.out.mono ?_; rintro e w2 ⟨rfl, hb2⟩; have d8 := (hb2.cell (p := ⟨fb, 8, none⟩) hlt).trans c8)
  go_ret3
  exact ⟨rfl, hb2⟩
set_option maxRecDepth 100000 in
theorem changed_c (fb ub : Nat) (F : FS) (rv uv : Value) (u : ByteArray) (W : World) (hF : FileAt W fb F rv uv ub) :
    Calls Tryd.prog 43 #[.pointer (some ⟨fb, 0, none⟩), .string u] W fun e w' => e = .returned (.int .i64 0) ∧ w' = (W.setCell ⟨fb, 5, none⟩ (.int .i64 (wrap64 (F.ch + 1)))).setCell ⟨fb, 4, none⟩ (.string u) := by
  have c5 : W.cell? ⟨fb, 5, none⟩ = some (.int .i64 F.ch) := (blk_cell hF 5).trans rfl
  have c4 : W.cell? ⟨fb, 4, none⟩ = some (.string F.last) := (blk_cell hF 4).trans rfl
  have f5 := blk_frozen hF 5
  have f4 := blk_frozen hF 4
  clear hF
  go_enter Tryd.func43, Tryd.ntmps43
  go_wp2
  go_ret
  exact ⟨rfl, rfl⟩
theorem file_set {W : World} {fb ub : Nat} {F : FS} {rv uv : Value} (hF : FileAt W fb F rv uv ub) (i : Nat) (v : Value) {F' : FS} {rv' uv' : Value} (h : (F.cells rv uv ub).setIfInBounds i v = F'.cells rv' uv' ub) : FileAt (W.setCell ⟨fb, i, none⟩ v) fb F' rv' uv' ub := by
  unfold FileAt
  rw [← h]
  exact blk_set hF i v
set_option maxRecDepth 100000 in
set_option maxHeartbeats 2000000 in
theorem clash1_c (B1 B2 cu : Nat) (Au : Option Addr) (units : List S46) (nm : ByteArray) (i : Int) (W : World) (c1 : W.cell? ⟨B1, 0, none⟩ = some (.slice Au units.length cu)) (c2 : W.cell? ⟨B2, 0, none⟩ = some (.string nm))
    (hr : Kd.C k46 W Au units.length units) (h0 : 0 ≤ i) (h1 : i < (units.length : Int)) :
    Calls Tryd.prog 46 #[.int .i64 i, .pointer (some ⟨B1, 0, none⟩), .pointer (some ⟨B2, 0, none⟩)] W fun e w' => e = .returned (.bool (decide ((rd_T46 units i).f0 = nm))) ∧ Drawn0 W w' := by
  obtain ⟨ad, rfl, hx0, _, _⟩ := at_T46 hr i h0 h1
  have hbig : units.length ≤ 9223372036854775807 := hr.2.1
  clear hr
  generalize rd_T46 units i = x at hx0
  by_cases he : x.f0 = nm
  · have he' : (x.f0.toList == nm.toList) = true := by rw [he]; exact beq_yes _
    rw [show decide (x.f0 = nm) = true from decide_eq_true he]
    clear he
    go_enter Tryd.func46, Tryd.ntmps46
    go_wp2
    go_region
    go_wp2
    go_ret
    exact ⟨rfl, ⟨1, rfl⟩⟩
  · have he' := beq_no he
    rw [show decide (x.f0 = nm) = false from decide_eq_false he]
    clear he
    go_enter Tryd.func46, Tryd.ntmps46
    go_wp2
    go_region
    go_wp2
    go_ret
    exact ⟨rfl, ⟨1, rfl⟩⟩
/-- One of some units has a name that is not empty. -/
def clashB (units : List S46) (at_ : List Int) (nm : ByteArray) : Bool := !decide (nm = ⟨#[]⟩) && at_.any fun i => decide ((rd_T46 units i).f0 = nm)
set_option maxRecDepth 100000 in
set_option maxHeartbeats 2000000 in
theorem clash_c (cu ca : Nat) (Au Aa : Option Addr) (units : List S46) (at_ : List Int) (nm : ByteArray) (W : World) (hr : Kd.C k46 W Au units.length units) (hc : units.length ≤ cu) (ha : (Kd.int .i64).C W Aa at_.length at_) (hca : at_.length ≤ ca)
    (hin : ∀ i ∈ at_, 0 ≤ i ∧ i < (units.length : Int)) :
    Calls Tryd.prog 24 #[.slice Au units.length cu, .slice Aa at_.length ca, .string nm] W fun e w' => e = .returned (.bool (clashB units at_ nm)) ∧ Below W.heap.size W w' := by
  have hb : Below W.heap.size W ((W.alloc (.cells #[.slice Au units.length cu] 23)).alloc (.cells #[.string nm] 9)) := ((Below.refl _ W).alloc (Nat.le_refl _) _).alloc (by simp) _
  have b1 := ((Boxed.new W 23 (.slice Au units.length cu)).alloc (.cells #[.string nm] 9)).cell
  have b2 := (Boxed.new (W.alloc (.cells #[.slice Au units.length cu] 23)) 9 (.string nm)).cell
  rw [World.size_alloc] at b2
  have HC := Aside0.mk (slices_ContainsFunc_int_int.calls 46 #[.pointer (some ⟨W.heap.size, 0, none⟩), .pointer (some ⟨W.heap.size + 1, 0, none⟩)] (enters_of Tryd.func46 (by kernel_rfl) rfl) (fun i => decide ((rd_T46 units i).f0 = nm)) Aa ca at_ _ (Kd.C_below ha hb) hca
    (fun W2 x hx hd => clash1_c W.heap.size (W.heap.size + 1) cu Au units nm x W2 ((hd.below.cell (p := ⟨W.heap.size, 0, none⟩) (by simp <;> omega)).trans b1) ((hd.below.cell (p := ⟨W.heap.size + 1, 0, none⟩) (by simp <;> omega)).trans b2) (Kd.C_below (Kd.C_below hr hb) hd.below) (hin x hx).1 (hin x hx).2))
  have HB := Aside0.mk hb
  clear hr ha
  by_cases he : nm = ⟨#[]⟩
  · have he' : (nm.toList == []) = true := by rw [he, ByteArray.toList_eq]; rfl
    rw [show clashB units at_ nm = false by simp [clashB, he]]
    clear hb he
    go_enter Tryd.func24, Tryd.ntmps24
    go_wp2
    go_ret
    exact ⟨by first | rfl | simp [*], HB.out⟩
  · have he' : (nm.toList == []) = false := by
      have := beq_no he
      rw [ByteArray.toList_eq (⟨#[]⟩ : ByteArray)] at this
      exact this
    rw [show clashB units at_ nm = at_.any (fun i => decide ((rd_T46 units i).f0 = nm)) by simp [clashB, he]]
    clear hb he
    go_enter Tryd.func24, Tryd.ntmps24
    go_wp2_with (go_at_call 45; refine HC.out.mono ?_; rintro e w2 ⟨rfl, hd2⟩)
    go_ret
    exact ⟨by first | rfl | simp [*], HB.out.trans (hd2.below.mono HB.out.size)⟩
/-! Units as cells. -/
def uCells (x : S46) : List Value := [.string x.f0, .string x.f1, .int .i64 x.f2]
def uRow (l : List S46) : List Value := (l.map uCells).flatten
theorem uRow_snoc (l : List S46) (x : S46) : uRow (l ++ [x]) = uRow l ++ uCells x := by simp [uRow]
theorem R_of_uRow {W : World} {base : Nat} {v : Value} {l : List S46} (h : W.ownsRow base 46 3 v l.length (uRow l)) : Kd.R k46 46 W base (fun _ => True) v l := by
  refine ⟨fun _ _ => trivial, uRow l, h, h.1, fun j x hj => ?_⟩
  have e : ((uRow l).drop (j * 3)).take 3 = uCells x := flat_at (css := l.map uCells) (fun c hc => by obtain ⟨y, _, rfl⟩ := List.mem_map.1 hc; rfl) (by rw [List.getElem?_map, hj]; rfl)
  show k46.M W base _ x (((uRow l).drop (j * 3)).take 3)
  rw [e]
  exact k46_mkM _ _ _ x
theorem uRow_of_R {W : World} {base : Nat} {ok : Nat → Prop} {v : Value} {l : List S46} (h : Kd.R k46 46 W base ok v l) : W.ownsRow base 46 3 v l.length (uRow l) := by
  obtain ⟨_, inner, ho, hl, hr⟩ := h
  have e : inner = uRow l := by
    clear ho
    have hr' : ∀ (j : Nat) (x : S46), l[j]? = some x → (inner.drop (j * 3)).take 3 = uCells x := fun j x hj => k46_openM (hr j x hj)
    have hl' : inner.length = l.length * 3 := hl
    clear hl hr
    induction l generalizing inner with
    | nil => simp at hl'; rw [hl']; rfl
    | cons x r ih =>
      have h1 := hr' 0 x rfl
      rw [Nat.zero_mul, List.drop_zero] at h1
      have h2 := ih (inner := inner.drop 3) (fun j y hj => by
        have := hr' (j + 1) y (by simpa using hj)
        rw [List.drop_drop]
        rw [Nat.add_mul, Nat.one_mul, Nat.add_comm] at this
        exact this) (by rw [List.length_drop, hl', List.length_cons]; omega)
      rw [show uRow (x :: r) = uCells x ++ uRow r from rfl, ← h1, ← h2]
      exact (List.take_append_drop 3 inner).symm
  rw [← e]
  exact ho
/-- How an element put behind the last one leaves a row. -/
def InsEnd (w : World) (base g len : Nat) (xs news : List Value) (e : Ending) (w' : World) : Prop :=
  ∃ g' cap', e = .returned (.slice (some ⟨g', 0, none⟩) (len + 1) cap') ∧ w'.ownsRow base 46 3 (.slice (some ⟨g', 0, none⟩) (len + 1) cap') (len + 1) (xs ++ news) ∧ w.grownBy w' (some g) ∧ (g' = g ∨ g' = w.heap.size) ∧ g' < w'.heap.size
set_option maxRecDepth 100000 in
set_option maxHeartbeats 2000000 in
theorem Ins_c (base g len cap vb : Nat) (xs : List Value) (a b c : Value) (w : World) (hown : w.ownsRow base 46 3 (.slice (some ⟨g, 0, none⟩) len cap) len xs) (hv : w.heap[vb]? = some (.cells #[a, b, c] 46 (0, 0)))
    (h1 : a.oneCell' = true ∧ b.oneCell' = true ∧ c.oneCell' = true) (hlen : len < 100000) (hcap : len ≤ cap ∧ cap ≤ 9223372036854775807) (hb : base ≤ w.heap.size) :
    Calls Tryd.prog 41 #[.slice (some ⟨g, 0, none⟩) len cap, .int .i64 len, .slice (some ⟨vb, 0, none⟩) 1 1] w (InsEnd w base g len xs [a, b, c]) := by
  obtain ⟨i0, hi, hz0, hz1, hz2⟩ := info_parts (P := Tryd.prog) (e := 46) (show (Tryd.prog.info? 46).map (fun i => (i.zero, i.size, i.bytes)) = some (some (.agg #[.string ⟨#[]⟩, .string ⟨#[]⟩, .int .i64 0]), 3, 40) by kernel_rfl)
  have hl0 : (0 : Int) ≤ (len : Int) := by omega
  have hlc : (len : Int) ≤ (cap : Int) := by omega
  have hcb : (cap : Int) ≤ 9223372036854775807 := by omega
  have HV := Aside0.mk (World.news_of_block hv)
  have H1 := Aside0.mk (show ∀ u ∈ [a, b, c], u.oneCell' = true from fun u hu => by
    rcases List.mem_cons.1 hu with rfl | hu
    · exact h1.1
    · rcases List.mem_cons.1 hu with rfl | hu
      · exact h1.2.1
      · rw [List.mem_singleton.1 hu]; exact h1.2.2)
  clear hv h1
  go_enter Tryd.func41, Tryd.ntmps41
  go_wp2_with first | (at_builtin; refine wpList_append_lies _ rfl _ _ 23 rfl base 46 i0 _ 3 40 Tryd.underlying23 hi hz0 hz1 hz2 rfl (by decide) (.slice (some ⟨g, 0, none⟩) len cap) len xs rfl hown ⟨vb, 0, none⟩ 1 1 [a, b, c] rfl rfl HV.out H1.out (by decide) (by unfold maxLen; omega) (by omega) hb _ rfl ?_; intro g' cap' w' hown' hgrow' hat' hlt'; have HAT := Aside0.mk hat'; clear hat')
  all_goals
    go_ret
    have hat2 : g' = g ∨ g' = w.heap.size := by
      rcases HAT.out with h | h
      · have h2 : some g = some g' := h
        injection h2 with h2
        exact .inl h2.symm
      · exact .inr h
    exact ⟨g', cap', rfl, hown', hgrow', hat2, hlt'⟩
end Go.Proofs.YtehlmkgldcfciaaDoor.Files
/- The file store as data: maps as lists, what a step may turn, a file and the store in memory. -/
set_option linter.unusedVariables false
set_option linter.unusedSimpArgs false
namespace Go.Proofs.YtehlmkgldcfciaaDoor.Files
open Go.Proofs.YtehlmkgldcfciaaDoor.Common Go.Maps Go.ChangeMaps Go.WideMaps Go.Proofs.YtehlmkgldcfciaaDoor.F
open Go.RowKit Go.Proofs.YtehlmkgldcfciaaDoorW.PrintWords Go.Proofs.YtehlmkgldcfciaaDoorW.PrintLast Go.Proofs.YtehlmkgldcfciaaDoorW.PrintMore
/-! Maps as lists of keys and elements. -/
abbrev Key := List UInt8
def look {α : Type} (l : List (Key × α)) (k : Key) : Option α := (l.find? fun p => decide (p.1 = k)).map (·.2)
theorem look_nil {α : Type} (k : Key) : look ([] : List (Key × α)) k = none := rfl
theorem look_cons {α : Type} (p : Key × α) (l : List (Key × α)) (k : Key) : look (p :: l) k = if p.1 = k then some p.2 else look l k := by
  unfold look
  by_cases h : p.1 = k
  · rw [List.find?_cons_of_pos (by simp [h]), if_pos h]; rfl
  · rw [List.find?_cons_of_neg (by simp [h]), if_neg h]
theorem look_snoc {α : Type} (l : List (Key × α)) (p : Key × α) (k : Key) : look (l ++ [p]) k = match look l k with | some x => some x | none => if p.1 = k then some p.2 else none := by
  induction l with
  | nil => rw [List.nil_append, look_cons]; rfl
  | cons q l ih =>
    rw [List.cons_append, look_cons, look_cons]
    by_cases h : q.1 = k
    · rw [if_pos h, if_pos h]
    · rw [if_neg h, if_neg h, ih]
theorem look_none {α : Type} {l : List (Key × α)} {k : Key} : look l k = none ↔ ∀ p ∈ l, p.1 ≠ k := by
  induction l with
  | nil => simp [look_nil]
  | cons q l ih =>
    rw [look_cons]
    by_cases h : q.1 = k
    · rw [if_pos h]; simp [h]
    · rw [if_neg h, ih]; simp [h]
theorem look_mem {α : Type} {l : List (Key × α)} {k : Key} {x : α} (h : look l k = some x) : (k, x) ∈ l := by
  unfold look at h
  obtain ⟨p, hp, rfl⟩ := Option.map_eq_some_iff.1 h
  have h1 := List.find?_some hp
  have h2 := List.mem_of_find?_eq_some hp
  have h3 : p.1 = k := by simpa using h1
  rw [← h3]
  exact h2
theorem look_of_mem {α : Type} {l : List (Key × α)} (hn : (l.map (·.1)).Nodup) {p : Key × α} (hp : p ∈ l) : look l p.1 = some p.2 := by
  induction l with
  | nil => cases hp
  | cons q l ih =>
    rw [look_cons]
    simp only [List.map_cons, List.nodup_cons] at hn
    rcases List.mem_cons.1 hp with rfl | hp
    · rw [if_pos rfl]
    · rw [if_neg (fun e => hn.1 (by rw [e]; exact List.mem_map.2 ⟨p, hp, rfl⟩)), ih hn.2 hp]
def drop_ {α : Type} (l : List (Key × α)) (k : Key) : List (Key × α) := l.filter fun p => !decide (p.1 = k)
theorem look_drop {α : Type} (l : List (Key × α)) (k k' : Key) : look (drop_ l k) k' = if k' = k then none else look l k' := by
  induction l with
  | nil => simp [drop_, look_nil]
  | cons q l ih =>
    have e : drop_ (q :: l) k = if q.1 = k then drop_ l k else q :: drop_ l k := by
      unfold drop_
      rw [List.filter_cons]
      by_cases h : q.1 = k <;> simp [h]
    rw [e, look_cons]
    by_cases h : q.1 = k
    · rw [if_pos h, ih]
      by_cases h2 : k' = k
      · rw [if_pos h2, if_pos h2]
      · rw [if_neg h2, if_neg h2, if_neg (fun e => h2 (e.symm.trans h))]
    · rw [if_neg h, look_cons, ih]
      by_cases h3 : q.1 = k'
      · rw [if_pos h3, if_pos h3, if_neg (fun e => h (h3.trans e))]
      · rw [if_neg h3, if_neg h3]
theorem drop_length {α : Type} {l : List (Key × α)} (hn : (l.map (·.1)).Nodup) (k : Key) : (drop_ l k).length + (if (look l k).isSome = true then 1 else 0) = l.length := by
  induction l with
  | nil => simp [drop_, look_nil]
  | cons q l ih =>
    simp only [List.map_cons, List.nodup_cons] at hn
    have e : drop_ (q :: l) k = if q.1 = k then drop_ l k else q :: drop_ l k := by
      unfold drop_
      rw [List.filter_cons]
      by_cases h : q.1 = k <;> simp [h]
    have := ih hn.2
    rw [e, look_cons]
    by_cases h : q.1 = k
    · have h0 : look l k = none := look_none.2 fun p hp e2 => hn.1 (by rw [h, ← e2]; exact List.mem_map.2 ⟨p, hp, rfl⟩)
      rw [if_pos h, if_pos h]
      rw [h0] at this
      simp at this ⊢
      omega
    · rw [if_neg h, if_neg h, List.length_cons, List.length_cons]
      omega
structure MapIs (D : DataW Unit) (l : List (Key × DataW Unit)) : Prop where
  at_ : ∀ k z, D.atKey (.string k) z = (look l k).getD z
  has : ∀ k, Maps.has D (.string k) = (look l k).isSome
  size : Maps.size D = l.length
  tidy : Maps.Tidy D
theorem MapIs.nil : MapIs (.map []) [] := ⟨fun k z => rfl, fun k => rfl, rfl, tidy_empty⟩
theorem key_ne {k k' : Key} (h : k' ≠ k) : (Lit.string k') ≠ (Lit.string k) := fun e => h (by injection e)
theorem MapIs.put {D : DataW Unit} {l : List (Key × DataW Unit)} (h : MapIs D l) (k : Key) (d : DataW Unit) (hn : look l k = none) : MapIs (D.put (.string k) d) (l ++ [(k, d)]) := by
  have hk : WideAt.IsKeyLit (.string k) := trivial
  refine ⟨fun k' z => ?_, fun k' => ?_, ?_, h.tidy.put hk d⟩
  · rw [look_snoc]
    by_cases e : k' = k
    · subst e
      rw [atKey_put_same h.tidy.isMap hk, hn]
      simp
    · rw [atKey_put_other (key_ne e), h.at_]
      cases look l k' with
      | some x => rfl
      | none => show z = (if k = k' then some d else none).getD z; rw [if_neg (fun e2 => e (Eq.symm e2))]; rfl
  · rw [look_snoc]
    by_cases e : k' = k
    · subst e
      rw [has_put_same h.tidy.isMap hk, hn]
      simp
    · rw [has_put_other (key_ne e), h.has]
      cases look l k' with
      | some x => rfl
      | none => show false = (if k = k' then some d else none).isSome; rw [if_neg (fun e2 => e (Eq.symm e2))]; rfl
  · rw [size_put h.tidy, h.has, hn, h.size]
    simp
theorem MapIs.del {D : DataW Unit} {l : List (Key × DataW Unit)} (h : MapIs D l) (hn : (l.map (·.1)).Nodup) (k : Key) : MapIs (D.del (.string k)) (drop_ l k) := by
  refine ⟨fun k' z => ?_, fun k' => ?_, ?_, h.tidy.del _⟩
  · rw [look_drop]
    by_cases e : k' = k
    · subst e
      rw [atKey_del_same, if_pos rfl]; rfl
    · rw [atKey_del_other (key_ne e), h.at_, if_neg e]
  · rw [look_drop]
    by_cases e : k' = k
    · subst e
      rw [has_del_same, if_pos rfl]; rfl
    · rw [has_del_other (key_ne e), h.has, if_neg e]
  · have h1 := size_del (k := .string k) h.tidy
    have h2 := drop_length hn k
    rw [h.has, h.size] at h1
    omega
theorem ownsMap_tight {w : World} {k b n : Nat} {R : Value → Option (DataW Unit × List MemPlace)} {D : DataW Unit} (h : w.ownsMap Tryd.prog k R b n D) : w.ownsMap Tryd.prog k R b (Maps.size D) D := by
  obtain ⟨es, clock, hb, F, hs, rfl⟩ := h
  exact ⟨es, clock, hb, F, by simp [Maps.size, length_sorted], rfl⟩
/-! What a step may turn. -/
structure Chg (W W' : World) (S : Nat → Prop) : Prop where
  os : W'.os = W.os
  tape : W'.tape = W.tape
  output : W'.output = W.output
  size : W.heap.size ≤ W'.heap.size
  block : ∀ k, k < W.heap.size → ¬ S k → W'.heap[k]? = W.heap[k]?
theorem Chg.refl (W : World) (S : Nat → Prop) : Chg W W S := ⟨rfl, rfl, rfl, Nat.le_refl _, fun _ _ _ => rfl⟩
theorem Chg.of_below {W W' : World} (h : Below W.heap.size W W') (S : Nat → Prop) : Chg W W' S := ⟨h.os, h.tape, h.output, h.size, fun k hk _ => h.block k hk⟩
theorem Chg.below0 {W W' : World} {S : Nat → Prop} (h : Chg W W' S) (hS : ∀ k, ¬ S k) : Below W.heap.size W W' := ⟨h.os, h.tape, h.output, h.size, fun k hk => h.block k hk (hS k)⟩
theorem Chg.below {B : Nat} {W W' : World} {S : Nat → Prop} (h : Chg W W' S) (hB : B ≤ W.heap.size) (hS : ∀ k, S k → B ≤ k) : Below B W W' := ⟨h.os, h.tape, h.output, h.size, fun k hk => h.block k (by omega) (fun hs => by have := hS k hs; omega)⟩
theorem Chg.of_grown {W W' : World} {row : Option Nat} (h : W.grownBy W' row) {S : Nat → Prop} (hS : ∀ k, some k = row → S k) : Chg W W' S := ⟨h.os, h.tape, h.output, h.size, fun k hk hs => h.block k hk (fun e => hs (hS k e))⟩
theorem Chg.of_set (W : World) (p : Addr) (u : Value) {S : Nat → Prop} (hS : S p.block) : Chg W (W.setCell p u) S := ⟨rfl, rfl, rfl, by simp [World.setCell], fun k _ hs => Below.heap_setCell _ _ _ _ (fun e => hs (by rw [e]; exact hS))⟩
theorem Chg.of_turned {W W' : World} {b : Nat} (h : W.mapTurned W' b) {S : Nat → Prop} (hS : S b) : Chg W W' S := Chg.of_grown h.grown (fun k e => by injection e with e; rw [e]; exact hS)
theorem Chg.mono {W W' : World} {S T : Nat → Prop} (h : Chg W W' S) (hST : ∀ k, S k → T k) : Chg W W' T := ⟨h.os, h.tape, h.output, h.size, fun k hk ht => h.block k hk (fun hs => ht (hST k hs))⟩
theorem Chg.trans {W W1 W2 : World} {S T : Nat → Prop} (h : Chg W W1 S) (k : Chg W1 W2 T) (hT : ∀ i, T i → S i ∨ W.heap.size ≤ i) : Chg W W2 S :=
  ⟨k.os.trans h.os, k.tape.trans h.tape, k.output.trans h.output, Nat.le_trans h.size k.size, fun i hi hs =>
    (k.block i (Nat.lt_of_lt_of_le hi h.size) (fun ht => (hT i ht).elim hs (fun hle => absurd hi (Nat.not_lt.2 hle)))).trans (h.block i hi hs)⟩
theorem Chg.cell {W W' : World} {S : Nat → Prop} (h : Chg W W' S) {p : Addr} (hp : p.block < W.heap.size) (hs : ¬ S p.block) : W'.cell? p = W.cell? p := World.cell?_of_block (w := W) (h.block p.block hp hs)
theorem Chg.map {W W' : World} {S : Nat → Prop} (h : Chg W W' S) {k : Nat} {R : Value → Option (DataW Unit × List MemPlace)} {b n : Nat} {D : DataW Unit} (ho : W.ownsMap Tryd.prog k R b n D) (hs : ¬ S b) : W'.ownsMap Tryd.prog k R b n D := by
  have hlt := ho.lt
  obtain ⟨es, clock, hb, F, hs', hD⟩ := ho
  exact ⟨es, clock, (h.block b hlt hs).trans hb, F, hs', hD⟩
theorem Chg.row {α : Type} {d : Kd α} {e base : Nat} {ok : Nat → Prop} {v : Value} {xs : List α} {W W' : World} {S : Nat → Prop} (h : Chg W W' S) (hr : d.R e W base ok v xs) (hs : ∀ k, ok k → ¬ S k) : d.R e W' base ok v xs :=
  Kd.R_step hr (fun k hk hlt => h.block k hlt (hs k hk))
/-! A file. -/
structure AF where
  F : FS
  rules : List S105
  units : List S46
  users : List (ByteArray × (Int × Int))
def AF.key (f : AF) : Key := f.F.name.data.toList
def openD (p : Int × Int) : DataW Unit := .agg [.lit (.int .i64 p.1), .lit (.int .i64 p.2)]
def usersL (l : List (ByteArray × (Int × Int))) : List (Key × DataW Unit) := l.map fun p => (p.1.data.toList, openD p.2)
def lookU (l : List (ByteArray × (Int × Int))) (u : ByteArray) : Option (Int × Int) := (l.find? fun p => decide (p.1 = u)).map (·.2)
theorem data_inj {a b : ByteArray} (h : a.data.toList = b.data.toList) : a = b := by
  cases a; cases b
  simpa using h
theorem look_users (l : List (ByteArray × (Int × Int))) (u : ByteArray) : look (usersL l) u.data.toList = (lookU l u).map openD := by
  induction l with
  | nil => rfl
  | cons p l ih =>
    show look ((p.1.data.toList, openD p.2) :: usersL l) _ = _
    rw [look_cons]
    unfold lookU at ih ⊢
    by_cases h : p.1 = u
    · rw [if_pos (by rw [h]), List.find?_cons_of_pos (by simp [h])]; rfl
    · rw [if_neg (fun e => h (data_inj e)), List.find?_cons_of_neg (by simp [h]), ih]
structure FileParts (W : World) (ok : Nat → Prop) (fb : Nat) (f : AF) (A : Option Addr) (rc : Nat) (uv : Value) (ub : Nat) (DU : DataW Unit) : Prop where
  okb : ok fb
  F : FileAt W fb f.F (.slice A f.rules.length rc) uv ub
  rules : Kd.R k105 105 W 0 ok (.slice A f.rules.length rc) f.rules
  units : Kd.R k46 46 W 0 ok uv f.units
  oku : ok ub
  U : W.ownsMap Tryd.prog 9 Ro ub (Maps.size DU) DU
  mU : MapIs DU (usersL f.users)
def FileRep (W : World) (ok : Nat → Prop) (fb : Nat) (f : AF) : Prop := ∃ A rc uv ub DU, FileParts W ok fb f A rc uv ub DU
theorem FileParts.step {W W' : World} {S ok : Nat → Prop} {fb rc ub : Nat} {f : AF} {A : Option Addr} {uv : Value} {DU : DataW Unit} (h : FileParts W ok fb f A rc uv ub DU) (hc : Chg W W' S) (hs : ∀ k, ok k → ¬ S k) : FileParts W' ok fb f A rc uv ub DU :=
  ⟨h.okb, (hc.block fb (blk_lt h.F) (hs fb h.okb)).trans h.F, hc.row h.rules hs, hc.row h.units hs, h.oku, hc.map h.U (hs ub h.oku), h.mU⟩
theorem FileParts.mono {W : World} {ok ok' : Nat → Prop} {fb rc ub : Nat} {f : AF} {A : Option Addr} {uv : Value} {DU : DataW Unit} (h : FileParts W ok fb f A rc uv ub DU) (hs : ∀ k, ok k → ok' k) : FileParts W ok' fb f A rc uv ub DU :=
  ⟨hs _ h.okb, h.F, Kd.R_mono h.rules hs, Kd.R_mono h.units hs, hs _ h.oku, h.U, h.mU⟩
theorem FileParts.below {W W' : World} {ok : Nat → Prop} {fb rc ub : Nat} {f : AF} {A : Option Addr} {uv : Value} {DU : DataW Unit} (h : FileParts W ok fb f A rc uv ub DU) (hb : Below W.heap.size W W') : FileParts W' ok fb f A rc uv ub DU :=
  h.step (Chg.of_below hb (fun _ => False)) (fun _ _ h => h)
theorem FileRep.step {W W' : World} {S ok : Nat → Prop} {fb : Nat} {f : AF} (h : FileRep W ok fb f) (hc : Chg W W' S) (hs : ∀ k, ok k → ¬ S k) : FileRep W' ok fb f := by
  obtain ⟨A, rc, uv, ub, DU, h⟩ := h
  exact ⟨A, rc, uv, ub, DU, h.step hc hs⟩
theorem FileRep.mono {W : World} {ok ok' : Nat → Prop} {fb : Nat} {f : AF} (h : FileRep W ok fb f) (hs : ∀ k, ok k → ok' k) : FileRep W ok' fb f := by
  obtain ⟨A, rc, uv, ub, DU, h⟩ := h
  exact ⟨A, rc, uv, ub, DU, h.mono hs⟩
/-! The way to a file, and the store. -/
structure View (W : World) (sb mb : Nat) (D : DataW Unit) (u n : ByteArray) : Prop where
  c0 : W.cell? ⟨sb, 0, none⟩ = some (.map (some mb))
  M : W.ownsMap Tryd.prog 9 Rp mb (Maps.size D) D
  hu : 1 ≤ u.size ∧ u.size ≤ 20
  hn : 1 ≤ n.size ∧ n.size ≤ 30
theorem View.below {W W' : World} {sb mb : Nat} {D : DataW Unit} {u n : ByteArray} (h : View W sb mb D u n) (hb : Below W.heap.size W W') : View W' sb mb D u n :=
  ⟨pw_cell_below hb h.c0, (Chg.of_below hb (fun _ => False)).map h.M (fun h => h), h.hu, h.hn⟩
structure StoreParts (W : World) (ok : Nat → Prop) (sb : Nat) (L : List (Nat × AF)) (mb : Nat) (D : DataW Unit) (own : Nat → Nat) : Prop where
  oks : ok sb
  okm : ok mb
  S : Boxed W sb 77 (.map (some mb))
  M : W.ownsMap Tryd.prog 9 Rp mb (Maps.size D) D
  mM : MapIs D (L.map fun p => (p.2.key, .lit (.int .i64 p.1)))
  files : ∀ p ∈ L, FileRep W (fun k => ok k ∧ own k = p.1) p.1 p.2
  ownm : ∀ p ∈ L, own mb ≠ p.1 ∧ own sb ≠ p.1
  lt : ∀ k, ok k → k < W.heap.size
  fbs : (L.map (·.1)).Nodup
  names : (L.map (·.2.key)).Nodup
def StoreRep (W : World) (ok : Nat → Prop) (sb : Nat) (L : List (Nat × AF)) : Prop := ∃ mb D own, StoreParts W ok sb L mb D own
end Go.Proofs.YtehlmkgldcfciaaDoor.Files
/- The file store: units as a tree; the ways to a file, to an opened file and to a unit, and how each may fail. -/
set_option linter.unusedVariables false
set_option linter.unusedSimpArgs false
namespace Go.Proofs.YtehlmkgldcfciaaDoor.Files
open Go.Proofs.YtehlmkgldcfciaaDoor.Common Go.Maps Go.ChangeMaps Go.WideMaps Go.Proofs.YtehlmkgldcfciaaDoor.F
open Go.RowKit Go.Proofs.YtehlmkgldcfciaaDoorW.PrintWords Go.Proofs.YtehlmkgldcfciaaDoorW.PrintLast Go.Proofs.YtehlmkgldcfciaaDoorW.PrintMore
/-! Units as a tree. -/
def lv (l : List S46) (i : Nat) : Int := (rd_T46 l (i : Int)).f2
def nm (l : List S46) (i : Nat) : ByteArray := (rd_T46 l (i : Int)).f0
theorem rd_get (l : List S46) (i : Nat) (h : i < l.length) : rd_T46 l (i : Int) = l[i] := by simp [rd_T46, List.getElem?_eq_getElem h]
theorem drop_at (l : List S46) (i : Nat) (h : i < l.length) : l.drop i = rd_T46 l (i : Int) :: l.drop (i + 1) := by rw [List.drop_eq_getElem_cons h, rd_get l i h]
def runLen (lev : Int) : List S46 → Nat
  | [] => 0
  | u :: r => if u.f2 > lev then runLen lev r + 1 else 0
theorem runLen_cons (lev : Int) (u : S46) (r : List S46) : runLen lev (u :: r) = if u.f2 > lev then runLen lev r + 1 else 0 := rfl
theorem runLen_le (lev : Int) : ∀ l, runLen lev l ≤ l.length
  | [] => Nat.le_refl _
  | u :: r => by
    unfold runLen
    have := runLen_le lev r
    split
    · rw [List.length_cons]; omega
    · exact Nat.zero_le _
def endOf (l : List S46) (i : Nat) : Nat := i + 1 + runLen (lv l i) (l.drop (i + 1))
theorem endOf_le {l : List S46} {i : Nat} (h : i < l.length) : i + 1 ≤ endOf l i ∧ endOf l i ≤ l.length := by
  have := runLen_le (lv l i) (l.drop (i + 1))
  rw [List.length_drop] at this
  unfold endOf
  omega
def kidsFrom (lev : Int) : Nat → List S46 → List Int
  | _, [] => []
  | i, u :: r => if u.f2 > lev then (if u.f2 = lev + 1 then (i : Int) :: kidsFrom lev (i + 1) r else kidsFrom lev (i + 1) r) else []
theorem kidsFrom_len (lev : Int) : ∀ i l, (kidsFrom lev i l).length ≤ l.length
  | _, [] => Nat.le_refl _
  | i, u :: r => by
    unfold kidsFrom
    have := kidsFrom_len lev (i + 1) r
    split
    · split <;> simp only [List.length_cons] <;> omega
    · exact Nat.zero_le _
theorem kidsFrom_in (lev : Int) : ∀ i l, ∀ x ∈ kidsFrom lev i l, (i : Int) ≤ x ∧ x < (i + l.length : Nat)
  | _, [] => by simp [kidsFrom]
  | i, u :: r => by
    unfold kidsFrom
    have ih := kidsFrom_in lev (i + 1) r
    intro x hx
    split at hx
    · split at hx
      · rcases List.mem_cons.1 hx with rfl | hx
        · simp only [List.length_cons]; omega
        · have := ih x hx; simp only [List.length_cons]; omega
      · have := ih x hx; simp only [List.length_cons]; omega
    · cases hx
def kids (l : List S46) (i : Nat) : List Int := kidsFrom (lv l i) (i + 1) (l.drop (i + 1))
theorem kids_in {l : List S46} {i : Nat} (h : i < l.length) : ∀ x ∈ kids l i, (0 : Int) ≤ x ∧ x < (l.length : Int) := fun x hx => by
  have := kidsFrom_in _ _ _ x hx
  rw [List.length_drop] at this
  omega
theorem kids_len {l : List S46} {i : Nat} (h : i < l.length) : (kids l i).length ≤ l.length := by
  have := kidsFrom_len (lv l i) (i + 1) (l.drop (i + 1))
  rw [List.length_drop] at this
  unfold kids
  omega
theorem wr (j n : Nat) (h : j < n) (hn : n ≤ 9223372036854775807) : wrap64 ((j : Int) + 1) = ((j + 1 : Nat) : Int) := by unfold wrap64; omega
theorem beyond_l0 (l : List S46) (i : Nat) (hi : i < l.length) (hl : l.length ≤ 9223372036854775807) : ∀ (d j k : Nat), l.length - j = d → j ≤ l.length → d < k → files_beyond.l0 k l (i : Int) (j : Int) = some ((j + runLen (lv l i) (l.drop j) : Nat) : Int)
  | 0, j, k, hd, hj, hk => by
    obtain ⟨k, rfl⟩ : ∃ m, k = m + 1 := ⟨k - 1, by omega⟩
    obtain rfl : j = l.length := by omega
    simp only [files_beyond.l0]
    rw [if_neg (by omega), List.drop_length]
    simp [runLen]
  | d + 1, j, k, hd, hj, hk => by
    obtain ⟨k, rfl⟩ : ∃ m, k = m + 1 := ⟨k - 1, by omega⟩
    have ih := beyond_l0 l i hi hl d (j + 1) k (by omega) (by omega) (by omega)
    simp only [files_beyond.l0]
    rw [if_pos (by omega), if_pos (by omega), if_pos (by omega), if_pos (by omega), drop_at l j (by omega), wr j l.length (by omega) hl, ih]
    rw [runLen_cons]
    show (if (rd_T46 l (j : Int)).f2 > lv l i then _ else _) = _
    by_cases c : (rd_T46 l (j : Int)).f2 > lv l i
    · rw [if_pos c, if_pos c]; congr 1; omega
    · rw [if_neg c, if_neg c]; rfl
theorem beyond_f (l : List S46) (i : Nat) (hi : i < l.length) (hl : l.length ≤ 9223372036854775807) : files_beyond.f (l.length + 1) l (i : Int) = some (endOf l i : Int) := by
  unfold files_beyond.f
  rw [wr i l.length hi hl, beyond_l0 l i hi hl _ (i + 1) _ rfl (by omega) (by omega)]
  all_goals rfl
theorem children_l0 (l : List S46) (i : Nat) (hi : i < l.length) (hl : l.length ≤ 1000000000) (hv : wrap64 (lv l i + 1) = lv l i + 1) : ∀ (d j k : Nat) (acc : List Int), l.length - j = d → j ≤ l.length → 2 * d + 1 < k → acc.length ≤ j → files_children.l0 k l (i : Int) acc (j : Int) = some (acc ++ kidsFrom (lv l i) j (l.drop j))
  | 0, j, k, acc, hd, hj, hk, ha => by
    obtain ⟨k, rfl⟩ : ∃ m, k = m + 2 := ⟨k - 2, by omega⟩
    obtain rfl : j = l.length := by omega
    simp only [files_children.l0, files_children.j1]
    rw [if_neg (by omega), if_neg (by simp), List.drop_length]
    simp [kidsFrom]
  | d + 1, j, k, acc, hd, hj, hk, ha => by
    obtain ⟨k, rfl⟩ : ∃ m, k = m + 2 := ⟨k - 2, by omega⟩
    have ih := fun acc h => children_l0 l i hi hl hv d (j + 1) k acc (by omega) (by omega) (by omega) h
    simp only [files_children.l0, files_children.j1]
    rw [if_pos (by omega), if_pos (by omega), if_pos (by omega), if_pos (by omega), drop_at l j (by omega)]
    unfold kidsFrom
    show (if decide ((rd_T46 l (j : Int)).f2 > lv l i) = true then _ else _) = _
    by_cases c : (rd_T46 l (j : Int)).f2 > lv l i
    · rw [if_pos (by simp [c]), if_pos (by omega), if_pos (by omega), if_pos (by omega), if_pos (by omega), wr j l.length (by omega) (by omega), if_pos c]
      show (if (rd_T46 l (j : Int)).f2 = wrap64 (lv l i + 1) then _ else _) = _
      rw [hv]
      by_cases c2 : (rd_T46 l (j : Int)).f2 = lv l i + 1
      · rw [if_pos c2, if_pos c2, if_pos (by omega), ih _ (by simp; omega), List.append_assoc]; rfl
      · rw [if_neg c2, if_neg c2, ih _ (by omega)]
    · rw [if_neg (by simp [c]), if_neg c]; simp
theorem children_f (l : List S46) (i : Nat) (hi : i < l.length) (hl : l.length ≤ 1000000000) (hv : wrap64 (lv l i + 1) = lv l i + 1) : files_children.f (2 * l.length + 2) l (i : Int) = some (kids l i) := by
  unfold files_children.f
  rw [wr i l.length hi (by omega), children_l0 l i hi hl hv _ (i + 1) _ [] rfl (by omega) (by omega) (by simp)]
  all_goals rfl
theorem beyond_c (A : Option Addr) (c i : Nat) (l : List S46) (W : World) (hr : Kd.C k46 W A l.length l) (hc : l.length ≤ c) (hi : i < l.length) :
    Calls Tryd.prog 42 #[.slice A l.length c, .int .i64 (i : Int)] W fun e w' => e = .returned (.int .i64 (endOf l i : Int)) ∧ Drawn0 W w' :=
  files_beyond.calls _ A c l (i : Int) _ W hr hc (beyond_f l i hi hr.2.1)
theorem children_c (A : Option Addr) (c i : Nat) (l : List S46) (W : World) (hr : Kd.C k46 W A l.length l) (hc : l.length ≤ c) (hi : i < l.length) (hl : l.length ≤ 1000000000) (hv : wrap64 (lv l i + 1) = lv l i + 1) :
    Calls Tryd.prog 23 #[.slice A l.length c, .int .i64 (i : Int)] W fun e w' => ∃ v : Value, e = .returned v ∧ Kd.R (Kd.int .i64) 3 w' W.heap.size (fun _ => True) v (kids l i) ∧ Below W.heap.size W w' :=
  files_children.calls _ A c l (i : Int) _ W hr hc (children_f l i hi hl hv)
/-! The ways to a file. -/
def FoundErr (W : World) (sp : Value) (u n : ByteArray) (E : Int) : Prop := E ≠ 0 ∧ ∀ W', Below W.heap.size W W' → Calls Tryd.prog 38 #[sp, .string u, .string n] W' fun e w' => e = .returned (.tuple #[.pointer none, .int .i64 E]) ∧ W' = w'
def FoundOk (W : World) (sp : Value) (u n : ByteArray) (fb : Nat) : Prop := ∀ W', Below W.heap.size W W' → Calls Tryd.prog 38 #[sp, .string u, .string n] W' fun e w' => e = .returned (.tuple #[.pointer (some ⟨fb, 0, none⟩), .int .i64 0]) ∧ W' = w'
def OpenedErr (W : World) (sp : Value) (u n : ByteArray) (action E : Int) : Prop := E ≠ 0 ∧ ∀ W', Below W.heap.size W W' → Calls Tryd.prog 56 #[sp, .string u, .string n, .int .i64 action] W' fun e w' => e = .returned (.tuple #[.pointer none, .int .i64 E, .int .i64 E]) ∧ Below W'.heap.size W' w'
def OpenedOk (W : World) (sp : Value) (u n : ByteArray) (action : Int) (fb : Nat) (dn : Int) : Prop := ∀ W', Below W.heap.size W W' → Calls Tryd.prog 56 #[sp, .string u, .string n, .int .i64 action] W' fun e w' => e = .returned (.tuple #[.pointer (some ⟨fb, 0, none⟩), .int .i64 0, .int .i64 dn]) ∧ Below W'.heap.size W' w'
def UnitErr (W : World) (sp : Value) (u n : ByteArray) (at_ action E : Int) : Prop := E ≠ 0 ∧ ∀ W', Below W.heap.size W W' → Calls Tryd.prog 40 #[sp, .string u, .string n, .int .i64 at_, .int .i64 action] W' fun e w' => ∃ dn : Int, e = .returned (.tuple #[.pointer none, .int .i64 E, .int .i64 dn]) ∧ Below W'.heap.size W' w'
def UnitOk (W : World) (sp : Value) (u n : ByteArray) (at_ action : Int) (fb : Nat) (dn : Int) : Prop := ∀ W', Below W.heap.size W W' → Calls Tryd.prog 40 #[sp, .string u, .string n, .int .i64 at_, .int .i64 action] W' fun e w' => e = .returned (.tuple #[.pointer (some ⟨fb, 0, none⟩), .int .i64 0, .int .i64 dn]) ∧ Below W'.heap.size W' w'
def userB (u : ByteArray) : Bool := decide (1 ≤ u.size) && decide (u.size ≤ 20)
def nameB (u : ByteArray) : Bool := decide (1 ≤ u.size) && decide (u.size ≤ 30)
/-- found refuses at once: no store, or no user, or no name. -/
theorem found_no (sp : Value) (u n : ByteArray) (W : World) (hno : Calls Tryd.prog 34 #[sp] W fun e w' => e = .returned (.bool true) ∧ W = w') :
    Calls Tryd.prog 38 #[sp, .string u, .string n] W fun e w' => e = .returned (.tuple #[.pointer none, .int .i64 1]) ∧ W = w' := by
  have HN := Aside0.mk hno
  clear hno
  go_enter Tryd.func38, Tryd.ntmps38
  go_wp2_with first | (go_at_call 34; refine HN.out.mono ?_; rintro e w' ⟨rfl, rfl⟩)
  refine bodyPost_ret (v := .tuple #[.pointer none, .int .i64 1]) (by simp [results, Tryd.f38, go_sem]) rfl ?_
  exact ⟨rfl, rfl⟩
theorem found_user (sb mb : Nat) (u n : ByteArray) (W : World) (c0 : W.cell? ⟨sb, 0, none⟩ = some (.map (some mb))) (hu : userB u = false) :
    Calls Tryd.prog 38 #[.pointer (some ⟨sb, 0, none⟩), .string u, .string n] W fun e w' => e = .returned (.tuple #[.pointer none, .int .i64 1]) ∧ W = w' := by
  have HN := Aside0.mk (no_live sb mb W c0)
  have CU := Aside0.mk (user_c u W)
  rw [show (decide (1 ≤ u.size) && decide (u.size ≤ 20)) = false from hu] at CU
  clear c0 hu
  go_enter Tryd.func38, Tryd.ntmps38
  go_wp2_with first | (go_at_call 34; refine HN.out.mono ?_; rintro e w' ⟨rfl, rfl⟩) | (go_at_call 35; refine CU.out.mono ?_; rintro e w' ⟨rfl, rfl⟩)
  refine bodyPost_ret (v := .tuple #[.pointer none, .int .i64 1]) (by simp [results, Tryd.f38, go_sem]) rfl ?_
  exact ⟨rfl, rfl⟩
theorem found_name (sb mb : Nat) (u n : ByteArray) (W : World) (c0 : W.cell? ⟨sb, 0, none⟩ = some (.map (some mb))) (hu : userB u = true) (hn : nameB n = false) :
    Calls Tryd.prog 38 #[.pointer (some ⟨sb, 0, none⟩), .string u, .string n] W fun e w' => e = .returned (.tuple #[.pointer none, .int .i64 1]) ∧ W = w' := by
  have HN := Aside0.mk (no_live sb mb W c0)
  have CU := Aside0.mk (user_c u W)
  rw [show (decide (1 ≤ u.size) && decide (u.size ≤ 20)) = true from hu] at CU
  have CM := Aside0.mk (name_c n W)
  rw [show (decide (1 ≤ n.size) && decide (n.size ≤ 30)) = false from hn] at CM
  clear c0 hu hn
  go_enter Tryd.func38, Tryd.ntmps38
  go_wp2_with first | (go_at_call 34; refine HN.out.mono ?_; rintro e w' ⟨rfl, rfl⟩) | (go_at_call 35; refine CU.out.mono ?_; rintro e w' ⟨rfl, rfl⟩) | (go_at_call 36; refine CM.out.mono ?_; rintro e w' ⟨rfl, rfl⟩)
  refine bodyPost_ret (v := .tuple #[.pointer none, .int .i64 1]) (by simp [results, Tryd.f38, go_sem]) rfl ?_
  exact ⟨rfl, rfl⟩
theorem B_user {u : ByteArray} (h : 1 ≤ u.size ∧ u.size ≤ 20) : (decide (1 ≤ u.size) && decide (u.size ≤ 20)) = true := by simp [h.1, h.2]
theorem B_name {u : ByteArray} (h : 1 ≤ u.size ∧ u.size ≤ 30) : (decide (1 ≤ u.size) && decide (u.size ≤ 30)) = true := by simp [h.1, h.2]
theorem found_none (sb mb : Nat) (D : DataW Unit) (u n : ByteArray) (W : World) (V : View W sb mb D u n) (hD : D.atKey (.string n.data.toList) .nil = .nil) :
    Calls Tryd.prog 38 #[.pointer (some ⟨sb, 0, none⟩), .string u, .string n] W fun e w' => e = .returned (.tuple #[.pointer none, .int .i64 3]) ∧ W = w' := by
  have hkey := key_of V.hn.2
  obtain ⟨v, ps, hrun, hv⟩ := V.M.lookup law9 Tryd.underlying75 (zeroP _) (zd := .nil) (zp := []) rfl hkey
  rw [hD] at hv
  obtain rfl := Rp_nil hv
  have c0 := V.c0
  have HN := Aside0.mk (no_live sb mb W c0)
  have CU := Aside0.mk (user_c u W)
  have CN := Aside0.mk (name_c n W)
  rw [B_user V.hu] at CU
  rw [B_name V.hn] at CN
  clear hv V hD
  go_enter Tryd.func38, Tryd.ntmps38
  go_wp2_with first | (go_at_call 34; refine HN.out.mono ?_; rintro e w' ⟨rfl, rfl⟩) | (go_at_call 35; refine CU.out.mono ?_; rintro e w' ⟨rfl, rfl⟩) | (go_at_call 36; refine CN.out.mono ?_; rintro e w' ⟨rfl, rfl⟩)
  refine bodyPost_ret (v := .tuple #[.pointer none, .int .i64 3]) (by simp [results, Tryd.f38, go_sem]) rfl ?_
  exact ⟨rfl, rfl⟩
theorem View.found {sb mb fb : Nat} {D : DataW Unit} {u n : ByteArray} {W : World} (V : View W sb mb D u n) (hD : D.atKey (.string n.data.toList) .nil = .lit (.int .i64 (fb : Nat))) : FoundOk W (.pointer (some ⟨sb, 0, none⟩)) u n fb :=
  fun W' hb => have V' := V.below hb; found_c sb mb _ fb D u n W' V'.c0 V'.M V'.hu V'.hn hD
theorem opened_err (sp : Value) (u n : ByteArray) (action E : Int) (W : World) (HF : FoundErr W sp u n E) : OpenedErr W sp u n action E := by
  obtain ⟨hE, hf⟩ := HF
  refine ⟨hE, fun W' hb => ?_⟩
  have CF := Aside0.mk (hf W' hb)
  have hE' : (E == 0) = false := by simpa using hE
  have hE2 : (E != 0) = true := by simpa using hE
  clear hf hE hb
  go_enter Tryd.func56, Tryd.ntmps56
  go_wp2_with first | (go_at_call 38; refine CF.out.mono ?_; rintro e w' ⟨rfl, rfl⟩)
  go_ret3
  exact ⟨rfl, Below.refl _ _⟩
theorem opened_not (sp : Value) (u n : ByteArray) (action : Int) (W : World) (ok : Nat → Prop) (fb rc ub : Nat) (f : AF) (A : Option Addr) (uv : Value) (DU : DataW Unit) (HF : FoundOk W sp u n fb) (P : FileParts W ok fb f A rc uv ub DU) (hu : u.size ≤ 30) (hl : lookU f.users u = none) : OpenedErr W sp u n action 8 := by
  refine ⟨by decide, fun W' hb => ?_⟩
  have P' := P.below hb
  have hkey := key_of hu
  obtain ⟨v, ps, hrun, hv⟩ := P'.U.look_ok law9 Tryd.underlying84 (zeroO _) (zd := .agg [.lit (.int .i64 0), .lit (.int .i64 0)]) (zp := []) rfl hkey
  have hh : Maps.has DU (.string u.data.toList) = false := by rw [P'.mU.has, look_users, hl]; rfl
  rw [atKey_of_not_has hh] at hv
  obtain rfl := Ro_at hv
  rw [hh] at hrun
  have c9 : W'.cell? ⟨fb, 9, none⟩ = some (.map (some ub)) := (blk_cell P'.F 9).trans rfl
  have CF := Aside0.mk (HF W' hb)
  clear HF P P' hb hh hv hl
  go_enter Tryd.func56, Tryd.ntmps56
  go_wp2_with first | (go_at_call 38; refine CF.out.mono ?_; rintro e w' ⟨rfl, rfl⟩)
  go_ret3
  exact ⟨rfl, (Below.refl _ _).alloc (Nat.le_refl _) _⟩
/-- What is refused to a user who has the file open: an action that is not his. -/
def denied (a action : Int) : Int := if bits .and .i64 a action = 0 then 12 else 0
theorem opened_ok (sp : Value) (u n : ByteArray) (action : Int) (W : World) (ok : Nat → Prop) (fb rc ub : Nat) (f : AF) (A : Option Addr) (uv : Value) (DU : DataW Unit) (a b : Int) (HF : FoundOk W sp u n fb) (P : FileParts W ok fb f A rc uv ub DU) (hu : u.size ≤ 30) (hl : lookU f.users u = some (a, b)) : OpenedOk W sp u n action fb (denied a action) := by
  intro W' hb
  have P' := P.below hb
  have hkey := key_of hu
  obtain ⟨v, ps, hrun, hv⟩ := P'.U.look_ok law9 Tryd.underlying84 (zeroO _) (zd := .agg [.lit (.int .i64 0), .lit (.int .i64 0)]) (zp := []) rfl hkey
  have hh : Maps.has DU (.string u.data.toList) = true := by rw [P'.mU.has, look_users, hl]; rfl
  have hat : DU.atKey (.string u.data.toList) (.agg [.lit (.int .i64 0), .lit (.int .i64 0)]) = .agg [.lit (.int .i64 a), .lit (.int .i64 b)] := by rw [P'.mU.at_, look_users, hl]; rfl
  rw [hat] at hv
  obtain rfl := Ro_at hv
  rw [hh] at hrun
  have c9 : W'.cell? ⟨fb, 9, none⟩ = some (.map (some ub)) := (blk_cell P'.F 9).trans rfl
  have CF := Aside0.mk (HF W' hb)
  clear HF P P' hb hh hv hl hat
  unfold denied
  by_cases h0 : bits .and .i64 a action = 0
  · have h0' : (bits .and .i64 a action == 0) = true := by simpa using h0
    rw [if_pos h0]
    clear h0
    go_enter Tryd.func56, Tryd.ntmps56
    go_wp2_with first | (go_at_call 38; refine CF.out.mono ?_; rintro e w' ⟨rfl, rfl⟩)
    go_ret3
    exact ⟨rfl, (Below.refl _ _).alloc (Nat.le_refl _) _⟩
  · have h0' : (bits .and .i64 a action == 0) = false := by simpa using h0
    rw [if_neg h0]
    clear h0
    go_enter Tryd.func56, Tryd.ntmps56
    go_wp2_with first | (go_at_call 38; refine CF.out.mono ?_; rintro e w' ⟨rfl, rfl⟩)
    go_ret3
    exact ⟨rfl, (Below.refl _ _).alloc (Nat.le_refl _) _⟩
theorem unit_neg (sp : Value) (u n : ByteArray) (at_ action : Int) (W : World) (h : at_ < 0) : UnitErr W sp u n at_ action 1 := by
  refine ⟨by decide, fun W' hb => ?_⟩
  have h0 : decide (at_ < 0) = true := decide_eq_true h
  clear hb h
  go_enter Tryd.func40, Tryd.ntmps40
  go_wp2
  go_ret3
  exact ⟨_, rfl, Below.refl _ _⟩
theorem unit_err (sp : Value) (u n : ByteArray) (at_ action E : Int) (W : World) (h : 0 ≤ at_) (HO : OpenedErr W sp u n action E) : UnitErr W sp u n at_ action E := by
  obtain ⟨hE, ho⟩ := HO
  refine ⟨hE, fun W' hb => ?_⟩
  have h0 : decide (at_ < 0) = false := decide_eq_false (by omega)
  have hE' : (E == 0) = false := by simpa using hE
  have CO := Aside0.mk (ho W' hb)
  clear hb h ho hE
  go_enter Tryd.func40, Tryd.ntmps40
  go_wp2_with first | (go_at_call 56; refine CO.out.mono ?_; rintro e w2 ⟨rfl, hb2⟩)
  go_ret3
  exact ⟨_, rfl, hb2⟩
theorem unit_none (sp : Value) (u n : ByteArray) (at_ action dn : Int) (W : World) (ok : Nat → Prop) (fb rc ub : Nat) (f : AF) (A : Option Addr) (uv : Value) (DU : DataW Unit) (HO : OpenedOk W sp u n action fb dn) (P : FileParts W ok fb f A rc uv ub DU) (h : (f.units.length : Int) ≤ at_) : UnitErr W sp u n at_ action 3 := by
  refine ⟨by decide, fun W' hb => ?_⟩
  have P' := P.below hb
  obtain ⟨Au, cu, huv⟩ := Kd.R_slice P'.units
  have hlt := blk_lt P'.F
  have c8 : W'.cell? ⟨fb, 8, none⟩ = some (.slice Au f.units.length cu) := (blk_cell P'.F 8).trans (by rw [huv]; rfl)
  have h0 : decide (at_ < 0) = false := decide_eq_false (by omega)
  have h1 : decide ((f.units.length : Int) ≤ at_) = true := decide_eq_true h
  have CO := Aside0.mk (HO W' hb)
  clear hb h HO P P' huv
  go_enter Tryd.func40, Tryd.ntmps40
  go_wp2_with first | (go_at_call 56; refine CO.out.mono ?_; rintro e w2 ⟨rfl, hb2⟩; have d8 := (hb2.cell (p := ⟨fb, 8, none⟩) hlt).trans c8)
  go_ret3
  exact ⟨_, rfl, hb2⟩
theorem unit_ok (sp : Value) (u n : ByteArray) (at_ action dn : Int) (W : World) (ok : Nat → Prop) (fb rc ub : Nat) (f : AF) (A : Option Addr) (uv : Value) (DU : DataW Unit) (HO : OpenedOk W sp u n action fb dn) (P : FileParts W ok fb f A rc uv ub DU) (h0 : 0 ≤ at_) (h : at_ < (f.units.length : Int)) : UnitOk W sp u n at_ action fb dn := by
  intro W' hb
  have P' := P.below hb
  obtain ⟨Au, cu, huv⟩ := Kd.R_slice P'.units
  have hlt := blk_lt P'.F
  have c8 : W'.cell? ⟨fb, 8, none⟩ = some (.slice Au f.units.length cu) := (blk_cell P'.F 8).trans (by rw [huv]; rfl)
  have h0' : decide (at_ < 0) = false := decide_eq_false (by omega)
  have h1 : decide ((f.units.length : Int) ≤ at_) = false := decide_eq_false (by omega)
  have CO := Aside0.mk (HO W' hb)
  clear hb h h0 HO P P' huv
  go_enter Tryd.func40, Tryd.ntmps40
  go_wp2_with first | (go_at_call 56; refine CO.out.mono ?_; rintro e w2 ⟨rfl, hb2⟩; have d8 := (hb2.cell (p := ⟨fb, 8, none⟩) hlt).trans c8)
  go_ret3
  exact ⟨rfl, hb2⟩
end Go.Proofs.YtehlmkgldcfciaaDoor.Files
/- The file store: Read. -/
set_option linter.unusedVariables false
set_option linter.unusedSimpArgs false
namespace Go.Proofs.YtehlmkgldcfciaaDoor.Files
open Go.Proofs.YtehlmkgldcfciaaDoor.Common Go.Maps Go.ChangeMaps Go.WideMaps Go.Proofs.YtehlmkgldcfciaaDoor.F
open Go.RowKit Go.Proofs.YtehlmkgldcfciaaDoorW.PrintWords Go.Proofs.YtehlmkgldcfciaaDoorW.PrintLast Go.Proofs.YtehlmkgldcfciaaDoorW.PrintMore
theorem R_of_uRow' {W : World} {base : Nat} {ok : Nat → Prop} {v : Value} {l : List S46} (h : W.ownsRow base 46 3 v l.length (uRow l)) (h0 : ∀ k, v.ownBlock = some k → ok k) : Kd.R k46 46 W base ok v l := by
  refine ⟨h0, uRow l, h, h.1, fun j x hj => ?_⟩
  have e : ((uRow l).drop (j * 3)).take 3 = uCells x := flat_at (css := l.map uCells) (fun c hc => by obtain ⟨y, _, rfl⟩ := List.mem_map.1 hc; rfl) (by rw [List.getElem?_map, hj]; rfl)
  show k46.M W base _ x (((uRow l).drop (j * 3)).take 3)
  rw [e]
  exact k46_mkM _ _ _ x
theorem uRow_set : ∀ (l : List S46) (i j : Nat) (x' : S46) (u : Value), i < l.length → j < 3 → (uCells (rd_T46 l (i : Int))).set j u = uCells x' → uRow (l.set i x') = (uRow l).set (i * 3 + j) u
  | [], i, j, x', u, h, _, _ => by simp at h
  | x :: r, 0, j, x', u, h, hj, hc => by
    have hc' : (uCells x).set j u = uCells x' := hc
    show uCells x' ++ uRow r = (uCells x ++ uRow r).set (0 * 3 + j) u
    rw [Nat.zero_mul, Nat.zero_add, List.set_append_left _ _ (by exact hj), hc']
  | x :: r, i + 1, j, x', u, h, hj, hc => by
    have e : rd_T46 (x :: r) ((i + 1 : Nat) : Int) = rd_T46 r (i : Int) := by simp [rd_T46]
    rw [e] at hc
    have ih := uRow_set r i j x' u (by simpa using h) hj hc
    show uCells x ++ uRow (r.set i x') = (uCells x ++ uRow r).set ((i + 1) * 3 + j) u
    rw [ih, List.set_append_right _ _ (by show 3 ≤ _; omega)]
    congr 1
    show _ = (uRow r).set ((i + 1) * 3 + j - 3) u
    rw [show (i + 1) * 3 + j - 3 = i * 3 + j by omega]
theorem units_set {W : World} {base g n cap : Nat} {ok : Nat → Prop} {l : List S46} (h : Kd.R k46 46 W base ok (.slice (some ⟨g, 0, none⟩) n cap) l) (i j : Nat) (x' : S46) (u : Value) (hi : i < l.length) (hj : j < 3) (hc : (uCells (rd_T46 l (i : Int))).set j u = uCells x') :
    Kd.R k46 46 (W.setCell ⟨g, i * 3 + j, none⟩ u) base ok (.slice (some ⟨g, 0, none⟩) n cap) (l.set i x') ∧ W.grownBy (W.setCell ⟨g, i * 3 + j, none⟩ u) (some g) := by
  have h0 := h.1
  have ho := uRow_of_R h
  obtain ⟨hn, _⟩ := Kd.R_reads' h
  subst hn
  obtain ⟨h1, h2⟩ := ho.stored (i * 3 + j) u
  refine ⟨R_of_uRow' ?_ h0, h2⟩
  rw [List.length_set, uRow_set l i j x' u hi hj hc]
  exact h1
theorem units_slice {W : World} {base : Nat} {ok : Nat → Prop} {v : Value} {l : List S46} (h : Kd.R k46 46 W base ok v l) (hn : 0 < l.length) : ∃ g c, v = .slice (some ⟨g, 0, none⟩) l.length c ∧ l.length ≤ c ∧ c ≤ 9223372036854775807 := by
  rcases (uRow_of_R h).2 with ⟨_, h0⟩ | ⟨g, cap, cur, hv, _, _, hnc, hcm, _⟩
  · omega
  · exact ⟨g, cap, hv, hnc, hcm⟩
theorem units_sub {W : World} {g i j : Nat} {l : List S46} (h : Kd.C k46 W (some ⟨g, 0, none⟩) l.length l) (hij : i ≤ j) (hj : j ≤ l.length) : Kd.C (Kd.raw 3) W (some ⟨g, i * 3, none⟩) (j - i) (((l.take j).drop i).map uCells) := by
  have hlen : (((l.take j).drop i).map uCells).length = j - i := by simp [Nat.min_eq_left hj]
  refine ⟨hlen, by have := h.2.1; omega, fun hpos => ⟨_, rfl, fun q c hq => ?_⟩⟩
  obtain ⟨ad, he, hc⟩ := h.2.2 (by omega)
  cases he
  rw [List.getElem?_map] at hq
  obtain ⟨x, hx, rfl⟩ := Option.map_eq_some_iff.1 hq
  have hx' : l[i + q]? = some x := by
    rw [List.getElem?_drop, List.getElem?_take] at hx
    split at hx
    · exact hx
    · cases hx
  obtain ⟨c, hcl, hk, hu⟩ := hc (i + q) x hx'
  obtain rfl := k46_open hk
  refine ⟨_, rfl, ⟨rfl, rfl, fun u hu' => Kd.K_one k46 (k46_mk W x) u hu'⟩, fun t u ht => ?_⟩
  have := hu t u ht
  rw [add_plain] at this
  rw [Addr.add_lit]
  rw [show i * 3 + (q * (Kd.raw 3).sz + t) = (i + q) * k46.sz + t by show i * 3 + (q * 3 + t) = (i + q) * 3 + t; omega]
  exact this
theorem units_of_raw {W : World} {base : Nat} {ok : Nat → Prop} {v : Value} {l : List S46} (h : (Kd.raw 3).R 46 W base ok v (l.map uCells)) : Kd.R k46 46 W base ok v l := by
  obtain ⟨h0, ho, _⟩ := raw_flat h
  rw [List.length_map] at ho
  exact R_of_uRow' ho h0
theorem blk_map_ne {W : World} {fb b k n t : Nat} {cs : Array Value} {R : Value → Option (DataW Unit × List MemPlace)} {D : DataW Unit} (h : W.heap[fb]? = some (.cells cs t (0, 0))) (ho : W.ownsMap Tryd.prog k R b n D) : b ≠ fb := by
  rintro rfl
  obtain ⟨es, clock, hb, _⟩ := ho
  rw [h] at hb
  cases hb
theorem FileParts.set {W : World} {ok : Nat → Prop} {fb rc ub : Nat} {f : AF} {A : Option Addr} {uv : Value} {DU : DataW Unit} (h : FileParts W ok fb f A rc uv ub DU) (i : Nat) (v : Value) {F' : FS} (hc : (f.F.cells (.slice A f.rules.length rc) uv ub).setIfInBounds i v = F'.cells (.slice A f.rules.length rc) uv ub) :
    FileParts (W.setCell ⟨fb, i, none⟩ v) ok fb { f with F := F' } A rc uv ub DU :=
  ⟨h.okb, file_set h.F i v hc, Kd.R_set h.rules h.F (by decide) i v, Kd.R_set h.units h.F (by decide) i v, h.oku, h.U.setCell (a := ⟨fb, i, none⟩) (blk_map_ne h.F h.U) v, h.mU⟩
theorem FileParts.bound {W : World} {ok : Nat → Prop} {fb rc ub : Nat} {f : AF} {A : Option Addr} {uv : Value} {DU : DataW Unit} (h : FileParts W ok fb f A rc uv ub DU) : FileParts W (fun k => ok k ∧ k < W.heap.size) fb f A rc uv ub DU :=
  ⟨⟨h.okb, blk_lt h.F⟩, h.F, Kd.R_mono (Kd.R_bound h.rules) (fun k hk => ⟨hk.1, hk.2.2.1⟩), Kd.R_mono (Kd.R_bound h.units) (fun k hk => ⟨hk.1, hk.2.2.1⟩), ⟨h.oku, h.U.lt⟩, h.U, h.mU⟩
theorem FileParts.far {W1 w' : World} {ok : Nat → Prop} {B fb rc ub : Nat} {f : AF} {A : Option Addr} {uv : Value} {DU : DataW Unit} (h : FileParts W1 (fun k => ok k ∧ k < B) fb f A rc uv ub DU) (hb : Below B W1 w') : FileParts w' ok fb f A rc uv ub DU :=
  (h.step (S := fun k => B ≤ k) ⟨hb.os, hb.tape, hb.output, hb.size, fun k _ hs => hb.block k (by omega)⟩ (fun k hk => by omega)).mono (fun k hk => hk.1)
/-- What a unit tells when it is read from some level on. -/
def lower (b : Int) (x : S46) : S46 := ⟨x.f0, x.f1, wrap64 (x.f2 - b)⟩
def readL (l : List S46) (i : Nat) (whole : Bool) : List S46 := ((l.take (if whole then endOf l i else i + 1)).drop i).map (lower (lv l i))
theorem Read_err (sp : Value) (u n : ByteArray) (at_ E : Int) (whole : Bool) (W : World) (HU : UnitErr W sp u n at_ 1 E) :
    Calls Tryd.prog 22 #[sp, .string u, .string n, .int .i64 at_, .bool whole] W fun e w' => e = .returned (.tuple #[.slice none 0 0, .int .i64 E]) ∧ Below W.heap.size W w' := by
  obtain ⟨hE, hu⟩ := HU
  have hE' : (E == 0) = false := by simpa using hE
  have CU := Aside0.mk (hu W (Below.refl _ _))
  clear hu hE
  go_enter Tryd.func22, Tryd.ntmps22
  go_wp2_with first | (go_at_call 40; refine CU.out.mono ?_; rintro e w2 ⟨dn, rfl, hb2⟩)
  refine bodyPost_ret (v := .tuple #[.slice none 0 0, .int .i64 E]) (by simp [results, Tryd.f22, go_sem]) rfl ?_
  exact ⟨rfl, hb2⟩
theorem Read_denied (sp : Value) (u n : ByteArray) (at_ : Int) (fb : Nat) (whole : Bool) (W : World) (HU : UnitOk W sp u n at_ 1 fb 12) :
    Calls Tryd.prog 22 #[sp, .string u, .string n, .int .i64 at_, .bool whole] W fun e w' => e = .returned (.tuple #[.slice none 0 0, .int .i64 12]) ∧ Below W.heap.size W w' := by
  have CU := Aside0.mk (HU W (Below.refl _ _))
  clear HU
  go_enter Tryd.func22, Tryd.ntmps22
  go_wp2_with first | (go_at_call 40; refine CU.out.mono ?_; rintro e w2 ⟨rfl, hb2⟩)
  refine bodyPost_ret (v := .tuple #[.slice none 0 0, .int .i64 12]) (by simp [results, Tryd.f22, go_sem]) rfl ?_
  exact ⟨rfl, hb2⟩
/-- Units of which the first ones are lowered. -/
def adj (S : List S46) (b : Int) (k : Nat) : List S46 := (S.take k).map (lower b) ++ S.drop k
theorem adj_len (S : List S46) (b : Int) (k : Nat) : (adj S b k).length = S.length := by simp [adj]; omega
theorem adj_zero (S : List S46) (b : Int) : adj S b 0 = S := by simp [adj]
theorem adj_all (S : List S46) (b : Int) : adj S b S.length = S.map (lower b) := by simp [adj]
theorem adj_at (S : List S46) (b : Int) (k : Nat) (h : k < S.length) : rd_T46 (adj S b k) (k : Int) = rd_T46 S (k : Int) := by
  rw [rd_get _ _ (by rw [adj_len]; exact h), rd_get _ _ h]
  simp [adj, List.getElem_append, Nat.min_eq_left (Nat.le_of_lt h)]
theorem adj_succ (S : List S46) (b : Int) (k : Nat) (h : k < S.length) : (adj S b k).set k (lower b (rd_T46 S (k : Int))) = adj S b (k + 1) := by
  unfold adj
  have hl : ((S.take k).map (lower b)).length = k := by simp [Nat.min_eq_left (Nat.le_of_lt h)]
  rw [List.set_append_right _ _ (by omega), hl, Nat.sub_self, drop_at S k h, List.set_cons_zero, List.take_succ_eq_append_getElem h, List.map_append, List.append_assoc, ← rd_get S k h]
  all_goals rfl
def AF.read (f : AF) : AF := { f with F := { f.F with rd := wrap64 (f.F.rd + 1) } }
/-- How Read ends. -/
def ReadEnd (W : World) (ok : Nat → Prop) (fb rc ub : Nat) (f : AF) (A : Option Addr) (uv : Value) (DU : DataW Unit) (l : List S46) (e : Ending) (w' : World) : Prop :=
  ∃ v, e = .returned (.tuple #[v, .int .i64 0]) ∧ Kd.R k46 46 w' W.heap.size (fun _ => True) v l ∧ FileParts w' ok fb f.read A rc uv ub DU ∧ Chg W w' (fun k => k = fb)
set_option maxRecDepth 100000 in
set_option maxHeartbeats 2000000 in
theorem Read_ok (sp : Value) (u n : ByteArray) (i fb rc ub : Nat) (whole : Bool) (f : AF) (A : Option Addr) (uv : Value) (DU : DataW Unit) (ok : Nat → Prop) (W : World) (HU : UnitOk W sp u n (i : Int) 1 fb 0) (P : FileParts W ok fb f A rc uv ub DU)
    (hi : i < f.units.length) (hl : f.units.length ≤ 1000) :
    Calls Tryd.prog 22 #[sp, .string u, .string n, .int .i64 (i : Int), .bool whole] W (ReadEnd W ok fb rc ub f A uv DU (readL f.units i whole)) := by
  have CU := Aside0.mk (HU W (Below.refl _ _))
  have HP := Aside0.mk P
  have hfl := blk_lt P.F
  clear HU P
  go_enter Tryd.func22, Tryd.ntmps22
  go_wp2_with fail
  refine CU.out.mono ?_
  rintro e w2 ⟨rfl, hb2⟩
  have P2 := HP.out.below hb2
  obtain ⟨g, cu, huv, hlc, hcm⟩ := units_slice P2.units (by omega)
  subst huv
  have c6 : w2.cell? ⟨fb, 6, none⟩ = some (.int .i64 f.F.rd) := (blk_cell P2.F 6).trans rfl
  have f6 := blk_frozen P2.F 6
  have c8 : w2.cell? ⟨fb, 8, none⟩ = some (.slice (some ⟨g, 0, none⟩) f.units.length cu) := (blk_cell P2.F 8).trans rfl
  have P1 : FileParts (w2.setCell ⟨fb, 6, none⟩ (.int .i64 (wrap64 (f.F.rd + 1)))) ok fb f.read A rc (.slice (some ⟨g, 0, none⟩) f.units.length cu) ub DU := P2.set 6 _ rfl
  have HP1 := Aside0.mk P1
  have HB2 := Aside0.mk hb2
  have hR1 : Kd.C k46 (w2.setCell ⟨fb, 6, none⟩ (.int .i64 (wrap64 (f.F.rd + 1)))) (some ⟨g, 0, none⟩) f.units.length f.units := (Kd.R_reads' P1.units).2.2
  have CB := Aside0.mk (beyond_c (some ⟨g, 0, none⟩) cu i f.units _ hR1 hlc hi)
  have HS := Aside0.mk (fun j (h1 : i ≤ j) (h2 : j ≤ f.units.length) => units_sub hR1 h1 h2)
  obtain ⟨he1, he2⟩ := endOf_le hi
  have hne : ¬ cu = i := by omega
  have hic : i ≤ cu := by omega
  clear P1 P2 hb2 hR1
  have hgl : g < W.heap.size := own_lt (uRow_of_R HP.out.units) g rfl
  have P1b : FileParts (w2.setCell ⟨fb, 6, none⟩ (.int .i64 (wrap64 (f.F.rd + 1)))) (fun k => ok k ∧ k < W.heap.size) fb f.read A rc (.slice (some ⟨g, 0, none⟩) f.units.length cu) ub DU := (HP.out.bound.below HB2.out).set 6 _ rfl
  have HP1b := Aside0.mk P1b
  have HC8 := Aside0.mk (show (w2.setCell ⟨fb, 6, none⟩ (.int .i64 (wrap64 (f.F.rd + 1)))).cell? ⟨fb, 8, none⟩ = some (.slice (some ⟨g, 0, none⟩) f.units.length cu) from (blk_cell P1b.F 8).trans rfl)
  have HXA := Aside0.mk (show (w2.setCell ⟨fb, 6, none⟩ (.int .i64 (wrap64 (f.F.rd + 1)))).cell? ⟨g, i * 3 + 2, none⟩ = some (.int .i64 (lv f.units i)) by
    obtain ⟨_, _, hC⟩ := Kd.R_reads' P1b.units
    obtain ⟨ad, he, _, _, h3⟩ := at_T46 (xs := f.units) hC (i : Int) (by omega) (by omega)
    cases he
    rw [Int.toNat_natCast, add_plain] at h3
    exact h3)
  clear P1b HP1
  cases whole with
  | true =>
    have h1 : i ≤ endOf f.units i := by omega
    have h2 : endOf f.units i ≤ cu := by omega
    have h1z : (i : Int) ≤ (endOf f.units i : Int) := by omega
    have h2z : (endOf f.units i : Int) ≤ (cu : Int) := by omega
    go_wp2_with fail
    refine CB.out.mono ?_
    rintro e w3 ⟨rfl, ⟨m, rfl⟩⟩
    go_wp2_with fail
    refine ((files_Unit_44.raw _ _ _ _ _ (Kd.C_below (HS.out (endOf f.units i) h1 he2) (pw_below_drewN (Below.refl _ _) m)) (by omega)).mono ?_)
    rintro e w4 ⟨v, rfl, hr4, hb4⟩
    generalize hS : (f.units.take (endOf f.units i)).drop i = S at hr4
    have hSl : S.length = (endOf f.units i) - i := by rw [← hS]; simp; omega
    have hS0 : 0 < S.length := by omega
    have HSL := Lib.hid hSl
    have hSm : S.length ≤ 1000 := by omega
    clear hSl
    have hread : readL f.units i true = S.map (lower (lv f.units i)) := by unfold readL; rw [← hS]; rfl
    have HREAD := Lib.hid hread
    clear hread hS
    have hr4' := units_of_raw hr4
    obtain ⟨g2, c2, rfl, hc2, hc2m⟩ := units_slice hr4' hS0
    have hb14 := (pw_below_drewN (Below.refl _ _) m).trans hb4 |>.mono (by have := HB2.out.size; simpa using this)
    have HR4 := Aside0.mk (Kd.R_lower hr4' (by have := HB2.out.size; simpa using this))
    have HB14 := Aside0.mk hb14
    clear hr4 hr4' hb4 hb14
    go_wp2_with fail
    go_loopw [61] (fun s wr => ∃ k : Nat, k ≤ S.length ∧ s = .int .i64 k ∧ Aside0 (Kd.R k46 46 wr W.heap.size (fun _ => True) (.slice (some ⟨g2, 0, none⟩) S.length c2) (adj S (lv f.units i) k)) ∧ Aside0 (Below W.heap.size (w2.setCell ⟨fb, 6, none⟩ (.int .i64 (wrap64 (f.F.rd + 1)))) wr)) (fun s _ => S.length - (intOf s).toNat)
    case atStart => exact ⟨0, Nat.zero_le _, rfl, ⟨by rw [adj_zero]; exact HR4.out⟩, HB14⟩
    case round =>
      clear HR4 HB14
      obtain ⟨k, hk, rfl, HR, HB⟩ := hrel
      by_cases hlt : k < S.length
      · have hltz : (k : Int) < (S.length : Int) := by omega
        have d8 : wr.cell? ⟨fb, 8, none⟩ = some (.slice (some ⟨g, 0, none⟩) f.units.length cu) := (HB.out.cell (p := ⟨fb, 8, none⟩) hfl).trans HC8.out
        have xa : wr.cell? ⟨g, i * 3 + 2, none⟩ = some (.int .i64 (lv f.units i)) := (HB.out.cell (p := ⟨g, i * 3 + 2, none⟩) hgl).trans HXA.out
        have xk : wr.cell? ⟨g2, k * 3 + 2, none⟩ = some (.int .i64 (rd_T46 S (k : Int)).f2) := by
          obtain ⟨_, _, hC⟩ := Kd.R_reads' HR.out
          obtain ⟨ad, he, _, _, h3⟩ := at_T46 hC (k : Int) (by omega) (by rw [adj_len]; omega)
          cases he
          rw [adj_at S _ k hlt, Int.toNat_natCast, add_plain] at h3
          exact h3
        have fk : wr.frozen? ⟨g2, k * 3 + 2, none⟩ = false := by
          obtain ⟨cells, hc⟩ := own_typed (uRow_of_R HR.out) g2 rfl
          exact blk_frozen hc _
        have hic2 : decide ((i : Int) < 0) = false := decide_eq_false (by omega)
        have hiz : (i : Int) < (f.units.length : Int) := by omega
        have HW := Aside0.mk (units_set HR.out k 2 (lower (lv f.units i) (rd_T46 S (k : Int))) (.int .i64 (wrap64 ((rd_T46 S (k : Int)).f2 - lv f.units i))) (by rw [adj_len]; exact hlt) (by decide) (by rw [adj_at S _ k hlt]; rfl))
        have hg2 : W.heap.size ≤ g2 := (own_base (uRow_of_R HR.out) g2 rfl)
        have HN := Aside0.mk (adj_succ S (lv f.units i) k hlt)
        go_wp2_with fail
        go_region
        go_wp2_with fail
        go_roundw
        case rel => exact ⟨k + 1, by omega, by go_num, ⟨by rw [← HN.out]; exact Kd.R_drew HW.out.1⟩, ⟨(HB.out.setCell (p := ⟨g2, k * 3 + 2, none⟩) hg2 _).drew⟩⟩
        case measure => simp [intOf]; omega
      · have hltz : ¬ (k : Int) < (S.length : Int) := by omega
        obtain rfl : k = S.length := by omega
        clear hlt
        go_wp2
        refine bodyPost_ret (v := .tuple #[.slice (some ⟨g2, 0, none⟩) S.length c2, .int .i64 0]) (by simp [results, Tryd.f22, go_sem]) rfl ?_
        have hbw := HB.out
        exact ⟨_, rfl, by rw [HREAD.out, ← adj_all]; exact HR.out, HP1b.out.far hbw, ⟨hbw.os.trans HB2.out.os, hbw.tape.trans HB2.out.tape, hbw.output.trans HB2.out.output, Nat.le_trans HB2.out.size (by have := hbw.size; simpa [World.setCell] using this), fun q hq hne2 => (hbw.block q hq).trans ((Below.heap_setCell _ _ _ _ hne2).trans (HB2.out.block q hq))⟩⟩
  | false =>
    have h1 : i ≤ i + 1 := by omega
    have h2 : i + 1 ≤ cu := by omega
    have h1z : (i : Int) ≤ (i : Int) + 1 := by omega
    have h2z : (i : Int) + 1 ≤ (cu : Int) := by omega
    have HS1 := Aside0.mk (show Kd.C (Kd.raw 3) (w2.setCell ⟨fb, 6, none⟩ (.int .i64 (wrap64 (f.F.rd + 1)))) (some ⟨g, i * 3, none⟩) 1 (((f.units.take (i + 1)).drop i).map uCells) by have := HS.out (i + 1) h1 (by omega); rwa [show i + 1 - i = 1 by omega] at this)
    go_wp2_with fail
    refine ((files_Unit_44.raw _ _ _ _ _ HS1.out (by omega)).mono ?_)
    rintro e w4 ⟨v, rfl, hr4, hb4⟩
    generalize hS : (f.units.take (i + 1)).drop i = S at hr4
    have hSl : S.length = 1 := by rw [← hS]; simp; omega
    have hS0 : 0 < S.length := by omega
    have HSL := Lib.hid hSl
    have hSm : S.length ≤ 1000 := by omega
    clear hSl
    have hread : readL f.units i false = S.map (lower (lv f.units i)) := by unfold readL; rw [← hS]; rfl
    have HREAD := Lib.hid hread
    clear hread hS
    have hr4' := units_of_raw hr4
    obtain ⟨g2, c2, rfl, hc2, hc2m⟩ := units_slice hr4' hS0
    have hb14 := hb4.mono (by have := HB2.out.size; simpa using this)
    have HR4 := Aside0.mk (Kd.R_lower hr4' (by have := HB2.out.size; simpa using this))
    have HB14 := Aside0.mk hb14
    clear hr4 hr4' hb4 hb14
    go_wp2_with fail
    go_loopw [61] (fun s wr => ∃ k : Nat, k ≤ S.length ∧ s = .int .i64 k ∧ Aside0 (Kd.R k46 46 wr W.heap.size (fun _ => True) (.slice (some ⟨g2, 0, none⟩) S.length c2) (adj S (lv f.units i) k)) ∧ Aside0 (Below W.heap.size (w2.setCell ⟨fb, 6, none⟩ (.int .i64 (wrap64 (f.F.rd + 1)))) wr)) (fun s _ => S.length - (intOf s).toNat)
    case atStart => exact ⟨0, Nat.zero_le _, rfl, ⟨by rw [adj_zero]; exact HR4.out⟩, HB14⟩
    case round =>
      clear HR4 HB14
      obtain ⟨k, hk, rfl, HR, HB⟩ := hrel
      by_cases hlt : k < S.length
      · have hltz : (k : Int) < (S.length : Int) := by omega
        have d8 : wr.cell? ⟨fb, 8, none⟩ = some (.slice (some ⟨g, 0, none⟩) f.units.length cu) := (HB.out.cell (p := ⟨fb, 8, none⟩) hfl).trans HC8.out
        have xa : wr.cell? ⟨g, i * 3 + 2, none⟩ = some (.int .i64 (lv f.units i)) := (HB.out.cell (p := ⟨g, i * 3 + 2, none⟩) hgl).trans HXA.out
        have xk : wr.cell? ⟨g2, k * 3 + 2, none⟩ = some (.int .i64 (rd_T46 S (k : Int)).f2) := by
          obtain ⟨_, _, hC⟩ := Kd.R_reads' HR.out
          obtain ⟨ad, he, _, _, h3⟩ := at_T46 hC (k : Int) (by omega) (by rw [adj_len]; omega)
          cases he
          rw [adj_at S _ k hlt, Int.toNat_natCast, add_plain] at h3
          exact h3
        have fk : wr.frozen? ⟨g2, k * 3 + 2, none⟩ = false := by
          obtain ⟨cells, hc⟩ := own_typed (uRow_of_R HR.out) g2 rfl
          exact blk_frozen hc _
        have hic2 : decide ((i : Int) < 0) = false := decide_eq_false (by omega)
        have hiz : (i : Int) < (f.units.length : Int) := by omega
        have HW := Aside0.mk (units_set HR.out k 2 (lower (lv f.units i) (rd_T46 S (k : Int))) (.int .i64 (wrap64 ((rd_T46 S (k : Int)).f2 - lv f.units i))) (by rw [adj_len]; exact hlt) (by decide) (by rw [adj_at S _ k hlt]; rfl))
        have hg2 : W.heap.size ≤ g2 := (own_base (uRow_of_R HR.out) g2 rfl)
        have HN := Aside0.mk (adj_succ S (lv f.units i) k hlt)
        go_wp2_with fail
        go_region
        go_wp2_with fail
        go_roundw
        case rel => exact ⟨k + 1, by omega, by go_num, ⟨by rw [← HN.out]; exact Kd.R_drew HW.out.1⟩, ⟨(HB.out.setCell (p := ⟨g2, k * 3 + 2, none⟩) hg2 _).drew⟩⟩
        case measure => simp [intOf]; omega
      · have hltz : ¬ (k : Int) < (S.length : Int) := by omega
        obtain rfl : k = S.length := by omega
        clear hlt
        go_wp2
        refine bodyPost_ret (v := .tuple #[.slice (some ⟨g2, 0, none⟩) S.length c2, .int .i64 0]) (by simp [results, Tryd.f22, go_sem]) rfl ?_
        have hbw := HB.out
        exact ⟨_, rfl, by rw [HREAD.out, ← adj_all]; exact HR.out, HP1b.out.far hbw, ⟨hbw.os.trans HB2.out.os, hbw.tape.trans HB2.out.tape, hbw.output.trans HB2.out.output, Nat.le_trans HB2.out.size (by have := hbw.size; simpa [World.setCell] using this), fun q hq hne2 => (hbw.block q hq).trans ((Below.heap_setCell _ _ _ _ hne2).trans (HB2.out.block q hq))⟩⟩
end Go.Proofs.YtehlmkgldcfciaaDoor.Files
/- The file store: slices.Insert over units, told with the very block that is written. -/
set_option linter.unusedVariables false
set_option linter.unusedSimpArgs false
namespace Go.Proofs.YtehlmkgldcfciaaDoor.Files
open Go.Proofs.YtehlmkgldcfciaaDoor.Common Go.Maps Go.ChangeMaps Go.WideMaps Go.Proofs.YtehlmkgldcfciaaDoor.F
open Go.RowKit Go.Proofs.YtehlmkgldcfciaaDoorW.PrintWords Go.Proofs.YtehlmkgldcfciaaDoorW.PrintLast Go.Proofs.YtehlmkgldcfciaaDoorW.PrintMore
theorem raw_of_units {W : World} {base : Nat} {ok : Nat → Prop} {v : Value} {l : List S46} (h : Kd.R k46 46 W base ok v l) : (Kd.raw 3).R 46 W base ok v (l.map uCells) := by
  refine flat_raw h.1 ?_ (fun c hc => ?_)
  · rw [List.length_map]
    exact uRow_of_R h
  · obtain ⟨x, _, rfl⟩ := List.mem_map.1 hc
    exact ⟨rfl, fun u hu => Kd.K_one k46 (k46_mk W x) u hu⟩
theorem R_only {W : World} {base g n c : Nat} {ok : Nat → Prop} {l : List S46} (h : Kd.R k46 46 W base ok (.slice (some ⟨g, 0, none⟩) n c) l) : Kd.R k46 46 W base (fun k => k = g) (.slice (some ⟨g, 0, none⟩) n c) l := by
  obtain ⟨hn, _⟩ := Kd.R_reads' h
  subst hn
  refine R_of_uRow' (uRow_of_R h) (fun k hk => ?_)
  have : g = k := by simpa [Value.ownBlock] using hk
  exact this.symm
/-- How one unit put in leaves a row. -/
def InsOut (w : World) (g i : Nat) (l : List S46) (x : S46) (e : Ending) (w' : World) : Prop :=
  ∃ g' c', e = .returned (.slice (some ⟨g', 0, none⟩) (l.length + 1) c') ∧ Kd.R k46 46 w' 0 (fun k => k = g') (.slice (some ⟨g', 0, none⟩) (l.length + 1) c') (l.take i ++ x :: l.drop i) ∧ w.grownBy w' (some g) ∧ (g' = g ∨ w.heap.size ≤ g') ∧ l.length + 1 ≤ c'
theorem Ins_units (g cap i vb : Nat) (ok : Nat → Prop) (l : List S46) (x : S46) (w : World) (hR : Kd.R k46 46 w 0 ok (.slice (some ⟨g, 0, none⟩) l.length cap) l) (hi : i ≤ l.length) (hl : l.length ≤ 1000)
    (hv : w.heap[vb]? = some (.cells #[.string x.f0, .string x.f1, .int .i64 x.f2] 46 (0, 0))) (hne : vb ≠ g) :
    Calls Tryd.prog 41 #[.slice (some ⟨g, 0, none⟩) l.length cap, .int .i64 (i : Int), .slice (some ⟨vb, 0, none⟩) 1 1] w (InsOut w g i l x) := by
  have hraw := Kd.R_mono (raw_of_units hR) (fun _ _ => trivial) (ok' := fun _ => True)
  have hlen : (l.map uCells).length = l.length := List.length_map _
  have hcat : (l.map uCells).take i ++ uCells x :: (l.map uCells).drop i = (l.take i ++ x :: l.drop i).map uCells := by simp [List.map_take, List.map_drop]
  have hnl : (l.take i ++ x :: l.drop i).length = l.length + 1 := by simp; omega
  have hone : ∀ u ∈ uCells x, u.oneCell' = true := fun u hu => Kd.K_one k46 (k46_mk w x) u hu
  obtain ⟨_, hcap, _⟩ := Kd.R_reads' hR
  rcases Nat.lt_or_ge i l.length with hlt | hge
  · rcases Nat.lt_or_ge cap (l.length + 1) with hroom | hroom
    · refine (files_Unit_41.grow g l.length cap i 0 vb 1 (l.map uCells) (uCells x) w hraw hlt hroom (by omega) (Nat.zero_le _) hv rfl hone).mono ?_
      rintro e w' ⟨v, rfl, ho, h1, h2⟩
      rw [hcat] at h1
      have h3 := units_of_raw h1
      obtain ⟨g', c', rfl, hc', _⟩ := units_slice h3 (by omega)
      rw [hnl] at h3 hc' ⊢
      have : g' = w.heap.size := by simpa [Value.ownBlock] using ho
      exact ⟨g', c', rfl, R_only h3, grown_of_below h2 _, .inr (by omega), hc'⟩
    · refine (files_Unit_41.room g l.length cap i 0 vb 1 (fun _ => True) (l.map uCells) (uCells x) w hraw hlt hroom hv rfl hone hne).mono ?_
      rintro e w' ⟨rfl, h1, h2⟩
      rw [hcat] at h1
      exact ⟨g, cap, rfl, R_only (units_of_raw h1), h2, .inl rfl, hroom⟩
  · obtain rfl : i = l.length := by omega
    have hcm : cap ≤ 9223372036854775807 := by
      rcases (uRow_of_R hR).2 with ⟨h', _⟩ | ⟨g', cap', cur, hv', _, _, _, hcm, _⟩
      · cases h'
      · injection hv' with _ _ h3
        rw [h3]; exact hcm
    refine (Ins_c 0 g l.length cap vb (uRow l) (.string x.f0) (.string x.f1) (.int .i64 x.f2) w (uRow_of_R hR) hv ⟨rfl, rfl, rfl⟩ (by omega) ⟨hcap, hcm⟩ (Nat.zero_le _)).mono ?_
    rintro e w' ⟨g', c', rfl, h1, h2, h3, h4⟩
    have e1 : l.take l.length ++ x :: l.drop l.length = l ++ [x] := by simp
    unfold InsOut
    rw [e1]
    have h5 : w'.ownsRow 0 46 3 (.slice (some ⟨g', 0, none⟩) (l.length + 1) c') (l ++ [x]).length (uRow (l ++ [x])) := by rw [uRow_snoc, List.length_append]; exact h1
    have h6 := R_of_uRow h5
    have h7 := (Kd.R_reads' h6).2.1
    exact ⟨g', c', rfl, R_only h6, h2, h3.elim .inl (fun e => .inr (by omega)), h7⟩
/-- The units' row has been written, or is another one; the file's own cell is set to it. -/
theorem FileParts.newUnits {W w1 : World} {ok ok' : Nat → Prop} {fb rc ub : Nat} {f : AF} {A : Option Addr} {uv v' : Value} {DU : DataW Unit} {units' : List S46} (P : FileParts W ok fb f A rc uv ub DU) (hc : Chg W w1 (fun k => some k = uv.ownBlock))
    (hr : Kd.R k46 46 w1 0 ok' v' units') (hok' : ∀ k, ok' k → ok k ∨ W.heap.size ≤ k) :
    FileParts (w1.setCell ⟨fb, 8, none⟩ v') (fun k => ok k ∨ W.heap.size ≤ k) fb { f with units := units' } A rc v' ub DU ∧ Chg W (w1.setCell ⟨fb, 8, none⟩ v') ok := by
  have hty : ∀ k, some k = uv.ownBlock → ∃ cells, W.heap[k]? = some (.cells cells 46 (0, 0)) := fun k hk => own_typed (uRow_of_R P.units) k hk.symm
  have hfb : ¬ some fb = uv.ownBlock := fun e => by
    obtain ⟨cells, h⟩ := hty fb e
    rw [P.F] at h
    cases h
  have hub : ¬ some ub = uv.ownBlock := fun e => by
    obtain ⟨cells, h⟩ := hty ub e
    obtain ⟨es, clock, hb, _⟩ := P.U
    rw [hb] at h
    cases h
  have F1 : FileAt w1 fb f.F (.slice A f.rules.length rc) uv ub := (hc.block fb (blk_lt P.F) hfb).trans P.F
  have R1 : Kd.R k105 105 w1 0 ok (.slice A f.rules.length rc) f.rules := by
    cases hu : uv.ownBlock with
    | none => exact hc.row P.rules (fun k hk e => by rw [hu] at e; cases e)
    | some g =>
      obtain ⟨cells, h⟩ := hty g hu.symm
      refine Kd.R_mono (hc.row (Kd.R_types P.rules h (by decide)) (fun k hk e => ?_)) (fun k hk => hk.1)
      rw [hu] at e
      injection e with e
      exact hk.2 e
  have U1 := hc.map P.U hub
  refine ⟨⟨.inl P.okb, file_set F1 8 v' rfl, Kd.R_mono (Kd.R_set R1 F1 (by decide) 8 v') (fun k hk => .inl hk), Kd.R_mono (Kd.R_set hr F1 (by decide) 8 v') hok', .inl P.oku, U1.setCell (a := ⟨fb, 8, none⟩) (blk_map_ne F1 U1) v', P.mU⟩, ?_⟩
  refine (hc.mono (fun k hk => ?_)).trans (Chg.of_set w1 ⟨fb, 8, none⟩ v' (S := ok) P.okb) (fun i hi => .inl hi)
  exact P.units.1 k hk.symm
/-- A change is noted. -/
def FS.noted (F : FS) (u : ByteArray) : FS := { F with ch := wrap64 (F.ch + 1), last := u }
theorem FileParts.noted {W : World} {ok : Nat → Prop} {fb rc ub : Nat} {f : AF} {A : Option Addr} {uv : Value} {DU : DataW Unit} (P : FileParts W ok fb f A rc uv ub DU) (u : ByteArray) :
    FileParts ((W.setCell ⟨fb, 5, none⟩ (.int .i64 (wrap64 (f.F.ch + 1)))).setCell ⟨fb, 4, none⟩ (.string u)) ok fb { f with F := f.F.noted u } A rc uv ub DU ∧ Chg W ((W.setCell ⟨fb, 5, none⟩ (.int .i64 (wrap64 (f.F.ch + 1)))).setCell ⟨fb, 4, none⟩ (.string u)) ok :=
  ⟨(P.set 5 (.int .i64 (wrap64 (f.F.ch + 1))) (F' := { f.F with ch := wrap64 (f.F.ch + 1) }) rfl).set 4 (.string u) (F' := f.F.noted u) rfl,
    (Chg.of_set W ⟨fb, 5, none⟩ _ (S := ok) P.okb).trans (Chg.of_set _ ⟨fb, 4, none⟩ _ (S := ok) P.okb) (fun i hi => .inl hi)⟩
end Go.Proofs.YtehlmkgldcfciaaDoor.Files
/- files.Valid: what it reckons. -/
set_option linter.unusedVariables false
set_option linter.unusedSimpArgs false
namespace Go.Proofs.YtehlmkgldcfciaaDoor.Files
open Go.Proofs.YtehlmkgldcfciaaDoor.Common Go.Maps Go.ChangeMaps Go.WideMaps Go.Proofs.YtehlmkgldcfciaaDoor.F
open Go.RowKit Go.Proofs.YtehlmkgldcfciaaDoorW.PrintWords Go.Proofs.YtehlmkgldcfciaaDoorW.PrintLast Go.Proofs.YtehlmkgldcfciaaDoorW.PrintMore
def okAll (p : Nat → Bool) (n : Nat) : Bool := (List.range n).all p
theorem okAll_false {p : Nat → Bool} {n i : Nat} (hi : i < n) (h : p i = false) : okAll p n = false := by
  unfold okAll
  rw [List.all_eq_false]
  exact ⟨i, List.mem_range.2 hi, by simp [h]⟩
theorem okAll_true {p : Nat → Bool} {n : Nat} (h : ∀ i, i < n → p i = true) : okAll p n = true := by
  unfold okAll
  rw [List.all_eq_true]
  exact fun i hi => h i (List.mem_range.1 hi)
theorem okAll_iff {p : Nat → Bool} {n : Nat} : okAll p n = true ↔ ∀ i, i < n → p i = true :=
  ⟨fun h i hi => List.all_eq_true.1 h i (List.mem_range.2 hi), okAll_true⟩
/-- One unit's own check. -/
def chk (l : List S46) (kind : Int) (i : Nat) : Bool :=
  decide ((rd_T46 l (i : Int)).f0.size ≤ 30) && decide ((rd_T46 l (i : Int)).f1.size ≤ 400) && (decide (lv l i = 0) == decide (i = 0)) && decide (0 ≤ lv l i) && (decide (i = 0) || decide (lv l i ≤ lv l (i - 1) + 1)) && (decide (2 ≤ kind) || decide (lv l i ≤ kind))
def kidsOk (l : List S46) (i : Nat) : Bool := okAll (fun k => !clashB l ((kids l i).take k) (rd_T46 l ((kids l i).getD k 0)).f0) (kids l i).length
def headOk (l : List S46) (kind : Int) : Bool := decide (0 ≤ kind) && decide (kind ≤ 2) && decide (1 ≤ l.length) && decide (l.length ≤ 100)
def validB (l : List S46) (kind : Int) : Bool := headOk l kind && okAll (chk l kind) l.length && okAll (kidsOk l) l.length
theorem chk_iff (l : List S46) (kind : Int) (i : Nat) : chk l kind i = true ↔ ((rd_T46 l (i : Int)).f0.size ≤ 30 ∧ (rd_T46 l (i : Int)).f1.size ≤ 400 ∧ ((i = 0 → (rd_T46 l (i : Int)).f2 = 0) ∧ (i ≠ 0 → (rd_T46 l (i : Int)).f2 ≠ 0)) ∧ 0 ≤ (rd_T46 l (i : Int)).f2 ∧ (i = 0 ∨ (rd_T46 l (i : Int)).f2 ≤ lv l (i - 1) + 1) ∧ (2 ≤ kind ∨ (rd_T46 l (i : Int)).f2 ≤ kind)) := by
  unfold chk lv
  simp only [Bool.and_eq_true, Bool.or_eq_true, decide_eq_true_eq, beq_iff_eq, decide_eq_decide, and_assoc]
  constructor
  · rintro ⟨h1, h2, h3, h4, h5, h6⟩
    exact ⟨h1, h2, h3.2, fun h e => h (h3.1 e), h4, h5, h6⟩
  · rintro ⟨h1, h2, h3, h3', h4, h5, h6⟩
    exact ⟨h1, h2, ⟨fun e => Decidable.byContradiction fun h => h3' h e, h3⟩, h4, h5, h6⟩
theorem chk_lv {l : List S46} {kind : Int} : ∀ i, (∀ j, j ≤ i → chk l kind j = true) → 0 ≤ lv l i ∧ lv l i ≤ i
  | 0, h => by
    have := h 0 (Nat.le_refl _)
    simp only [chk, Bool.and_eq_true, decide_eq_true_eq, beq_iff_eq] at this
    have h2 := this.1.1.1.2
    simp at h2
    omega
  | i + 1, h => by
    have ih := chk_lv i (fun j hj => h j (by omega))
    have := h (i + 1) (Nat.le_refl _)
    simp only [chk, Bool.and_eq_true, Bool.or_eq_true, decide_eq_true_eq] at this
    have h1 := this.1.1.2
    have h2 := this.1.2
    simp at h2
    omega
theorem ints_slice {W : World} {base : Nat} {ok : Nat → Prop} {v : Value} {l : List Int} (h : Kd.R (Kd.int .i64) 3 W base ok v l) (hn : 0 < l.length) : ∃ g c, v = .slice (some ⟨g, 0, none⟩) l.length c := by
  obtain ⟨inner, ho⟩ := Kd.R_own h
  rcases ho.2 with ⟨_, h0⟩ | ⟨g, cap, cur, hv, _⟩
  · omega
  · exact ⟨g, cap, hv⟩
theorem clash_pre (ad : Addr) (c g6 c6 k : Nat) (l : List S46) (ks : List Int) (nm : ByteArray) (W w1 : World) (hr : Kd.C k46 W (some ad) l.length l) (hb : Below W.heap.size W w1) (hc : l.length ≤ c)
    (hR : Kd.R (Kd.int .i64) 3 w1 0 (fun _ => True) (.slice (some ⟨g6, 0, none⟩) ks.length c6) ks) (hk : k ≤ ks.length) (hin : ∀ x ∈ ks, 0 ≤ x ∧ x < (l.length : Int)) :
    Calls Tryd.prog 24 #[.slice (some ad) l.length c, .slice (some ⟨g6, 0, none⟩) k c6, .string nm] w1 fun e w' => e = .returned (.bool (clashB l (ks.take k) nm)) ∧ Below w1.heap.size w1 w' := by
  obtain ⟨_, hkc, hC⟩ := Kd.R_reads' hR
  have h1 : (ks.take k).length = k := by rw [List.length_take, Nat.min_eq_left hk]
  have := clash_c c c6 (some ad) (some ⟨g6, 0, none⟩) l (ks.take k) nm w1 (Kd.C_below hr hb) hc (Kd.C_take hC hk) (by omega) (fun x hx => hin x (List.mem_of_mem_take hx))
  rwa [h1] at this
/-- A world that has gone on, told once for the walk's end. -/
structure Gone (W w : World) : Prop where mk_ :: (out : Below W.heap.size W w)
theorem Gone.outN {W w : World} (h : Gone W w) (n : Nat) : Aside0 (Below W.heap.size W (w.drewN n)) := ⟨pw_below_drewN h.out n⟩
def ValidW.T16 : Bool × List (List Nat × List Nat) := (true, [([], []), ([], []), ([], []), ([1, 2], [1, 2]), ([], []), ([], []), ([], []), ([5, 6], [5, 6]), ([7], [7]), ([4, 8], [4, 8]), ([9], [9]), ([10], [10]), ([0, 3, 11], [0, 3, 11])])
def ValidW.B16 : List Nat := [0, 0, 0, 6, 0, 0, 0, 96, 224, 496, 1008, 2032, 4095]
theorem ValidW.tab16 : rtab .any (opsOf Tryd.f7 16) = ValidW.T16 := by kernel_rfl
theorem ValidW.bits16 : waitsOk ValidW.T16.2 ValidW.B16 = true := by kernel_rfl
set_option maxRecDepth 100000 in
set_option maxHeartbeats 80000000 in
theorem Valid_c (A : Option Addr) (c : Nat) (l : List S46) (kind : Int) (W : World) (hr : Kd.C k46 W A l.length l) (hc : l.length ≤ c) :
    Calls Tryd.prog 7 #[.slice A l.length c, .int .i64 kind] W fun e w' => e = .returned (.bool (validB l kind)) ∧ Below W.heap.size W w' := by
  have HR := Aside0.mk hr
  have hbig : l.length ≤ 9223372036854775807 := hr.2.1
  clear hr
  by_cases c1 : 0 ≤ kind
  · have b1 : decide (kind < 0) = false := decide_eq_false (by omega)
    by_cases c2 : kind ≤ 2
    · have b2 : decide (2 < kind) = false := decide_eq_false (by omega)
      by_cases c3 : 1 ≤ l.length
      · have b3' : decide ((l.length : Int) < 1) = false := decide_eq_false (by omega)
        by_cases c4 : l.length ≤ 100
        · have b4 : decide ((100 : Int) < (l.length : Int)) = false := decide_eq_false (by omega)
          have HV : Aside0 (validB l kind = (okAll (chk l kind) l.length && okAll (kidsOk l) l.length)) := ⟨by simp [validB, headOk, c1, c2, c3, c4]⟩
          go_enter Tryd.func7, Tryd.ntmps7
          go_wp2_with fail
          go_loopw [28] (fun s wr => ∃ i : Nat, i ≤ l.length ∧ s = .int .i64 i ∧ Aside0 (Below W.heap.size W wr) ∧ Aside0 (∀ j, j < i → chk l kind j = true)) (fun s _ => l.length - (intOf s).toNat)
          case atStart => exact ⟨0, Nat.zero_le _, rfl, ⟨Below.refl _ _⟩, ⟨fun j hj => absurd hj (Nat.not_lt_zero _)⟩⟩
          case round =>
            obtain ⟨i, hi, rfl, HB, HC⟩ := hrel
            by_cases hlt : i < l.length
            · have hltz : (i : Int) < (l.length : Int) := by omega
              obtain ⟨ad, rfl, x0, x1, x2⟩ := at_T46 (Kd.C_below HR.out HB.out) (i : Int) (by omega) (by omega)
              rw [Int.toNat_natCast] at x0 x1 x2
              have HBADV := Aside0.mk (fun (h : chk l kind i = false) => show validB l kind = false by rw [HV.out, okAll_false hlt h]; rfl)
              have HNEXT := Aside0.mk (fun (h : chk l kind i = true) => Aside0.mk (fun j (hj : j < i + 1) => show chk l kind j = true by
                rcases Nat.lt_or_ge j i with h2 | h2
                · exact HC.out j h2
                · rw [show j = i by omega]; exact h))
              have HLT := Aside0.mk (show i + 1 ≤ l.length from hlt)
              have HCK := Lib.hid (show chk l kind i = true ↔ ((rd_T46 l (i : Int)).f0.size ≤ 30 ∧ (rd_T46 l (i : Int)).f1.size ≤ 400 ∧ ((i = 0 → (rd_T46 l (i : Int)).f2 = 0) ∧ (i ≠ 0 → (rd_T46 l (i : Int)).f2 ≠ 0)) ∧ 0 ≤ (rd_T46 l (i : Int)).f2 ∧ (i = 0 ∨ (rd_T46 l (i : Int)).f2 ≤ lv l (i - 1) + 1) ∧ (2 ≤ kind ∨ (rd_T46 l (i : Int)).f2 ≤ kind)) from chk_iff l kind i)
              have HB2 := Gone.mk_ (show Below W.heap.size W (wr.alloc (.cells #[.string (rd_T46 l (i : Int)).f0, .string (rd_T46 l (i : Int)).f1, .int .i64 (rd_T46 l (i : Int)).f2] 46)) from HB.out.alloc HB.out.size _)
              have HXP := Aside0.mk (fun p (hp : i = p + 1) => show (0 ≤ lv l p ∧ lv l p ≤ 100) ∧ wr.cell? ⟨(ad.add (p * 3)).block, (ad.add (p * 3)).off + 2, none⟩ = some (.int .i64 (lv l p)) by
                have hlvp := chk_lv (l := l) (kind := kind) p (fun j hj => HC.out j (by omega))
                obtain ⟨ad2, he2, _, _, xp⟩ := at_T46 (Kd.C_below HR.out HB.out) (p : Int) (by omega) (by omega)
                cases he2
                rw [Int.toNat_natCast] at xp
                exact ⟨⟨hlvp.1, by omega⟩, xp⟩)
              generalize rd_T46 l (i : Int) = x at x0 x1 x2 HCK HB2
              go_wp2_with fail
              clear x0 x1 x2
              cases i with
              | zero =>
                have hcase : (30 < x.f0.size) ∨ (x.f0.size ≤ 30 ∧ 400 < x.f1.size) ∨ (x.f0.size ≤ 30 ∧ x.f1.size ≤ 400 ∧ x.f2 ≠ 0) ∨ (x.f0.size ≤ 30 ∧ x.f1.size ≤ 400 ∧ x.f2 = 0 ∧ kind < 2) ∨ (x.f0.size ≤ 30 ∧ x.f1.size ≤ 400 ∧ x.f2 = 0 ∧ 2 ≤ kind) := by omega
                have HCS := Aside0.mk hcase
                rcases hcase with hcase | hcase | hcase | hcase | hcase
                · have fa : decide ((30 : Int) < (x.f0.size : Int)) = true := decide_eq_true (by omega)
                  have HCX := Lib.hid hcase
                  clear hcase
                  go_quiet (fail)
                  go_wp2
                  go_ret
                  have hcase := HCX.out
                  exact ⟨by rw [HBADV.out (Bool.eq_false_iff.2 (fun h => by obtain ⟨q1, q2, q3, q4, q5, q6⟩ := HCK.out.1 h; have q7 := q3.1 (by first | trivial | rfl); omega))]; rfl, (HB2.outN _).out⟩
                · have fa : decide ((30 : Int) < (x.f0.size : Int)) = false := decide_eq_false (by omega)
                  have fbb : decide ((400 : Int) < (x.f1.size : Int)) = true := decide_eq_true (by omega)
                  have HCX := Lib.hid hcase
                  clear hcase
                  go_quiet (fail)
                  go_wp2
                  go_ret
                  have hcase := HCX.out
                  exact ⟨by rw [HBADV.out (Bool.eq_false_iff.2 (fun h => by obtain ⟨q1, q2, q3, q4, q5, q6⟩ := HCK.out.1 h; have q7 := q3.1 (by first | trivial | rfl); omega))]; rfl, (HB2.outN _).out⟩
                · have fa : decide ((30 : Int) < (x.f0.size : Int)) = false := decide_eq_false (by omega)
                  have fbb : decide ((400 : Int) < (x.f1.size : Int)) = false := decide_eq_false (by omega)
                  have fc : (x.f2 == 0) = false := beq_eq_false_iff_ne.2 (by omega)
                  have HCX := Lib.hid hcase
                  clear hcase
                  go_quiet (fail)
                  go_wp2
                  go_ret
                  have hcase := HCX.out
                  exact ⟨by rw [HBADV.out (Bool.eq_false_iff.2 (fun h => by obtain ⟨q1, q2, q3, q4, q5, q6⟩ := HCK.out.1 h; have q7 := q3.1 (by first | trivial | rfl); omega))]; rfl, (HB2.outN _).out⟩
                · have fa : decide ((30 : Int) < (x.f0.size : Int)) = false := decide_eq_false (by omega)
                  have fbb : decide ((400 : Int) < (x.f1.size : Int)) = false := decide_eq_false (by omega)
                  have fc : (x.f2 == 0) = true := beq_iff_eq.2 (by omega)
                  have fd : decide (x.f2 < 0) = false := decide_eq_false (by omega)
                  have fk : decide (kind < 2) = true := decide_eq_true (by omega)
                  have fm : decide (kind < x.f2) = false := decide_eq_false (by omega)
                  have HCX := Lib.hid hcase
                  clear hcase
                  go_quiet (fail)
                  go_wp2
                  have HTR := Aside0.mk (show chk l kind _ = true from HCK.out.2 (by have hcase := HCX.out; exact ⟨by omega, by omega, ⟨fun h => by omega, fun h => by omega⟩, by omega, by omega, by omega⟩))
                  go_roundw
                  case rel => exact ⟨_, HLT.out, by go_num, ⟨(HB2.outN _).out⟩, HNEXT.out HTR.out⟩
                  case measure => simp [intOf]; have := HLT.out; omega
                · have fa : decide ((30 : Int) < (x.f0.size : Int)) = false := decide_eq_false (by omega)
                  have fbb : decide ((400 : Int) < (x.f1.size : Int)) = false := decide_eq_false (by omega)
                  have fc : (x.f2 == 0) = true := beq_iff_eq.2 (by omega)
                  have fd : decide (x.f2 < 0) = false := decide_eq_false (by omega)
                  have fk : decide (kind < 2) = false := decide_eq_false (by omega)
                  have HCX := Lib.hid hcase
                  clear hcase
                  go_quiet (fail)
                  go_wp2
                  have HTR := Aside0.mk (show chk l kind _ = true from HCK.out.2 (by have hcase := HCX.out; exact ⟨by omega, by omega, ⟨fun h => by omega, fun h => by omega⟩, by omega, by omega, by omega⟩))
                  go_roundw
                  case rel => exact ⟨_, HLT.out, by go_num, ⟨(HB2.outN _).out⟩, HNEXT.out HTR.out⟩
                  case measure => simp [intOf]; have := HLT.out; omega
              | succ p =>
                obtain ⟨⟨hp1, hp2⟩, xp_⟩ := HXP.out p rfl
                have xp : (wr.alloc (.cells #[.string x.f0, .string x.f1, .int .i64 x.f2] 46)).cell? ⟨(ad.add (p * 3)).block, (ad.add (p * 3)).off + 2, none⟩ = some (.int .i64 (lv l p)) := Lib.cell?_alloc_some _ xp_
                clear xp_
                rw [Nat.add_sub_cancel] at HCK
                have hpz : (p : Int) < (l.length : Int) := by omega
                have hcase : (30 < x.f0.size) ∨ (x.f0.size ≤ 30 ∧ 400 < x.f1.size) ∨ (x.f0.size ≤ 30 ∧ x.f1.size ≤ 400 ∧ x.f2 = 0) ∨ (x.f0.size ≤ 30 ∧ x.f1.size ≤ 400 ∧ x.f2 < 0) ∨ (x.f0.size ≤ 30 ∧ x.f1.size ≤ 400 ∧ 0 < x.f2 ∧ lv l p + 1 < x.f2) ∨ (x.f0.size ≤ 30 ∧ x.f1.size ≤ 400 ∧ 0 < x.f2 ∧ x.f2 ≤ lv l p + 1 ∧ kind < 2 ∧ kind < x.f2) ∨ (x.f0.size ≤ 30 ∧ x.f1.size ≤ 400 ∧ 0 < x.f2 ∧ x.f2 ≤ lv l p + 1 ∧ kind < 2 ∧ x.f2 ≤ kind) ∨ (x.f0.size ≤ 30 ∧ x.f1.size ≤ 400 ∧ 0 < x.f2 ∧ x.f2 ≤ lv l p + 1 ∧ 2 ≤ kind) := by omega
                have HCS := Aside0.mk hcase
                rcases hcase with hcase | hcase | hcase | hcase | hcase | hcase | hcase | hcase
                · have fa : decide ((30 : Int) < (x.f0.size : Int)) = true := decide_eq_true (by omega)
                  have fp : ¬ ((p : Int) + 1 = 0) := by omega
                  have fi : decide ((0 : Int) < (p : Int) + 1) = true := decide_eq_true (by omega)
                  have fq : ((p : Int) + 1 == 0) = false := beq_eq_false_iff_ne.2 (by omega)
                  have hw1 : IntKind.i64.wrap (p : Int) = (p : Int) := by rw [IntKind.wrap_i64]; omega
                  have hw2 : IntKind.i64.wrap (lv l p + 1) = lv l p + 1 := by rw [IntKind.wrap_i64]; omega
                  have hpn : decide ((p : Int) < 0) = false := decide_eq_false (by omega)
                  have HCX := Lib.hid hcase
                  clear hcase
                  go_quiet (fail)
                  go_wp2
                  go_ret
                  have hcase := HCX.out
                  exact ⟨by rw [HBADV.out (Bool.eq_false_iff.2 (fun h => by obtain ⟨q1, q2, q3, q4, q5, q6⟩ := HCK.out.1 h; have q8 := q3.2 (by omega); omega))]; rfl, (HB2.outN _).out⟩
                · have fa : decide ((30 : Int) < (x.f0.size : Int)) = false := decide_eq_false (by omega)
                  have fbb : decide ((400 : Int) < (x.f1.size : Int)) = true := decide_eq_true (by omega)
                  have fp : ¬ ((p : Int) + 1 = 0) := by omega
                  have fi : decide ((0 : Int) < (p : Int) + 1) = true := decide_eq_true (by omega)
                  have fq : ((p : Int) + 1 == 0) = false := beq_eq_false_iff_ne.2 (by omega)
                  have hw1 : IntKind.i64.wrap (p : Int) = (p : Int) := by rw [IntKind.wrap_i64]; omega
                  have hw2 : IntKind.i64.wrap (lv l p + 1) = lv l p + 1 := by rw [IntKind.wrap_i64]; omega
                  have hpn : decide ((p : Int) < 0) = false := decide_eq_false (by omega)
                  have HCX := Lib.hid hcase
                  clear hcase
                  go_quiet (fail)
                  go_wp2
                  go_ret
                  have hcase := HCX.out
                  exact ⟨by rw [HBADV.out (Bool.eq_false_iff.2 (fun h => by obtain ⟨q1, q2, q3, q4, q5, q6⟩ := HCK.out.1 h; have q8 := q3.2 (by omega); omega))]; rfl, (HB2.outN _).out⟩
                · have fa : decide ((30 : Int) < (x.f0.size : Int)) = false := decide_eq_false (by omega)
                  have fbb : decide ((400 : Int) < (x.f1.size : Int)) = false := decide_eq_false (by omega)
                  have fc : (x.f2 == 0) = true := beq_iff_eq.2 (by omega)
                  have fp : ¬ ((p : Int) + 1 = 0) := by omega
                  have fi : decide ((0 : Int) < (p : Int) + 1) = true := decide_eq_true (by omega)
                  have fq : ((p : Int) + 1 == 0) = false := beq_eq_false_iff_ne.2 (by omega)
                  have hw1 : IntKind.i64.wrap (p : Int) = (p : Int) := by rw [IntKind.wrap_i64]; omega
                  have hw2 : IntKind.i64.wrap (lv l p + 1) = lv l p + 1 := by rw [IntKind.wrap_i64]; omega
                  have hpn : decide ((p : Int) < 0) = false := decide_eq_false (by omega)
                  have HCX := Lib.hid hcase
                  clear hcase
                  go_quiet (fail)
                  go_wp2
                  go_ret
                  have hcase := HCX.out
                  exact ⟨by rw [HBADV.out (Bool.eq_false_iff.2 (fun h => by obtain ⟨q1, q2, q3, q4, q5, q6⟩ := HCK.out.1 h; have q8 := q3.2 (by omega); omega))]; rfl, (HB2.outN _).out⟩
                · have fa : decide ((30 : Int) < (x.f0.size : Int)) = false := decide_eq_false (by omega)
                  have fbb : decide ((400 : Int) < (x.f1.size : Int)) = false := decide_eq_false (by omega)
                  have fc : (x.f2 == 0) = false := beq_eq_false_iff_ne.2 (by omega)
                  have fd : decide (x.f2 < 0) = true := decide_eq_true (by omega)
                  have fp : ¬ ((p : Int) + 1 = 0) := by omega
                  have fi : decide ((0 : Int) < (p : Int) + 1) = true := decide_eq_true (by omega)
                  have fq : ((p : Int) + 1 == 0) = false := beq_eq_false_iff_ne.2 (by omega)
                  have hw1 : IntKind.i64.wrap (p : Int) = (p : Int) := by rw [IntKind.wrap_i64]; omega
                  have hw2 : IntKind.i64.wrap (lv l p + 1) = lv l p + 1 := by rw [IntKind.wrap_i64]; omega
                  have hpn : decide ((p : Int) < 0) = false := decide_eq_false (by omega)
                  have HCX := Lib.hid hcase
                  clear hcase
                  go_quiet (fail)
                  go_wp2
                  go_ret
                  have hcase := HCX.out
                  exact ⟨by rw [HBADV.out (Bool.eq_false_iff.2 (fun h => by obtain ⟨q1, q2, q3, q4, q5, q6⟩ := HCK.out.1 h; have q8 := q3.2 (by omega); omega))]; rfl, (HB2.outN _).out⟩
                · have fa : decide ((30 : Int) < (x.f0.size : Int)) = false := decide_eq_false (by omega)
                  have fbb : decide ((400 : Int) < (x.f1.size : Int)) = false := decide_eq_false (by omega)
                  have fc : (x.f2 == 0) = false := beq_eq_false_iff_ne.2 (by omega)
                  have fd : decide (x.f2 < 0) = false := decide_eq_false (by omega)
                  have fe : decide (lv l p + 1 < x.f2) = true := decide_eq_true (by omega)
                  have fp : ¬ ((p : Int) + 1 = 0) := by omega
                  have fi : decide ((0 : Int) < (p : Int) + 1) = true := decide_eq_true (by omega)
                  have fq : ((p : Int) + 1 == 0) = false := beq_eq_false_iff_ne.2 (by omega)
                  have hw1 : IntKind.i64.wrap (p : Int) = (p : Int) := by rw [IntKind.wrap_i64]; omega
                  have hw2 : IntKind.i64.wrap (lv l p + 1) = lv l p + 1 := by rw [IntKind.wrap_i64]; omega
                  have hpn : decide ((p : Int) < 0) = false := decide_eq_false (by omega)
                  have HCX := Lib.hid hcase
                  clear hcase
                  go_quiet (fail)
                  go_wp2
                  go_ret
                  have hcase := HCX.out
                  exact ⟨by rw [HBADV.out (Bool.eq_false_iff.2 (fun h => by obtain ⟨q1, q2, q3, q4, q5, q6⟩ := HCK.out.1 h; have q8 := q3.2 (by omega); omega))]; rfl, (HB2.outN _).out⟩
                · have fa : decide ((30 : Int) < (x.f0.size : Int)) = false := decide_eq_false (by omega)
                  have fbb : decide ((400 : Int) < (x.f1.size : Int)) = false := decide_eq_false (by omega)
                  have fc : (x.f2 == 0) = false := beq_eq_false_iff_ne.2 (by omega)
                  have fd : decide (x.f2 < 0) = false := decide_eq_false (by omega)
                  have fe : decide (lv l p + 1 < x.f2) = false := decide_eq_false (by omega)
                  have fk : decide (kind < 2) = true := decide_eq_true (by omega)
                  have fm : decide (kind < x.f2) = true := decide_eq_true (by omega)
                  have fp : ¬ ((p : Int) + 1 = 0) := by omega
                  have fi : decide ((0 : Int) < (p : Int) + 1) = true := decide_eq_true (by omega)
                  have fq : ((p : Int) + 1 == 0) = false := beq_eq_false_iff_ne.2 (by omega)
                  have hw1 : IntKind.i64.wrap (p : Int) = (p : Int) := by rw [IntKind.wrap_i64]; omega
                  have hw2 : IntKind.i64.wrap (lv l p + 1) = lv l p + 1 := by rw [IntKind.wrap_i64]; omega
                  have hpn : decide ((p : Int) < 0) = false := decide_eq_false (by omega)
                  have HCX := Lib.hid hcase
                  clear hcase
                  go_quiet (fail)
                  go_wp2
                  go_ret
                  have hcase := HCX.out
                  exact ⟨by rw [HBADV.out (Bool.eq_false_iff.2 (fun h => by obtain ⟨q1, q2, q3, q4, q5, q6⟩ := HCK.out.1 h; have q8 := q3.2 (by omega); omega))]; rfl, (HB2.outN _).out⟩
                · have fa : decide ((30 : Int) < (x.f0.size : Int)) = false := decide_eq_false (by omega)
                  have fbb : decide ((400 : Int) < (x.f1.size : Int)) = false := decide_eq_false (by omega)
                  have fc : (x.f2 == 0) = false := beq_eq_false_iff_ne.2 (by omega)
                  have fd : decide (x.f2 < 0) = false := decide_eq_false (by omega)
                  have fe : decide (lv l p + 1 < x.f2) = false := decide_eq_false (by omega)
                  have fk : decide (kind < 2) = true := decide_eq_true (by omega)
                  have fm : decide (kind < x.f2) = false := decide_eq_false (by omega)
                  have fp : ¬ ((p : Int) + 1 = 0) := by omega
                  have fi : decide ((0 : Int) < (p : Int) + 1) = true := decide_eq_true (by omega)
                  have fq : ((p : Int) + 1 == 0) = false := beq_eq_false_iff_ne.2 (by omega)
                  have hw1 : IntKind.i64.wrap (p : Int) = (p : Int) := by rw [IntKind.wrap_i64]; omega
                  have hw2 : IntKind.i64.wrap (lv l p + 1) = lv l p + 1 := by rw [IntKind.wrap_i64]; omega
                  have hpn : decide ((p : Int) < 0) = false := decide_eq_false (by omega)
                  have HCX := Lib.hid hcase
                  clear hcase
                  go_quiet (fail)
                  go_wp2
                  have HTR := Aside0.mk (show chk l kind _ = true from HCK.out.2 (by have hcase := HCX.out; exact ⟨by omega, by omega, ⟨fun h => by omega, fun h => by omega⟩, by omega, by omega, by omega⟩))
                  go_roundw
                  case rel => exact ⟨_, HLT.out, by go_num, ⟨(HB2.outN _).out⟩, HNEXT.out HTR.out⟩
                  case measure => simp [intOf]; have := HLT.out; omega
                · have fa : decide ((30 : Int) < (x.f0.size : Int)) = false := decide_eq_false (by omega)
                  have fbb : decide ((400 : Int) < (x.f1.size : Int)) = false := decide_eq_false (by omega)
                  have fc : (x.f2 == 0) = false := beq_eq_false_iff_ne.2 (by omega)
                  have fd : decide (x.f2 < 0) = false := decide_eq_false (by omega)
                  have fe : decide (lv l p + 1 < x.f2) = false := decide_eq_false (by omega)
                  have fk : decide (kind < 2) = false := decide_eq_false (by omega)
                  have fp : ¬ ((p : Int) + 1 = 0) := by omega
                  have fi : decide ((0 : Int) < (p : Int) + 1) = true := decide_eq_true (by omega)
                  have fq : ((p : Int) + 1 == 0) = false := beq_eq_false_iff_ne.2 (by omega)
                  have hw1 : IntKind.i64.wrap (p : Int) = (p : Int) := by rw [IntKind.wrap_i64]; omega
                  have hw2 : IntKind.i64.wrap (lv l p + 1) = lv l p + 1 := by rw [IntKind.wrap_i64]; omega
                  have hpn : decide ((p : Int) < 0) = false := decide_eq_false (by omega)
                  have HCX := Lib.hid hcase
                  clear hcase
                  go_quiet (fail)
                  go_wp2
                  have HTR := Aside0.mk (show chk l kind _ = true from HCK.out.2 (by have hcase := HCX.out; exact ⟨by omega, by omega, ⟨fun h => by omega, fun h => by omega⟩, by omega, by omega, by omega⟩))
                  go_roundw
                  case rel => exact ⟨_, HLT.out, by go_num, ⟨(HB2.outN _).out⟩, HNEXT.out HTR.out⟩
                  case measure => simp [intOf]; have := HLT.out; omega
            · obtain rfl : i = l.length := by omega
              have HA1 := Aside0.mk (show okAll (chk l kind) l.length = true from okAll_true HC.out)
              have HLV := Aside0.mk (fun j (hj : j < l.length) => chk_lv (l := l) (kind := kind) j (fun q hq => HC.out q (by omega)))
              have hltz : ¬ (l.length : Int) < (l.length : Int) := by omega
              clear hlt
              go_wp2_with fail
              go_loopw [7, 8, 85] (fun _ _ s wr => ∃ i : Nat, i ≤ l.length ∧ s = .int .i64 i ∧ Aside0 (Below W.heap.size W wr) ∧ Aside0 (∀ j, j < i → kidsOk l j = true)) (fun _ _ s _ => l.length - (intOf s).toNat)
              case atStart => exact ⟨0, Nat.zero_le _, rfl, HB, ⟨fun j hj => absurd hj (Nat.not_lt_zero _)⟩⟩
              case round =>
                clear HB HC
                obtain ⟨i, hi, rfl, HB, HC⟩ := hrel
                by_cases hlt : i < l.length
                · have hltz : (i : Int) < (l.length : Int) := by omega
                  have hlvi := HLV.out i hlt
                  have CH := Aside0.mk (children_c A c i l _ (Kd.C_below HR.out HB.out) hc hlt (by omega) (by unfold wrap64; omega))
                  have HKI := Aside0.mk (kids_in hlt)
                  have HKL := Aside0.mk (kids_len hlt)
                  clear hlvi
                  go_wp2_with fail
                  refine CH.out.mono ?_
                  rintro e w4 ⟨v4, rfl, hr4, hb4⟩
                  have HB4 := Aside0.mk (show Below W.heap.size W w4 from HB.out.trans (hb4.mono HB.out.size))
                  have HR4 := Aside0.mk hr4
                  clear hb4 hr4 CH
                  obtain ⟨A6, c6, hv4⟩ := Kd.R_slice HR4.out
                  subst hv4
                  have HR5 := Aside0.mk (Kd.R_lower HR4.out (Nat.zero_le _))
                  have HBADV := Aside0.mk (fun (h : kidsOk l i = false) => show validB l kind = false by rw [HV.out, okAll_false hlt h, Bool.and_false])
                  have HKB : (kids l i).length ≤ 100 := Nat.le_trans HKL.out c4
                  generalize hks : kids l i = ks at HR5 HKI HKB
                  have HKS := Lib.hid hks
                  clear hks HR4 HKL
                  go_wp2_with fail
                  go_loopw [9, 93] (fun _ s wi => ∃ k : Nat, k ≤ ks.length ∧ s = .int .i64 k ∧ Aside0 (Below W.heap.size W wi) ∧ Aside0 (Kd.R (Kd.int .i64) 3 wi 0 (fun _ => True) (.slice A6 ks.length c6) ks) ∧ Aside0 (∀ q, q < k → clashB l (ks.take q) (rd_T46 l (ks.getD q 0)).f0 = false)) (fun _ s _ => ks.length - (intOf s).toNat)
                  case atStart => exact ⟨0, Nat.zero_le _, rfl, HB4, HR5, ⟨fun j hj => absurd hj (Nat.not_lt_zero _)⟩⟩
                  case round =>
                    clear HR5 HB4
                    obtain ⟨k, hk, rfl, HBI, HRI, HCI⟩ := hrel
                    by_cases hkl : k < ks.length
                    · obtain ⟨g6, c6', he6⟩ := ints_slice HRI.out (by omega)
                      injection he6 with he6 _ hc6
                      subst he6
                      subst hc6
                      obtain ⟨_, hkc, hC6⟩ := Kd.R_reads' HRI.out
                      obtain ⟨ad6, he, xk⟩ := at_int_nat hC6 k hkl
                      cases he
                      rw [add_plain] at xk
                      have hin := HKI.out (ks.getD k 0) (by rw [List.getD_eq_getElem?_getD, List.getElem?_eq_getElem hkl]; exact List.getElem_mem hkl)
                      obtain ⟨m, hm⟩ : ∃ m : Nat, ks.getD k 0 = (m : Int) := ⟨(ks.getD k 0).toNat, by omega⟩
                      rw [hm] at xk
                      obtain ⟨ad, rfl, y0, _, _⟩ := at_T46 (Kd.C_below HR.out HBI.out) (m : Int) (by omega) (by omega)
                      rw [Int.toNat_natCast] at y0
                      have hz0 : wr.cell? ⟨g6, k, none⟩ = some (.int .i64 (m : Int)) := xk
                      have hz1 : wr.cell? (ad.add (m * 3)) = some (.string (rd_T46 l (m : Int)).f0) := y0
                      have hkz : (k : Int) < (ks.length : Int) := by omega
                      have hkcz : (k : Int) ≤ (c6 : Int) := by omega
                      have hkcn : k ≤ c6 := by omega
                      have hmz : (m : Int) < (l.length : Int) := by omega
                      have HM := Lib.hid hm
                      have HIN := Aside0.mk HKI.out
                      clear xk y0 hin hm hC6
                      go_wp2_with fail
                      refine start_ (n := 13) (S := fun w' => w'.cell? ⟨g6, k, none⟩ = some (.int .i64 (m : Int)) ∧ w'.cell? (ad.add (m * 3)) = some (.string (rd_T46 l (m : Int)).f0)) (ds := [12]) #[false, false, false, false, false, false, false, false, false, false, false, false, false] (by kernel_rfl) rfl rfl ⟨hz0, hz1⟩ (fun hHeld => ?_)
                      refine with_tabW ValidW.tab16 ValidW.bits16 (fun HT_ HW_ => ?_)
                      have HWD := Aside0.mk (show Below W.heap.size W wr.drew from HBI.out.drew)
                      have HRD := Aside0.mk (fun (w9 : World) (hb : Below wr.drew.heap.size wr.drew w9) => Kd.R_below (Kd.R_drew HRI.out) hb)
                      generalize wr.drew = wd at HWD HRD hHeld ⊢
                      refine pure_ (i := 0) (N := some 96) (v := ?_) (a' := ?_) #[true, false, false, false, false, false, false, false, false, false, false, false, false] rfl rfl (any_of HT_.out (by kernel_rfl)) (fun _ _ _ h => h) (Or.inl ⟨by rfl, ?_⟩) ?_ ?_
                      rotate_left
                      · intro w'
                        go_simp
                        with_reducible rfl
                      rotate_left
                      · simp only [Act.put, List.setIfInBounds_toArray, List.set_cons_zero, List.set_cons_succ, i64_w, i32_w]
                        rfl
                      refine pure_ (i := 1) (N := some 97) (v := ?_) (a' := ?_) #[true, true, false, false, false, false, false, false, false, false, false, false, false] rfl rfl (any_of HT_.out (by kernel_rfl)) (fun _ _ _ h => h) (Or.inl ⟨by rfl, ?_⟩) ?_ ?_
                      rotate_left
                      · intro w'
                        go_simp
                        with_reducible rfl
                      rotate_left
                      · simp only [Act.put, List.setIfInBounds_toArray, List.set_cons_zero, List.set_cons_succ, i64_w, i32_w]
                        rfl
                      refine pure_ (i := 2) (N := some 98) (v := ?_) (a' := ?_) #[true, true, true, false, false, false, false, false, false, false, false, false, false] rfl rfl (any_of HT_.out (by kernel_rfl)) (fun _ _ _ h => h) (Or.inl ⟨by rfl, ?_⟩) ?_ ?_
                      rotate_left
                      · intro w'
                        go_simp
                        with_reducible rfl
                      rotate_left
                      · simp only [Act.put, List.setIfInBounds_toArray, List.set_cons_zero, List.set_cons_succ, i64_w, i32_w]
                        rfl
                      refine pure_ (i := 3) (N := some 99) (v := ?_) (a' := ?_) #[true, true, true, true, false, false, false, false, false, false, false, false, false] rfl rfl (any_of HT_.out (by kernel_rfl)) (fun _ _ _ h => h) (Or.inl ⟨by rfl, ?_⟩) ?_ ?_
                      rotate_left
                      · intro w'
                        go_simp
                        with_reducible rfl
                      rotate_left
                      · simp only [Act.put, List.setIfInBounds_toArray, List.set_cons_zero, List.set_cons_succ, i64_w, i32_w]
                        rfl
                      refine pure_ (i := 4) (N := some 100) (v := ?_) (a' := ?_) #[true, true, true, true, true, false, false, false, false, false, false, false, false] rfl rfl (any_of HT_.out (by kernel_rfl)) (fun _ _ _ h => h) (Or.inl ⟨by rfl, ?_⟩) ?_ ?_
                      rotate_left
                      · intro w'
                        go_simp
                        with_reducible rfl
                      rotate_left
                      · simp only [Act.put, List.setIfInBounds_toArray, List.set_cons_zero, List.set_cons_succ, i64_w, i32_w]
                        rfl
                      refine pure_ (i := 5) (N := some 101) (v := ?_) (a' := ?_) #[true, true, true, true, true, true, false, false, false, false, false, false, false] rfl rfl (any_of HT_.out (by kernel_rfl)) (fun _ _ _ h => h) (Or.inl ⟨by rfl, ?_⟩) ?_ ?_
                      rotate_left
                      · intro w'
                        go_simp
                        with_reducible rfl
                      rotate_left
                      · simp only [Act.put, List.setIfInBounds_toArray, List.set_cons_zero, List.set_cons_succ, i64_w, i32_w]
                        rfl
                      refine pure_ (i := 6) (N := some 102) (v := ?_) (a' := ?_) #[true, true, true, true, true, true, true, false, false, false, false, false, false] rfl rfl (any_of HT_.out (by kernel_rfl)) (fun _ _ _ h => h) (Or.inl ⟨by rfl, ?_⟩) ?_ ?_
                      rotate_left
                      · intro w'
                        go_simp
                        with_reducible rfl
                      rotate_left
                      · simp only [Act.put, List.setIfInBounds_toArray, List.set_cons_zero, List.set_cons_succ, i64_w, i32_w]
                        rfl
                      refine pure_ (i := 7) (N := some 103) (v := ?_) (a' := ?_) #[true, true, true, true, true, true, true, true, false, false, false, false, false] rfl rfl (any_of HT_.out (by kernel_rfl)) (fun _ _ _ h => h) (Or.inl ⟨by rfl, ?_⟩) ?_ ?_
                      rotate_left
                      · intro w'
                        go_simp
                        with_reducible rfl
                      rotate_left
                      · simp only [Act.put, List.setIfInBounds_toArray, List.set_cons_zero, List.set_cons_succ, i64_w, i32_w]
                        rfl
                      refine take_ (i := 8) (N := some 104) (v := ?_) (a' := ?_) #[true, true, true, true, true, true, true, true, true, false, false, false, false] rfl rfl (take_ofW HT_.out HW_.out (by kernel_rfl)) (fun _ _ _ h => h) (Or.inl ⟨by rfl, ?_⟩) hHeld ?_ ?_
                      rotate_left
                      · rintro w' ⟨s0, s1⟩
                        go_simp
                        with_reducible rfl
                      rotate_left
                      · simp only [Act.put, List.setIfInBounds_toArray, List.set_cons_zero, List.set_cons_succ, i64_w, i32_w]
                        rfl
                      refine pure_ (i := 9) (N := some 105) (v := ?_) (a' := ?_) #[true, true, true, true, true, true, true, true, true, true, false, false, false] rfl rfl (any_of HT_.out (by kernel_rfl)) (fun _ _ _ h => h) (Or.inl ⟨by rfl, ?_⟩) ?_ ?_
                      rotate_left
                      · intro w'
                        go_simp
                        with_reducible rfl
                      rotate_left
                      · simp only [Act.put, List.setIfInBounds_toArray, List.set_cons_zero, List.set_cons_succ, i64_w, i32_w]
                        rfl
                      refine pure_ (i := 10) (N := some 106) (v := ?_) (a' := ?_) #[true, true, true, true, true, true, true, true, true, true, true, false, false] rfl rfl (any_of HT_.out (by kernel_rfl)) (fun _ _ _ h => h) (Or.inl ⟨by rfl, ?_⟩) ?_ ?_
                      rotate_left
                      · intro w'
                        go_simp
                        with_reducible rfl
                      rotate_left
                      · simp only [Act.put, List.setIfInBounds_toArray, List.set_cons_zero, List.set_cons_succ, i64_w, i32_w]
                        rfl
                      refine take_ (i := 11) (N := some 107) (v := ?_) (a' := ?_) #[true, true, true, true, true, true, true, true, true, true, true, true, false] rfl rfl (take_ofW HT_.out HW_.out (by kernel_rfl)) (fun _ _ _ h => h) (Or.inl ⟨by rfl, ?_⟩) hHeld ?_ ?_
                      rotate_left
                      · rintro w' ⟨s0, s1⟩
                        go_simp
                        with_reducible rfl
                      rotate_left
                      · simp only [Act.put, List.setIfInBounds_toArray, List.set_cons_zero, List.set_cons_succ, i64_w, i32_w]
                        rfl
                      refine last_ (i := 12) (N := some 108) #[true, true, true, true, true, true, true, true, true, true, true, true, true] rfl rfl (one_of HT_.out (by kernel_rfl)) (by decide) (fun K hK => ?_)
                      refine goes_ Tryd.func24 (by kernel_rfl) rfl #[.slice (some ad) l.length c, .slice (some ⟨g6, 0, none⟩) k c6, .string (rd_T46 l (m : Int)).f0] (by rfl) rfl rfl (by (try simp only [List.map_toArray, List.map_cons, List.map_nil]); first | done | rfl | (simp only []; rfl)) ?_
                      with_reducible refine (clash_pre ad c g6 c6 k l ks _ W wd HR.out HWD.out hc (HRD.out wd (Below.refl _ _)) hk HIN.out).mono ?_
                      rintro e w9 ⟨rfl, hb9⟩
                      have HB9 := Aside0.mk (show Below W.heap.size W w9 from HWD.out.trans (hb9.mono HWD.out.size))
                      have HR9 := Aside0.mk (HRD.out w9 hb9)
                      clear hb9
                      refine ⟨_, rfl, ?_⟩
                      refine hK.out _ _ ?_
                      clear hK K
                      refine norm_ (a' := ?_) ?_ ?_
                      rotate_left
                      · show Act.put _ (some 108) _ = _
                        simp only [Act.put, List.setIfInBounds_toArray, List.set_cons_zero, List.set_cons_succ, i64_w, i32_w]
                        rfl
                      refine done_ (done_of HT_.out (by kernel_rfl)) ?_
                      cases hb : clashB l (ks.take k) (rd_T46 l (m : Int)).f0
                      · have HHB := Lib.hid hb
                        clear hb
                        go_wp2
                        go_roundw
                        case rel => exact ⟨k + 1, by omega, by go_num, HB9, ⟨Kd.R_mono HR9.out (fun _ _ => trivial)⟩, ⟨fun q hq => by
                          rcases Nat.lt_or_ge q k with h2 | h2
                          · exact HCI.out q h2
                          · obtain rfl : q = k := by omega
                            rw [HM.out]; exact HHB.out⟩⟩
                        case measure => simp [intOf]; omega
                      · have HHB := Lib.hid hb
                        clear hb
                        go_wp2
                        go_ret
                        exact ⟨by rw [HBADV.out (by unfold kidsOk; rw [HKS.out]; exact okAll_false hkl (by rw [HM.out, HHB.out]; rfl))]; rfl, HB9.out⟩
                    · obtain rfl : k = ks.length := by omega
                      have hkz : ¬ (ks.length : Int) < (ks.length : Int) := by omega
                      have HKO := Aside0.mk (show kidsOk l i = true by
                        unfold kidsOk
                        rw [HKS.out]
                        exact okAll_true (fun q hq => by rw [HCI.out q hq]; rfl))
                      clear hkl
                      go_wp2
                      go_roundw
                      case rel => exact ⟨i + 1, by omega, by go_num, HBI, ⟨fun j hj => by
                        rcases Nat.lt_or_ge j i with h2 | h2
                        · exact HC.out j h2
                        · rw [show j = i by omega]; exact HKO.out⟩⟩
                      case measure => simp [intOf]; omega
                · obtain rfl : i = l.length := by omega
                  have hltz : ¬ (l.length : Int) < (l.length : Int) := by omega
                  have HFIN := Aside0.mk (show validB l kind = true by rw [HV.out, HA1.out, okAll_true HC.out]; rfl)
                  clear hlt
                  go_wp2
                  go_ret
                  exact ⟨by rw [HFIN.out]; rfl, HB.out⟩
        · have b4 : decide ((100 : Int) < (l.length : Int)) = true := decide_eq_true (by omega)
          have HV : Aside0 (validB l kind = false) := ⟨by simp [validB, headOk, c4]⟩
          go_enter Tryd.func7, Tryd.ntmps7
          go_wp2
          go_ret
          exact ⟨by rw [HV.out]; rfl, Below.refl _ _⟩
      · have b3' : decide ((l.length : Int) < 1) = true := decide_eq_true (by omega)
        have HV : Aside0 (validB l kind = false) := ⟨by simp [validB, headOk, c3]⟩
        go_enter Tryd.func7, Tryd.ntmps7
        go_wp2
        go_ret
        exact ⟨by rw [HV.out]; rfl, Below.refl _ _⟩
    · have b2 : decide (2 < kind) = true := decide_eq_true (by omega)
      have HV : Aside0 (validB l kind = false) := ⟨by simp [validB, headOk, c2]⟩
      go_enter Tryd.func7, Tryd.ntmps7
      go_wp2
      go_ret
      exact ⟨by rw [HV.out]; rfl, Below.refl _ _⟩
  · have b1 : decide (kind < 0) = true := decide_eq_true (by omega)
    have HV : Aside0 (validB l kind = false) := ⟨by simp [validB, headOk, c1]⟩
    go_enter Tryd.func7, Tryd.ntmps7
    go_wp2
    go_ret
    exact ⟨by rw [HV.out]; rfl, Below.refl _ _⟩
end Go.Proofs.YtehlmkgldcfciaaDoor.Files
/- files.head: what it reads of a text. -/
set_option linter.unusedVariables false
set_option linter.unusedSimpArgs false
namespace Go.Proofs.YtehlmkgldcfciaaDoor.Files
open Go.Proofs.YtehlmkgldcfciaaDoor.Common Go.RowKit Go.Lib Go.Shelf Go.Proofs.YtehlmkgldcfciaaDoorW.PrintWords
theorem Atoi_yes (x : ByteArray) (hx : x.size ≤ 2000000) (v : Int) (h : Lib.atoiAll x.data.toList = .ok v) (w : World) : Calls Tryd.prog 32 #[.string x] w fun e w' => e = .returned (.tuple #[.int .i64 v, .nilIface]) ∧ Below w.heap.size w w' := by
  refine (Tryd.strconv_Atoi_ok x (by omega) v h w).mono ?_
  rintro e w' ⟨rfl, rfl | ⟨t, rfl⟩⟩
  · exact ⟨rfl, Below.refl _ _⟩
  · exact ⟨rfl, Go.Joins.below_bytesWorld _ _ _ _ (Nat.le_refl _)⟩
theorem Atoi_no (x : ByteArray) (hx : x.size ≤ 2000000) (h : ∀ v, Lib.atoiAll x.data.toList ≠ .ok v) (w : World) (hT : Tab10 w) : Calls Tryd.prog 32 #[.string x] w fun e w' => ∃ (v : Int) (N : Nat), e = .returned (.tuple #[.int .i64 v, .iface 119 (.pointer (some ⟨N, 0, none⟩))]) ∧ Below w.heap.size w w' := by
  by_cases hr : Lib.atoiAll x.data.toList = .range
  · obtain ⟨tp, p, hp⟩ := hT.2.2
    refine (Tryd.strconv_Atoi_range_var x (by omega) hr tp p w hp).mono ?_
    rintro e w' ⟨N, rfl, _, _, hb⟩
    exact ⟨_, N, rfl, hb⟩
  · obtain ⟨tp, p, hp⟩ := hT.2.1
    refine (Tryd.strconv_Atoi_bad_var x (by omega) h hr tp p w hp).mono ?_
    rintro e w' ⟨N, rfl, _, _, hb⟩
    exact ⟨_, N, rfl, hb⟩
theorem Itoa_c (n : Int) (h0 : -9223372036854775808 ≤ n) (h1 : n ≤ 9223372036854775807) (w : World) (hT : Tab10 w) : Calls Tryd.prog 33 #[.int .i64 n] w fun e w' => e = .returned (.string ⟨(Lib.itoa n).toArray⟩) ∧ Below w.heap.size w w' := by
  refine (Tryd.strconv_Itoa n h0 h1 w hT.tab).mono ?_
  rintro e w' ⟨rfl, k, os, rfl⟩
  exact ⟨rfl, Lib.below_grow _ _ (Nat.le_refl _) _ _⟩
/-- The most that a head's number may be. -/
def mostOf (i : Nat) : Int := if i = 0 then 100 else if i = 1 then 30 else 400
def num1 (x : ByteArray) (i : Nat) : Option Int := match Lib.atoiAll x.data.toList with
  | .ok n => if Lib.itoa n = x.data.toList ∧ 0 ≤ n ∧ n ≤ mostOf i then some n else none
  | _ => none
def headGo (ended : Bool) : List ByteArray → Nat → Option (List Int)
  | [], _ => some []
  | x :: r, i => if x = ⟨#[]⟩ ∧ ended = false ∧ r = [] then some [] else match num1 x i with
    | none => none
    | some n => (headGo ended r (i + 1)).map (n :: ·)
structure HeadR where
  level : Int
  name : Int
  data : Int
  long : Int
  whole : Bool
def lineOf (s : ByteArray) : ByteArray := ⟨(Lib.cut s.data.toList [10]).1.toArray⟩
def endedOf (s : ByteArray) : Bool := (Lib.cut s.data.toList [10]).2.2
/-- What files.head tells of a text: none where it is not right. -/
def headF (s : ByteArray) : Option HeadR :=
  if 3 < (pieces (lineOf s) 32).length ∨ (endedOf s = true ∧ (pieces (lineOf s) 32).length < 3) then none else
  (headGo (endedOf s) (pieces (lineOf s) 32) 0).map fun ns => ⟨ns.getD 0 0, ns.getD 1 0, ns.getD 2 0, (lineOf s).size + 1, endedOf s⟩
def headV : Option HeadR → Value
  | none => .tuple #[.int .i64 0, .int .i64 0, .int .i64 0, .int .i64 0, .bool false, .bool false]
  | some h => .tuple #[.int .i64 h.level, .int .i64 h.name, .int .i64 h.data, .int .i64 h.long, .bool h.whole, .bool true]
theorem lineOf_le (s : ByteArray) : (lineOf s).size ≤ s.size := by
  unfold lineOf
  rcases Lib.indexB_cases s ⟨#[10]⟩ with hix | ⟨i, hix, hroom⟩
  · rw [show (⟨(Lib.cut s.data.toList [10]).1.toArray⟩ : ByteArray) = s from (Lib.cutB_miss s ⟨#[10]⟩ hix).1]
    exact Nat.le_refl _
  · rw [show (⟨(Lib.cut s.data.toList [10]).1.toArray⟩ : ByteArray) = s.extract 0 i from (Lib.cutB_hit s ⟨#[10]⟩ i hix).1, ByteArray.size_extract]
    omega
theorem extract_le (s : ByteArray) (a b : Nat) : (s.extract a b).size ≤ s.size := by rw [ByteArray.size_extract]; omega
theorem splitB_size (sep : ByteArray) : ∀ (k : Nat) (s x : ByteArray), x ∈ Lib.splitB sep 0 k s → x.size ≤ s.size
  | 0, s, x, h => by
    rw [Lib.splitB_zero, List.mem_singleton] at h
    rw [h]; exact Nat.le_refl _
  | k + 1, s, x, h => by
    unfold Lib.splitB at h
    split at h
    · rw [List.mem_singleton] at h
      rw [h]; exact Nat.le_refl _
    · rcases List.mem_cons.1 h with rfl | h
      · exact extract_le _ _ _
      · exact Nat.le_trans (splitB_size sep k _ x h) (extract_le _ _ _)
theorem pieces_size {s x : ByteArray} {c : UInt8} (h : x ∈ pieces s c) : x.size ≤ s.size := splitB_size _ _ _ _ h
/-- The three numbers as the array's cells. -/
def numsA (ns : List Int) : Array Value := #[.int .i64 (ns.getD 0 0), .int .i64 (ns.getD 1 0), .int .i64 (ns.getD 2 0)]
theorem numsA_put : ∀ (ns : List Int) (x : Int), ns.length < 3 → (numsA ns).setIfInBounds ns.length (.int .i64 x) = numsA (ns ++ [x])
  | [], x, _ => rfl
  | [a], x, _ => rfl
  | [a, b], x, _ => rfl
  | a :: b :: c :: r, x, h => by simp at h; omega
theorem numsA_at : ∀ (ns : List Int), ns.length < 3 → (numsA ns)[ns.length]? = some (.int .i64 0)
  | [], _ => rfl
  | [a], _ => rfl
  | [a, b], _ => rfl
  | a :: b :: c :: r, h => by simp at h; omega
theorem headGo_snoc (ended : Bool) (ws : List ByteArray) (i : Nat) (h : i < ws.length) {n : Int} (hb : ¬ (ws[i] = ⟨#[]⟩ ∧ ended = false ∧ i + 1 = ws.length)) (hn : num1 ws[i] i = some n) : headGo ended (ws.drop i) i = (headGo ended (ws.drop (i + 1)) (i + 1)).map (n :: ·) := by
  rw [List.drop_eq_getElem_cons h]
  conv => lhs; unfold headGo
  rw [if_neg (fun e => hb ⟨e.1, e.2.1, by have := congrArg List.length e.2.2; simp at this; omega⟩), hn]
theorem headGo_stop (ended : Bool) (ws : List ByteArray) (i : Nat) (h : i < ws.length) (hb : ws[i] = ⟨#[]⟩ ∧ ended = false ∧ i + 1 = ws.length) : headGo ended (ws.drop i) i = some [] := by
  rw [List.drop_eq_getElem_cons h]
  unfold headGo
  rw [if_pos ⟨hb.1, hb.2.1, by rw [List.drop_eq_nil_of_le (by omega)]⟩]
theorem headGo_bad (ended : Bool) (ws : List ByteArray) (i : Nat) (h : i < ws.length) (hb : ¬ (ws[i] = ⟨#[]⟩ ∧ ended = false ∧ i + 1 = ws.length)) (hn : num1 ws[i] i = none) : headGo ended (ws.drop i) i = none := by
  rw [List.drop_eq_getElem_cons h]
  conv => lhs; unfold headGo
  rw [if_neg (fun e => hb ⟨e.1, e.2.1, by have := congrArg List.length e.2.2; simp at this; omega⟩), hn]
theorem headGo_end (ended : Bool) (ws : List ByteArray) : headGo ended (ws.drop ws.length) ws.length = some [] := by rw [List.drop_length]; rfl
/-- What lies where between two rounds of head's loop. -/
structure HeadIn (w wr : World) (B : Nat) (ws : List ByteArray) (ns : List Int) : Prop where
  low : Below w.heap.size w wr
  hB : w.heap.size ≤ B
  arr : wr.heap[B]? = some (.cells (numsA ns) 73 (0, 0))
  row : wr.heap[w.heap.size]? = some (.cells (ws.map Value.string).toArray 9 (0, 0))
  ne : B ≠ w.heap.size
theorem HeadIn.below {w wr w' : World} {B : Nat} {ws : List ByteArray} {ns : List Int} (h : HeadIn w wr B ws ns) (hb : Below wr.heap.size wr w') : HeadIn w w' B ws ns :=
  ⟨h.low.trans (hb.mono h.low.size), h.hB, (hb.block B (Array.getElem?_eq_some_iff.1 h.arr).1).trans h.arr, (hb.block _ (Array.getElem?_eq_some_iff.1 h.row).1).trans h.row, h.ne⟩
theorem HeadIn.put {w wr : World} {B : Nat} {ws : List ByteArray} {ns : List Int} (h : HeadIn w wr B ws ns) {x : Int} (hl : ns.length < 3) : HeadIn w (wr.setCell ⟨B, ns.length, none⟩ (.int .i64 x)) B ws (ns ++ [x]) := by
  refine ⟨h.low.setCell (p := ⟨B, ns.length, none⟩) h.hB _, h.hB, ?_, (Below.heap_setCell _ ⟨B, ns.length, none⟩ _ _ (by simpa using Ne.symm h.ne)).trans h.row, h.ne⟩
  rw [← numsA_put ns x hl]
  exact blk_set h.arr _ _
theorem numCases {x : ByteArray} {i : Nat} : (∃ n, num1 x i = some n ∧ Lib.atoiAll x.data.toList = .ok n ∧ Lib.itoa n = x.data.toList ∧ 0 ≤ n ∧ n ≤ mostOf i) ∨ (num1 x i = none ∧ (∀ v, Lib.atoiAll x.data.toList ≠ .ok v)) ∨
    (num1 x i = none ∧ ∃ n, Lib.atoiAll x.data.toList = .ok n ∧ (Lib.itoa n ≠ x.data.toList ∨ (Lib.itoa n = x.data.toList ∧ n < 0) ∨ (Lib.itoa n = x.data.toList ∧ 0 ≤ n ∧ mostOf i < n))) := by
  unfold num1
  cases h : Lib.atoiAll x.data.toList with
  | ok n =>
    simp only
    by_cases h1 : Lib.itoa n = x.data.toList
    · by_cases h2 : 0 ≤ n
      · by_cases h3 : n ≤ mostOf i
        · exact .inl ⟨n, by rw [if_pos ⟨h1, h2, h3⟩], rfl, h1, h2, h3⟩
        · exact .inr (.inr ⟨by rw [if_neg (fun e => h3 e.2.2)], n, rfl, .inr (.inr ⟨h1, h2, by omega⟩)⟩)
      · exact .inr (.inr ⟨by rw [if_neg (fun e => h2 e.2.1)], n, rfl, .inr (.inl ⟨h1, by omega⟩)⟩)
    · exact .inr (.inr ⟨by rw [if_neg (fun e => h1 e.1)], n, rfl, .inl h1⟩)
  | _ => exact .inr (.inl ⟨rfl, fun v e => by cases e⟩)
theorem beq_str {a : ByteArray} {l : List UInt8} (h : l = a.data.toList) : (l == a.toList) = true := by rw [ByteArray.toList_eq, h]; simp
theorem beq_strNo {a : ByteArray} {l : List UInt8} (h : l ≠ a.data.toList) : (l == a.toList) = false := by rw [ByteArray.toList_eq]; simpa using h
theorem most_cell (W : World) (i : Nat) (hi : i < 3) : (W.alloc (.cells #[.int .i64 100, .int .i64 30, .int .i64 400] 3)).cell? ⟨W.heap.size, i, none⟩ = some (.int .i64 (mostOf i)) := by
  refine (blk_cell (heap_alloc_new W (.cells #[.int .i64 100, .int .i64 30, .int .i64 400] 3)) i).trans ?_
  match i, hi with
  | 0, _ => rfl
  | 1, _ => rfl
  | 2, _ => rfl
end Go.Proofs.YtehlmkgldcfciaaDoor.Files
/- files.head, walked. -/
set_option linter.unusedVariables false
set_option linter.unusedSimpArgs false
namespace Go.Proofs.YtehlmkgldcfciaaDoor.Files
open Go.Proofs.YtehlmkgldcfciaaDoor.Common Go.RowKit Go.Lib Go.Shelf Go.Proofs.YtehlmkgldcfciaaDoorW.PrintWords
set_option maxRecDepth 100000 in
set_option maxHeartbeats 8000000 in
theorem head_c (s : ByteArray) (w : World) (hT : Tab10 w) (hs : s.size ≤ 2000000) : Calls Tryd.prog 16 #[.string s] w fun e w' => e = .returned (headV (headF s)) ∧ Below w.heap.size w w' := by
  have hll := lineOf_le s
  have CC := Aside0.mk (fun W => Cut_c s 10 W (by omega))
  have hF : headF s = if 3 < (pieces (lineOf s) 32).length ∨ (endedOf s = true ∧ (pieces (lineOf s) 32).length < 3) then none else
    (headGo (endedOf s) (pieces (lineOf s) 32) 0).map fun ns => ⟨ns.getD 0 0, ns.getD 1 0, ns.getD 2 0, (lineOf s).size + 1, endedOf s⟩ := rfl
  have hcv : cutV s 10 = .tuple #[.string (lineOf s), .string ⟨(Lib.cut s.data.toList [10]).2.1.toArray⟩, .bool (endedOf s)] := rfl
  rw [hcv] at CC
  have HT := Aside0.mk hT
  have hps : ∀ x ∈ pieces (lineOf s) 32, x.size ≤ 2000000 := fun x hx => by have := pieces_size hx; omega
  generalize (⟨(Lib.cut s.data.toList [10]).2.1.toArray⟩ : ByteArray) = rest at *
  have CS := Aside0.mk (fun W => Split_c (lineOf s) 32 W (by omega))
  generalize endedOf s = ended at *
  have hlsz : (lineOf s).size ≤ 2000000 := by omega
  generalize lineOf s = line at *
  have HPS := Aside0.mk hps
  generalize hws : pieces line 32 = ws at *
  generalize headF s = hd at *
  have HF := Lib.hid hF
  clear hF hcv hT hps hws hll
  cases ended with
  | false =>
    go_enter Tryd.func16, Tryd.ntmps16
    go_wp2_with fail
    refine (CC.out _).mono ?_
    rintro e w1 ⟨rfl, n1, rfl⟩
    go_wp2_with fail
    refine (CS.out _).mono ?_
    rintro e w2 ⟨rfl, rfl⟩
    have hB1 : Below w.heap.size w ((w.drewN n1).alloc (.cells (ws.map Value.string).toArray 9)) := (Go.Joins.below_draws _ w n1).alloc (Nat.le_refl _) _
    have HB1 := Aside0.mk hB1
    have hsz1 : ((w.drewN n1).alloc (.cells (ws.map Value.string).toArray 9)).heap.size = w.heap.size + 1 := by simp
    have hrow1 : ((w.drewN n1).alloc (.cells (ws.map Value.string).toArray 9)).heap[w.heap.size]? = some (.cells (ws.map Value.string).toArray 9 (0, 0)) := heap_alloc_new (w.drewN n1) _
    clear hB1
    by_cases h3 : 3 < ws.length
    · have g3 : decide ((3 : Int) < (ws.length : Int)) = true := decide_eq_true (by omega)
      clear hrow1
      go_wp2
      refine bodyPost_ret (v := headV none) (by simp [results, Tryd.f16, go_sem, headV]) rfl ?_
      exact ⟨by rw [HF.out, if_pos (.inl h3)], HB1.out⟩
    have g3 : decide ((3 : Int) < (ws.length : Int)) = false := decide_eq_false (by omega)
    have HI0 := Aside0.mk (show HeadIn w (((w.drewN n1).alloc (.cells (ws.map Value.string).toArray 9)).alloc (.cells #[.int .i64 0, .int .i64 0, .int .i64 0] 73)) (w.heap.size + 1) ws [] from
      ⟨HB1.out.alloc HB1.out.size _, Nat.le_succ _, by have := heap_alloc_new ((w.drewN n1).alloc (.cells (ws.map Value.string).toArray 9)) (.cells #[.int .i64 0, .int .i64 0, .int .i64 0] 73); rw [hsz1] at this; exact this,
        (Below.heap_alloc _ _ _ (by rw [hsz1]; omega)).trans hrow1, by omega⟩)
    have HW0 := Aside0.mk (show ws.length ≤ 3 by omega)
    clear hrow1
    have HR := Lib.hid (show hd = (headGo false ws 0).map fun ns => ⟨ns.getD 0 0, ns.getD 1 0, ns.getD 2 0, (line.size : Int) + 1, false⟩ by rw [HF.out, if_neg (fun e => e.elim h3 (fun e => by cases e.1))])
    clear HF h3 HB1
    go_wp2_with fail
    go_loopw [39] (fun s wr => ∃ (i : Nat) (ns : List Int), s = .int .i64 i ∧ i ≤ ws.length ∧ ns.length = i ∧ Aside0 (headGo false ws 0 = (headGo false (ws.drop i) i).map (ns ++ ·)) ∧ Aside0 (HeadIn w wr (w.heap.size + 1) ws ns)) (fun s _ => ws.length - (RowKit.intOf s).toNat)
    case atStart => exact ⟨0, [], rfl, Nat.zero_le _, rfl, ⟨by simp⟩, HI0⟩
    case round =>
      clear HI0
      obtain ⟨i, ns, rfl, hi, hns, HG, HI⟩ := hrel
      by_cases hlt : i < ws.length
      · have hltz : (i : Int) < (ws.length : Int) := by omega
        have hi0 : decide ((i : Int) < 0) = false := decide_eq_false (by omega)
        have hi3 : i < 3 := by have := HW0.out; omega
        have hx : wr.cell? ⟨w.heap.size, i, none⟩ = some (.string ws[i]) := (blk_cell HI.out.row i).trans (by simp [List.getElem?_eq_getElem hlt])
        have hxs : ws[i].size ≤ 2000000 := HPS.out _ (List.getElem_mem hlt)
        have hwl : wrap64 ((ws.length : Int) - 1) = (ws.length : Int) - 1 := by have := HW0.out; unfold wrap64; omega
        by_cases hbr : ws[i] = ⟨#[]⟩ ∧ false = false ∧ i + 1 = ws.length
        · have HH := Lib.hid (show hd = some ⟨ns.getD 0 0, ns.getD 1 0, ns.getD 2 0, (line.size : Int) + 1, false⟩ by rw [HR.out, HG.out, headGo_stop false ws i hlt hbr]; simp)
          have hE : (ws[i].toList == []) = true := by rw [hbr.1, ByteArray.toList_eq]; rfl
          have hL : ((i : Int) == wrap64 ((ws.length : Int) - 1)) = true := by rw [hwl]; simp; omega
          generalize ws[i] = x at *
          clear hbr
          have k0 : wr.cell? ⟨w.heap.size + 1, 0, none⟩ = some (.int .i64 (ns.getD 0 0)) := (blk_cell HI.out.arr 0).trans rfl
          have k1 : wr.cell? ⟨w.heap.size + 1, 1, none⟩ = some (.int .i64 (ns.getD 1 0)) := (blk_cell HI.out.arr 1).trans rfl
          have k2 : wr.cell? ⟨w.heap.size + 1, 2, none⟩ = some (.int .i64 (ns.getD 2 0)) := (blk_cell HI.out.arr 2).trans rfl
          have HL := Aside0.mk HI.out.low.drew
          go_wp2_with fail
          go_region
          go_wp2
          refine bodyPost_ret (v := headV (some ⟨ns.getD 0 0, ns.getD 1 0, ns.getD 2 0, (line.size : Int) + 1, false⟩)) (by simp [results, Tryd.f16, go_sem, headV]) rfl ?_
          exact ⟨by rw [HH.out], HL.out⟩
        rcases numCases (x := ws[i]) (i := i) with ⟨n, hnum, hat, hit, hn0, hn1⟩ | ⟨hnum, hat⟩ | ⟨hnum, n, hat, hrest⟩
        · have HS := Lib.hid (headGo_snoc false ws i hlt hbr hnum)
          have hyes := beq_str hit
          have hE : (ws[i].toList == []) = false := by
            rw [ByteArray.toList_eq]
            cases h : ws[i].data.toList with
            | nil => rw [h] at hat; cases hat
            | cons _ _ => rfl
          have hnb := Lib.atoiAll_bounds hat
          generalize ws[i] = x at *
          clear hbr hnum hit
          go_wp2_with fail
          refine (Atoi_yes x hxs n hat _).mono ?_
          rintro e w3 ⟨rfl, hb3⟩
          have HI3 := Aside0.mk (HI.out.below hb3)
          clear hb3
          go_wp2_with fail
          refine (Itoa_c n hnb.1 hnb.2 _ (HT.out.below HI3.out.low)).mono ?_
          rintro e w4 ⟨rfl, hb4⟩
          have HI4 := Aside0.mk (HI3.out.below hb4)
          clear hb4
          have g1 : decide (n < 0) = false := decide_eq_false (by omega)
          have g2 : decide (mostOf i < n) = false := decide_eq_false (by omega)
          have hm := most_cell w4 i hi3
          have hi3z : (i : Int) < 3 := by omega
          have HI5 := Aside0.mk (HI4.out.below ((Below.refl _ w4).alloc (Nat.le_refl _) (.cells #[.int .i64 100, .int .i64 30, .int .i64 400] 3)))
          have ka : (w4.alloc (.cells #[.int .i64 100, .int .i64 30, .int .i64 400] 3)).cell? ⟨w.heap.size + 1, i, none⟩ = some (.int .i64 0) := (blk_cell HI5.out.arr i).trans (by rw [← hns]; exact numsA_at ns (by omega))
          have kf := blk_frozen HI5.out.arr i
          have HP := Aside0.mk (HI5.out.put (x := n) (by omega))
          go_wp2_with fail
          go_roundw
          case rel => exact ⟨i + 1, ns ++ [n], by go_num, by omega, by simp [hns], ⟨by rw [HG.out, HS.out]; simp [Function.comp_def]⟩, by rw [← hns]; exact HP⟩
          case measure => simp [RowKit.intOf]; omega
        · have HH := Lib.hid (show hd = none by rw [HR.out, HG.out, headGo_bad false ws i hlt hbr hnum]; rfl)
          rcases (Classical.em (ws[i] = ⟨#[]⟩)) with hx0 | hx0
          · have hE : (ws[i].toList == []) = true := by rw [hx0, ByteArray.toList_eq]; rfl
            have hL : ((i : Int) == wrap64 ((ws.length : Int) - 1)) = false := by
              rw [hwl]
              simp
              intro e2
              exact hbr ⟨hx0, rfl, by omega⟩
            generalize ws[i] = x at *
            clear hbr hx0
            clear hnum
            go_wp2_with fail
            refine (Atoi_no x hxs hat _ (HT.out.below HI.out.low)).mono ?_
            rintro e w3 ⟨v3, N3, rfl, hb3⟩
            have HL := Aside0.mk (HI.out.below hb3).low
            clear hb3
            go_wp2
            refine bodyPost_ret (v := headV none) (by simp [results, Tryd.f16, go_sem, headV]) rfl ?_
            exact ⟨by rw [HH.out], HL.out⟩
          · have hE : (ws[i].toList == []) = false := by
              have := beq_no hx0
              rwa [ByteArray.toList_eq (⟨#[]⟩ : ByteArray)] at this
            generalize ws[i] = x at *
            clear hbr hx0
            clear hnum
            go_wp2_with fail
            refine (Atoi_no x hxs hat _ (HT.out.below HI.out.low)).mono ?_
            rintro e w3 ⟨v3, N3, rfl, hb3⟩
            have HL := Aside0.mk (HI.out.below hb3).low
            clear hb3
            go_wp2
            refine bodyPost_ret (v := headV none) (by simp [results, Tryd.f16, go_sem, headV]) rfl ?_
            exact ⟨by rw [HH.out], HL.out⟩
        · have HH := Lib.hid (show hd = none by rw [HR.out, HG.out, headGo_bad false ws i hlt hbr hnum]; rfl)
          have hE : (ws[i].toList == []) = false := by
            rw [ByteArray.toList_eq]
            cases h : ws[i].data.toList with
            | nil => rw [h] at hat; cases hat
            | cons _ _ => rfl
          have hnb := Lib.atoiAll_bounds hat
          generalize ws[i] = x at *
          clear hbr hnum
          rcases hrest with hne | ⟨hit, hneg⟩ | ⟨hit, hpos, hbig⟩
          · have hno := beq_strNo hne
            clear hne
            go_wp2_with fail
            refine (Atoi_yes x hxs n hat _).mono ?_
            rintro e w3 ⟨rfl, hb3⟩
            have HI3 := Aside0.mk (HI.out.below hb3)
            clear hb3
            go_wp2_with fail
            refine (Itoa_c n hnb.1 hnb.2 _ (HT.out.below HI3.out.low)).mono ?_
            rintro e w4 ⟨rfl, hb4⟩
            have HL := Aside0.mk (HI3.out.below hb4).low
            clear hb4
            go_wp2
            refine bodyPost_ret (v := headV none) (by simp [results, Tryd.f16, go_sem, headV]) rfl ?_
            exact ⟨by rw [HH.out], HL.out⟩
          · have hyes := beq_str hit
            have g1 : decide (n < 0) = true := decide_eq_true hneg
            clear hit
            go_wp2_with fail
            refine (Atoi_yes x hxs n hat _).mono ?_
            rintro e w3 ⟨rfl, hb3⟩
            have HI3 := Aside0.mk (HI.out.below hb3)
            clear hb3
            go_wp2_with fail
            refine (Itoa_c n hnb.1 hnb.2 _ (HT.out.below HI3.out.low)).mono ?_
            rintro e w4 ⟨rfl, hb4⟩
            have HL := Aside0.mk (HI3.out.below hb4).low
            clear hb4
            go_wp2
            refine bodyPost_ret (v := headV none) (by simp [results, Tryd.f16, go_sem, headV]) rfl ?_
            exact ⟨by rw [HH.out], HL.out⟩
          · have hyes := beq_str hit
            have g1 : decide (n < 0) = false := decide_eq_false (by omega)
            have g2 : decide (mostOf i < n) = true := decide_eq_true hbig
            clear hit
            go_wp2_with fail
            refine (Atoi_yes x hxs n hat _).mono ?_
            rintro e w3 ⟨rfl, hb3⟩
            have HI3 := Aside0.mk (HI.out.below hb3)
            clear hb3
            go_wp2_with fail
            refine (Itoa_c n hnb.1 hnb.2 _ (HT.out.below HI3.out.low)).mono ?_
            rintro e w4 ⟨rfl, hb4⟩
            have HI4 := Aside0.mk (HI3.out.below hb4)
            clear hb4
            have hm := most_cell w4 i hi3
            have hi3z : (i : Int) < 3 := by omega
            have HL := Aside0.mk (HI4.out.below ((Below.refl _ w4).alloc (Nat.le_refl _) (.cells #[.int .i64 100, .int .i64 30, .int .i64 400] 3))).low
            go_wp2
            refine bodyPost_ret (v := headV none) (by simp [results, Tryd.f16, go_sem, headV]) rfl ?_
            exact ⟨by rw [HH.out], HL.out⟩
      · obtain rfl : i = ws.length := by omega
        have hltz : ¬ ((ws.length : Nat) : Int) < (ws.length : Int) := by omega
        have HH := Lib.hid (show hd = some ⟨ns.getD 0 0, ns.getD 1 0, ns.getD 2 0, (line.size : Int) + 1, false⟩ by rw [HR.out, HG.out, headGo_end]; simp)
        have k0 : wr.cell? ⟨w.heap.size + 1, 0, none⟩ = some (.int .i64 (ns.getD 0 0)) := (blk_cell HI.out.arr 0).trans rfl
        have k1 : wr.cell? ⟨w.heap.size + 1, 1, none⟩ = some (.int .i64 (ns.getD 1 0)) := (blk_cell HI.out.arr 1).trans rfl
        have k2 : wr.cell? ⟨w.heap.size + 1, 2, none⟩ = some (.int .i64 (ns.getD 2 0)) := (blk_cell HI.out.arr 2).trans rfl
        have HL := Aside0.mk HI.out.low.drew
        go_wp2_with fail
        go_region
        go_wp2
        refine bodyPost_ret (v := headV (some ⟨ns.getD 0 0, ns.getD 1 0, ns.getD 2 0, (line.size : Int) + 1, false⟩)) (by simp [results, Tryd.f16, go_sem, headV]) rfl ?_
        exact ⟨by rw [HH.out], HL.out⟩
  | true =>
    go_enter Tryd.func16, Tryd.ntmps16
    go_wp2_with fail
    refine (CC.out _).mono ?_
    rintro e w1 ⟨rfl, n1, rfl⟩
    go_wp2_with fail
    refine (CS.out _).mono ?_
    rintro e w2 ⟨rfl, rfl⟩
    have hB1 : Below w.heap.size w ((w.drewN n1).alloc (.cells (ws.map Value.string).toArray 9)) := (Go.Joins.below_draws _ w n1).alloc (Nat.le_refl _) _
    have HB1 := Aside0.mk hB1
    have hsz1 : ((w.drewN n1).alloc (.cells (ws.map Value.string).toArray 9)).heap.size = w.heap.size + 1 := by simp
    have hrow1 : ((w.drewN n1).alloc (.cells (ws.map Value.string).toArray 9)).heap[w.heap.size]? = some (.cells (ws.map Value.string).toArray 9 (0, 0)) := heap_alloc_new (w.drewN n1) _
    clear hB1
    by_cases h3 : 3 < ws.length
    · have g3 : decide ((3 : Int) < (ws.length : Int)) = true := decide_eq_true (by omega)
      clear hrow1
      go_wp2
      refine bodyPost_ret (v := headV none) (by simp [results, Tryd.f16, go_sem, headV]) rfl ?_
      exact ⟨by rw [HF.out, if_pos (.inl h3)], HB1.out⟩
    have g3 : decide ((3 : Int) < (ws.length : Int)) = false := decide_eq_false (by omega)
    have HI0 := Aside0.mk (show HeadIn w (((w.drewN n1).alloc (.cells (ws.map Value.string).toArray 9)).alloc (.cells #[.int .i64 0, .int .i64 0, .int .i64 0] 73)) (w.heap.size + 1) ws [] from
      ⟨HB1.out.alloc HB1.out.size _, Nat.le_succ _, by have := heap_alloc_new ((w.drewN n1).alloc (.cells (ws.map Value.string).toArray 9)) (.cells #[.int .i64 0, .int .i64 0, .int .i64 0] 73); rw [hsz1] at this; exact this,
        (Below.heap_alloc _ _ _ (by rw [hsz1]; omega)).trans hrow1, by omega⟩)
    have HW0 := Aside0.mk (show ws.length ≤ 3 by omega)
    clear hrow1
    by_cases h4 : ws.length < 3
    · have g4 : decide ((ws.length : Int) < 3) = true := decide_eq_true (by omega)
      go_wp2
      refine bodyPost_ret (v := headV none) (by simp [results, Tryd.f16, go_sem, headV]) rfl ?_
      exact ⟨by rw [HF.out, if_pos (.inr ⟨by simp, h4⟩)], HB1.out⟩
    have g4 : decide ((ws.length : Int) < 3) = false := decide_eq_false (by omega)
    have HR := Lib.hid (show hd = (headGo true ws 0).map fun ns => ⟨ns.getD 0 0, ns.getD 1 0, ns.getD 2 0, (line.size : Int) + 1, true⟩ by rw [HF.out, if_neg (fun e => e.elim h3 (fun e => h4 e.2))])
    clear HF h3 h4 HB1
    go_wp2_with fail
    go_loopw [39] (fun s wr => ∃ (i : Nat) (ns : List Int), s = .int .i64 i ∧ i ≤ ws.length ∧ ns.length = i ∧ Aside0 (headGo true ws 0 = (headGo true (ws.drop i) i).map (ns ++ ·)) ∧ Aside0 (HeadIn w wr (w.heap.size + 1) ws ns)) (fun s _ => ws.length - (RowKit.intOf s).toNat)
    case atStart => exact ⟨0, [], rfl, Nat.zero_le _, rfl, ⟨by simp⟩, HI0⟩
    case round =>
      clear HI0
      obtain ⟨i, ns, rfl, hi, hns, HG, HI⟩ := hrel
      by_cases hlt : i < ws.length
      · have hltz : (i : Int) < (ws.length : Int) := by omega
        have hi0 : decide ((i : Int) < 0) = false := decide_eq_false (by omega)
        have hi3 : i < 3 := by have := HW0.out; omega
        have hx : wr.cell? ⟨w.heap.size, i, none⟩ = some (.string ws[i]) := (blk_cell HI.out.row i).trans (by simp [List.getElem?_eq_getElem hlt])
        have hxs : ws[i].size ≤ 2000000 := HPS.out _ (List.getElem_mem hlt)
        have hwl : wrap64 ((ws.length : Int) - 1) = (ws.length : Int) - 1 := by have := HW0.out; unfold wrap64; omega
        have hbr : ¬ (ws[i] = ⟨#[]⟩ ∧ true = false ∧ i + 1 = ws.length) := fun e => by cases e.2.1
        rcases numCases (x := ws[i]) (i := i) with ⟨n, hnum, hat, hit, hn0, hn1⟩ | ⟨hnum, hat⟩ | ⟨hnum, n, hat, hrest⟩
        · have HS := Lib.hid (headGo_snoc true ws i hlt hbr hnum)
          have hyes := beq_str hit
          have hE : (ws[i].toList == []) = false := by
            rw [ByteArray.toList_eq]
            cases h : ws[i].data.toList with
            | nil => rw [h] at hat; cases hat
            | cons _ _ => rfl
          have hnb := Lib.atoiAll_bounds hat
          generalize ws[i] = x at *
          clear hbr hnum hit
          go_wp2_with fail
          refine (Atoi_yes x hxs n hat _).mono ?_
          rintro e w3 ⟨rfl, hb3⟩
          have HI3 := Aside0.mk (HI.out.below hb3)
          clear hb3
          go_wp2_with fail
          refine (Itoa_c n hnb.1 hnb.2 _ (HT.out.below HI3.out.low)).mono ?_
          rintro e w4 ⟨rfl, hb4⟩
          have HI4 := Aside0.mk (HI3.out.below hb4)
          clear hb4
          have g1 : decide (n < 0) = false := decide_eq_false (by omega)
          have g2 : decide (mostOf i < n) = false := decide_eq_false (by omega)
          have hm := most_cell w4 i hi3
          have hi3z : (i : Int) < 3 := by omega
          have HI5 := Aside0.mk (HI4.out.below ((Below.refl _ w4).alloc (Nat.le_refl _) (.cells #[.int .i64 100, .int .i64 30, .int .i64 400] 3)))
          have ka : (w4.alloc (.cells #[.int .i64 100, .int .i64 30, .int .i64 400] 3)).cell? ⟨w.heap.size + 1, i, none⟩ = some (.int .i64 0) := (blk_cell HI5.out.arr i).trans (by rw [← hns]; exact numsA_at ns (by omega))
          have kf := blk_frozen HI5.out.arr i
          have HP := Aside0.mk (HI5.out.put (x := n) (by omega))
          go_wp2_with fail
          go_roundw
          case rel => exact ⟨i + 1, ns ++ [n], by go_num, by omega, by simp [hns], ⟨by rw [HG.out, HS.out]; simp [Function.comp_def]⟩, by rw [← hns]; exact HP⟩
          case measure => simp [RowKit.intOf]; omega
        · have HH := Lib.hid (show hd = none by rw [HR.out, HG.out, headGo_bad true ws i hlt hbr hnum]; rfl)
          rcases (Classical.em (ws[i] = ⟨#[]⟩)) with hx0 | hx0
          · have hE : (ws[i].toList == []) = true := by rw [hx0, ByteArray.toList_eq]; rfl
            generalize ws[i] = x at *
            clear hbr hx0
            clear hnum
            go_wp2_with fail
            refine (Atoi_no x hxs hat _ (HT.out.below HI.out.low)).mono ?_
            rintro e w3 ⟨v3, N3, rfl, hb3⟩
            have HL := Aside0.mk (HI.out.below hb3).low
            clear hb3
            go_wp2
            refine bodyPost_ret (v := headV none) (by simp [results, Tryd.f16, go_sem, headV]) rfl ?_
            exact ⟨by rw [HH.out], HL.out⟩
          · have hE : (ws[i].toList == []) = false := by
              have := beq_no hx0
              rwa [ByteArray.toList_eq (⟨#[]⟩ : ByteArray)] at this
            generalize ws[i] = x at *
            clear hbr hx0
            clear hnum
            go_wp2_with fail
            refine (Atoi_no x hxs hat _ (HT.out.below HI.out.low)).mono ?_
            rintro e w3 ⟨v3, N3, rfl, hb3⟩
            have HL := Aside0.mk (HI.out.below hb3).low
            clear hb3
            go_wp2
            refine bodyPost_ret (v := headV none) (by simp [results, Tryd.f16, go_sem, headV]) rfl ?_
            exact ⟨by rw [HH.out], HL.out⟩
        · have HH := Lib.hid (show hd = none by rw [HR.out, HG.out, headGo_bad true ws i hlt hbr hnum]; rfl)
          have hE : (ws[i].toList == []) = false := by
            rw [ByteArray.toList_eq]
            cases h : ws[i].data.toList with
            | nil => rw [h] at hat; cases hat
            | cons _ _ => rfl
          have hnb := Lib.atoiAll_bounds hat
          generalize ws[i] = x at *
          clear hbr hnum
          rcases hrest with hne | ⟨hit, hneg⟩ | ⟨hit, hpos, hbig⟩
          · have hno := beq_strNo hne
            clear hne
            go_wp2_with fail
            refine (Atoi_yes x hxs n hat _).mono ?_
            rintro e w3 ⟨rfl, hb3⟩
            have HI3 := Aside0.mk (HI.out.below hb3)
            clear hb3
            go_wp2_with fail
            refine (Itoa_c n hnb.1 hnb.2 _ (HT.out.below HI3.out.low)).mono ?_
            rintro e w4 ⟨rfl, hb4⟩
            have HL := Aside0.mk (HI3.out.below hb4).low
            clear hb4
            go_wp2
            refine bodyPost_ret (v := headV none) (by simp [results, Tryd.f16, go_sem, headV]) rfl ?_
            exact ⟨by rw [HH.out], HL.out⟩
          · have hyes := beq_str hit
            have g1 : decide (n < 0) = true := decide_eq_true hneg
            clear hit
            go_wp2_with fail
            refine (Atoi_yes x hxs n hat _).mono ?_
            rintro e w3 ⟨rfl, hb3⟩
            have HI3 := Aside0.mk (HI.out.below hb3)
            clear hb3
            go_wp2_with fail
            refine (Itoa_c n hnb.1 hnb.2 _ (HT.out.below HI3.out.low)).mono ?_
            rintro e w4 ⟨rfl, hb4⟩
            have HL := Aside0.mk (HI3.out.below hb4).low
            clear hb4
            go_wp2
            refine bodyPost_ret (v := headV none) (by simp [results, Tryd.f16, go_sem, headV]) rfl ?_
            exact ⟨by rw [HH.out], HL.out⟩
          · have hyes := beq_str hit
            have g1 : decide (n < 0) = false := decide_eq_false (by omega)
            have g2 : decide (mostOf i < n) = true := decide_eq_true hbig
            clear hit
            go_wp2_with fail
            refine (Atoi_yes x hxs n hat _).mono ?_
            rintro e w3 ⟨rfl, hb3⟩
            have HI3 := Aside0.mk (HI.out.below hb3)
            clear hb3
            go_wp2_with fail
            refine (Itoa_c n hnb.1 hnb.2 _ (HT.out.below HI3.out.low)).mono ?_
            rintro e w4 ⟨rfl, hb4⟩
            have HI4 := Aside0.mk (HI3.out.below hb4)
            clear hb4
            have hm := most_cell w4 i hi3
            have hi3z : (i : Int) < 3 := by omega
            have HL := Aside0.mk (HI4.out.below ((Below.refl _ w4).alloc (Nat.le_refl _) (.cells #[.int .i64 100, .int .i64 30, .int .i64 400] 3))).low
            go_wp2
            refine bodyPost_ret (v := headV none) (by simp [results, Tryd.f16, go_sem, headV]) rfl ?_
            exact ⟨by rw [HH.out], HL.out⟩
      · obtain rfl : i = ws.length := by omega
        have hltz : ¬ ((ws.length : Nat) : Int) < (ws.length : Int) := by omega
        have HH := Lib.hid (show hd = some ⟨ns.getD 0 0, ns.getD 1 0, ns.getD 2 0, (line.size : Int) + 1, true⟩ by rw [HR.out, HG.out, headGo_end]; simp)
        have k0 : wr.cell? ⟨w.heap.size + 1, 0, none⟩ = some (.int .i64 (ns.getD 0 0)) := (blk_cell HI.out.arr 0).trans rfl
        have k1 : wr.cell? ⟨w.heap.size + 1, 1, none⟩ = some (.int .i64 (ns.getD 1 0)) := (blk_cell HI.out.arr 1).trans rfl
        have k2 : wr.cell? ⟨w.heap.size + 1, 2, none⟩ = some (.int .i64 (ns.getD 2 0)) := (blk_cell HI.out.arr 2).trans rfl
        have HL := Aside0.mk HI.out.low.drew
        go_wp2_with fail
        go_region
        go_wp2
        refine bodyPost_ret (v := headV (some ⟨ns.getD 0 0, ns.getD 1 0, ns.getD 2 0, (line.size : Int) + 1, true⟩)) (by simp [results, Tryd.f16, go_sem, headV]) rfl ?_
        exact ⟨by rw [HH.out], HL.out⟩
end Go.Proofs.YtehlmkgldcfciaaDoor.Files
/- files.begins, walked. -/
set_option linter.unusedVariables false
set_option linter.unusedSimpArgs false
namespace Go.Proofs.YtehlmkgldcfciaaDoor.Files
open Go.Proofs.YtehlmkgldcfciaaDoor.Common Go.RowKit Go.Lib Go.Shelf Go.Proofs.YtehlmkgldcfciaaDoor.F Go.Proofs.YtehlmkgldcfciaaDoorW.PrintWords Go.Proofs.YtehlmkgldcfciaaDoorW.PrintLast Go.Proofs.YtehlmkgldcfciaaDoorW.PrintMore
/-- append onto a slice without spare room, of whomever: a new row. -/
theorem step_append_full {P : Program} {ops : Array Oper} {o : Oper} {a : Act} {Q : Exit → Act → World → Prop} {K : Act → World → Prop} {W : World} (hw : Region.wanted o (yielded ops a.tmps) = true) (s x : Operand) (t e : TypeId) (z : Value) (size bytes : Nat)
    (ho : o.op = .call { callee := .builtin .append, args := #[s, x], argTypes := #[t, t] })
    (ht : P.underlying t = some (.slice e)) (hinfo : (P.info? e).map (fun i => (i.zero, i.size, i.bytes)) = some (some z, size, bytes)) (hz : z.cells.size = size) (hs0 : 0 < size) (hb0 : 0 < bytes)
    (ao : Option Addr) (n : Nat) (xs ys : List Value) (hs : a.eval s = .slice ao n n) (hnone : ao = none → n = 0) (hlo : xs.length = n * size) (holds : ∀ b, ao = some b → ∀ j u, xs[j]? = some u → W.cell? (b.add j) = some u)
    (hx : a.eval x = .slice (some ⟨W.heap.size, 0, none⟩) 1 1) (hys : ys.length = size) (h1 : ∀ u ∈ ys, u.oneCell' = true) (hl : (n + 1) * bytes ≤ 140737488355328)
    (h : ∀ v1 w1, w1.ownsRow W.heap.size e size v1 (n + 1) (xs ++ ys) → Below W.heap.size W w1 → K (a.put o.dst v1) w1) :
    if Region.wanted o (yielded ops a.tmps) = true then Oper.wp P o a (W.alloc (.cells ys.toArray e)) K Q else K (a.put o.dst undef) (W.alloc (.cells ys.toArray e)) := by
  obtain ⟨i0, hi, hzz⟩ := Option.map_eq_some_iff.1 hinfo
  simp only [Prod.mk.injEq] at hzz
  obtain ⟨hz0, hz1, hz2⟩ := hzz
  have hlen : n + 1 ≤ 140737488355328 := Nat.le_trans (Nat.le_mul_of_pos_right _ hb0) hl
  rw [if_pos hw]
  have hnews : ∀ j u, ys[j]? = some u → (W.alloc (.cells ys.toArray e)).cell? ((⟨W.heap.size, 0, none⟩ : Addr).add j) = some u := by
    have := World.news_of_block (cs := ys.toArray) (t := e) (fr := (0, 0)) (heap_alloc_new W (.cells ys.toArray e))
    simpa using this
  have hbel : Below W.heap.size W (W.alloc (.cells ys.toArray e)) := (Below.refl _ _).alloc (Nat.le_refl _) _
  have key : ∃ v1 w1, (Builtin.append_ #[t, t] o.type #[.slice ao n n, .slice (some ⟨W.heap.size, 0, none⟩) 1 1]).run P (W.alloc (.cells ys.toArray e)) = .ok v1 w1 ∧ w1.ownsRow (W.alloc (.cells ys.toArray e)).heap.size e size v1 (n + 1) (xs ++ ys) ∧ (W.alloc (.cells ys.toArray e)).grownBy w1 none := by
    cases ao with
    | some b => exact run_append_arg_grows (P := P) (W.alloc (.cells ys.toArray e)) t o.type e i0 z size bytes ht hi hz0 hz1 hz2 hz hs0 b n n xs hlo (fun j u hu => Lib.cell?_alloc_some _ (holds b rfl j u hu)) ⟨W.heap.size, 0, none⟩ 1 1 ys (by rw [hys]; simp) hnews (by omega) (by simp only [maxLen]; omega) hl
    | none =>
      obtain rfl := hnone rfl
      obtain rfl : xs = [] := List.eq_nil_of_length_eq_zero (by simpa using hlo)
      obtain ⟨v1, w1, hr, hown, hg, _⟩ := run_append_own (P := P) (W.alloc (.cells ys.toArray e)) (W.alloc (.cells ys.toArray e)).heap.size t o.type e i0 z size bytes ht hi hz0 hz1 hz2 hz hs0 (.slice none 0 0) 0 [] (World.ownsRow_nil _ _ e size) ⟨W.heap.size, 0, none⟩ 1 1 ys (by rw [hys]; simp) hnews h1 (by simp only [maxLen]; omega) hl (Nat.le_refl _)
      exact ⟨v1, w1, hr, hown, hg⟩
  obtain ⟨v1, w1, hr, hown, hg⟩ := key
  unfold Oper.wp execOp
  simp only [ho, resolve, invoke, builtin, Sem.run_bind, Sem.run_pure, Result.andThen_ok, List.map_toArray, List.map_cons, List.map_nil, hs, hx, hr]
  exact h v1 w1 (own_weaken hown (by simp)) (hbel.grown hg (by simp) (fun k e => by cases e))
/-- The most that the next unit's level may be. -/
def mostLv (l : List S46) : Int := if 0 < l.length then wrap64 (lv l (l.length - 1) + 1) else 0
def wordOf (s : ByteArray) : ByteArray := ⟨(Lib.cut s.data.toList [32]).1.toArray⟩
def spaceIn (s : ByteArray) : Bool := (Lib.cut s.data.toList [32]).2.2
/-- What files.begins answers. -/
def beginsF (l : List S46) (s : ByteArray) (x : S46) (named : Bool) : Bool :=
  if 100 ≤ l.length then false else if named then validB (l ++ [x]) 2 else if wordOf s = ⟨#[]⟩ ∧ spaceIn s = false then true else
    match Lib.atoiAll (wordOf s).data.toList with
    | .ok n => if decide (n = 0) != decide (l.length = 0) then false else decide (n ≤ mostLv l)
    | _ => false
def Beg.T5 : Bool × List (List Nat × List Nat) := (true, [([], []), ([], []), ([1], [1]), ([], []), ([3], [3]), ([0, 2, 4], [0, 2, 4]), ([], []), ([6], [6]), ([5, 7], [5, 7]), ([8, 8], [8]), ([9, 9, 0, 1, 2, 3, 4, 5, 6, 7, 8, 9], [9])])
def Beg.B5 : List Nat := [0, 0, 2, 0, 8, 31, 0, 64, 255, 511, 1023]
theorem Beg.tab5 : rtab .any (opsOf Tryd.f17 5) = Beg.T5 := by kernel_rfl
theorem Beg.bits5 : waitsOk Beg.T5.2 Beg.B5 = true := by kernel_rfl
theorem wordOf_le (s : ByteArray) : (wordOf s).size ≤ s.size := by
  unfold wordOf
  rcases Lib.indexB_cases s ⟨#[32]⟩ with hix | ⟨i, hix, hroom⟩
  · rw [show (⟨(Lib.cut s.data.toList [32]).1.toArray⟩ : ByteArray) = s from (Lib.cutB_miss s ⟨#[32]⟩ hix).1]
    exact Nat.le_refl _
  · rw [show (⟨(Lib.cut s.data.toList [32]).1.toArray⟩ : ByteArray) = s.extract 0 i from (Lib.cutB_hit s ⟨#[32]⟩ i hix).1, ByteArray.size_extract]
    omega
theorem uRow_at : ∀ (l : List S46) (j : Nat) (u : Value), (uRow l)[j]? = some u → ∃ q i x, j = q * 3 + i ∧ l[q]? = some x ∧ (uCells x)[i]? = some u
  | [], j, u, h => by simp [uRow] at h
  | x :: r, j, u, h => by
    have h' : (uCells x ++ uRow r)[j]? = some u := h
    by_cases hj : j < 3
    · rw [List.getElem?_append_left (show j < (uCells x).length from hj)] at h'
      exact ⟨0, j, x, by omega, rfl, h'⟩
    · rw [List.getElem?_append_right (show (uCells x).length ≤ j by show 3 ≤ j; omega)] at h'
      obtain ⟨q, i, y, h1, h2, h3⟩ := uRow_at r (j - 3) u h'
      exact ⟨q + 1, i, y, by omega, h2, h3⟩
theorem uRow_len (l : List S46) : (uRow l).length = l.length * 3 := by
  induction l with
  | nil => rfl
  | cons x r ih =>
    show (uCells x ++ uRow r).length = _
    rw [List.length_append, ih, List.length_cons]
    show 3 + _ = _
    omega
theorem C_cells {W : World} {A : Option Addr} {l : List S46} (h : Kd.C k46 W A l.length l) (b : Addr) (hb : A = some b) : ∀ j u, (uRow l)[j]? = some u → W.cell? (b.add j) = some u := by
  intro j u hu
  obtain ⟨q, i, x, rfl, hq, hi⟩ := uRow_at l j u hu
  have hql : q < l.length := (List.getElem?_eq_some_iff.1 hq).1
  obtain ⟨ad, e, hc⟩ := h.2.2 (by omega)
  rw [hb] at e
  injection e with e
  subst e
  obtain ⟨c, hcl, hk, hu2⟩ := hc q x hq
  obtain rfl := k46_open hk
  exact hu2 i u hi
theorem C_none {W : World} {A : Option Addr} {l : List S46} (h : Kd.C k46 W A l.length l) (hA : A = none) : l.length = 0 := by
  rcases Nat.eq_zero_or_pos l.length with h0 | h0
  · exact h0
  · obtain ⟨ad, e, _⟩ := h.2.2 h0
    rw [hA] at e
    cases e
theorem C_of_row {W : World} {base : Nat} {v : Value} {l : List S46} (h : W.ownsRow base 46 3 v l.length (uRow l)) : ∃ A c, v = .slice A l.length c ∧ l.length ≤ c ∧ Kd.C k46 W A l.length l := by
  have hR := R_of_uRow h
  obtain ⟨A, c, hv, hlc, hC⟩ := Kd.R_reads hR
  exact ⟨A, c, hv, hlc, hC⟩
set_option maxRecDepth 100000 in
set_option maxHeartbeats 4000000 in
theorem begins_c (A : Option Addr) (c : Nat) (l : List S46) (s : ByteArray) (x : S46) (named : Bool) (W : World) (hT : Tab10 W) (hr : Kd.C k46 W A l.length l) (hc : l.length ≤ c) (hl : l.length ≤ 100) (hs : s.size ≤ 2000000) :
    Calls Tryd.prog 17 #[.slice A l.length c, .string s, .agg #[.string x.f0, .string x.f1, .int .i64 x.f2], .bool named] W fun e w' => e = .returned (.bool (beginsF l s x named)) ∧ Below W.heap.size W w' := by
  have hwl := wordOf_le s
  have CC := Aside0.mk (fun W => Cut_c s 32 W (by omega))
  have hcv : cutV s 32 = .tuple #[.string (wordOf s), .string ⟨(Lib.cut s.data.toList [32]).2.1.toArray⟩, .bool (spaceIn s)] := rfl
  rw [hcv] at CC
  generalize (⟨(Lib.cut s.data.toList [32]).2.1.toArray⟩ : ByteArray) = rest at *
  have hF : beginsF l s x named = if 100 ≤ l.length then false else if named then validB (l ++ [x]) 2 else if wordOf s = ⟨#[]⟩ ∧ spaceIn s = false then true else
    match Lib.atoiAll (wordOf s).data.toList with
    | .ok n => if decide (n = 0) != decide (l.length = 0) then false else decide (n ≤ mostLv l)
    | _ => false := rfl
  have hws : (wordOf s).size ≤ 2000000 := by omega
  generalize wordOf s = word at *
  generalize spaceIn s = ended at *
  generalize beginsF l s x named = res at *
  have HF := Lib.hid hF
  have hb1 : Below W.heap.size W (W.alloc (.cells #[.string x.f0, .string x.f1, .int .i64 x.f2] 46)) := (Below.refl _ _).alloc (Nat.le_refl _) _
  have HB1 := Aside0.mk hb1
  have HR := Aside0.mk hr
  have HT := Aside0.mk hT
  have hbx := heap_alloc_new W (.cells #[.string x.f0, .string x.f1, .int .i64 x.f2] 46)
  clear hF hcv hwl hb1 hr hT
  by_cases h100 : 100 ≤ l.length
  · have g : decide ((100 : Int) ≤ (l.length : Int)) = true := decide_eq_true (by omega)
    clear hbx
    go_enter Tryd.func17, Tryd.ntmps17
    go_wp2
    go_ret
    exact ⟨by rw [HF.out, if_pos h100]; rfl, HB1.out⟩
  have g : decide ((100 : Int) ≤ (l.length : Int)) = false := decide_eq_false (by omega)
  have HF2 := Lib.hid (HF.out.trans (if_neg h100))
  clear HF h100
  cases named with
  | true =>
    have HF3 := Lib.hid (show res = validB (l ++ [x]) 2 from HF2.out)
    clear HF2
    go_enter Tryd.func17, Tryd.ntmps17
    go_wp2_with fail
    refine (CC.out _).mono ?_
    rintro e w2 ⟨rfl, n2, rfl⟩
    have hb2 : Below W.heap.size W ((W.alloc (.cells #[.string x.f0, .string x.f1, .int .i64 x.f2] 46)).drewN n2) := HB1.out.trans (Go.Joins.below_draws _ _ n2)
    have HB2 := Aside0.mk hb2
    have hz : ((W.alloc (.cells #[.string x.f0, .string x.f1, .int .i64 x.f2] 46)).drewN n2).heap[W.heap.size]? = some (.cells #[.string x.f0, .string x.f1, .int .i64 x.f2] 46 (0, 0)) := hbx
    have hz0 : ((W.alloc (.cells #[.string x.f0, .string x.f1, .int .i64 x.f2] 46)).drewN n2).cell? ⟨W.heap.size, 0, none⟩ = some (.string x.f0) := (blk_cell hz 0).trans rfl
    have hz1 : ((W.alloc (.cells #[.string x.f0, .string x.f1, .int .i64 x.f2] 46)).drewN n2).cell? ⟨W.heap.size, 1, none⟩ = some (.string x.f1) := (blk_cell hz 1).trans rfl
    have hz2 : ((W.alloc (.cells #[.string x.f0, .string x.f1, .int .i64 x.f2] 46)).drewN n2).cell? ⟨W.heap.size, 2, none⟩ = some (.int .i64 x.f2) := (blk_cell hz 2).trans rfl
    clear hbx hz hb2
    generalize (W.alloc (.cells #[.string x.f0, .string x.f1, .int .i64 x.f2] 46)).drewN n2 = W2 at *
    have g0 : decide ((l.length : Int) < 0) = false := decide_eq_false (by omega)
    have hcz : (l.length : Int) ≤ (c : Int) := by omega
    go_wp2_with fail
    refine start_ (n := 11) (S := fun w' => w'.cell? ⟨W.heap.size, 0, none⟩ = some (.string x.f0) ∧ w'.cell? ⟨W.heap.size, 1, none⟩ = some (.string x.f1) ∧ w'.cell? ⟨W.heap.size, 2, none⟩ = some (.int .i64 x.f2)) (ds := [7, 8, 9]) #[false, false, false, false, false, false, false, false, false, false, false] (by kernel_rfl) rfl rfl ⟨hz0, hz1, hz2⟩ (fun hHeld => ?_)
    refine with_tabW Beg.tab5 Beg.bits5 (fun HT_ HW_ => ?_)
    have HWD := Aside0.mk (show Below W.heap.size W W2.drew from HB2.out.drew)
    generalize W2.drew = wd at HWD hHeld ⊢
    refine pure_ (i := 0) (N := some 25) (v := ?_) (a' := ?_) #[true, false, false, false, false, false, false, false, false, false, false] rfl rfl (any_of HT_.out (by kernel_rfl)) (fun _ _ _ h => h) (Or.inl ⟨by rfl, ?_⟩) ?_ ?_
    rotate_left
    · intro w'
      go_simp
      with_reducible rfl
    rotate_left
    · simp only [Act.put, List.setIfInBounds_toArray, List.set_cons_zero, List.set_cons_succ, i64_w, i32_w]
      rfl
    refine pure_ (i := 1) (N := some 26) (v := ?_) (a' := ?_) #[true, true, false, false, false, false, false, false, false, false, false] rfl rfl (any_of HT_.out (by kernel_rfl)) (fun _ _ _ h => h) (Or.inl ⟨by rfl, ?_⟩) ?_ ?_
    rotate_left
    · intro w'
      go_simp
      with_reducible rfl
    rotate_left
    · simp only [Act.put, List.setIfInBounds_toArray, List.set_cons_zero, List.set_cons_succ, i64_w, i32_w]
      rfl
    refine pure_ (i := 2) (N := some 27) (v := ?_) (a' := ?_) #[true, true, true, false, false, false, false, false, false, false, false] rfl rfl (any_of HT_.out (by kernel_rfl)) (fun _ _ _ h => h) (Or.inl ⟨by rfl, ?_⟩) ?_ ?_
    rotate_left
    · intro w'
      go_simp
      with_reducible rfl
    rotate_left
    · simp only [Act.put, List.setIfInBounds_toArray, List.set_cons_zero, List.set_cons_succ, i64_w, i32_w]
      rfl
    refine pure_ (i := 3) (N := some 28) (v := ?_) (a' := ?_) #[true, true, true, true, false, false, false, false, false, false, false] rfl rfl (any_of HT_.out (by kernel_rfl)) (fun _ _ _ h => h) (Or.inl ⟨by rfl, ?_⟩) ?_ ?_
    rotate_left
    · intro w'
      go_simp
      with_reducible rfl
    rotate_left
    · simp only [Act.put, List.setIfInBounds_toArray, List.set_cons_zero, List.set_cons_succ, i64_w, i32_w]
      rfl
    refine pure_ (i := 4) (N := some 29) (v := ?_) (a' := ?_) #[true, true, true, true, true, false, false, false, false, false, false] rfl rfl (any_of HT_.out (by kernel_rfl)) (fun _ _ _ h => h) (Or.inl ⟨by rfl, ?_⟩) ?_ ?_
    rotate_left
    · intro w'
      go_simp
      with_reducible rfl
    rotate_left
    · simp only [Act.put, List.setIfInBounds_toArray, List.set_cons_zero, List.set_cons_succ, i64_w, i32_w]
      rfl
    refine pure_ (i := 5) (N := some 30) (v := ?_) (a' := ?_) #[true, true, true, true, true, true, false, false, false, false, false] rfl rfl (any_of HT_.out (by kernel_rfl)) (fun _ _ _ h => h) (Or.inl ⟨by rfl, ?_⟩) ?_ ?_
    rotate_left
    · intro w'
      go_simp
      with_reducible rfl
    rotate_left
    · simp only [Act.put, List.setIfInBounds_toArray, List.set_cons_zero, List.set_cons_succ, i64_w, i32_w]
      rfl
    refine take_ (i := 6) (N := some 31) (v := ?_) (a' := ?_) #[true, true, true, true, true, true, true, false, false, false, false] rfl rfl (take_ofW HT_.out HW_.out (by kernel_rfl)) (fun _ _ _ h => h) (Or.inl ⟨by rfl, ?_⟩) hHeld ?_ ?_
    rotate_left
    · rintro w' ⟨s0, s1, s2⟩
      go_simp
      with_reducible rfl
    rotate_left
    · simp only [Act.put, List.setIfInBounds_toArray, List.set_cons_zero, List.set_cons_succ, i64_w, i32_w]
      rfl
    refine last_ (i := 7) (N := some 32) #[true, true, true, true, true, true, true, true, false, false, false] rfl rfl (one_of HT_.out (by kernel_rfl)) (by decide) (fun K hK => ?_)
    refine value_ (w1 := ?_) (v := ?_) (by rfl) rfl ?_ ?_
    rotate_left 2
    · go_simp
      constructor
      · rfl
      · rfl
    refine hK.out _ _ ?_
    clear hK K
    refine norm_ (a' := ?_) ?_ ?_
    rotate_left
    · show Act.put _ (some 32) _ = _
      simp only [Act.put, List.setIfInBounds_toArray, List.set_cons_zero, List.set_cons_succ, i64_w, i32_w]
      rfl
    refine last_ (i := 8) (N := some 33) #[true, true, true, true, true, true, true, true, true, false, false] rfl rfl (one_of HT_.out (by kernel_rfl)) (by decide) (fun K hK => ?_)
    refine step_append_full rfl (.tmp 30) (.tmp 32) 23 46 (.agg #[.string ⟨#[]⟩, .string ⟨#[]⟩, .int .i64 0]) 3 40 rfl Tryd.underlying23 (by kernel_rfl) rfl (by decide) (by decide) A l.length (uRow l) [.string x.f0, .string x.f1, .int .i64 x.f2] rfl (fun e => C_none HR.out e) (uRow_len l) (C_cells (Kd.C_below HR.out HWD.out)) rfl rfl (by intro u hu; simp at hu; rcases hu with rfl | rfl | rfl <;> rfl) (by omega) ?_
    intro v1 w8 hown8 hb8
    obtain ⟨A1, c1, hv1, hc1, hC1⟩ := C_of_row (l := l ++ [x]) (by rw [uRow_snoc, List.length_append]; exact hown8)
    subst hv1
    have HC1 := Aside0.mk hC1
    have HB8 := Aside0.mk (show Below W.heap.size W w8 from HWD.out.trans (hb8.mono HWD.out.size))
    clear hown8 hb8 hC1
    refine hK.out _ _ ?_
    clear hK K
    refine norm_ (a' := ?_) ?_ ?_
    rotate_left
    · show Act.put _ (some 33) _ = _
      simp only [Act.put, List.setIfInBounds_toArray, List.set_cons_zero, List.set_cons_succ, i64_w, i32_w]
      rfl
    refine last_ (i := 9) (N := some 34) #[true, true, true, true, true, true, true, true, true, true, false] rfl rfl (one_of HT_.out (by kernel_rfl)) (by decide) (fun K hK => ?_)
    refine goes_ Tryd.func7 (by kernel_rfl) rfl #[.slice A1 (l ++ [x]).length c1, .int .i64 2] (by rfl) rfl rfl (by (try simp only [List.map_toArray, List.map_cons, List.map_nil]); first | done | rfl | (simp only []; rfl)) ?_
    with_reducible refine (Valid_c A1 c1 (l ++ [x]) 2 _ HC1.out hc1).mono ?_
    rintro e w9 ⟨rfl, hb9⟩
    have HBE := Aside0.mk (show Below W.heap.size W w9 from HB8.out.trans (hb9.mono HB8.out.size))
    clear hb9
    refine ⟨_, rfl, ?_⟩
    refine hK.out _ _ ?_
    clear hK K
    refine norm_ (a' := ?_) ?_ ?_
    rotate_left
    · show Act.put _ (some 34) _ = _
      simp only [Act.put, List.setIfInBounds_toArray, List.set_cons_zero, List.set_cons_succ, i64_w, i32_w]
      rfl
    refine pure_ (i := 10) (N := some 8) (v := ?_) (a' := ?_) #[true, true, true, true, true, true, true, true, true, true, true] rfl rfl (any_of HT_.out (by kernel_rfl)) (fun _ _ _ h => h) (Or.inl ⟨by rfl, ?_⟩) ?_ ?_
    rotate_left
    · intro w'
      go_simp
      with_reducible rfl
    rotate_left
    · simp only [Act.put, List.setIfInBounds_toArray, List.set_cons_zero, List.set_cons_succ, i64_w, i32_w]
      rfl
    refine done_ (done_of HT_.out (by kernel_rfl)) ?_
    go_wp2
    go_ret
    exact ⟨by rw [HF3.out]; rfl, HBE.out⟩
  | false =>
    have HF3 := Lib.hid (show res = if word = ⟨#[]⟩ ∧ ended = false then true else match Lib.atoiAll word.data.toList with
      | .ok n => if decide (n = 0) != decide (l.length = 0) then false else decide (n ≤ mostLv l)
      | _ => false from HF2.out)
    clear HF2 hbx
    have hcases : l.length = 0 ∨ ∃ m, l.length = m + 1 := by
      cases l.length with
      | zero => exact .inl rfl
      | succ m => exact .inr ⟨m, rfl⟩
    rcases hcases with h0 | ⟨m, hm⟩
    · have HZ : Aside0 (l.length = 0) := ⟨h0⟩
      have HM : Aside0 (mostLv l = 0) := ⟨by unfold mostLv; rw [if_neg (by omega)]⟩
      have g5 : decide (0 < l.length) = false := decide_eq_false (by omega)
      have g5z : ¬ 0 < l.length := by omega
      have g6 : ((l.length : Int) == 0) = true := by simpa using h0
      clear h0
      go_enter Tryd.func17, Tryd.ntmps17
      go_wp2_with fail
      refine (CC.out _).mono ?_
      rintro e w2 ⟨rfl, n2, rfl⟩
      have HB2 := Aside0.mk (show Below W.heap.size W ((W.alloc (.cells #[.string x.f0, .string x.f1, .int .i64 x.f2] 46)).drewN n2) from HB1.out.trans (Go.Joins.below_draws _ _ n2))
      generalize (W.alloc (.cells #[.string x.f0, .string x.f1, .int .i64 x.f2] 46)).drewN n2 = W2 at *
      go_wp2_with fail
      rcases (Classical.em (∃ n, Lib.atoiAll word.data.toList = .ok n)) with ⟨n, hat⟩ | hat
      · have hE : (word.toList == []) = false := by
          rw [ByteArray.toList_eq]
          cases h : word.data.toList with
          | nil => rw [h] at hat; cases hat
          | cons _ _ => rfl
        have hwne : ¬ (word = ⟨#[]⟩ ∧ ended = false) := fun e => by rw [e.1] at hat; cases hat
        have HF4 := Lib.hid (show res = if decide (n = 0) != decide (l.length = 0) then false else decide (n ≤ mostLv l) by rw [HF3.out, if_neg hwne, hat])
        clear HF3 hwne
        refine (Atoi_yes word hws n hat _).mono ?_
        rintro e w3 ⟨rfl, hb3⟩
        have HB3 := Aside0.mk (HB2.out.trans (hb3.mono HB2.out.size))
        clear hb3
        by_cases hn : n = 0
        · have hn0 : (n == 0) = true := by simpa using hn
          first
            | (have HF5 := Lib.hid (show res = false by rw [HF4.out]; simp [hn, HZ.out])
               clear HF4
               go_wp2
               go_ret
               exact ⟨by rw [HF5.out]; rfl, HB3.out⟩)
            | (have HF5 := Lib.hid (show res = decide (n ≤ mostLv l) by rw [HF4.out]; simp [hn, HZ.out])
               clear HF4
               go_wp2
               go_ret
               exact ⟨by rw [HF5.out, HM.out]; first | rfl | (rw [hn]; rfl), HB3.out⟩)
        · have hn0 : (n == 0) = false := by simpa using hn
          first
            | (have HF5 := Lib.hid (show res = false by rw [HF4.out]; simp [hn, HZ.out])
               clear HF4
               go_wp2
               go_ret
               exact ⟨by rw [HF5.out]; rfl, HB3.out⟩)
            | (have HF5 := Lib.hid (show res = decide (n ≤ mostLv l) by rw [HF4.out]; simp [hn, HZ.out])
               clear HF4
               go_wp2
               go_ret
               exact ⟨by rw [HF5.out, HM.out]; first | rfl | (rw [hn]; rfl), HB3.out⟩)
      · have hat' : ∀ v, Lib.atoiAll word.data.toList ≠ .ok v := fun v e => hat ⟨v, e⟩
        have HF4 := Lib.hid (show res = if word = ⟨#[]⟩ ∧ ended = false then true else false by
          rw [HF3.out]
          cases h : Lib.atoiAll word.data.toList with
          | ok n => exact absurd h (hat' n)
          | _ => rfl)
        clear HF3 hat
        refine (Atoi_no word hws hat' _ (HT.out.below HB2.out)).mono ?_
        rintro e w3 ⟨v3, N3, rfl, hb3⟩
        have HB3 := Aside0.mk (HB2.out.trans (hb3.mono HB2.out.size))
        clear hb3
        by_cases hw0 : word = ⟨#[]⟩
        · have hE : (word.toList == []) = true := by rw [hw0, ByteArray.toList_eq]; rfl
          cases ended with
          | false =>
            have HF5 := Lib.hid (show res = true by rw [HF4.out, if_pos ⟨hw0, rfl⟩])
            clear HF4 hw0
            go_wp2
            go_ret
            exact ⟨by rw [HF5.out]; rfl, HB3.out⟩
          | true =>
            have HF5 := Lib.hid (show res = false by rw [HF4.out, if_neg (fun e => by cases e.2)])
            clear HF4 hw0
            go_wp2
            go_ret
            exact ⟨by rw [HF5.out]; rfl, HB3.out⟩
        · have hE : (word.toList == []) = false := by
            have := beq_no hw0
            rwa [ByteArray.toList_eq (⟨#[]⟩ : ByteArray)] at this
          have HF5 := Lib.hid (show res = false by rw [HF4.out, if_neg (fun e => hw0 e.1)])
          clear HF4 hw0
          go_wp2
          go_ret
          exact ⟨by rw [HF5.out]; rfl, HB3.out⟩
    · have HZ : Aside0 (¬ l.length = 0) := ⟨by omega⟩
      have HM : Aside0 (mostLv l = wrap64 (lv l m + 1)) := ⟨by unfold mostLv; rw [if_pos (by omega), hm]; rfl⟩
      rw [hm]
      have g' : decide ((100 : Int) ≤ (m : Int) + 1) = false := by rw [hm] at g; exact g
      clear g
      have g5 : decide ((0 : Int) < (m : Int) + 1) = true := decide_eq_true (by omega)
      have g6 : ((m : Int) + 1 == 0) = false := by simp; omega
      have hm0 : decide ((m : Int) < 0) = false := decide_eq_false (by omega)
      have hml : (m : Int) < (m : Int) + 1 := by omega
      go_enter Tryd.func17, Tryd.ntmps17
      go_wp2_with fail
      refine (CC.out _).mono ?_
      rintro e w2 ⟨rfl, n2, rfl⟩
      have HB2 := Aside0.mk (show Below W.heap.size W ((W.alloc (.cells #[.string x.f0, .string x.f1, .int .i64 x.f2] 46)).drewN n2) from HB1.out.trans (Go.Joins.below_draws _ _ n2))
      generalize (W.alloc (.cells #[.string x.f0, .string x.f1, .int .i64 x.f2] 46)).drewN n2 = W2 at *
      obtain ⟨ad, hA, _, _, hlv⟩ := at_T46 (Kd.C_below HR.out HB2.out) (m : Int) (by omega) (show (m : Int) < (l.length : Int) by omega)
      subst hA
      rw [Int.toNat_natCast] at hlv
      have hlv' : W2.cell? ⟨(ad.add (m * 3)).block, (ad.add (m * 3)).off + 2, none⟩ = some (.int .i64 (lv l m)) := hlv
      clear hlv
      go_wp2_with fail
      rcases (Classical.em (∃ n, Lib.atoiAll word.data.toList = .ok n)) with ⟨n, hat⟩ | hat
      · have hE : (word.toList == []) = false := by
          rw [ByteArray.toList_eq]
          cases h : word.data.toList with
          | nil => rw [h] at hat; cases hat
          | cons _ _ => rfl
        have hwne : ¬ (word = ⟨#[]⟩ ∧ ended = false) := fun e => by rw [e.1] at hat; cases hat
        have HF4 := Lib.hid (show res = if decide (n = 0) != decide (l.length = 0) then false else decide (n ≤ mostLv l) by rw [HF3.out, if_neg hwne, hat])
        clear HF3 hwne
        refine (Atoi_yes word hws n hat _).mono ?_
        rintro e w3 ⟨rfl, hb3⟩
        have HB3 := Aside0.mk (HB2.out.trans (hb3.mono HB2.out.size))
        clear hb3
        by_cases hn : n = 0
        · have hn0 : (n == 0) = true := by simpa using hn
          first
            | (have HF5 := Lib.hid (show res = false by rw [HF4.out]; simp [hn, HZ.out])
               clear HF4
               go_wp2
               go_ret
               exact ⟨by rw [HF5.out]; rfl, HB3.out⟩)
            | (have HF5 := Lib.hid (show res = decide (n ≤ mostLv l) by rw [HF4.out]; simp [hn, HZ.out])
               clear HF4
               go_wp2
               go_ret
               exact ⟨by rw [HF5.out, HM.out]; first | rfl | (rw [hn]; rfl), HB3.out⟩)
        · have hn0 : (n == 0) = false := by simpa using hn
          first
            | (have HF5 := Lib.hid (show res = false by rw [HF4.out]; simp [hn, HZ.out])
               clear HF4
               go_wp2
               go_ret
               exact ⟨by rw [HF5.out]; rfl, HB3.out⟩)
            | (have HF5 := Lib.hid (show res = decide (n ≤ mostLv l) by rw [HF4.out]; simp [hn, HZ.out])
               clear HF4
               go_wp2
               go_ret
               exact ⟨by rw [HF5.out, HM.out]; first | rfl | (rw [hn]; rfl), HB3.out⟩)
      · have hat' : ∀ v, Lib.atoiAll word.data.toList ≠ .ok v := fun v e => hat ⟨v, e⟩
        have HF4 := Lib.hid (show res = if word = ⟨#[]⟩ ∧ ended = false then true else false by
          rw [HF3.out]
          cases h : Lib.atoiAll word.data.toList with
          | ok n => exact absurd h (hat' n)
          | _ => rfl)
        clear HF3 hat
        refine (Atoi_no word hws hat' _ (HT.out.below HB2.out)).mono ?_
        rintro e w3 ⟨v3, N3, rfl, hb3⟩
        have HB3 := Aside0.mk (HB2.out.trans (hb3.mono HB2.out.size))
        clear hb3
        by_cases hw0 : word = ⟨#[]⟩
        · have hE : (word.toList == []) = true := by rw [hw0, ByteArray.toList_eq]; rfl
          cases ended with
          | false =>
            have HF5 := Lib.hid (show res = true by rw [HF4.out, if_pos ⟨hw0, rfl⟩])
            clear HF4 hw0
            go_wp2
            go_ret
            exact ⟨by rw [HF5.out]; rfl, HB3.out⟩
          | true =>
            have HF5 := Lib.hid (show res = false by rw [HF4.out, if_neg (fun e => by cases e.2)])
            clear HF4 hw0
            go_wp2
            go_ret
            exact ⟨by rw [HF5.out]; rfl, HB3.out⟩
        · have hE : (word.toList == []) = false := by
            have := beq_no hw0
            rwa [ByteArray.toList_eq (⟨#[]⟩ : ByteArray)] at this
          have HF5 := Lib.hid (show res = false by rw [HF4.out, if_neg (fun e => hw0 e.1)])
          clear HF4 hw0
          go_wp2
          go_ret
          exact ⟨by rw [HF5.out]; rfl, HB3.out⟩
end Go.Proofs.YtehlmkgldcfciaaDoor.Files
/- files.Join: what it reckons. -/
set_option linter.unusedVariables false
set_option linter.unusedSimpArgs false
namespace Go.Proofs.YtehlmkgldcfciaaDoor.Files
open Go.Proofs.YtehlmkgldcfciaaDoor.Common Go.RowKit Go.Lib Go.Shelf Go.Proofs.YtehlmkgldcfciaaDoor.F Go.Proofs.YtehlmkgldcfciaaDoorW.PrintWords Go.Proofs.YtehlmkgldcfciaaDoorW.PrintLast Go.Proofs.YtehlmkgldcfciaaDoorW.PrintMore
theorem headGo_each (ended : Bool) : ∀ (ws : List ByteArray) (i : Nat) (ns : List Int), headGo ended ws i = some ns → ∀ (j : Nat) (n : Int), ns[j]? = some n → 0 ≤ n ∧ n ≤ mostOf (i + j)
  | [], i, ns, h, j, n, hj => by
    obtain rfl := Option.some.inj h
    simp at hj
  | x :: r, i, ns, h, j, n, hj => by
    unfold headGo at h
    split at h
    · obtain rfl := Option.some.inj h
      simp at hj
    · cases hn : num1 x i with
      | none => rw [hn] at h; cases h
      | some m =>
        rw [hn] at h
        obtain ⟨ns', h', rfl⟩ := Option.map_eq_some_iff.1 h
        cases j with
        | zero =>
          have hmn : m = n := by simpa using hj
          subst hmn
          rcases numCases (x := x) (i := i) with ⟨n', h1, _, _, h2, h3⟩ | ⟨h1, _⟩ | ⟨h1, _⟩
          · rw [hn] at h1
            injection h1 with h1
            subst h1
            exact ⟨h2, h3⟩
          · rw [hn] at h1; cases h1
          · rw [hn] at h1; cases h1
        | succ j =>
          have := headGo_each ended r (i + 1) ns' h' j n (by simpa using hj)
          rw [show i + (j + 1) = i + 1 + j by omega]
          exact this
theorem getD_in {ns : List Int} {j : Nat} {b : Int} (hb : 0 ≤ b) (h : ∀ n, ns[j]? = some n → 0 ≤ n ∧ n ≤ b) : 0 ≤ ns.getD j 0 ∧ ns.getD j 0 ≤ b := by
  rw [List.getD_eq_getElem?_getD]
  cases hj : ns[j]? with
  | none => exact ⟨Int.le_refl _, hb⟩
  | some n => exact h n hj
theorem ended_le {s : ByteArray} (h : endedOf s = true) : (lineOf s).size + 1 ≤ s.size := by
  unfold endedOf at h
  unfold lineOf
  rcases Lib.indexB_cases s ⟨#[10]⟩ with hix | ⟨i, hix, hroom⟩
  · rw [show (Lib.cut s.data.toList [10]).2.2 = false from (Lib.cutB_miss s ⟨#[10]⟩ hix).2.2] at h
    cases h
  · rw [show (⟨(Lib.cut s.data.toList [10]).1.toArray⟩ : ByteArray) = s.extract 0 i from (Lib.cutB_hit s ⟨#[10]⟩ i hix).1, ByteArray.size_extract]
    have : (⟨#[10]⟩ : ByteArray).size = 1 := rfl
    omega
structure HeadOk (s : ByteArray) (h : HeadR) : Prop where
  level : 0 ≤ h.level ∧ h.level ≤ 100
  name : 0 ≤ h.name ∧ h.name ≤ 30
  data : 0 ≤ h.data ∧ h.data ≤ 400
  long : 1 ≤ h.long ∧ (h.whole = true → h.long ≤ s.size) ∧ h.long ≤ (s.size : Int) + 1
theorem headF_ok {s : ByteArray} {h : HeadR} (e : headF s = some h) : HeadOk s h := by
  unfold headF at e
  split at e
  · cases e
  · obtain ⟨ns, hns, rfl⟩ := Option.map_eq_some_iff.1 e
    have hb := headGo_each _ _ _ _ hns
    refine ⟨getD_in (by decide) (fun n hn => by have := hb 0 n hn; simpa [mostOf] using this), getD_in (by decide) (fun n hn => by have := hb 1 n hn; simpa [mostOf] using this), getD_in (by decide) (fun n hn => by have := hb 2 n hn; simpa [mostOf] using this), ?_, fun hw => ?_, ?_⟩
    · show 1 ≤ (((lineOf s).size : Nat) : Int) + 1
      omega
    · have := ended_le (s := s) hw
      show (((lineOf s).size : Nat) : Int) + 1 ≤ _
      omega
    · have := lineOf_le s
      show (((lineOf s).size : Nat) : Int) + 1 ≤ _
      omega
def bodyOf (s : ByteArray) (h : HeadR) : ByteArray := s.extract h.long.toNat s.size
def nextOf (b : ByteArray) (h : HeadR) : S46 := ⟨b.extract 0 h.name.toNat, b.extract h.name.toNat (h.name.toNat + h.data.toNat), h.level⟩
def partOf (b : ByteArray) (h : HeadR) : S46 := if h.whole then ⟨b.extract 0 (min h.name.toNat b.size), ⟨#[]⟩, h.level⟩ else ⟨⟨#[]⟩, ⟨#[]⟩, h.level⟩
/-- What files.Join makes of a text. -/
def joinGo : Nat → List S46 → ByteArray → Option (List S46)
  | 0, _, _ => none
  | k + 1, out, s => if s = ⟨#[]⟩ then some out else match headF s with
    | none => none
    | some h =>
      if h.whole = true ∧ h.name.toNat + h.data.toNat ≤ (bodyOf s h).size then
        (if validB (out ++ [nextOf (bodyOf s h) h]) 2 then joinGo k (out ++ [nextOf (bodyOf s h) h]) ((bodyOf s h).extract (h.name.toNat + h.data.toNat) (bodyOf s h).size) else none)
      else if beginsF out s (partOf (bodyOf s h) h) (h.whole && decide (h.long.toNat + h.name.toNat ≤ s.size)) then some out else none
theorem valid_len {l : List S46} (h : l = [] ∨ validB l 2 = true) : l.length ≤ 100 := by
  rcases h with rfl | h
  · simp
  · unfold validB headOk at h
    simp only [Bool.and_eq_true, decide_eq_true_eq] at h
    exact h.1.1.2
/-- What Join answers is empty, or valid. -/
theorem joinGo_valid : ∀ (k : Nat) (out : List S46) (s : ByteArray) (r : List S46), (out = [] ∨ validB out 2 = true) → joinGo k out s = some r → (r = [] ∨ validB r 2 = true)
  | 0, out, s, r, ho, h => by cases h
  | k + 1, out, s, r, ho, h => by
    unfold joinGo at h
    split at h
    · obtain rfl := Option.some.inj h
      exact ho
    · cases hh : headF s with
      | none => rw [hh] at h; cases h
      | some hd =>
        rw [hh] at h
        simp only at h
        split at h
        · split at h
          · rename_i hv
            exact joinGo_valid k _ _ r (.inr hv) h
          · cases h
        · split at h
          · obtain rfl := Option.some.inj h
            exact ho
          · cases h
def JoinEnd (W : World) (n : Nat) (r : Option (List S46)) (e : Ending) (w' : World) : Prop :=
  (r = none ∧ e = .returned (.tuple #[.slice none 0 0, .int .i64 0, .int .i64 4]) ∧ Below W.heap.size W w') ∨
    ∃ out v, r = some out ∧ e = .returned (.tuple #[v, .int .i64 n, .int .i64 0]) ∧ Kd.R k46 46 w' W.heap.size (fun _ => True) v out ∧ Below W.heap.size W w'
def textOf (parts : List ByteArray) : ByteArray := ⟨(strings_Join.j parts ⟨#[]⟩).toArray⟩
/-- What lies where between two rounds. -/
structure JoinIn (w wr : World) (R : Option (List S46)) (cur : ByteArray) (out : List S46) (vo : Value) : Prop where
  low : Below w.heap.size w wr
  row : Kd.R k46 46 wr w.heap.size (fun _ => True) vo out
  ok : out = [] ∨ validB out 2 = true
  small : cur.size ≤ 2000000
  run : ∃ k, cur.size < k ∧ joinGo k out cur = R
theorem JoinIn.below {w wr w' : World} {R : Option (List S46)} {cur : ByteArray} {out : List S46} {vo : Value} (h : JoinIn w wr R cur out vo) (hb : Below wr.heap.size wr w') : JoinIn w w' R cur out vo :=
  ⟨h.low.trans (hb.mono h.low.size), Kd.R_below h.row hb, h.ok, h.small, h.run⟩
end Go.Proofs.YtehlmkgldcfciaaDoor.Files
/- Children of units, plainly. -/
set_option linter.unusedVariables false
set_option linter.unusedSimpArgs false
namespace Go.Proofs.YtehlmkgldcfciaaDoor.Files
open Go.Proofs.YtehlmkgldcfciaaDoor.Common Go.Maps Go.ChangeMaps Go.WideMaps Go.Proofs.YtehlmkgldcfciaaDoor.F
open Go.RowKit Go.Proofs.YtehlmkgldcfciaaDoorW.PrintWords Go.Proofs.YtehlmkgldcfciaaDoorW.PrintLast Go.Proofs.YtehlmkgldcfciaaDoorW.PrintMore
def nmP (l : List S46) (i : Nat) : ByteArray := (rd_T46 l (i : Int)).f0
/-! Where children stand. -/
theorem mem_kidsFrom (lev : Int) : ∀ (l : List S46) (i : Nat) (m : Int), m ∈ kidsFrom lev i l ↔ ∃ q : Nat, m = ((i + q : Nat) : Int) ∧ q < l.length ∧ (rd_T46 l (q : Int)).f2 = lev + 1 ∧ ∀ t, t ≤ q → (rd_T46 l (t : Int)).f2 > lev
  | [], i, m => by simp [kidsFrom]
  | u :: r, i, m => by
    have ih := mem_kidsFrom lev r (i + 1) m
    have h0 : rd_T46 (u :: r) ((0 : Nat) : Int) = u := rfl
    have hs : ∀ q : Nat, rd_T46 (u :: r) ((q + 1 : Nat) : Int) = rd_T46 r (q : Int) := fun q => by simp [rd_T46]
    have tail : u.f2 > lev → ((∃ q : Nat, m = ((i + 1 + q : Nat) : Int) ∧ q < r.length ∧ (rd_T46 r (q : Int)).f2 = lev + 1 ∧ ∀ t, t ≤ q → (rd_T46 r (t : Int)).f2 > lev) ↔ ∃ q : Nat, m = ((i + (q + 1) : Nat) : Int) ∧ q + 1 < (u :: r).length ∧ (rd_T46 (u :: r) ((q + 1 : Nat) : Int)).f2 = lev + 1 ∧ ∀ t, t ≤ q + 1 → (rd_T46 (u :: r) (t : Int)).f2 > lev) := fun hu => by
      constructor
      · rintro ⟨q, h1, h2, h3, h4⟩
        refine ⟨q, by rw [h1]; congr 1; omega, by simpa using h2, by rw [hs]; exact h3, fun t ht => ?_⟩
        cases t with
        | zero => rw [h0]; exact hu
        | succ t => rw [hs]; exact h4 t (by omega)
      · rintro ⟨q, h1, h2, h3, h4⟩
        rw [hs] at h3
        exact ⟨q, by rw [h1]; congr 1; omega, by simpa using h2, h3, fun t ht => by have := h4 (t + 1) (by omega); rwa [hs] at this⟩
    unfold kidsFrom
    by_cases hu : u.f2 > lev
    · rw [if_pos hu]
      by_cases he : u.f2 = lev + 1
      · rw [if_pos he, List.mem_cons, ih, tail hu]
        constructor
        · rintro (rfl | ⟨q, h⟩)
          · exact ⟨0, rfl, by simp, by rw [h0]; exact he, fun t ht => by rw [Nat.le_zero.1 ht]; exact hu⟩
          · exact ⟨q + 1, h⟩
        · rintro ⟨q, h1, h⟩
          cases q with
          | zero => exact .inl h1
          | succ q => exact .inr ⟨q, h1, h⟩
      · rw [if_neg he, ih, tail hu]
        constructor
        · rintro ⟨q, h⟩
          exact ⟨q + 1, h⟩
        · rintro ⟨q, h1, h2, h3, h4⟩
          cases q with
          | zero => exact absurd h3 (by rw [h0]; exact he)
          | succ q => exact ⟨q, h1, h2, h3, h4⟩
    · rw [if_neg hu]
      constructor
      · intro h; cases h
      · rintro ⟨q, _, _, _, h4⟩
        have := h4 0 (Nat.zero_le _)
        rw [h0] at this
        exact absurd this hu
theorem rd_drop (l : List S46) (a q : Nat) : rd_T46 (l.drop a) (q : Int) = rd_T46 l ((a + q : Nat) : Int) := by simp only [rd_T46, Int.toNat_natCast, List.getD_eq_getElem?_getD, List.getElem?_drop]
/-- A child: below, one level on, nothing as high between. -/
def Child (l : List S46) (p m : Nat) : Prop := p < m ∧ m < l.length ∧ lv l m = lv l p + 1 ∧ ∀ t, p < t → t ≤ m → lv l t > lv l p
theorem mem_kids (l : List S46) (p : Nat) (m : Int) : m ∈ kids l p ↔ ∃ q : Nat, m = (q : Int) ∧ Child l p q := by
  unfold kids
  rw [mem_kidsFrom]
  constructor
  · rintro ⟨q, h1, h2, h3, h4⟩
    rw [List.length_drop] at h2
    refine ⟨p + 1 + q, h1, by omega, by omega, ?_, fun t h5 h6 => ?_⟩
    · rw [rd_drop] at h3; exact h3
    · have := h4 (t - (p + 1)) (by omega)
      rw [rd_drop, show p + 1 + (t - (p + 1)) = t by omega] at this
      exact this
  · rintro ⟨q, h1, h2, h3, h4, h5⟩
    refine ⟨q - (p + 1), by rw [h1]; congr 1; omega, by rw [List.length_drop]; omega, ?_, fun t ht => ?_⟩
    · rw [rd_drop, show p + 1 + (q - (p + 1)) = q by omega]; exact h4
    · rw [rd_drop]; exact h5 _ (by omega) (by omega)
theorem kidsFrom_sorted (lev : Int) : ∀ (l : List S46) (i : Nat), (kidsFrom lev i l).Pairwise (· < ·)
  | [], i => List.Pairwise.nil
  | u :: r, i => by
    unfold kidsFrom
    have ih := kidsFrom_sorted lev r (i + 1)
    split
    · split
      · refine List.pairwise_cons.2 ⟨fun a ha => ?_, ih⟩
        have := kidsFrom_in lev (i + 1) r a ha
        omega
      · exact ih
    · exact List.Pairwise.nil
/-- No two children of one parent have one name that is not empty. -/
theorem kidsOk_iff (l : List S46) (p : Nat) : kidsOk l p = true ↔ ∀ m m' : Nat, Child l p m → Child l p m' → m' < m → nmP l m ≠ ⟨#[]⟩ → nmP l m' ≠ nmP l m := by
  have hs := kidsFrom_sorted (lv l p) (l.drop (p + 1)) (p + 1)
  unfold kidsOk
  rw [okAll_iff]
  constructor
  · intro h m m' hm hm' hlt hne he
    obtain ⟨k, hk, hkm⟩ := List.getElem_of_mem ((mem_kids l p (m : Int)).2 ⟨m, rfl, hm⟩)
    obtain ⟨k', hk', hkm'⟩ := List.getElem_of_mem ((mem_kids l p (m' : Int)).2 ⟨m', rfl, hm'⟩)
    have hkk : k' < k := by
      rcases Nat.lt_trichotomy k' k with h1 | h1 | h1
      · exact h1
      · subst h1; rw [hkm] at hkm'; omega
      · have := List.pairwise_iff_getElem.1 hs k k' hk hk' h1
        have e1 : (kidsFrom (lv l p) (p + 1) (l.drop (p + 1)))[k] = (m : Int) := hkm
        have e2 : (kidsFrom (lv l p) (p + 1) (l.drop (p + 1)))[k'] = (m' : Int) := hkm'
        rw [e1, e2] at this
        omega
    have h2 := h k hk
    rw [List.getD_eq_getElem?_getD, List.getElem?_eq_getElem hk] at h2
    simp only [Option.getD_some] at h2
    rw [hkm] at h2
    have h3 : clashB l ((kids l p).take k) (rd_T46 l (m : Int)).f0 = true := by
      unfold clashB
      rw [Bool.and_eq_true]
      refine ⟨by simpa [nmP] using hne, List.any_eq_true.2 ⟨(m' : Int), ?_, by simpa [nmP] using he⟩⟩
      rw [← hkm']
      exact List.mem_take_iff_getElem.2 ⟨k', by omega, rfl⟩
    rw [h3] at h2
    cases h2
  · intro h k hk
    rw [List.getD_eq_getElem?_getD, List.getElem?_eq_getElem hk]
    simp only [Option.getD_some]
    obtain ⟨m, hm, hc⟩ := (mem_kids l p _).1 (List.getElem_mem hk)
    rw [hm]
    cases hcl : clashB l ((kids l p).take k) (rd_T46 l (m : Int)).f0 with
    | false => rfl
    | true =>
      exfalso
      unfold clashB at hcl
      rw [Bool.and_eq_true] at hcl
      obtain ⟨x, hx, hxe⟩ := List.any_eq_true.1 hcl.2
      obtain ⟨k', hk', hkx⟩ := List.mem_take_iff_getElem.1 hx
      have hk'l : k' < (kids l p).length := by omega
      obtain ⟨m', hm', hc'⟩ := (mem_kids l p x).1 (by rw [← hkx]; exact List.getElem_mem hk'l)
      have hlt : x < (m : Int) := by
        have := List.pairwise_iff_getElem.1 hs k' k hk'l hk (by omega)
        rw [← hkx, ← hm]
        exact this
      rw [hm'] at hxe hlt
      exact h m m' hc hc' (by omega) (by simpa [nmP] using hcl.1) (by simpa [nmP] using hxe)
/-- Levels rise by one at most. -/
def Steps (l : List S46) : Prop := lv l 0 = 0 ∧ ∀ i, i < l.length → i ≠ 0 → 1 ≤ lv l i ∧ lv l i ≤ lv l (i - 1) + 1
/-- The parent of a unit. -/
theorem parent_of {l : List S46} (hs : Steps l) (i : Nat) (hi : i < l.length) : ∀ a : Nat, 0 < a → a ≤ i → (∀ t, a ≤ t → t ≤ i → lv l t ≥ lv l i) → ∃ p, p < a ∧ lv l i = lv l p + 1 ∧ ∀ t, p < t → t ≤ i → lv l t > lv l p
  | 0, h, _, _ => absurd h (Nat.lt_irrefl _)
  | a + 1, _, hai, hall => by
    have h1 := hs.2 (a + 1) (by omega) (by omega)
    rw [Nat.add_sub_cancel] at h1
    have h2 := hall (a + 1) (Nat.le_refl _) hai
    by_cases h : lv l a < lv l i
    · exact ⟨a, by omega, by omega, fun t ht hti => by have := hall t (by omega) hti; omega⟩
    · have hi1 := (hs.2 i hi (by omega)).1
      have ha : 0 < a := by
        rcases Nat.eq_zero_or_pos a with e | e
        · rw [e, hs.1] at h; omega
        · exact e
      obtain ⟨p, hp, h3, h4⟩ := parent_of hs i hi a ha (by omega) (fun t ht hti => by
        rcases Nat.lt_or_ge a t with h5 | h5
        · exact hall t (by omega) hti
        · obtain rfl : t = a := by omega
          omega)
      exact ⟨p, by omega, h3, h4⟩
end Go.Proofs.YtehlmkgldcfciaaDoor.Files
/- Validity of units as a structure. -/
set_option linter.unusedVariables false
set_option linter.unusedSimpArgs false
namespace Go.Proofs.YtehlmkgldcfciaaDoor.Files
open Go.Proofs.YtehlmkgldcfciaaDoor.Common Go.Maps Go.ChangeMaps Go.WideMaps Go.Proofs.YtehlmkgldcfciaaDoor.F
open Go.RowKit Go.Proofs.YtehlmkgldcfciaaDoorW.PrintWords Go.Proofs.YtehlmkgldcfciaaDoorW.PrintLast Go.Proofs.YtehlmkgldcfciaaDoorW.PrintMore
/-- Two units of one level with nothing higher between. -/
def Sib (l : List S46) (j i : Nat) : Prop := j < i ∧ i < l.length ∧ lv l j = lv l i ∧ ∀ t, j < t → t < i → lv l i ≤ lv l t
structure VOk (l : List S46) (kind : Int) : Prop where
  k0 : 0 ≤ kind ∧ kind ≤ 2
  len : 1 ≤ l.length ∧ l.length ≤ 100
  cell : ∀ i, i < l.length → (rd_T46 l (i : Int)).f0.size ≤ 30 ∧ (rd_T46 l (i : Int)).f1.size ≤ 400
  steps : Steps l
  top : kind < 2 → ∀ i, i < l.length → lv l i ≤ kind
  names : ∀ j i, Sib l j i → nmP l i ≠ ⟨#[]⟩ → nmP l j ≠ nmP l i
theorem steps_of_chk {l : List S46} {kind : Int} (h0 : 1 ≤ l.length) (h : ∀ i, i < l.length → chk l kind i = true) : Steps l :=
  ⟨((chk_iff l kind 0).1 (h 0 (by omega))).2.2.1.1 rfl, fun i hi hne => by
    obtain ⟨_, _, ⟨_, a3⟩, a4, a5, _⟩ := (chk_iff l kind i).1 (h i hi)
    have b3 : lv l i ≠ 0 := a3 hne
    have b4 : 0 ≤ lv l i := a4
    have b5 : i = 0 ∨ lv l i ≤ lv l (i - 1) + 1 := a5
    omega⟩
theorem VOk.valid {l : List S46} {kind : Int} (h : VOk l kind) : validB l kind = true := by
  unfold validB headOk
  simp only [Bool.and_eq_true, decide_eq_true_eq, okAll_iff]
  refine ⟨⟨⟨⟨⟨h.k0.1, h.k0.2⟩, h.len.1⟩, h.len.2⟩, fun i hi => ?_⟩, fun p hp => (kidsOk_iff l p).2 (fun m m' hm hm' hlt hne => ?_)⟩
  · rw [chk_iff]
    refine ⟨(h.cell i hi).1, (h.cell i hi).2, ⟨fun e => ?_, fun e => ?_⟩, ?_, ?_, ?_⟩
    · subst e; exact h.steps.1
    · have := (h.steps.2 i hi e).1
      show lv l i ≠ 0
      omega
    · show 0 ≤ lv l i
      by_cases e : i = 0
      · subst e; rw [h.steps.1]; exact Int.le_refl _
      · have := (h.steps.2 i hi e).1; omega
    · by_cases e : i = 0
      · exact .inl e
      · exact .inr (h.steps.2 i hi e).2
    · by_cases e : kind < 2
      · exact .inr (h.top e i hi)
      · exact .inl (by omega)
  · refine h.names m' m ⟨hlt, hm.2.1, by rw [hm.2.2.1, hm'.2.2.1], fun t h1 h2 => ?_⟩ hne
    have := hm.2.2.2 t (by have := hm'.1; omega) (by omega)
    have := hm.2.2.1
    omega
theorem VOk.of_valid {l : List S46} {kind : Int} (h : validB l kind = true) : VOk l kind := by
  unfold validB headOk at h
  simp only [Bool.and_eq_true, decide_eq_true_eq, okAll_iff] at h
  obtain ⟨⟨⟨⟨⟨h1, h2⟩, h3⟩, h4⟩, h5⟩, h6⟩ := h
  have hs := steps_of_chk h3 h5
  refine ⟨⟨h1, h2⟩, ⟨h3, h4⟩, fun i hi => ⟨((chk_iff l kind i).1 (h5 i hi)).1, ((chk_iff l kind i).1 (h5 i hi)).2.1⟩, hs, fun hk i hi => ?_, fun j i hji hne => ?_⟩
  · have := ((chk_iff l kind i).1 (h5 i hi)).2.2.2.2.2
    have b : 2 ≤ kind ∨ lv l i ≤ kind := this
    omega
  · obtain ⟨d1, d2, d3, d4⟩ := hji
    have hj0 : 0 < j := by
      rcases Nat.eq_zero_or_pos j with e | e
      · subst e
        rw [hs.1] at d3
        have := (hs.2 i d2 (by omega)).1
        omega
      · exact e
    have hall : ∀ t, j ≤ t → t ≤ i → lv l t ≥ lv l i := fun t ht hti => by
      rcases Nat.lt_or_ge j t with h7 | h7
      · rcases Nat.lt_or_ge t i with h8 | h8
        · exact d4 t h7 h8
        · obtain rfl : t = i := by omega
          exact Int.le_refl _
      · obtain rfl : t = j := by omega
        omega
    obtain ⟨p, p1, p2, p3⟩ := parent_of hs i d2 j hj0 (by omega) hall
    exact (kidsOk_iff l p).1 (h6 p (by omega)) i j ⟨by omega, d2, p2, p3⟩ ⟨p1, by omega, by omega, fun t h7 h8 => p3 t h7 (by omega)⟩ d1 hne
theorem lv_bound {l : List S46} (hs : Steps l) : ∀ i, i < l.length → 0 ≤ lv l i ∧ lv l i ≤ i
  | 0, _ => by rw [hs.1]; omega
  | i + 1, h => by
    have ih := lv_bound hs i (by omega)
    have := hs.2 (i + 1) h (by omega)
    rw [Nat.add_sub_cancel] at this
    omega
theorem VOk.wide {l : List S46} {kind : Int} (h : VOk l kind) : VOk l 2 := ⟨by omega, h.len, h.cell, h.steps, fun h => by omega, h.names⟩
end Go.Proofs.YtehlmkgldcfciaaDoor.Files
/- Units as text, and what Join makes of a beginning of it: plain law. -/
set_option linter.unusedVariables false
set_option linter.unusedSimpArgs false
namespace Go.Proofs.YtehlmkgldcfciaaDoor.Files
open Go.Proofs.YtehlmkgldcfciaaDoor.Common Go.RowKit Go.Lib Go.Shelf Go.Proofs.YtehlmkgldcfciaaDoor.F Go.Proofs.YtehlmkgldcfciaaDoorW.PrintWords Go.Proofs.YtehlmkgldcfciaaDoorW.PrintLast Go.Proofs.YtehlmkgldcfciaaDoorW.PrintMore
/-! Numbers. -/
def dig (n : Nat) : UInt8 := UInt8.ofNat (48 + n)
def itoa3 (n : Nat) : List UInt8 := if n < 10 then [dig n] else if n < 100 then [dig (n / 10), dig (n % 10)] else [dig (n / 10 / 10), dig (n / 10 % 10), dig (n % 10)]
theorem itoa3_eq (n : Nat) (h : n < 1000) : Lib.itoa (n : Int) = itoa3 n := by
  unfold Lib.itoa
  rw [if_neg (by omega), Int.toNat_natCast]
  unfold itoa3
  by_cases h1 : n < 10
  · rw [if_pos h1, Lib.decDigits, dif_pos h1]; rfl
  · rw [if_neg h1, Lib.decDigits, dif_neg h1]
    by_cases h2 : n < 100
    · rw [if_pos h2, Lib.decDigits, dif_pos (by omega)]; rfl
    · rw [if_neg h2, Lib.decDigits, dif_neg (by omega), Lib.decDigits, dif_pos (by omega)]; rfl
def chk3 (n j : Nat) : Bool := match Lib.atoiAll ((itoa3 n).take (j + 1)) with
  | .ok m => decide (0 ≤ m) && decide (m ≤ n) && decide (itoa3 m.toNat = (itoa3 n).take (j + 1)) && (decide (m = 0) == decide (n = 0)) && (decide (j < 2) || decide (m = n))
  | _ => false
set_option maxRecDepth 100000 in
theorem chk3_all : (List.range 401).all (fun n => (List.range 3).all (chk3 n) && (itoa3 n).all (fun c => decide (c ≠ 32) && decide (c ≠ 10)) && decide ((itoa3 n).length ≤ 3) && decide (1 ≤ (itoa3 n).length)) = true := by decide +kernel
theorem chk3_at {n : Nat} (h : n ≤ 400) : (∀ j, j < 3 → chk3 n j = true) ∧ (∀ c ∈ itoa3 n, c ≠ 32 ∧ c ≠ 10) ∧ (itoa3 n).length ≤ 3 ∧ 1 ≤ (itoa3 n).length := by
  have h1 := List.all_eq_true.1 chk3_all n (List.mem_range.2 (by omega))
  simp only [Bool.and_eq_true, decide_eq_true_eq] at h1
  obtain ⟨⟨⟨h2, h3⟩, h4⟩, h5⟩ := h1
  refine ⟨fun j hj => List.all_eq_true.1 h2 j (List.mem_range.2 hj), fun c hc => ?_, h4, h5⟩
  have := List.all_eq_true.1 h3 c hc
  simpa using this
/-- A beginning of a number's text is a number's text. -/
theorem num_part {n j : Nat} (hn : n ≤ 400) (hj : 1 ≤ j) : ∃ m : Nat, Lib.atoiAll ((Lib.itoa n).take j) = .ok (m : Int) ∧ Lib.itoa (m : Int) = (Lib.itoa n).take j ∧ m ≤ n ∧ (m = 0 ↔ n = 0) := by
  rw [itoa3_eq n (by omega)]
  obtain ⟨h1, _, h3, h4⟩ := chk3_at hn
  have key : ∀ i, i < 3 → ∃ m : Nat, Lib.atoiAll ((itoa3 n).take (i + 1)) = .ok (m : Int) ∧ Lib.itoa (m : Int) = (itoa3 n).take (i + 1) ∧ m ≤ n ∧ (m = 0 ↔ n = 0) := fun i hi => by
    have hc := h1 i hi
    unfold chk3 at hc
    cases ha : Lib.atoiAll ((itoa3 n).take (i + 1)) with
    | ok m =>
      rw [ha] at hc
      simp only [Bool.and_eq_true, Bool.or_eq_true, decide_eq_true_eq, beq_iff_eq, decide_eq_decide] at hc
      obtain ⟨⟨⟨⟨c1, c2⟩, c3⟩, c4⟩, _⟩ := hc
      refine ⟨m.toNat, by rw [Int.toNat_of_nonneg c1], ?_, by omega, by omega⟩
      rw [itoa3_eq m.toNat (by omega)]
      exact c3
    | _ => rw [ha] at hc; cases hc
  by_cases hj3 : j ≤ 3
  · have := key (j - 1) (by omega)
    rwa [show j - 1 + 1 = j by omega] at this
  · have := key 2 (by omega)
    rw [List.take_of_length_le (by omega)] at this ⊢
    exact this
theorem num_full {n : Nat} (hn : n ≤ 400) : Lib.atoiAll (Lib.itoa n) = .ok (n : Int) := by
  rw [itoa3_eq n (by omega)]
  obtain ⟨h1, _, h3, _⟩ := chk3_at hn
  have hc := h1 2 (by omega)
  unfold chk3 at hc
  rw [List.take_of_length_le (by omega)] at hc
  cases ha : Lib.atoiAll (itoa3 n) with
  | ok m =>
    rw [ha] at hc
    simp only [Bool.and_eq_true, Bool.or_eq_true, decide_eq_true_eq] at hc
    rw [show m = (n : Int) by omega]
  | _ => rw [ha] at hc; cases hc
theorem itoa_plain {n : Nat} (hn : n ≤ 400) : (32 : UInt8) ∉ Lib.itoa (n : Int) ∧ (10 : UInt8) ∉ Lib.itoa (n : Int) ∧ 1 ≤ (Lib.itoa (n : Int)).length := by
  rw [itoa3_eq n (by omega)]
  obtain ⟨_, h2, _, h4⟩ := chk3_at hn
  exact ⟨fun h => (h2 _ h).1 rfl, fun h => (h2 _ h).2 rfl, h4⟩
/-! Cut and split at a byte, on lists. -/
theorem ib_none {c : UInt8} : ∀ {l : List UInt8}, c ∉ l → Lib.indexByte l c = -1
  | [], _ => rfl
  | b :: l, h => by
    rw [List.mem_cons, not_or] at h
    unfold Lib.indexByte
    rw [if_neg (by simpa using Ne.symm h.1), ib_none h.2]
    all_goals rfl
theorem ib_hit {c : UInt8} : ∀ {a b : List UInt8}, c ∉ a → Lib.indexByte (a ++ c :: b) c = a.length
  | [], b, _ => by simp [Lib.indexByte]
  | x :: a, b, h => by
    rw [List.mem_cons, not_or] at h
    rw [List.cons_append]
    unfold Lib.indexByte
    rw [if_neg (by simpa using Ne.symm h.1), ib_hit h.2, if_neg (by simp)]
    simp
theorem cut_none {c : UInt8} {a : List UInt8} (h : c ∉ a) : Lib.cut a [c] = (a, [], false) := by
  unfold Lib.cut
  rw [Lib.index_one, ib_none h, if_neg (by decide)]
theorem cut_hit {c : UInt8} {a b : List UInt8} (h : c ∉ a) : Lib.cut (a ++ c :: b) [c] = (a, b, true) := by
  unfold Lib.cut
  rw [Lib.index_one, ib_hit h, if_pos (by omega), Int.toNat_natCast]
  simp
def splitL (l : List UInt8) : List (List UInt8) := Lib.splitK [32] 0 (l.count 32) l
theorem splitL_none {a : List UInt8} (h : (32 : UInt8) ∉ a) : splitL a = [a] := by
  unfold splitL
  rw [List.count_eq_zero.2 h]
  all_goals rfl
theorem splitL_hit {a b : List UInt8} (h : (32 : UInt8) ∉ a) : splitL (a ++ 32 :: b) = a :: splitL b := by
  unfold splitL
  rw [List.count_append, List.count_eq_zero.2 h, List.count_cons_self, Nat.zero_add]
  unfold Lib.splitK
  rw [Lib.index_one, ib_hit h, if_neg (by simp), Int.toNat_natCast]
  cases List.count 32 b <;> simp [Lib.splitK]
theorem pieces_data (s : ByteArray) : (pieces s 32).map (·.data.toList) = splitL s.data.toList := by
  unfold pieces splitL
  rw [Lib.splitB_data]
  show Lib.splitK [32] 0 (Lib.count s.data.toList [32]) s.data.toList = _
  rw [Lib.count_one]
/-! The head of a text, on lists. -/
def numL (w : List UInt8) (i : Nat) : Option Int := match Lib.atoiAll w with
  | .ok n => if Lib.itoa n = w ∧ 0 ≤ n ∧ n ≤ mostOf i then some n else none
  | _ => none
def headGoL (ended : Bool) : List (List UInt8) → Nat → Option (List Int)
  | [], _ => some []
  | x :: r, i => if x = [] ∧ ended = false ∧ r = [] then some [] else match numL x i with
    | none => none
    | some n => (headGoL ended r (i + 1)).map (n :: ·)
theorem headGo_lists (ended : Bool) : ∀ (ws : List ByteArray) (i : Nat), headGo ended ws i = headGoL ended (ws.map (·.data.toList)) i
  | [], _ => rfl
  | x :: r, i => by
    rw [List.map_cons]
    unfold headGo headGoL
    have e1 : (x = ⟨#[]⟩) ↔ (x.data.toList = []) := by
      constructor
      · intro h; rw [h]
      · intro h; exact data_inj h
    have e2 : (r = []) ↔ (r.map (·.data.toList) = []) := by simp
    have e3 : num1 x i = numL x.data.toList i := rfl
    simp only [e1, e2, e3]
    rw [headGo_lists ended r (i + 1)]
    all_goals rfl
def headFL (p : List UInt8) : Option HeadR :=
  if 3 < (splitL (Lib.cut p [10]).1).length ∨ ((Lib.cut p [10]).2.2 = true ∧ (splitL (Lib.cut p [10]).1).length < 3) then none else
  (headGoL (Lib.cut p [10]).2.2 (splitL (Lib.cut p [10]).1) 0).map fun ns => ⟨ns.getD 0 0, ns.getD 1 0, ns.getD 2 0, (Lib.cut p [10]).1.length + 1, (Lib.cut p [10]).2.2⟩
theorem headF_lists (s : ByteArray) : headF s = headFL s.data.toList := by
  have hl : (lineOf s).data.toList = (Lib.cut s.data.toList [10]).1 := List.toList_toArray
  have hp := pieces_data (lineOf s)
  rw [hl] at hp
  have hlen : (pieces (lineOf s) 32).length = (splitL (Lib.cut s.data.toList [10]).1).length := by rw [← hp, List.length_map]
  have hsz : (lineOf s).size = (Lib.cut s.data.toList [10]).1.length := (Lib.size_eq _).trans (congrArg List.length hl)
  unfold headF headFL
  rw [headGo_lists, hp, hlen, hsz]
  all_goals rfl
theorem numL_ok {n i : Nat} (hn : n ≤ 400) (hi : (n : Int) ≤ mostOf i) : numL (Lib.itoa (n : Int)) i = some (n : Int) := by
  unfold numL
  rw [num_full hn]
  show (if Lib.itoa (n : Int) = Lib.itoa (n : Int) ∧ 0 ≤ (n : Int) ∧ (n : Int) ≤ mostOf i then some (n : Int) else none) = _
  rw [if_pos ⟨rfl, by omega, hi⟩]
theorem mem_app {c d : UInt8} {a b : List UInt8} (ha : c ∉ a) (hb : c ∉ b) (hd : c ≠ d) : c ∉ a ++ d :: b := by
  rw [List.mem_append, List.mem_cons]
  rintro (h | h | h)
  · exact ha h
  · exact hd h
  · exact hb h
theorem headFL_full {a b c : Nat} (ha : a ≤ 100) (hb : b ≤ 30) (hc : c ≤ 400) (rest : List UInt8) :
    headFL ((Lib.itoa (a : Int) ++ 32 :: (Lib.itoa (b : Int) ++ 32 :: Lib.itoa (c : Int))) ++ 10 :: rest) = some ⟨a, b, c, (Lib.itoa (a : Int) ++ 32 :: (Lib.itoa (b : Int) ++ 32 :: Lib.itoa (c : Int))).length + 1, true⟩ := by
  obtain ⟨a1, a2, _⟩ := itoa_plain (n := a) (by omega)
  obtain ⟨b1, b2, _⟩ := itoa_plain (n := b) (by omega)
  obtain ⟨c1, c2, _⟩ := itoa_plain (n := c) hc
  unfold headFL
  rw [cut_hit (mem_app a2 (mem_app b2 c2 (by decide)) (by decide))]
  simp only
  rw [splitL_hit a1, splitL_hit b1, splitL_none c1]
  have g1 := numL_ok (n := a) (i := 0) (by omega) (by simp [mostOf]; omega)
  have g2 := numL_ok (n := b) (i := 1) (by omega) (by simp [mostOf]; omega)
  have g3 := numL_ok (n := c) (i := 2) hc (by simp [mostOf]; omega)
  have hgo : headGoL true [Lib.itoa (a : Int), Lib.itoa (b : Int), Lib.itoa (c : Int)] 0 = some [(a : Int), (b : Int), (c : Int)] := by
    simp [headGoL, g1, g2, g3]
  rw [hgo]
  simp
/-- A beginning of a text that is put together. -/
theorem prefix_app {α : Type} {p x y : List α} (h : p <+: x ++ y) : p <+: x ∨ ∃ q, p = x ++ q ∧ q <+: y := by
  by_cases hl : p.length ≤ x.length
  · exact .inl (List.prefix_of_prefix_length_le h (List.prefix_append x y) hl)
  · have h2 : x <+: p := List.prefix_of_prefix_length_le (List.prefix_append x y) h (by omega)
    obtain ⟨q, rfl⟩ := h2
    exact .inr ⟨q, rfl, (List.prefix_append_right_inj x).1 h⟩
theorem prefix_take {α : Type} {p x : List α} (h : p <+: x) : p = x.take p.length := List.prefix_iff_eq_take.1 h
theorem sub_not {c : UInt8} {p x : List UInt8} (h : p <+: x) (hx : c ∉ x) : c ∉ p := fun hc => hx (h.subset hc)
theorem numL_part {n i : Nat} {w : List UInt8} (hn : n ≤ 400) (hi : (n : Int) ≤ mostOf i) (hw : w <+: Lib.itoa (n : Int)) (hne : w ≠ []) : ∃ m : Nat, numL w i = some (m : Int) ∧ m ≤ n := by
  have hl : 1 ≤ w.length := by
    cases w with
    | nil => exact absurd rfl hne
    | cons _ _ => simp
  obtain ⟨m, h1, h2, h3, _⟩ := num_part (n := n) (j := w.length) hn hl
  rw [← prefix_take hw] at h1 h2
  refine ⟨m, ?_, h3⟩
  unfold numL
  rw [h1]
  show (if Lib.itoa (m : Int) = w ∧ 0 ≤ (m : Int) ∧ (m : Int) ≤ mostOf i then some (m : Int) else none) = _
  rw [if_pos ⟨h2, by omega, by omega⟩]
theorem last_word {n i : Nat} {w : List UInt8} (hn : n ≤ 400) (hi : (n : Int) ≤ mostOf i) (hw : w <+: Lib.itoa (n : Int)) : ∃ ns, headGoL false [w] i = some ns := by
  by_cases hne : w = []
  · exact ⟨[], by subst hne; simp [headGoL]⟩
  · obtain ⟨m, h, _⟩ := numL_part hn hi hw hne
    exact ⟨[(m : Int)], by simp [headGoL, hne, h]⟩
/-- The head of a text that breaks off within its head: right, and not whole; and its first word. -/
theorem headFL_part {a b c : Nat} (ha : a ≤ 100) (hb : b ≤ 30) (hc : c ≤ 400) {p : List UInt8} (hp : p <+: Lib.itoa (a : Int) ++ 32 :: (Lib.itoa (b : Int) ++ 32 :: Lib.itoa (c : Int))) (hne : p ≠ []) :
    (∃ h, headFL p = some h ∧ h.whole = false) ∧ ∃ w, w <+: Lib.itoa (a : Int) ∧ w ≠ [] ∧ (Lib.cut p [32]).1 = w := by
  obtain ⟨a1, a2, a3⟩ := itoa_plain (n := a) (by omega)
  obtain ⟨b1, b2, _⟩ := itoa_plain (n := b) (by omega)
  obtain ⟨c1, c2, _⟩ := itoa_plain (n := c) hc
  have g1 := numL_ok (n := a) (i := 0) (by omega) (by simp [mostOf]; omega)
  have g2 := numL_ok (n := b) (i := 1) (by omega) (by simp [mostOf]; omega)
  have hae : Lib.itoa (a : Int) ≠ [] := fun e => by rw [e] at a3; simp at a3
  have hbe : Lib.itoa (b : Int) ≠ [] := fun e => by have := (itoa_plain (n := b) (by omega)).2.2; rw [e] at this; simp at this
  have h10 : (10 : UInt8) ∉ p := sub_not hp (mem_app a2 (mem_app b2 c2 (by decide)) (by decide))
  have hcut := cut_none h10
  have fin : ∀ ws ns, splitL p = ws → ws.length ≤ 3 → headGoL false ws 0 = some ns → ∃ h, headFL p = some h ∧ h.whole = false := fun ws ns e1 e2 e3 => by
    unfold headFL
    rw [hcut]
    simp only
    rw [e1, if_neg (by intro h; rcases h with h | h; omega; cases h.1), e3]
    exact ⟨_, rfl, rfl⟩
  rcases prefix_app hp with h1 | ⟨q, rfl, h1⟩
  · have n32 := sub_not h1 a1
    refine ⟨?_, p, h1, hne, by rw [cut_none n32]⟩
    obtain ⟨ns, hns⟩ := last_word (n := a) (i := 0) (by omega) (by simp [mostOf]; omega) h1
    exact fin [p] ns (splitL_none n32) (by simp) hns
  · rcases List.prefix_cons_iff.1 h1 with rfl | ⟨q', rfl, h2⟩
    · rw [List.append_nil] at *
      refine ⟨?_, _, List.prefix_refl _, hae, by rw [cut_none a1]⟩
      obtain ⟨ns, hns⟩ := last_word (n := a) (i := 0) (by omega) (by simp [mostOf]; omega) (List.prefix_refl _)
      exact fin [_] ns (splitL_none a1) (by simp) hns
    · refine ⟨?_, _, List.prefix_refl _, hae, by rw [cut_hit a1]⟩
      rcases prefix_app h2 with h3 | ⟨r, rfl, h3⟩
      · obtain ⟨ns, hns⟩ := last_word (n := b) (i := 1) (by omega) (by simp [mostOf]; omega) h3
        refine fin [_, q'] ((a : Int) :: ns) ((splitL_hit a1).trans (by rw [splitL_none (sub_not h3 b1)])) (by simp) ?_
        rw [headGoL, if_neg (fun e => hae e.1), g1]
        simp only
        rw [hns]
        all_goals rfl
      · rcases List.prefix_cons_iff.1 h3 with rfl | ⟨r', rfl, h4⟩
        · rw [List.append_nil] at *
          obtain ⟨ns, hns⟩ := last_word (n := b) (i := 1) (by omega) (by simp [mostOf]; omega) (List.prefix_refl _)
          refine fin [_, _] ((a : Int) :: ns) ((splitL_hit a1).trans (by rw [splitL_none b1])) (by simp) ?_
          rw [headGoL, if_neg (fun e => hae e.1), g1]
          simp only
          rw [hns]
          all_goals rfl
        · obtain ⟨ns, hns⟩ := last_word (n := c) (i := 2) hc (by simp [mostOf]; omega) h4
          refine fin [_, _, r'] ((a : Int) :: (b : Int) :: ns) ((splitL_hit a1).trans (by rw [splitL_hit b1, splitL_none (sub_not h4 c1)])) (by simp) ?_
          rw [headGoL, if_neg (fun e => hae e.1), g1]
          simp only
          rw [headGoL, if_neg (fun e => hbe e.1), g2]
          simp only
          rw [hns]
          all_goals rfl
end Go.Proofs.YtehlmkgldcfciaaDoor.Files
/- What Join makes of a beginning of the text of valid units: plain law. -/
set_option linter.unusedVariables false
set_option linter.unusedSimpArgs false
namespace Go.Proofs.YtehlmkgldcfciaaDoor.Files
open Go.Proofs.YtehlmkgldcfciaaDoor.Common Go.RowKit Go.Lib Go.Shelf Go.Proofs.YtehlmkgldcfciaaDoor.F Go.Proofs.YtehlmkgldcfciaaDoorW.PrintWords Go.Proofs.YtehlmkgldcfciaaDoorW.PrintLast Go.Proofs.YtehlmkgldcfciaaDoorW.PrintMore
def headText (u : S46) : List UInt8 := Lib.itoa u.f2 ++ 32 :: (Lib.itoa (u.f0.size : Int) ++ 32 :: Lib.itoa (u.f1.size : Int))
def unitText (u : S46) : List UInt8 := headText u ++ 10 :: (u.f0.data.toList ++ u.f1.data.toList)
def textL (l : List S46) : List UInt8 := (l.map unitText).flatten
theorem textL_cons (u : S46) (r : List S46) : textL (u :: r) = headText u ++ 10 :: (u.f0.data.toList ++ (u.f1.data.toList ++ textL r)) := by
  unfold textL unitText
  simp
theorem rd_left {a b : List S46} {i : Nat} (h : i < a.length) : rd_T46 (a ++ b) (i : Int) = rd_T46 a (i : Int) := by
  simp only [rd_T46, Int.toNat_natCast, List.getD_eq_getElem?_getD]
  rw [List.getElem?_append_left h]
theorem rd_mid (a : List S46) (u : S46) (b : List S46) : rd_T46 (a ++ u :: b) (a.length : Int) = u := by
  simp [rd_T46]
theorem VOk.take {a b : List S46} {k : Int} (h : VOk (a ++ b) k) (ha : 1 ≤ a.length) : VOk a k := by
  have hl := h.len
  rw [List.length_append] at hl
  have hlv : ∀ i, i < a.length → lv (a ++ b) i = lv a i := fun i hi => by unfold lv; rw [rd_left hi]
  refine ⟨h.k0, ⟨ha, by omega⟩, fun i hi => ?_, ⟨?_, fun i hi hne => ?_⟩, fun hk i hi => ?_, fun j i hji hne => ?_⟩
  · rw [← rd_left (b := b) hi]; exact h.cell i (by rw [List.length_append]; omega)
  · rw [← hlv 0 (by omega)]; exact h.steps.1
  · rw [← hlv i hi, ← hlv (i - 1) (by omega)]; exact h.steps.2 i (by rw [List.length_append]; omega) hne
  · rw [← hlv i hi]; exact h.top hk i (by rw [List.length_append]; omega)
  · obtain ⟨d1, d2, d3, d4⟩ := hji
    have hnm : ∀ t, t < a.length → nmP (a ++ b) t = nmP a t := fun t ht => by unfold nmP; rw [rd_left ht]
    rw [← hnm i d2] at hne ⊢
    rw [← hnm j (by omega)]
    exact h.names j i ⟨d1, by rw [List.length_append]; omega, by rw [hlv j (by omega), hlv i d2]; exact d3, fun t h1 h2 => by rw [hlv t (by omega), hlv i d2]; exact d4 t h1 h2⟩ hne
theorem VOk.same {l l' : List S46} {k : Int} (h : VOk l k) (hlen : l'.length = l.length) (hs : ∀ i, i < l.length → (rd_T46 l' (i : Int)).f0 = (rd_T46 l (i : Int)).f0 ∧ (rd_T46 l' (i : Int)).f2 = (rd_T46 l (i : Int)).f2 ∧ (rd_T46 l' (i : Int)).f1.size ≤ 400) : VOk l' k := by
  have hlv : ∀ i, i < l.length → lv l' i = lv l i := fun i hi => (hs i hi).2.1
  have hnm : ∀ i, i < l.length → nmP l' i = nmP l i := fun i hi => (hs i hi).1
  have hl := h.len
  refine ⟨h.k0, by omega, fun i hi => ?_, ⟨?_, fun i hi hne => ?_⟩, fun hk i hi => ?_, fun j i hji hne => ?_⟩
  · rw [(hs i (by omega)).1]; exact ⟨(h.cell i (by omega)).1, (hs i (by omega)).2.2⟩
  · rw [hlv 0 (by omega)]; exact h.steps.1
  · rw [hlv i (by omega), hlv (i - 1) (by omega)]; exact h.steps.2 i (by omega) hne
  · rw [hlv i (by omega)]; exact h.top hk i (by omega)
  · obtain ⟨d1, d2, d3, d4⟩ := hji
    rw [hnm i (by omega)] at hne ⊢
    rw [hnm j (by omega)]
    exact h.names j i ⟨d1, by omega, by rw [← hlv j (by omega), ← hlv i (by omega)]; exact d3, fun t h1 h2 => by rw [← hlv t (by omega), ← hlv i (by omega)]; exact d4 t h1 h2⟩ hne
theorem VOk.blank {out : List S46} {u : S46} (h : VOk (out ++ [u]) 2) : VOk (out ++ [⟨u.f0, ⟨#[]⟩, u.f2⟩]) 2 := by
  refine h.same (by simp) fun i hi => ?_
  rw [List.length_append, List.length_singleton] at hi
  by_cases h1 : i < out.length
  · rw [rd_left h1]
    have := h.cell i (by rw [List.length_append]; omega)
    rw [rd_left h1] at this ⊢
    exact ⟨rfl, rfl, this.2⟩
  · obtain rfl : i = out.length := by omega
    rw [rd_mid, rd_mid]
    exact ⟨rfl, rfl, Nat.zero_le _⟩
/-- The next unit of valid ones. -/
structure NextOk (out : List S46) (u : S46) : Prop where
  lev : ∃ n : Nat, u.f2 = (n : Int) ∧ n ≤ 99 ∧ (n = 0 ↔ out.length = 0) ∧ (n : Int) ≤ mostLv out
  len : out.length < 100
  name : u.f0.size ≤ 30
  data : u.f1.size ≤ 400
  one : VOk (out ++ [u]) 2
theorem VOk.next {out r : List S46} {u : S46} (h : VOk (out ++ u :: r) 2) : NextOk out u := by
  have hl := h.len
  rw [List.length_append, List.length_cons] at hl
  have h1 : VOk (out ++ [u]) 2 := by
    have : out ++ u :: r = (out ++ [u]) ++ r := by simp
    rw [this] at h
    exact h.take (by simp)
  have hm : lv (out ++ [u]) out.length = u.f2 := by unfold lv; rw [rd_mid]
  have hb := lv_bound h1.steps out.length (by simp)
  have hc := h1.cell out.length (by simp)
  rw [rd_mid] at hc
  rw [hm] at hb
  refine ⟨⟨u.f2.toNat, by omega, by omega, ?_, ?_⟩, by omega, hc.1, hc.2, h1⟩
  · constructor
    · intro e
      by_cases h0 : out.length = 0
      · exact h0
      · have := (h1.steps.2 out.length (by simp) h0).1
        rw [hm] at this
        omega
    · intro e
      have := h1.steps.1
      rw [← e, hm] at this
      omega
  · unfold mostLv
    by_cases h0 : 0 < out.length
    · rw [if_pos h0]
      have h2 := (h1.steps.2 out.length (by simp) (by omega)).2
      rw [hm] at h2
      have e : lv (out ++ [u]) (out.length - 1) = lv out (out.length - 1) := by unfold lv; rw [rd_left (by omega)]
      rw [e] at h2
      have hb2 := lv_bound h1.steps (out.length - 1) (by simp; omega)
      rw [e] at hb2
      have : wrap64 (lv out (out.length - 1) + 1) = lv out (out.length - 1) + 1 := by unfold wrap64; omega
      omega
    · rw [if_neg h0]
      have := h1.steps.1
      rw [show (0 : Nat) = out.length by omega, hm] at this
      omega
theorem begins_word {out : List S46} {u x : S46} (h : NextOk out u) {s : ByteArray} {w : List UInt8} (hw : w <+: Lib.itoa u.f2) (hne : w ≠ []) (hcut : (Lib.cut s.data.toList [32]).1 = w) : beginsF out s x false = true := by
  obtain ⟨n, hn, h99, hz, hmost⟩ := h.lev
  have hd : (wordOf s).data.toList = w := (List.toList_toArray).trans hcut
  have hne2 : ¬ (wordOf s = ⟨#[]⟩ ∧ spaceIn s = false) := fun e => hne (by rw [← hd, e.1])
  have hl : 1 ≤ w.length := by
    cases w with
    | nil => exact absurd rfl hne
    | cons _ _ => simp
  rw [hn] at hw
  obtain ⟨m, h1, h2, h3, h4⟩ := num_part (n := n) (j := w.length) (by omega) hl
  rw [← prefix_take hw] at h1
  unfold beginsF
  rw [if_neg (by have := h.len; omega), if_neg (by decide), if_neg hne2, hd, h1]
  simp only
  have hbq : (decide ((m : Int) = 0) != decide (out.length = 0)) = false := by
    have : decide ((m : Int) = 0) = decide (out.length = 0) := decide_eq_decide.2 (by omega)
    rw [this]
    simp
  rw [hbq]
  simp
  omega
theorem ex_data (s : ByteArray) (a b : Nat) : (s.extract a b).data.toList = (s.data.toList.drop a).take (b - a) := by rw [Lib.extract_data]
theorem joinGo_part : ∀ (rest out : List S46) (k : Nat) (s : ByteArray), (rest = [] ∨ VOk (out ++ rest) 2) → s.data.toList <+: textL rest → s.size < k → ∃ j, j ≤ rest.length ∧ joinGo k out s = some (out ++ rest.take j) ∧ (s.data.toList = textL rest → j = rest.length)
  | [], out, k, s, _, hp, hk => by
    obtain ⟨k, rfl⟩ : ∃ m, k = m + 1 := ⟨k - 1, by omega⟩
    have he : s.data.toList = [] := List.prefix_nil.1 hp
    refine ⟨0, Nat.le_refl _, ?_, fun _ => rfl⟩
    rw [joinGo, if_pos (data_inj he)]
    simp
  | u :: r, out, k, s, hv, hp, hk => by
    obtain ⟨k, rfl⟩ : ∃ m, k = m + 1 := ⟨k - 1, by omega⟩
    have hV : VOk (out ++ u :: r) 2 := hv.resolve_left (by simp)
    have hN := hV.next
    obtain ⟨n, hn, h99, _, _⟩ := hN.lev
    have hname := hN.name
    have hdata := hN.data
    have h10 : (10 : UInt8) ∈ textL (u :: r) := by rw [textL_cons]; simp
    have hT : headText u = Lib.itoa (n : Int) ++ 32 :: (Lib.itoa (u.f0.size : Int) ++ 32 :: Lib.itoa (u.f1.size : Int)) := by unfold headText; rw [hn]
    have hsz := Lib.size_eq s
    by_cases hs : s = ⟨#[]⟩
    · refine ⟨0, Nat.zero_le _, by rw [joinGo, if_pos hs]; simp, fun e => ?_⟩
      rw [hs] at e
      rw [← e] at h10
      exact absurd h10 (by simp)
    have hne : s.data.toList ≠ [] := fun e => hs (data_inj e)
    rw [textL_cons] at hp
    -- within the head
    have part : s.data.toList <+: headText u → ∃ j, j ≤ (u :: r).length ∧ joinGo (k + 1) out s = some (out ++ (u :: r).take j) ∧ (s.data.toList = textL (u :: r) → j = (u :: r).length) := fun hp1 => by
      rw [hT] at hp1
      obtain ⟨⟨h, hh, hw⟩, w, w1, w2, w3⟩ := headFL_part (by omega) hname hdata hp1 hne
      rw [← headF_lists] at hh
      refine ⟨0, Nat.zero_le _, ?_, fun e => ?_⟩
      · rw [joinGo, if_neg hs, hh]
        simp only
        rw [if_neg (fun e => by rw [hw] at e; cases e.1), hw]
        rw [show (false && decide (h.long.toNat + h.name.toNat ≤ s.size)) = false from rfl, begins_word hN (by rw [hn]; exact w1) w2 w3]
        simp
      · exfalso
        obtain ⟨a1, a2, _⟩ := itoa_plain (n := n) (by omega)
        obtain ⟨b1, b2, _⟩ := itoa_plain (n := u.f0.size) (by omega)
        obtain ⟨c1, c2, _⟩ := itoa_plain (n := u.f1.size) (by omega)
        rw [← e] at h10
        exact sub_not hp1 (mem_app a2 (mem_app b2 c2 (by decide)) (by decide)) h10
    rcases prefix_app hp with hp1 | ⟨q, hq, hp1⟩
    · exact part hp1
    rcases List.prefix_cons_iff.1 hp1 with rfl | ⟨q', rfl, hp2⟩
    · exact part (by rw [hq, List.append_nil]; exact List.prefix_refl _)
    -- the head is whole
    have hfull := headFL_full (a := n) (b := u.f0.size) (c := u.f1.size) (by omega) hname hdata q'
    obtain ⟨H, hH⟩ : ∃ H : HeadR, H = ⟨(n : Int), (u.f0.size : Int), (u.f1.size : Int), ((headText u).length : Int) + 1, true⟩ := ⟨_, rfl⟩
    rw [← hT, ← hq, ← headF_lists, ← hH] at hfull
    have hlen : s.data.toList.length = (headText u).length + (q'.length + 1) := by rw [hq]; simp
    have hH1 : H.whole = true := by rw [hH]
    have hH2 : H.name.toNat = u.f0.size := by rw [hH]; rfl
    have hH3 : H.data.toNat = u.f1.size := by rw [hH]; rfl
    have hH4 : H.level = u.f2 := by rw [hH, hn]
    have hH5 : H.long.toNat = (headText u).length + 1 := by rw [hH]; rfl
    clear hH
    have hBd : (bodyOf s H).data.toList = q' := by
      unfold bodyOf
      rw [hH5, ex_data, hq, show headText u ++ 10 :: q' = (headText u ++ [10]) ++ q' by simp, List.drop_left' (by simp)]
      exact List.take_of_length_le (by omega)
    have hBs : (bodyOf s H).size = q'.length := (Lib.size_eq _).trans (congrArg List.length hBd)
    have hcutw : (Lib.cut s.data.toList [32]).1 = Lib.itoa u.f2 := by
      rw [hq]
      unfold headText
      rw [List.append_assoc, List.cons_append, hn, cut_hit (itoa_plain (n := n) (by omega)).1]
    have hn1 : u.f0.data.toList.length = u.f0.size := (Lib.size_eq _).symm
    have hd1 : u.f1.data.toList.length = u.f1.size := (Lib.size_eq _).symm
    rw [joinGo, if_neg hs, hfull]
    simp only
    by_cases hfit : u.f0.size + u.f1.size ≤ q'.length
    · rw [if_pos ⟨hH1, by rw [hH2, hH3, hBs]; exact hfit⟩]
      obtain ⟨q1, rfl, hp3⟩ : ∃ q1, q' = u.f0.data.toList ++ q1 ∧ q1 <+: u.f1.data.toList ++ textL r := by
        rcases prefix_app hp2 with h3 | h3
        · have := h3.length_le
          have e : q' = u.f0.data.toList := h3.eq_of_length_le (by omega)
          exact ⟨[], by rw [List.append_nil]; exact e, List.nil_prefix⟩
        · exact h3
      rw [List.length_append] at hfit
      obtain ⟨q2, rfl, hp4⟩ : ∃ q2, q1 = u.f1.data.toList ++ q2 ∧ q2 <+: textL r := by
        rcases prefix_app hp3 with h3 | h3
        · have e : q1 = u.f1.data.toList := h3.eq_of_length_le (by omega)
          exact ⟨[], by rw [List.append_nil]; exact e, List.nil_prefix⟩
        · exact h3
      have e0 : (bodyOf s H).extract 0 u.f0.size = u.f0 := data_inj (by rw [ex_data, hBd, List.drop_zero, Nat.sub_zero]; exact List.take_left' hn1)
      have e1 : (bodyOf s H).extract u.f0.size (u.f0.size + u.f1.size) = u.f1 := data_inj (by rw [ex_data, hBd, List.drop_left' hn1, Nat.add_sub_cancel_left]; exact List.take_left' hd1)
      have hnext : nextOf (bodyOf s H) H = u := by
        unfold nextOf
        rw [hH2, hH3, hH4, e0, e1]
      have hrd : ((bodyOf s H).extract (H.name.toNat + H.data.toNat) (bodyOf s H).size).data.toList = q2 := by
        rw [ex_data, hBd, hH2, hH3, hBs, ← List.append_assoc, List.drop_left' (by rw [List.length_append]; omega)]
        exact List.take_of_length_le (by simp; omega)
      obtain ⟨j, j1, j2, j3⟩ := joinGo_part r (out ++ [u]) k ((bodyOf s H).extract (H.name.toNat + H.data.toNat) (bodyOf s H).size) (by
        by_cases hr : r = []
        · exact .inl hr
        · exact .inr (by simpa using hV)) (by rw [hrd]; exact hp4) (by
        have e := congrArg List.length hrd
        rw [← Lib.size_eq] at e
        rw [e]
        simp at hlen
        omega)
      rw [hnext, hN.one.valid]
      simp only [if_true]
      refine ⟨j + 1, by simp; omega, by rw [j2]; simp, fun e => ?_⟩
      rw [hq, textL_cons] at e
      have e2 : q2 = textL r := by simpa using e
      have := j3 (by rw [hrd]; exact e2)
      simp [this]
    · rw [if_neg (fun e => hfit (by have := e.2; rw [hH2, hH3, hBs] at this; exact this))]
      refine ⟨0, Nat.zero_le _, ?_, fun e => ?_⟩
      · have hb : beginsF out s (partOf (bodyOf s H) H) (H.whole && decide (H.long.toNat + H.name.toNat ≤ s.size)) = true := by
          rw [hH1, hH2, hH5]
          by_cases hnm : (headText u).length + 1 + u.f0.size ≤ s.size
          · have hq0 : u.f0.size ≤ q'.length := by omega
            have e0 : (bodyOf s H).extract 0 (min u.f0.size (bodyOf s H).size) = u.f0 := data_inj (by
              rw [ex_data, hBd, hBs, Nat.min_eq_left hq0, List.drop_zero, Nat.sub_zero]
              rcases prefix_app hp2 with h3 | ⟨q1, rfl, _⟩
              · have e : q' = u.f0.data.toList := h3.eq_of_length_le (by omega)
                rw [e]
                exact List.take_of_length_le (by omega)
              · exact List.take_left' hn1)
            have hpart : partOf (bodyOf s H) H = ⟨u.f0, ⟨#[]⟩, u.f2⟩ := by
              unfold partOf
              rw [hH1, if_pos rfl, hH2, hH4, e0]
            rw [hpart, decide_eq_true hnm]
            unfold beginsF
            rw [if_neg (by have := hN.len; omega)]
            simp only [Bool.and_self, if_true]
            exact hN.one.blank.valid
          · rw [decide_eq_false hnm, Bool.and_false]
            exact begins_word hN (List.prefix_refl _) (by
              intro e
              have := (itoa_plain (n := n) (by omega)).2.2
              rw [← hn, e] at this
              simp at this) hcutw
        rw [hb]
        simp
      · exfalso
        rw [hq, textL_cons] at e
        have e2 : q' = u.f0.data.toList ++ (u.f1.data.toList ++ textL r) := by simpa using e
        have := congrArg List.length e2
        simp at this
        omega
end Go.Proofs.YtehlmkgldcfciaaDoor.Files
