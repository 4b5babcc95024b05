/- The parts of this proof that lie in one text. -/
import Derived.Test.YtehlmkgldcfciaaGreatCommon
import Derived.Test.YtehlmkgldcfciaaGreatProg
import Derived.Maps.OwnSet
import Derived.Maps.RangeWalk
import Derived.RangeFuncBox
import Derived.WalkKit
import Derived.WalkSpells
import Derived.Below
import Derived.Deep.Draws
import Derived.Deep.AppendLies
import Derived.Maps.AppendAt
import Derived.OwnWalk
import Derived.Laws.BytesArg
import Derived.Laws.MakeOwn
import Derived.Laws.OwnMore
import Derived.Deep.OwnRows
import Derived.Tactics
import Derived.Lib.ConvBytes
import Derived.Laws.Slices
import Derived.KernelRfl
import Derived.RowKit3
import Derived.Deep.LoopGhost
import Derived.Deep.QuietTactic
import Derived.BigQuiet
import Derived.WideLaws
import Derived.Deep.DeepCutAuto
import Derived.Deep.CutBlock
import Derived.Deep.RegionHeld3
import Derived.Laws.Rows
import Derived.Lib.AppendStr
import Derived.ArgAppend
import Derived.Laws.IdiomCopy
import Derived.OrdersHeld
import Derived.Laws.BitsLemmas
import Derived.RowKit
import Derived.Test.YtehlmkgldcfciaaGreatRawRow
import Derived.Test.YtehlmkgldcfciaaGreatRawIns
import Derived.Shelf.Abstract
import Derived.Deep.RegionWith
import Derived.Test.YtehlmkgldcfciaaGreatWWords
import Derived.Test.YtehlmkgldcfciaaGreatWLast
import Derived.Test.YtehlmkgldcfciaaGreatWTab
import Derived.Test.YtehlmkgldcfciaaGreatWFour
import Derived.Test.YtehlmkgldcfciaaGreatWQPut
import Derived.Test.YtehlmkgldcfciaaGreatWApart
import Derived.Test.YtehlmkgldcfciaaGreatWArr
import Derived.Test.YtehlmkgldcfciaaGreatWZeros
import Derived.Test.YtehlmkgldcfciaaGreatWFoot
import Derived.Test.YtehlmkgldcfciaaGreatWKept
import Derived.Test.YtehlmkgldcfciaaGreatWShare
import Derived.Test.YtehlmkgldcfciaaGreatWN
import Derived.Test.YtehlmkgldcfciaaGreatWFootNe
import Derived.Test.YtehlmkgldcfciaaGreatWAt
import Derived.Test.YtehlmkgldcfciaaGreatWEqStruct
import Derived.Test.YtehlmkgldcfciaaGreatWRepsOne
import Derived.Test.YtehlmkgldcfciaaGreatWInv
import Derived.Test.YtehlmkgldcfciaaGreatWInvWords
import Derived.Test.YtehlmkgldcfciaaGreatWGuard
import Derived.Test.YtehlmkgldcfciaaGreatWNEv
import Derived.Test.YtehlmkgldcfciaaGreatWMore
import Derived.Maps.Ext
import Derived.Outline
import Derived.Lib.Hide
/- The file store of layer 28: what its functions do with memory, each walked once. -/
set_option linter.unusedVariables false
set_option linter.unusedSimpArgs false
namespace Go.Proofs.YtehlmkgldcfciaaGreat.Files
open Go.Proofs.YtehlmkgldcfciaaGreat.Common Go.Maps Go.ChangeMaps Go.WideMaps
open Go.RowKit Go.Proofs.YtehlmkgldcfciaaGreatW.PrintWords Go.Proofs.YtehlmkgldcfciaaGreatW.PrintLast Go.Proofs.YtehlmkgldcfciaaGreatW.PrintMore
theorem user_c (u : ByteArray) (w : World) : Calls Tryz.prog 53 #[.string u] w fun e w' => e = .returned (.bool (decide (1 ≤ u.size) && decide (u.size ≤ 20))) ∧ w = w' := by
  by_cases c : 1 ≤ u.size
  · have h0 : decide (1 ≤ (u.size : Int)) = true := decide_eq_true (by omega)
    have h1 : decide (1 ≤ u.size) = true := decide_eq_true c
    have h2 : decide ((u.size : Int) ≤ 20) = decide (u.size ≤ 20) := decide_eq_decide.2 (by omega)
    go_enter Tryz.func53, Tryz.ntmps53
    go_wp2
    go_ret
    exact ⟨by simp [h1, h2], rfl⟩
  · have h0 : decide (1 ≤ (u.size : Int)) = false := decide_eq_false (by omega)
    have h1 : decide (1 ≤ u.size) = false := decide_eq_false c
    go_enter Tryz.func53, Tryz.ntmps53
    go_wp2
    go_ret
    exact ⟨by simp [h1], rfl⟩
theorem name_c (u : ByteArray) (w : World) : Calls Tryz.prog 54 #[.string u] w fun e w' => e = .returned (.bool (decide (1 ≤ u.size) && decide (u.size ≤ 30))) ∧ w = w' := by
  by_cases c : 1 ≤ u.size
  · have h0 : decide (1 ≤ (u.size : Int)) = true := decide_eq_true (by omega)
    have h1 : decide (1 ≤ u.size) = true := decide_eq_true c
    have h2 : decide ((u.size : Int) ≤ 30) = decide (u.size ≤ 30) := decide_eq_decide.2 (by omega)
    go_enter Tryz.func54, Tryz.ntmps54
    go_wp2
    go_ret
    exact ⟨by simp [h1, h2], rfl⟩
  · have h0 : decide (1 ≤ (u.size : Int)) = false := decide_eq_false (by omega)
    have h1 : decide (1 ≤ u.size) = false := decide_eq_false c
    go_enter Tryz.func54, Tryz.ntmps54
    go_wp2
    go_ret
    exact ⟨by simp [h1], rfl⟩
theorem set_c (n : Int) (w : World) : Calls Tryz.prog 55 #[.int .i64 n] w fun e w' => e = .returned (.bool (decide (0 ≤ n) && decide (n ≤ 255))) ∧ w = w' := by
  by_cases c : 0 ≤ n
  · have h0 : decide (0 ≤ n) = true := decide_eq_true c
    go_enter Tryz.func55, Tryz.ntmps55
    go_wp2
    go_ret
    exact ⟨by simp [h0], rfl⟩
  · have h0 : decide (0 ≤ n) = false := decide_eq_false c
    go_enter Tryz.func55, Tryz.ntmps55
    go_wp2
    go_ret
    exact ⟨by simp [h0], rfl⟩
theorem eqlSome (bm : Nat) (w : World) : (binOp .eql 41 (.map (some bm)) (.map none)).run Tryz.prog w = .ok (.bool false) w := by kernel_rfl
set_option maxRecDepth 100000 in
theorem no_live (sb mb : Nat) (w : World) (c0 : w.cell? ⟨sb, 0, none⟩ = some (.map (some mb))) : Calls Tryz.prog 44 #[.pointer (some ⟨sb, 0, none⟩)] w fun e w' => e = .returned (.bool false) ∧ w = w' := by
  have q := eqlSome mb
  go_enter Tryz.func44, Tryz.ntmps44
  go_wp2
  go_ret
  exact ⟨rfl, rfl⟩
theorem New_c (w : World) : Calls Tryz.prog 5 #[] w fun e w' => e = .returned (.pointer (some ⟨w.heap.size + 1, 0, none⟩)) ∧ w' = (w.alloc (.map #[] 0)).alloc (.cells #[.map (some w.heap.size)] 43) := by
  have hmm := @run_makeMap Tryz.prog
  go_enter Tryz.func5, Tryz.ntmps5
  go_wp2
  go_ret
  exact ⟨rfl, rfl⟩
theorem law9 : Keyed Tryz.prog 9 := string_keyed Tryz.underlying9
def Rp : Value → Option (DataW Unit × List MemPlace)
  | .pointer none => some (.nil, [])
  | .pointer (some ⟨b, 0, none⟩) => some (.lit (.int .i64 b), [])
  | _ => none
theorem Rp_nil {v : Value} {ps : List MemPlace} (h : Rp v = some (.nil, ps)) : v = .pointer none := by
  unfold Rp at h
  split at h
  · rfl
  · cases h
  · cases h
theorem Rp_at {v : Value} {b : Nat} {ps : List MemPlace} (h : Rp v = some (.lit (.int .i64 b), ps)) : v = .pointer (some ⟨b, 0, none⟩) := by
  unfold Rp at h
  split at h
  · cases h
  · rename_i c
    injection h with h
    injection h with h
    injection h with h
    injection h with _ h
    have : c = b := by omega
    rw [this]
  · cases h
def Ro : Value → Option (DataW Unit × List MemPlace)
  | .agg ⟨[.int .i64 a, .int .i64 b]⟩ => some (.agg [.lit (.int .i64 a), .lit (.int .i64 b)], [])
  | _ => none
theorem zeroP (w : World) : (zeroValue 82).run Tryz.prog w = .ok (.pointer none) w := by kernel_rfl
theorem zeroO (w : World) : (zeroValue 90).run Tryz.prog w = .ok (.agg #[.int .i64 0, .int .i64 0]) w := by kernel_rfl
structure FS where
  name : ByteArray
  kind : Int
  perm : Int
  owner : ByteArray
  last : ByteArray
  ch : Int
  rd : Int
def FS.cells (F : FS) (rv uv : Value) (ub : Nat) : Array Value := #[.string F.name, .int .i64 F.kind, .int .i64 F.perm, .string F.owner, .string F.last, .int .i64 F.ch, .int .i64 F.rd, rv, uv, .map (some ub)]
def FileAt (W : World) (fb : Nat) (F : FS) (rv uv : Value) (ub : Nat) : Prop := W.heap[fb]? = some (.cells (F.cells rv uv ub) 92 (0, 0))
theorem key_of {s : ByteArray} (h : s.size ≤ 30) : keyOf Tryz.prog 9 (.string s) = some (.string s.data.toList) := keyOf_string_mk Tryz.underlying9 (by unfold maxLen; omega)
set_option maxRecDepth 100000 in
set_option maxHeartbeats 2000000 in
theorem Create_c (sb mb k : Nat) (D : DataW Unit) (u n : ByteArray) (kind perm : Int) (W : World) (c0 : W.cell? ⟨sb, 0, none⟩ = some (.map (some mb))) (hown : W.ownsMap Tryz.prog 9 Rp mb k D) (hk : k < 1000)
    (hu : 1 ≤ u.size ∧ u.size ≤ 20) (hn : 1 ≤ n.size ∧ n.size ≤ 30) (hkd : 0 ≤ kind ∧ kind ≤ 2) (hpm : 0 ≤ perm ∧ perm ≤ 255) (hD : D.atKey (.string n.data.toList) .nil = .nil) (hs : Maps.size D < 30) :
    Calls Tryz.prog 16 #[.pointer (some ⟨sb, 0, none⟩), .string u, .string n, .int .i64 kind, .int .i64 perm] W fun e w' => e = .returned (.int .i64 0) ∧
      ∃ W3, ((W.alloc (.cells #[.string ByteArray.empty, .string ByteArray.empty, .int .i64 0] 29)).alloc (.map #[] 0)).alloc (.cells (FS.cells ⟨n, kind, perm, u, ByteArray.empty, 0, 0⟩ (.slice none 0 0) (.slice (some ⟨W.heap.size, 0, none⟩) 1 1) (W.heap.size + 1)) 92) = W3 ∧
        w'.ownsMap Tryz.prog 9 Rp mb (k + 1) (D.put (.string n.data.toList) (.lit (.int .i64 (W.heap.size + 2 : Nat)))) ∧ W3.mapTurned w' mb := by
  have hkey := key_of hn.2
  obtain ⟨v, ps, hrun, hv⟩ := hown.lookup law9 Tryz.underlying41 (zeroP _) (zd := .nil) (zp := []) rfl hkey
  rw [hD] at hv
  obtain rfl := Rp_nil hv
  have hlen := fun ty => hown.len Tryz.underlying41 ty
  have hmm := @run_makeMap Tryz.prog
  have hu1 : (decide (1 ≤ u.size) && decide (u.size ≤ 20)) = true := by simp [hu.1, hu.2]
  have hn1 : (decide (1 ≤ n.size) && decide (n.size ≤ 30)) = true := by simp [hn.1, hn.2]
  have hp1 : (decide (0 ≤ perm) && decide (perm ≤ 255)) = true := by simp [hpm.1, hpm.2]
  have hk1 : decide (kind < 0) = false := decide_eq_false (by omega)
  have hk2 : decide (2 < kind) = false := decide_eq_false (by omega)
  have hs1 : decide (30 ≤ Maps.size D) = false := decide_eq_false (by omega)
  have hs2 : decide ((30 : Int) ≤ (Maps.size D : Int)) = false := decide_eq_false (by omega)
  have CU := Aside0.mk (user_c u W)
  have CN := Aside0.mk (name_c n W)
  have CP := Aside0.mk (set_c perm W)
  rw [hu1] at CU
  rw [hn1] at CN
  rw [hp1] at CP
  go_enter Tryz.func16, Tryz.ntmps16
  go_wp2_with first | (go_at_call 44; refine (no_live sb mb _ c0).mono ?_; rintro e w' ⟨rfl, rfl⟩) | (go_at_call 53; refine CU.out.mono ?_; rintro e w' ⟨rfl, rfl⟩) | (go_at_call 54; refine CN.out.mono ?_; rintro e w' ⟨rfl, rfl⟩) | (go_at_call 55; refine CP.out.mono ?_; rintro e w' ⟨rfl, rfl⟩) | (at_mapUpdate; refine wpList_mapUpdate_in _ rfl _ _ _ 41 rfl 9 82 law9 Tryz.underlying41 _ mb k D rfl (((hown.alloc _).alloc _).alloc _) (by unfold maxLen; omega) _ _ _ rfl rfl hkey (.lit (.int .i64 (W.heap.size + 2 : Nat))) [] rfl ?_; intro w1 hown1 hturn1)
  go_ret
  exact ⟨rfl, _, rfl, hown1, hturn1⟩
set_option maxRecDepth 100000 in
theorem found_c (sb mb k fb : Nat) (D : DataW Unit) (u n : ByteArray) (W : World) (c0 : W.cell? ⟨sb, 0, none⟩ = some (.map (some mb))) (hown : W.ownsMap Tryz.prog 9 Rp mb k D)
    (hu : 1 ≤ u.size ∧ u.size ≤ 20) (hn : 1 ≤ n.size ∧ n.size ≤ 30) (hD : D.atKey (.string n.data.toList) .nil = .lit (.int .i64 (fb : Nat))) :
    Calls Tryz.prog 58 #[.pointer (some ⟨sb, 0, none⟩), .string u, .string n] W fun e w' => e = .returned (.tuple #[.pointer (some ⟨fb, 0, none⟩), .int .i64 0]) ∧ W = w' := by
  have hkey := key_of hn.2
  obtain ⟨v, ps, hrun, hv⟩ := hown.lookup law9 Tryz.underlying41 (zeroP _) (zd := .nil) (zp := []) rfl hkey
  rw [hD] at hv
  obtain rfl := Rp_at hv
  have hu1 : (decide (1 ≤ u.size) && decide (u.size ≤ 20)) = true := by simp [hu.1, hu.2]
  have hn1 : (decide (1 ≤ n.size) && decide (n.size ≤ 30)) = true := by simp [hn.1, hn.2]
  have CU := Aside0.mk (user_c u W)
  have CN := Aside0.mk (name_c n W)
  rw [hu1] at CU
  rw [hn1] at CN
  go_enter Tryz.func58, Tryz.ntmps58
  go_wp2_with first | (go_at_call 44; refine (no_live sb mb _ c0).mono ?_; rintro e w' ⟨rfl, rfl⟩) | (go_at_call 53; refine CU.out.mono ?_; rintro e w' ⟨rfl, rfl⟩) | (go_at_call 54; refine CN.out.mono ?_; rintro e w' ⟨rfl, rfl⟩)
  refine bodyPost_ret (v := .tuple #[.pointer (some ⟨fb, 0, none⟩), .int .i64 0]) (by simp [results, Tryz.f58, go_sem]) rfl ?_
  exact ⟨rfl, rfl⟩
theorem Ro_at {v : Value} {a b : Int} {ps : List MemPlace} (h : Ro v = some (.agg [.lit (.int .i64 a), .lit (.int .i64 b)], ps)) : v = .agg #[.int .i64 a, .int .i64 b] := by
  unfold Ro at h
  split at h
  · rename_i c d
    simp only [Option.some.injEq, Prod.mk.injEq, DataW.agg.injEq, List.cons.injEq, DataW.lit.injEq, Lit.int.injEq, true_and, and_true] at h
    rw [h.1.1, h.1.2]
  · cases h
end Go.Proofs.YtehlmkgldcfciaaGreat.Files
-- Written by this repo's wip/tools/myprint.py (the kit's print program, with contracts of our own beside). Lean checks it.
namespace Go.Proofs.YtehlmkgldcfciaaGreat.F
open Go.Proofs.YtehlmkgldcfciaaGreat.Common
open Go.RowKit Go.Proofs.YtehlmkgldcfciaaGreatW.PrintWords Go.Proofs.YtehlmkgldcfciaaGreatW.PrintLast Go.Proofs.YtehlmkgldcfciaaGreatW.PrintMore
set_option linter.unusedVariables false
set_option linter.unusedSimpArgs false
def errW : Option Int → Value
  | none => .nilIface
  | some c => .iface 0 (.int .i64 c)
theorem errW_none : errW none = .nilIface := rfl
theorem errW_some (c : Int) : errW (some c) = .iface 0 (.int .i64 c) := rfl
theorem info3 : (Tryz.prog.info? 3).map (fun i => (i.zero, i.size, i.bytes)) = some (some (.int .i64 0), 1, 8) := by kernel_rfl
theorem info9 : (Tryz.prog.info? 9).map (fun i => (i.zero, i.size, i.bytes)) = some (some (.string ⟨#[]⟩), 1, 16) := by kernel_rfl
theorem info29 : (Tryz.prog.info? 29).map (fun i => (i.zero, i.size, i.bytes)) = some (some (.agg #[(.string ⟨#[]⟩), (.string ⟨#[]⟩), (.int .i64 0)]), 3, 40) := by kernel_rfl
theorem info62 : (Tryz.prog.info? 62).map (fun i => (i.zero, i.size, i.bytes)) = some (some (.agg #[(.string ⟨#[]⟩), (.string ⟨#[]⟩), (.int .i64 0)]), 3, 40) := by kernel_rfl
theorem info100 : (Tryz.prog.info? 100).map (fun i => (i.zero, i.size, i.bytes)) = some (some (.agg #[(.string ⟨#[]⟩), (.int .i64 0)]), 2, 24) := by kernel_rfl
theorem info129 : (Tryz.prog.info? 129).map (fun i => (i.zero, i.size, i.bytes)) = some (some (.agg #[(.string ⟨#[]⟩), (.int .i64 0)]), 2, 24) := by kernel_rfl
structure S129 where
  f0 : ByteArray
  f1 : Int
def z129 : S129 := ⟨(⟨#[]⟩ : ByteArray), (0 : Int)⟩
def k129 : Kd S129 := Kd.iso (Kd.pair Kd.string (Kd.int .i64)) (fun x : S129 => (x.f0, x.f1))
theorem k129_open {w : World} {x : S129} {cs : List Value} (h : k129.K w x cs) : cs = [.string x.f0, .int .i64 x.f1] := by
  obtain ⟨_, _, rfl, rfl, rfl⟩ := h
  exact rfl
theorem k129_mkM (w : World) (base : Nat) (ok : Nat → Prop) (x : S129)  : k129.M w base ok x [.string x.f0, .int .i64 x.f1] := ⟨[.string x.f0], [.int .i64 x.f1], rfl, rfl, rfl⟩
def rd_T129 (xs : List S129) (i : Int) : S129 := xs.getD i.toNat z129
theorem at_T129 {w : World} {A : Option Addr} {n : Nat} {xs : List S129} (h : Kd.C k129 w A n xs) (i : Int) (h0 : 0 ≤ i) (h1 : i < n) : ∃ ad , A = some ad ∧ w.cell? (ad.add (i.toNat * 2)) = some (.string (rd_T129 xs i).f0) ∧ w.cell? ⟨(ad.add (i.toNat * 2)).block, (ad.add (i.toNat * 2)).off + 1, none⟩ = some (.int .i64 (rd_T129 xs i).f1) := by
  obtain ⟨ad, c, e, _, hK, hc0⟩ := Kd.C_get h z129 i h0 h1
  have hc : ∀ j u, c[j]? = some u → w.cell? (ad.add (i.toNat * 2 + j)) = some u := hc0
  obtain rfl := k129_open hK
  exact ⟨ad, e, hc 0 _ rfl, by rw [← add_field _ _ 1 (by omega)]; exact hc 1 _ rfl⟩
structure S71 where
  f0 : ByteArray
  f1 : Int
  f2 : Int
  f3 : ByteArray
  f4 : ByteArray
  f5 : Int
  f6 : Int
  f7 : (List S129)
def z71 : S71 := ⟨(⟨#[]⟩ : ByteArray), (0 : Int), (0 : Int), (⟨#[]⟩ : ByteArray), (⟨#[]⟩ : ByteArray), (0 : Int), (0 : Int), ([] : List S129)⟩
def k71 : Kd S71 := Kd.iso (Kd.pair Kd.string (Kd.pair (Kd.int .i64) (Kd.pair (Kd.int .i64) (Kd.pair Kd.string (Kd.pair Kd.string (Kd.pair (Kd.int .i64) (Kd.pair (Kd.int .i64) (Kd.slice 129 k129)))))))) (fun x : S71 => (x.f0, x.f1, x.f2, x.f3, x.f4, x.f5, x.f6, x.f7))
theorem k71_open {w : World} {x : S71} {cs : List Value} (h : k71.K w x cs) : ∃ A7 c7, cs = [.string x.f0, .int .i64 x.f1, .int .i64 x.f2, .string x.f3, .string x.f4, .int .i64 x.f5, .int .i64 x.f6, .slice A7 x.f7.length c7] ∧ x.f7.length ≤ c7 ∧ k129.C w A7 x.f7.length x.f7 := by
  obtain ⟨_, _, rfl, rfl, ⟨_, _, rfl, rfl, ⟨_, _, rfl, rfl, ⟨_, _, rfl, rfl, ⟨_, _, rfl, rfl, ⟨_, _, rfl, rfl, ⟨_, _, rfl, rfl, ⟨A7, c7, rfl, l7, g7⟩⟩⟩⟩⟩⟩⟩⟩ := h
  exact ⟨A7, c7, rfl, l7, g7⟩
theorem k71_openM {w : World} {base : Nat} {ok : Nat → Prop} {x : S71} {cs : List Value} (h : k71.M w base ok x cs) : ∃ v7, cs = [.string x.f0, .int .i64 x.f1, .int .i64 x.f2, .string x.f3, .string x.f4, .int .i64 x.f5, .int .i64 x.f6, v7] ∧ k129.R 129 w base ok v7 x.f7 := by
  obtain ⟨_, _, rfl, rfl, ⟨_, _, rfl, rfl, ⟨_, _, rfl, rfl, ⟨_, _, rfl, rfl, ⟨_, _, rfl, rfl, ⟨_, _, rfl, rfl, ⟨_, _, rfl, rfl, ⟨v7, rfl, g7⟩⟩⟩⟩⟩⟩⟩⟩ := h
  exact ⟨v7, rfl, g7⟩
theorem k71_mkM (w : World) (base : Nat) (ok : Nat → Prop) (x : S71) {v7 : Value} (g7 : k129.R 129 w base ok v7 x.f7) : k71.M w base ok x [.string x.f0, .int .i64 x.f1, .int .i64 x.f2, .string x.f3, .string x.f4, .int .i64 x.f5, .int .i64 x.f6, v7] := ⟨[.string x.f0], [.int .i64 x.f1, .int .i64 x.f2, .string x.f3, .string x.f4, .int .i64 x.f5, .int .i64 x.f6, v7], rfl, rfl, ⟨[.int .i64 x.f1], [.int .i64 x.f2, .string x.f3, .string x.f4, .int .i64 x.f5, .int .i64 x.f6, v7], rfl, rfl, ⟨[.int .i64 x.f2], [.string x.f3, .string x.f4, .int .i64 x.f5, .int .i64 x.f6, v7], rfl, rfl, ⟨[.string x.f3], [.string x.f4, .int .i64 x.f5, .int .i64 x.f6, v7], rfl, rfl, ⟨[.string x.f4], [.int .i64 x.f5, .int .i64 x.f6, v7], rfl, rfl, ⟨[.int .i64 x.f5], [.int .i64 x.f6, v7], rfl, rfl, ⟨[.int .i64 x.f6], [v7], rfl, rfl, ⟨v7, rfl, g7⟩⟩⟩⟩⟩⟩⟩⟩
structure S62 where
  f0 : ByteArray
  f1 : ByteArray
  f2 : Int
def z62 : S62 := ⟨(⟨#[]⟩ : ByteArray), (⟨#[]⟩ : ByteArray), (0 : Int)⟩
def k62 : Kd S62 := Kd.iso (Kd.pair Kd.string (Kd.pair Kd.string (Kd.int .i64))) (fun x : S62 => (x.f0, x.f1, x.f2))
theorem k62_open {w : World} {x : S62} {cs : List Value} (h : k62.K w x cs) : cs = [.string x.f0, .string x.f1, .int .i64 x.f2] := by
  obtain ⟨_, _, rfl, rfl, ⟨_, _, rfl, rfl, rfl⟩⟩ := h
  exact rfl
theorem k62_mkM (w : World) (base : Nat) (ok : Nat → Prop) (x : S62)  : k62.M w base ok x [.string x.f0, .string x.f1, .int .i64 x.f2] := ⟨[.string x.f0], [.string x.f1, .int .i64 x.f2], rfl, rfl, ⟨[.string x.f1], [.int .i64 x.f2], rfl, rfl, rfl⟩⟩
def rd_T62 (xs : List S62) (i : Int) : S62 := xs.getD i.toNat z62
theorem at_T62 {w : World} {A : Option Addr} {n : Nat} {xs : List S62} (h : Kd.C k62 w A n xs) (i : Int) (h0 : 0 ≤ i) (h1 : i < n) : ∃ ad , A = some ad ∧ w.cell? (ad.add (i.toNat * 3)) = some (.string (rd_T62 xs i).f0) ∧ w.cell? ⟨(ad.add (i.toNat * 3)).block, (ad.add (i.toNat * 3)).off + 1, none⟩ = some (.string (rd_T62 xs i).f1) ∧ w.cell? ⟨(ad.add (i.toNat * 3)).block, (ad.add (i.toNat * 3)).off + 2, none⟩ = some (.int .i64 (rd_T62 xs i).f2) := by
  obtain ⟨ad, c, e, _, hK, hc0⟩ := Kd.C_get h z62 i h0 h1
  have hc : ∀ j u, c[j]? = some u → w.cell? (ad.add (i.toNat * 3 + j)) = some u := hc0
  obtain rfl := k62_open hK
  exact ⟨ad, e, hc 0 _ rfl, by rw [← add_field _ _ 1 (by omega)]; exact hc 1 _ rfl, by rw [← add_field _ _ 2 (by omega)]; exact hc 2 _ rfl⟩
structure S95 where
  f0 : ByteArray
  f1 : Int
  f2 : Int
def z95 : S95 := ⟨(⟨#[]⟩ : ByteArray), (0 : Int), (0 : Int)⟩
def k95 : Kd S95 := Kd.iso (Kd.pair Kd.string (Kd.pair (Kd.int .i64) (Kd.int .i64))) (fun x : S95 => (x.f0, x.f1, x.f2))
theorem k95_open {w : World} {x : S95} {cs : List Value} (h : k95.K w x cs) : cs = [.string x.f0, .int .i64 x.f1, .int .i64 x.f2] := by
  obtain ⟨_, _, rfl, rfl, ⟨_, _, rfl, rfl, rfl⟩⟩ := h
  exact rfl
theorem k95_openM {w : World} {base : Nat} {ok : Nat → Prop} {x : S95} {cs : List Value} (h : k95.M w base ok x cs) : cs = [.string x.f0, .int .i64 x.f1, .int .i64 x.f2] := by
  obtain ⟨_, _, rfl, rfl, ⟨_, _, rfl, rfl, rfl⟩⟩ := h
  exact rfl
theorem k95_mkM (w : World) (base : Nat) (ok : Nat → Prop) (x : S95)  : k95.M w base ok x [.string x.f0, .int .i64 x.f1, .int .i64 x.f2] := ⟨[.string x.f0], [.int .i64 x.f1, .int .i64 x.f2], rfl, rfl, ⟨[.int .i64 x.f1], [.int .i64 x.f2], rfl, rfl, rfl⟩⟩
def rd_T95 (xs : List S95) (i : Int) : S95 := xs.getD i.toNat z95
theorem at_T95 {w : World} {A : Option Addr} {n : Nat} {xs : List S95} (h : Kd.C k95 w A n xs) (i : Int) (h0 : 0 ≤ i) (h1 : i < n) : ∃ ad , A = some ad ∧ w.cell? (ad.add (i.toNat * 3)) = some (.string (rd_T95 xs i).f0) ∧ w.cell? ⟨(ad.add (i.toNat * 3)).block, (ad.add (i.toNat * 3)).off + 1, none⟩ = some (.int .i64 (rd_T95 xs i).f1) ∧ w.cell? ⟨(ad.add (i.toNat * 3)).block, (ad.add (i.toNat * 3)).off + 2, none⟩ = some (.int .i64 (rd_T95 xs i).f2) := by
  obtain ⟨ad, c, e, _, hK, hc0⟩ := Kd.C_get h z95 i h0 h1
  have hc : ∀ j u, c[j]? = some u → w.cell? (ad.add (i.toNat * 3 + j)) = some u := hc0
  obtain rfl := k95_open hK
  exact ⟨ad, e, hc 0 _ rfl, by rw [← add_field _ _ 1 (by omega)]; exact hc 1 _ rfl, by rw [← add_field _ _ 2 (by omega)]; exact hc 2 _ rfl⟩
structure S85 where
  f0 : S71
  f1 : (List S62)
  f2 : (List S95)
def z85 : S85 := ⟨z71, ([] : List S62), ([] : List S95)⟩
def k85 : Kd S85 := Kd.iso (Kd.pair k71 (Kd.pair (Kd.slice 62 k62) (Kd.slice 95 k95))) (fun x : S85 => (x.f0, x.f1, x.f2))
theorem k85_open {w : World} {x : S85} {cs : List Value} (h : k85.K w x cs) : ∃ A7 c7 A8 c8 A9 c9, cs = [.string x.f0.f0, .int .i64 x.f0.f1, .int .i64 x.f0.f2, .string x.f0.f3, .string x.f0.f4, .int .i64 x.f0.f5, .int .i64 x.f0.f6, .slice A7 x.f0.f7.length c7, .slice A8 x.f1.length c8, .slice A9 x.f2.length c9] ∧ x.f0.f7.length ≤ c7 ∧ k129.C w A7 x.f0.f7.length x.f0.f7 ∧ x.f1.length ≤ c8 ∧ k62.C w A8 x.f1.length x.f1 ∧ x.f2.length ≤ c9 ∧ k95.C w A9 x.f2.length x.f2 := by
  obtain ⟨_, _, rfl, s0, ⟨_, _, rfl, ⟨A8, c8, rfl, l8, g8⟩, ⟨A9, c9, rfl, l9, g9⟩⟩⟩ := h
  obtain ⟨A7, c7, rfl, l7, g7⟩ := k71_open s0
  exact ⟨A7, c7, A8, c8, A9, c9, rfl, l7, g7, l8, g8, l9, g9⟩
theorem k85_openM {w : World} {base : Nat} {ok : Nat → Prop} {x : S85} {cs : List Value} (h : k85.M w base ok x cs) : ∃ v7 v8 v9, cs = [.string x.f0.f0, .int .i64 x.f0.f1, .int .i64 x.f0.f2, .string x.f0.f3, .string x.f0.f4, .int .i64 x.f0.f5, .int .i64 x.f0.f6, v7, v8, v9] ∧ k129.R 129 w base ok v7 x.f0.f7 ∧ k62.R 62 w base ok v8 x.f1 ∧ k95.R 95 w base ok v9 x.f2 := by
  obtain ⟨_, _, rfl, s0, ⟨_, _, rfl, ⟨v8, rfl, g8⟩, ⟨v9, rfl, g9⟩⟩⟩ := h
  obtain ⟨v7, rfl, g7⟩ := k71_openM s0
  exact ⟨v7, v8, v9, rfl, g7, g8, g9⟩
theorem k85_mkM (w : World) (base : Nat) (ok : Nat → Prop) (x : S85) {v7 : Value} (g7 : k129.R 129 w base ok v7 x.f0.f7) {v8 : Value} (g8 : k62.R 62 w base ok v8 x.f1) {v9 : Value} (g9 : k95.R 95 w base ok v9 x.f2) : k85.M w base ok x [.string x.f0.f0, .int .i64 x.f0.f1, .int .i64 x.f0.f2, .string x.f0.f3, .string x.f0.f4, .int .i64 x.f0.f5, .int .i64 x.f0.f6, v7, v8, v9] := ⟨[.string x.f0.f0, .int .i64 x.f0.f1, .int .i64 x.f0.f2, .string x.f0.f3, .string x.f0.f4, .int .i64 x.f0.f5, .int .i64 x.f0.f6, v7], [v8, v9], rfl, (k71_mkM w base ok x.f0 g7), ⟨[v8], [v9], rfl, ⟨v8, rfl, g8⟩, ⟨v9, rfl, g9⟩⟩⟩
def rd_T85 (xs : List S85) (i : Int) : S85 := xs.getD i.toNat z85
theorem at_T85 {w : World} {A : Option Addr} {n : Nat} {xs : List S85} (h : Kd.C k85 w A n xs) (i : Int) (h0 : 0 ≤ i) (h1 : i < n) : ∃ ad A7 c7 A8 c8 A9 c9, A = some ad ∧ w.cell? (ad.add (i.toNat * 10)) = some (.string (rd_T85 xs i).f0.f0) ∧ w.cell? ⟨(ad.add (i.toNat * 10)).block, (ad.add (i.toNat * 10)).off + 1, none⟩ = some (.int .i64 (rd_T85 xs i).f0.f1) ∧ w.cell? ⟨(ad.add (i.toNat * 10)).block, (ad.add (i.toNat * 10)).off + 2, none⟩ = some (.int .i64 (rd_T85 xs i).f0.f2) ∧ w.cell? ⟨(ad.add (i.toNat * 10)).block, (ad.add (i.toNat * 10)).off + 3, none⟩ = some (.string (rd_T85 xs i).f0.f3) ∧ w.cell? ⟨(ad.add (i.toNat * 10)).block, (ad.add (i.toNat * 10)).off + 4, none⟩ = some (.string (rd_T85 xs i).f0.f4) ∧ w.cell? ⟨(ad.add (i.toNat * 10)).block, (ad.add (i.toNat * 10)).off + 5, none⟩ = some (.int .i64 (rd_T85 xs i).f0.f5) ∧ w.cell? ⟨(ad.add (i.toNat * 10)).block, (ad.add (i.toNat * 10)).off + 6, none⟩ = some (.int .i64 (rd_T85 xs i).f0.f6) ∧ w.cell? ⟨(ad.add (i.toNat * 10)).block, (ad.add (i.toNat * 10)).off + 7, none⟩ = some (.slice A7 (rd_T85 xs i).f0.f7.length c7) ∧ w.cell? ⟨(ad.add (i.toNat * 10)).block, (ad.add (i.toNat * 10)).off + 8, none⟩ = some (.slice A8 (rd_T85 xs i).f1.length c8) ∧ w.cell? ⟨(ad.add (i.toNat * 10)).block, (ad.add (i.toNat * 10)).off + 9, none⟩ = some (.slice A9 (rd_T85 xs i).f2.length c9) ∧ (rd_T85 xs i).f0.f7.length ≤ c7 ∧ k129.C w A7 (rd_T85 xs i).f0.f7.length (rd_T85 xs i).f0.f7 ∧ (rd_T85 xs i).f1.length ≤ c8 ∧ k62.C w A8 (rd_T85 xs i).f1.length (rd_T85 xs i).f1 ∧ (rd_T85 xs i).f2.length ≤ c9 ∧ k95.C w A9 (rd_T85 xs i).f2.length (rd_T85 xs i).f2 := by
  obtain ⟨ad, c, e, _, hK, hc0⟩ := Kd.C_get h z85 i h0 h1
  have hc : ∀ j u, c[j]? = some u → w.cell? (ad.add (i.toNat * 10 + j)) = some u := hc0
  obtain ⟨A7, c7, A8, c8, A9, c9, rfl, l7, g7, l8, g8, l9, g9⟩ := k85_open hK
  exact ⟨ad, A7, c7, A8, c8, A9, c9, e, hc 0 _ rfl, by rw [← add_field _ _ 1 (by omega)]; exact hc 1 _ rfl, by rw [← add_field _ _ 2 (by omega)]; exact hc 2 _ rfl, by rw [← add_field _ _ 3 (by omega)]; exact hc 3 _ rfl, by rw [← add_field _ _ 4 (by omega)]; exact hc 4 _ rfl, by rw [← add_field _ _ 5 (by omega)]; exact hc 5 _ rfl, by rw [← add_field _ _ 6 (by omega)]; exact hc 6 _ rfl, by rw [← add_field _ _ 7 (by omega)]; exact hc 7 _ rfl, by rw [← add_field _ _ 8 (by omega)]; exact hc 8 _ rfl, by rw [← add_field _ _ 9 (by omega)]; exact hc 9 _ rfl, l7, g7, l8, g8, l9, g9⟩
structure S100 where
  f0 : ByteArray
  f1 : Int
def z100 : S100 := ⟨(⟨#[]⟩ : ByteArray), (0 : Int)⟩
def k100 : Kd S100 := Kd.iso (Kd.pair Kd.string (Kd.int .i64)) (fun x : S100 => (x.f0, x.f1))
theorem k100_open {w : World} {x : S100} {cs : List Value} (h : k100.K w x cs) : cs = [.string x.f0, .int .i64 x.f1] := by
  obtain ⟨_, _, rfl, rfl, rfl⟩ := h
  exact rfl
theorem k100_mk (w : World) (x : S100)  : k100.K w x [.string x.f0, .int .i64 x.f1] := ⟨[.string x.f0], [.int .i64 x.f1], rfl, rfl, rfl⟩
theorem k100_mkM (w : World) (base : Nat) (ok : Nat → Prop) (x : S100)  : k100.M w base ok x [.string x.f0, .int .i64 x.f1] := ⟨[.string x.f0], [.int .i64 x.f1], rfl, rfl, rfl⟩
def rd_T100 (xs : List S100) (i : Int) : S100 := xs.getD i.toNat z100
theorem at_T100 {w : World} {A : Option Addr} {n : Nat} {xs : List S100} (h : Kd.C k100 w A n xs) (i : Int) (h0 : 0 ≤ i) (h1 : i < n) : ∃ ad , A = some ad ∧ w.cell? (ad.add (i.toNat * 2)) = some (.string (rd_T100 xs i).f0) ∧ w.cell? ⟨(ad.add (i.toNat * 2)).block, (ad.add (i.toNat * 2)).off + 1, none⟩ = some (.int .i64 (rd_T100 xs i).f1) := by
  obtain ⟨ad, c, e, _, hK, hc0⟩ := Kd.C_get h z100 i h0 h1
  have hc : ∀ j u, c[j]? = some u → w.cell? (ad.add (i.toNat * 2 + j)) = some u := hc0
  obtain rfl := k100_open hK
  exact ⟨ad, e, hc 0 _ rfl, by rw [← add_field _ _ 1 (by omega)]; exact hc 1 _ rfl⟩
structure S29 where
  f0 : ByteArray
  f1 : ByteArray
  f2 : Int
def z29 : S29 := ⟨(⟨#[]⟩ : ByteArray), (⟨#[]⟩ : ByteArray), (0 : Int)⟩
def k29 : Kd S29 := Kd.iso (Kd.pair Kd.string (Kd.pair Kd.string (Kd.int .i64))) (fun x : S29 => (x.f0, x.f1, x.f2))
theorem k29_open {w : World} {x : S29} {cs : List Value} (h : k29.K w x cs) : cs = [.string x.f0, .string x.f1, .int .i64 x.f2] := by
  obtain ⟨_, _, rfl, rfl, ⟨_, _, rfl, rfl, rfl⟩⟩ := h
  exact rfl
theorem k29_openM {w : World} {base : Nat} {ok : Nat → Prop} {x : S29} {cs : List Value} (h : k29.M w base ok x cs) : cs = [.string x.f0, .string x.f1, .int .i64 x.f2] := by
  obtain ⟨_, _, rfl, rfl, ⟨_, _, rfl, rfl, rfl⟩⟩ := h
  exact rfl
theorem k29_mk (w : World) (x : S29)  : k29.K w x [.string x.f0, .string x.f1, .int .i64 x.f2] := ⟨[.string x.f0], [.string x.f1, .int .i64 x.f2], rfl, rfl, ⟨[.string x.f1], [.int .i64 x.f2], rfl, rfl, rfl⟩⟩
theorem k29_mkM (w : World) (base : Nat) (ok : Nat → Prop) (x : S29)  : k29.M w base ok x [.string x.f0, .string x.f1, .int .i64 x.f2] := ⟨[.string x.f0], [.string x.f1, .int .i64 x.f2], rfl, rfl, ⟨[.string x.f1], [.int .i64 x.f2], rfl, rfl, rfl⟩⟩
def rd_T29 (xs : List S29) (i : Int) : S29 := xs.getD i.toNat z29
theorem at_T29 {w : World} {A : Option Addr} {n : Nat} {xs : List S29} (h : Kd.C k29 w A n xs) (i : Int) (h0 : 0 ≤ i) (h1 : i < n) : ∃ ad , A = some ad ∧ w.cell? (ad.add (i.toNat * 3)) = some (.string (rd_T29 xs i).f0) ∧ w.cell? ⟨(ad.add (i.toNat * 3)).block, (ad.add (i.toNat * 3)).off + 1, none⟩ = some (.string (rd_T29 xs i).f1) ∧ w.cell? ⟨(ad.add (i.toNat * 3)).block, (ad.add (i.toNat * 3)).off + 2, none⟩ = some (.int .i64 (rd_T29 xs i).f2) := by
  obtain ⟨ad, c, e, _, hK, hc0⟩ := Kd.C_get h z29 i h0 h1
  have hc : ∀ j u, c[j]? = some u → w.cell? (ad.add (i.toNat * 3 + j)) = some u := hc0
  obtain rfl := k29_open hK
  exact ⟨ad, e, hc 0 _ rfl, by rw [← add_field _ _ 1 (by omega)]; exact hc 1 _ rfl, by rw [← add_field _ _ 2 (by omega)]; exact hc 2 _ rfl⟩
end Go.Proofs.YtehlmkgldcfciaaGreat.F
-- Written by this repo's wip/tools/myprint.py (the kit's print program, with contracts of our own beside). Lean checks it.
namespace Go.Proofs.YtehlmkgldcfciaaGreat.F
open Go.Proofs.YtehlmkgldcfciaaGreat.Common
open Go.RowKit Go.Proofs.YtehlmkgldcfciaaGreatW.PrintWords Go.Proofs.YtehlmkgldcfciaaGreatW.PrintLast Go.Proofs.YtehlmkgldcfciaaGreatW.PrintMore
set_option linter.unusedVariables false
set_option linter.unusedSimpArgs false
set_option maxHeartbeats 1000000 in
set_option maxRecDepth 100000 in
theorem files_Rule_87.calls (g : Nat) (lb : Array Value) (eg : ∀ args w, (callFunc g args).run Tryz.prog w = .ok (.enter g args) w) (p : S100 → Option Bool)
    (A0 : Option Addr) (c0 : Nat) (l0 : List S100) (r : Int) (w : World) (hr0 : Kd.C k100 w A0 l0.length l0) (hc0 : l0.length ≤ c0) (h : idxM p l0 = some r)
    (hp : ∀ W (x : S100) (cs : List Value) (b : Bool), Below w.heap.size w W → k100.K W x cs → p x = some b → Calls Tryz.prog g (#[.agg cs.toArray] ++ lb) W fun e w' => e = .returned (.bool b) ∧ Below W.heap.size W w') :
    Calls Tryz.prog 87 #[.slice A0 l0.length c0, .func (.func g) #[] lb] w fun e w' => e = .returned (.int .i64 r) ∧ Below w.heap.size w w' := by
  have HR0 := Aside0.mk hr0
  have HC0 := Aside0.mk hc0
  have HP := Aside0.mk hp
  have HI := Aside0.mk (idxAt_start h)
  have hbig : l0.length ≤ 9223372036854775807 := hr0.2.1
  clear hr0 hc0 hp h
  go_enter Tryz.func87, Tryz.ntmps87
  go_wp2
  go_loopg [5, 8] l0.length (fun gg _ s8 wr => ∃ kk : Nat, Aside0 (kk + gg = l0.length) ∧ s8 = .int .i64 kk ∧ Aside0 (Below w.heap.size w wr) ∧ Aside0 (idxAt p l0 kk r))
  case atStart => exact ⟨0, ⟨by omega⟩, rfl, ⟨Below.refl _ _⟩, HI⟩
  case round =>
    clear HI
    obtain ⟨kk, HG, rfl, HD, HI⟩ := hrel
    by_cases hlt : kk < l0.length
    · have hltz : (kk : Int) < (l0.length : Int) := by omega
      obtain ⟨b, hb, hyes, hno⟩ := idxAt_step (d := z100) HI.out hlt
      have hrd : rd_T100 l0 (kk : Int) = l0.getD kk z100 := by simp [rd_T100]
      obtain ⟨ad, e1, hx_0, hx_1⟩ := at_T100 (Kd.C_below HR0.out HD.out) (kk : Int) (by omega) (by omega)
      cases e1
      rw [hrd] at hx_0 hx_1
      rw [Int.toNat_natCast] at hx_0 hx_1
      generalize l0.getD kk z100 = x at hb hx_0 hx_1
      have hcall := HP.out wr x [.string x.f0, .int .i64 x.f1] b HD.out (k100_mk wr x ) hb
      have HCL := Aside0.mk (show Calls Tryz.prog g (#[.agg #[.string x.f0, .int .i64 x.f1]] ++ lb) wr (fun e w' => e = .returned (.bool b) ∧ Below wr.heap.size wr w') from hcall)
      have HY := Aside0.mk hyes
      have HN := Aside0.mk hno
      have HDS := Aside0.mk HD.out.size
      clear hcall hb hyes hno hrd 
      cases b with
      | true =>
        have HE : Aside0 (r = (kk : Int)) := ⟨HY.out rfl⟩
        clear hlt HY HN HI
        go_wp2_with fail
        refine HCL.out.mono ?_
        rintro e w' ⟨rfl, hb2⟩
        have HB2 := Aside0.mk hb2
        clear hb2 hx_0 hx_1
        go_wp2
        go_ret
        exact ⟨by rw [HE.out]; rfl, HD.out.trans (HB2.out.mono HD.out.size)⟩
      | false =>
        have HI2 := Aside0.mk (HN.out rfl)
        clear HY HN HI
        go_wp2_with fail
        refine HCL.out.mono ?_
        rintro e w' ⟨rfl, hb2⟩
        have HB2 := Aside0.mk hb2
        clear hb2 hx_0 hx_1
        go_wp2
        go_roundg (l0.length - (kk + 1))
        case measure => have := HG.out; omega
        case rel => exact ⟨kk + 1, ⟨by omega⟩, by go_num, ⟨HD.out.trans (HB2.out.mono HD.out.size)⟩, HI2⟩
    · have hltz : ¬ (kk : Int) < (l0.length : Int) := by omega
      have HE : Aside0 (r = -1) := ⟨idxAt_end HI.out (by omega)⟩
      clear hlt
      go_wp2
      go_ret
      exact ⟨by rw [HE.out]; rfl, HD.out⟩
end Go.Proofs.YtehlmkgldcfciaaGreat.F
/- The file store: who may do what; Open. -/
set_option linter.unusedVariables false
set_option linter.unusedSimpArgs false
namespace Go.Proofs.YtehlmkgldcfciaaGreat.Files
open Go.Proofs.YtehlmkgldcfciaaGreat.Common Go.Maps Go.ChangeMaps Go.WideMaps Go.Proofs.YtehlmkgldcfciaaGreat.F
open Go.RowKit Go.Proofs.YtehlmkgldcfciaaGreatW.PrintWords Go.Proofs.YtehlmkgldcfciaaGreatW.PrintLast Go.Proofs.YtehlmkgldcfciaaGreatW.PrintMore
def ruleOf (u : ByteArray) (x : S100) : Bool := decide (x.f0 = u) || decide (x.f0 = ⟨#[42]⟩)
theorem beq_yes (a : ByteArray) : (a.toList == a.toList) = true := by simp
theorem beq_no {a b : ByteArray} (h : a ≠ b) : (a.toList == b.toList) = false := by
  rw [beq_eq_false_iff_ne, ByteArray.toList_eq, ByteArray.toList_eq]
  intro e
  apply h
  cases a; cases b
  simpa using e
set_option maxRecDepth 100000 in
theorem may1_c (B : Nat) (u : ByteArray) (x : S100) (W : World) (cu : W.cell? ⟨B, 0, none⟩ = some (.string u)) :
    Calls Tryz.prog 88 #[.agg #[.string x.f0, .int .i64 x.f1], .pointer (some ⟨B, 0, none⟩)] W fun e w' => e = .returned (.bool (ruleOf u x)) ∧ Below W.heap.size W w' := by
  have hB : (W.alloc (.cells #[.string x.f0, .int .i64 x.f1] 100)).cell? ⟨B, 0, none⟩ = some (.string u) := Lib.cell?_alloc_some _ cu
  by_cases h1 : x.f0 = u
  · have hr : ruleOf u x = true := by simp [ruleOf, h1]
    have h1' : (x.f0.toList == u.toList) = true := by rw [h1]; exact beq_yes u
    rw [hr]
    clear cu hr h1
    go_enter Tryz.func88, Tryz.ntmps88
    go_wp2
    go_ret
    exact ⟨rfl, (Below.refl _ _).alloc (Nat.le_refl _) _⟩
  · have h1' := beq_no h1
    by_cases h2 : x.f0 = ⟨#[42]⟩
    · have hr : ruleOf u x = true := by simp [ruleOf, h2]
      have h2' : (x.f0.toList == [42]) = true := by rw [h2, ByteArray.toList_eq]; rfl
      rw [hr]
      clear cu hr h1 h2
      go_enter Tryz.func88, Tryz.ntmps88
      go_wp2
      go_ret
      exact ⟨by first | rfl | simp [*], (Below.refl _ _).alloc (Nat.le_refl _) _⟩
    · have hr : ruleOf u x = false := by simp [ruleOf, h1, h2]
      have h2' : (x.f0.toList == [42]) = false := by
        have := beq_no h2
        rw [ByteArray.toList_eq (⟨#[42]⟩ : ByteArray)] at this
        exact this
      rw [hr]
      clear cu hr h1
      go_enter Tryz.func88, Tryz.ntmps88
      go_wp2
      go_ret
      exact ⟨by first | rfl | simp [*], (Below.refl _ _).alloc (Nat.le_refl _) _⟩
def mayB (F : FS) (rules : List S100) (u : ByteArray) (actions : Int) : Bool :=
  if bits .and .i64 F.perm actions = actions then
    (match rules.find? (ruleOf u) with
    | none => decide (u = F.owner)
    | some x => decide (bits .and .i64 x.f1 actions = actions))
  else false
theorem idx_find {α : Type} (p : α → Bool) : ∀ l : List α, ∃ r, idxM (fun x => some (p x)) l = some r ∧ ((r = -1 ∧ l.find? p = none) ∨ (∃ i : Nat, r = i ∧ i < l.length ∧ ∃ x, l[i]? = some x ∧ l.find? p = some x))
  | [] => ⟨-1, rfl, .inl ⟨rfl, rfl⟩⟩
  | x :: l => by
    obtain ⟨r, h1, h2⟩ := idx_find p l
    cases hp : p x with
    | true => exact ⟨0, by simp [idxM, hp], .inr ⟨0, rfl, by simp, x, rfl, by simp [List.find?, hp]⟩⟩
    | false =>
      refine ⟨if r < 0 then -1 else r + 1, by simp [idxM, hp, h1], ?_⟩
      rcases h2 with ⟨rfl, hn⟩ | ⟨i, rfl, hi, y, hy, hf⟩
      · exact .inl ⟨by simp, by simp [List.find?, hp, hn]⟩
      · exact .inr ⟨i + 1, by rw [if_neg (by omega)]; omega, by simp; omega, y, by simpa using hy, by simp [List.find?, hp, hf]⟩
set_option maxRecDepth 100000 in
set_option maxHeartbeats 2000000 in
theorem may_c (fb ub c : Nat) (F : FS) (A : Option Addr) (rules : List S100) (uv : Value) (u : ByteArray) (actions : Int) (W : World) (hF : FileAt W fb F (.slice A rules.length c) uv ub) (hr : Kd.C k100 W A rules.length rules) (hc : rules.length ≤ c) :
    Calls Tryz.prog 59 #[.pointer (some ⟨fb, 0, none⟩), .string u, .int .i64 actions] W fun e w' => e = .returned (.bool (mayB F rules u actions)) ∧ Below W.heap.size W w' := by
  have hlt : fb < W.heap.size := (Array.getElem?_eq_some_iff.1 hF).1
  have hcell : ∀ j v, (F.cells (.slice A rules.length c) uv ub)[j]? = some v → (W.alloc (.cells #[.string u] 9)).cell? ⟨fb, j, none⟩ = some v := fun j v h => Lib.cell?_alloc_some _ ((blk_cell hF j).trans h)
  have c2 : (W.alloc (.cells #[.string u] 9)).cell? ⟨fb, 2, none⟩ = some (.int .i64 F.perm) := hcell 2 _ rfl
  have c3 : (W.alloc (.cells #[.string u] 9)).cell? ⟨fb, 3, none⟩ = some (.string F.owner) := hcell 3 _ rfl
  have c7 : (W.alloc (.cells #[.string u] 9)).cell? ⟨fb, 7, none⟩ = some (.slice A rules.length c) := hcell 7 _ rfl
  clear hcell
  have hb0 : Below W.heap.size W (W.alloc (.cells #[.string u] 9)) := (Below.refl _ _).alloc (Nat.le_refl _) _
  have hcu : (W.alloc (.cells #[.string u] 9)).cell? ⟨W.heap.size, 0, none⟩ = some (.string u) := (Boxed.new W 9 (.string u)).cell
  have hsz : (W.alloc (.cells #[.string u] 9)).heap.size = W.heap.size + 1 := by simp
  by_cases hp : bits .and .i64 F.perm actions = actions
  · have hm : mayB F rules u actions = (match rules.find? (ruleOf u) with
      | none => decide (u = F.owner)
      | some x => decide (bits .and .i64 x.f1 actions = actions)) := if_pos hp
    obtain ⟨r, hi, hfind⟩ := idx_find (ruleOf u) rules
    have HI := Aside0.mk (files_Rule_87.calls 88 #[.pointer (some ⟨W.heap.size, 0, none⟩)] (enters_of Tryz.func88 (by kernel_rfl) rfl) (fun x => some (ruleOf u x)) A c rules r (W.alloc (.cells #[.string u] 9)) (Kd.C_below hr hb0) hc hi
      (fun W2 x cs b hb2 hk hx => by
        obtain rfl := Option.some.inj hx
        rw [k100_open hk]
        exact may1_c W.heap.size u x W2 ((hb2.cell (p := ⟨W.heap.size, 0, none⟩) (by rw [hsz]; exact Nat.lt_succ_self _)).trans hcu)))
    have hp' : (bits .and .i64 F.perm actions == actions) = true := by simpa using hp
    have HR := Aside0.mk (fun (w2 : World) (hb2 : Below (W.alloc (.cells #[.string u] 9)).heap.size (W.alloc (.cells #[.string u] 9)) w2) => Kd.C_below (Kd.C_below hr hb0) hb2)
    rw [hm]
    clear hm hr hF
    rcases hfind with ⟨rfl, hf⟩ | ⟨i, rfl, hil, x, hx, hf⟩
    · rw [hf]
      dsimp only
      have HX : Aside0 (∀ w2 : World, Below (W.alloc (.cells #[.string u] 9)).heap.size (W.alloc (.cells #[.string u] 9)) w2 → True) := ⟨fun _ _ => trivial⟩
      have hend : ∀ w2 : World, Below (W.alloc (.cells #[.string u] 9)).heap.size (W.alloc (.cells #[.string u] 9)) w2 → Below W.heap.size W w2.drew := fun w2 hb2 => (hb0.trans (hb2.mono (by rw [hsz]; exact Nat.le_succ _))).trans ⟨rfl, rfl, rfl, Nat.le_refl _, fun _ _ => rfl⟩
      by_cases ho : u = F.owner
      · have ho' : (u.toList == F.owner.toList) = true := by rw [ho]; exact beq_yes _
        rw [show (decide (u = F.owner)) = true from decide_eq_true ho]
        clear ho hp
        go_enter Tryz.func59, Tryz.ntmps59
        go_wp2_with (go_at_call 87; refine HI.out.mono ?_; rintro e w2 ⟨rfl, hb2⟩; have d3 := (hb2.cell (p := ⟨fb, 3, none⟩) (by rw [hsz]; exact Nat.lt_succ_of_lt hlt)).trans c3; have d7 := (hb2.cell (p := ⟨fb, 7, none⟩) (by rw [hsz]; exact Nat.lt_succ_of_lt hlt)).trans c7; have du := (hb2.cell (p := ⟨W.heap.size, 0, none⟩) (by rw [hsz]; exact Nat.lt_succ_self _)).trans hcu; have hx2 := HX.out w2 hb2)
        go_region
        go_wp2
        go_ret
        exact ⟨rfl, hend _ hb2⟩
      · have ho' := beq_no ho
        rw [show (decide (u = F.owner)) = false from decide_eq_false ho]
        clear ho hp
        go_enter Tryz.func59, Tryz.ntmps59
        go_wp2_with (go_at_call 87; refine HI.out.mono ?_; rintro e w2 ⟨rfl, hb2⟩; have d3 := (hb2.cell (p := ⟨fb, 3, none⟩) (by rw [hsz]; exact Nat.lt_succ_of_lt hlt)).trans c3; have d7 := (hb2.cell (p := ⟨fb, 7, none⟩) (by rw [hsz]; exact Nat.lt_succ_of_lt hlt)).trans c7; have du := (hb2.cell (p := ⟨W.heap.size, 0, none⟩) (by rw [hsz]; exact Nat.lt_succ_self _)).trans hcu; have hx2 := HX.out w2 hb2)
        go_region
        go_wp2
        go_ret
        exact ⟨rfl, hend _ hb2⟩
    · rw [hf]
      dsimp only
      have hilz : (i : Int) < (rules.length : Int) := by omega
      have HX : Aside0 (∀ w2 : World, Below (W.alloc (.cells #[.string u] 9)).heap.size (W.alloc (.cells #[.string u] 9)) w2 → ∃ ad, A = some ad ∧ w2.cell? ⟨(ad.add (i * 2)).block, (ad.add (i * 2)).off + 1, none⟩ = some (.int .i64 x.f1)) := ⟨fun w2 hb2 => by
        obtain ⟨ad, e1, _, h2⟩ := at_T100 (HR.out w2 hb2) (i : Int) (by omega) (by omega)
        rw [Int.toNat_natCast] at h2
        have e2 : rd_T100 rules (i : Int) = x := by simp [rd_T100, hx]
        rw [e2] at h2
        exact ⟨ad, e1, h2⟩⟩
      have hend : ∀ w2 : World, Below (W.alloc (.cells #[.string u] 9)).heap.size (W.alloc (.cells #[.string u] 9)) w2 → Below W.heap.size W w2 := fun w2 hb2 => hb0.trans (hb2.mono (by rw [hsz]; exact Nat.le_succ _))
      have hi0 : decide ((i : Int) < 0) = false := decide_eq_false (by omega)
      by_cases ho : bits .and .i64 x.f1 actions = actions
      · have ho' : (bits .and .i64 x.f1 actions == actions) = true := by simpa using ho
        rw [show decide (bits .and .i64 x.f1 actions = actions) = true from decide_eq_true ho]
        clear ho hp
        go_enter Tryz.func59, Tryz.ntmps59
        go_wp2_with (go_at_call 87; refine HI.out.mono ?_; rintro e w2 ⟨rfl, hb2⟩; have d3 := (hb2.cell (p := ⟨fb, 3, none⟩) (by rw [hsz]; exact Nat.lt_succ_of_lt hlt)).trans c3; have d7 := (hb2.cell (p := ⟨fb, 7, none⟩) (by rw [hsz]; exact Nat.lt_succ_of_lt hlt)).trans c7; have du := (hb2.cell (p := ⟨W.heap.size, 0, none⟩) (by rw [hsz]; exact Nat.lt_succ_self _)).trans hcu; obtain ⟨ad, rfl, hx2⟩ := HX.out w2 hb2)
        go_ret
        exact ⟨by first | rfl | simp [*], hend _ hb2⟩
      · have ho' : (bits .and .i64 x.f1 actions == actions) = false := by simpa using ho
        rw [show decide (bits .and .i64 x.f1 actions = actions) = false from decide_eq_false ho]
        clear ho hp
        go_enter Tryz.func59, Tryz.ntmps59
        go_wp2_with (go_at_call 87; refine HI.out.mono ?_; rintro e w2 ⟨rfl, hb2⟩; have d3 := (hb2.cell (p := ⟨fb, 3, none⟩) (by rw [hsz]; exact Nat.lt_succ_of_lt hlt)).trans c3; have d7 := (hb2.cell (p := ⟨fb, 7, none⟩) (by rw [hsz]; exact Nat.lt_succ_of_lt hlt)).trans c7; have du := (hb2.cell (p := ⟨W.heap.size, 0, none⟩) (by rw [hsz]; exact Nat.lt_succ_self _)).trans hcu; obtain ⟨ad, rfl, hx2⟩ := HX.out w2 hb2)
        go_ret
        exact ⟨by first | rfl | simp [*], hend _ hb2⟩
  · have hp' : (bits .and .i64 F.perm actions == actions) = false := by simpa using hp
    rw [show mayB F rules u actions = false from if_neg hp]
    clear hp hF hr
    go_enter Tryz.func59, Tryz.ntmps59
    go_wp2
    go_ret
    exact ⟨rfl, hb0⟩
theorem key_str {x : ByteArray} {kl : Lit} (h : keyOf Tryz.prog 9 (.string x) = some kl) : kl = .string x.data.toList ∧ x.size ≤ maxLen := by
  have h' := h
  simp only [keyOf, Tryz.underlying9, mapKey] at h'
  split at h'
  · rename_i hs
    injection h' with h'
    exact ⟨h'.symm, hs⟩
  · cases h'
theorem Ro_shape {v : Value} {y : DataW Unit × List MemPlace} (h : Ro v = some y) : ∃ p : Int × Int, v = .agg #[.int .i64 p.1, .int .i64 p.2] := by
  unfold Ro at h
  split at h
  · exact ⟨(_, _), rfl⟩
  · cases h
theorem key_shape {key : Value} {kl : Lit} (h : keyOf Tryz.prog 9 key = some kl) : ∃ x : ByteArray, key = .string x := by
  cases key <;> simp [keyOf, Tryz.underlying9, mapKey] at h
  exact ⟨_, rfl⟩
def Free (DU : DataW Unit) (actions exclusive : Int) : Prop := ∀ (l : List UInt8) (a b : Int), (∀ zd, DU.atKey (.string l) zd = .agg [.lit (.int .i64 a), .lit (.int .i64 b)]) → bits .and .i64 b actions = 0 ∧ bits .and .i64 exclusive a = 0
def OpenEnd (W : World) (ub k2 : Nat) (DU : DataW Unit) (u : ByteArray) (actions exclusive : Int) (e : Ending) (w' : World) : Prop :=
  (e = .returned (.int .i64 0) ∧ Free DU actions exclusive ∧ w'.ownsMap Tryz.prog 9 Ro ub (k2 + 1) (DU.put (.string u.data.toList) (.agg [.lit (.int .i64 actions), .lit (.int .i64 exclusive)])) ∧ ∃ w3, Below W.heap.size W w3 ∧ w3.mapTurned w' ub) ∨
      (e = .returned (.int .i64 12) ∧ ¬ Free DU actions exclusive ∧ Below W.heap.size W w')
set_option maxRecDepth 100000 in
set_option maxHeartbeats 4000000 in
theorem Open_c (sb mb k fb ub k2 c : Nat) (D DU : DataW Unit) (F : FS) (A : Option Addr) (rules : List S100) (uv : Value) (u n : ByteArray) (actions exclusive : Int) (W : World) (c0 : W.cell? ⟨sb, 0, none⟩ = some (.map (some mb))) (hown : W.ownsMap Tryz.prog 9 Rp mb k D)
    (hu : 1 ≤ u.size ∧ u.size ≤ 20) (hn : 1 ≤ n.size ∧ n.size ≤ 30) (hD : D.atKey (.string n.data.toList) .nil = .lit (.int .i64 (fb : Nat))) (hF : FileAt W fb F (.slice A rules.length c) uv ub) (hU : W.ownsMap Tryz.prog 9 Ro ub k2 DU) (hk2 : k2 < 1000)
    (hr : Kd.C k100 W A rules.length rules) (hc : rules.length ≤ c) (hact : 0 ≤ actions ∧ actions ≤ 255) (hexc : 0 ≤ exclusive ∧ exclusive ≤ 255) (hsub : bits .andNot .i64 exclusive actions = 0)
    (hhas : Maps.has DU (.string u.data.toList) = false) (hmay : mayB F rules u actions = true) :
    Calls Tryz.prog 20 #[.pointer (some ⟨sb, 0, none⟩), .string u, .string n, .int .i64 actions, .int .i64 exclusive] W (OpenEnd W ub k2 DU u actions exclusive) := by
  have hkey := key_of (s := u) (by omega)
  obtain ⟨v, ps, hrun, hv⟩ := hU.look_ok law9 Tryz.underlying88 (zeroO _) (zd := .agg [.lit (.int .i64 0), .lit (.int .i64 0)]) (zp := []) rfl hkey
  rw [atKey_of_not_has hhas] at hv
  obtain rfl := Ro_at hv
  rw [hhas] at hrun
  have hlt : fb < W.heap.size := (Array.getElem?_eq_some_iff.1 hF).1
  have c9 : W.cell? ⟨fb, 9, none⟩ = some (.map (some ub)) := (blk_cell hF 9).trans rfl
  have CF := Aside0.mk (found_c sb mb k fb D u n W c0 hown hu hn hD)
  have CA := Aside0.mk (set_c actions W)
  have CE := Aside0.mk (set_c exclusive W)
  rw [show (decide (0 ≤ actions) && decide (actions ≤ 255)) = true by simp [hact.1, hact.2]] at CA
  rw [show (decide (0 ≤ exclusive) && decide (exclusive ≤ 255)) = true by simp [hexc.1, hexc.2]] at CE
  have hb1 : Below W.heap.size W (W.alloc (.cells #[.int .i64 0, .int .i64 0] 90)) := (Below.refl _ _).alloc (Nat.le_refl _) _
  have CM := Aside0.mk (may_c fb ub c F A rules uv u actions (W.alloc (.cells #[.int .i64 0, .int .i64 0] 90)) ((hb1.block fb hlt).trans hF) (Kd.C_below hr hb1) hc)
  rw [hmay] at CM
  have hsz : (W.alloc (.cells #[.int .i64 0, .int .i64 0] 90)).heap.size = W.heap.size + 1 := by simp
  have HU := Aside0.mk hU
  have hul : ub < W.heap.size := hU.lt
  clear hF hr hU hown
  go_enter Tryz.func20, Tryz.ntmps20
  go_wp2_with first | (go_at_call 58; refine CF.out.mono ?_; rintro e w' ⟨rfl, rfl⟩) | (go_at_call 55; first | (refine CA.out.mono ?_; rintro e w' ⟨rfl, rfl⟩) | (refine CE.out.mono ?_; rintro e w' ⟨rfl, rfl⟩)) | (go_at_call 59; refine CM.out.mono ?_; rintro e w2 ⟨rfl, hb2⟩; have d9 := (hb2.cell (p := ⟨fb, 9, none⟩) (by rw [hsz]; exact Nat.lt_succ_of_lt hlt)).trans ((hb1.cell (p := ⟨fb, 9, none⟩) hlt).trans c9)) | (at_range; refine wpList_range_own _ rfl _ 88 rfl 9 90 law9 Tryz.underlying88 _ ub k2 DU rfl ((HU.out.alloc _).kept (row := none) ⟨hb2.os, hb2.tape, hb2.output, hb2.size, fun i hi _ => hb2.block i hi⟩ (by simp)) ?_; intro w3 hrg3 hg3 hs3)
  have hb3 : Below W.heap.size W w3 := (hb1.trans (hb2.mono (by rw [hsz]; exact Nat.le_succ _))).grown hg3 (by have := hb2.size; rw [hsz] at this; omega) (fun k e => by cases e)
  have hszw : W.heap.size ≤ w2.heap.size := by have := hb2.size; rw [hsz] at this; omega
  clear hrun hmay hhas CF CA CE CM hb2 hg3
  go_frame
  go_loopw [61] (fun _ wr => ∃ (left : Lit → Bool) (cnt : Nat), wr.ranges Tryz.prog 9 Ro ub w2.heap.size k2 DU left cnt ∧ Below W.heap.size W wr ∧
      ∀ (l : List UInt8) (a b : Int), left (.string l) = false → (∀ zd, DU.atKey (.string l) zd = .agg [.lit (.int .i64 a), .lit (.int .i64 b)]) → bits .and .i64 b actions = 0 ∧ bits .and .i64 exclusive a = 0)
    (fun _ wr => wr.rangeLeft ub w2.heap.size)
  case atStart => exact ⟨_, _, hrg3, hb3, fun l a b hl hz => absurd (has_true_of_atKey hz) (by rw [hl]; simp)⟩
  case round =>
    clear hrg3 hb3 hs3
    obtain ⟨left, cnt, hrg, hbw, hfree⟩ := hrel
    have HF := Aside0.mk hfree
    clear hfree
    go_wp2_with first | (at_next; refine wpList_next_ranges _ rfl _ rfl 9 law9 Ro Value.string (fun p : Int × Int => .agg #[.int .i64 p.1, .int .i64 p.2]) (fun key kl h => key_shape h) (fun v y h => Ro_shape h) ub w2.heap.size k2 DU left cnt rfl hrg ?_ ?_)
    · intro _ hl0
      have hfr : Free DU actions exclusive := fun l a b hz => HF.out l a b (hl0 _) hz
      have d9 : wr.cell? ⟨fb, 9, none⟩ = some (.map (some ub)) := (hbw.cell (p := ⟨fb, 9, none⟩) hlt).trans c9
      have hownr := hrg.owns
      go_wp2_with first | (at_mapUpdate; refine wpList_mapUpdate_in _ rfl _ _ _ 88 rfl 9 90 law9 Tryz.underlying88 _ ub k2 DU rfl hownr (by unfold maxLen; omega) _ _ _ rfl rfl hkey (.agg [.lit (.int .i64 actions), .lit (.int .i64 exclusive)]) [] rfl ?_; intro w4 hown4 hturn4)
      go_ret
      exact .inl ⟨rfl, hfr, hown4, wr, hbw, hturn4⟩
    · intro x ca cb kl y1 y2 w4 cnt4 hkx hlk hvy hat hrg4 hlt4 hgr4 hsz4 hen
      obtain ⟨rfl, hxs⟩ := key_str hkx
      have hy : (y1, y2) = (.agg [.lit (.int .i64 ca), .lit (.int .i64 cb)], []) := (Option.some.inj hvy).symm
      obtain ⟨rfl, rfl⟩ := Prod.mk.inj hy
      have hb4 : Below W.heap.size W w4 := hbw.grown hgr4 hbw.size (fun k e => by cases e; exact hszw)
      by_cases h1 : bits .and .i64 cb actions = 0
      · have h1' : (bits .and .i64 cb actions == 0) = true := by simpa using h1
        by_cases h2 : bits .and .i64 exclusive ca = 0
        · have h2' : (bits .and .i64 exclusive ca == 0) = true := by simpa using h2
          have HN := Aside0.mk (show ∀ (l : List UInt8) (a b : Int), (left (.string l) && !(Lit.string l).sameKey (.string x.data.toList)) = false → (∀ zd, DU.atKey (.string l) zd = .agg [.lit (.int .i64 a), .lit (.int .i64 b)]) → bits .and .i64 b actions = 0 ∧ bits .and .i64 exclusive a = 0 from fun l a b hl hz => by
            rcases Bool.and_eq_false_iff.1 hl with hl | hl
            · exact HF.out l a b hl hz
            · have hs : (Lit.string l).sameKey (.string x.data.toList) = true := by simpa using hl
              have := WideAt.sameKey_eq hs
              injection this with this
              subst this
              have e := (hz .nil).symm.trans (hat .nil)
              simp only [DataW.agg.injEq, List.cons.injEq, DataW.lit.injEq, Lit.int.injEq, true_and, and_true] at e
              rw [e.1, e.2]
              exact ⟨h1, h2⟩)
          clear HF hat hvy hkx
          go_wp2
          go_roundw
          case rel => exact ⟨_, cnt4, hrg4.alloc _, hb4.alloc hb4.size _, HN.out⟩
          case measure => rw [(hrg4.alloc _).left_eq, hrg.left_eq]; exact hlt4
        · have h2' : (bits .and .i64 exclusive ca == 0) = false := by simpa using h2
          have hnf : ¬ Free DU actions exclusive := fun hf => h2 (hf x.data.toList ca cb hat).2
          clear HF hat hvy hkx
          go_wp2
          go_ret
          exact .inr ⟨rfl, hnf, hb4.alloc hb4.size _⟩
      · have h1' : (bits .and .i64 cb actions == 0) = false := by simpa using h1
        have hnf : ¬ Free DU actions exclusive := fun hf => h1 (hf x.data.toList ca cb hat).1
        clear HF hat hvy hkx
        go_wp2
        go_ret
        exact .inr ⟨rfl, hnf, hb4.alloc hb4.size _⟩
end Go.Proofs.YtehlmkgldcfciaaGreat.Files
-- Written by this repo's wip/tools/myprint.py (the kit's print program, with contracts of our own beside). Lean checks it.
namespace Go.Proofs.YtehlmkgldcfciaaGreat.F
open Go.Proofs.YtehlmkgldcfciaaGreat.Common
open Go.RowKit Go.Proofs.YtehlmkgldcfciaaGreatW.PrintWords Go.Proofs.YtehlmkgldcfciaaGreatW.PrintLast Go.Proofs.YtehlmkgldcfciaaGreatW.PrintMore
set_option linter.unusedVariables false
set_option linter.unusedSimpArgs false
set_option maxHeartbeats 1000000 in
theorem slices_IndexFunc_int_int.calls (g : Nat) (lb : Array Value) (eg : ∀ args w, (callFunc g args).run Tryz.prog w = .ok (.enter g args) w) (p : Int → Bool)
    (A0 : Option Addr) (c0 : Nat) (l0 : List Int) (w : World) (hr0 : Kd.C (Kd.int .i64) w A0 l0.length l0) (hc0 : l0.length ≤ c0)
    (hp : ∀ W x, x ∈ l0 → Drawn0 w W → Calls Tryz.prog g (#[.int .i64 x] ++ lb) W fun e w' => e = .returned (.bool (p x)) ∧ Drawn0 W w') :
    Calls Tryz.prog 65 #[.slice A0 l0.length c0, .func (.func g) #[] lb] w fun e w' => e = .returned (.int .i64 (idxP p l0)) ∧ Drawn0 w w' := by
  have HR0 := Aside0.mk hr0
  have HC0 := Aside0.mk hc0
  have HP := Aside0.mk hp
  have hbig : l0.length ≤ 9223372036854775807 := hr0.2.1
  clear hr0 hc0 hp
  go_enter Tryz.func65, Tryz.ntmps65
  go_wp2
  go_loopg [5, 8] l0.length (fun gg _ s8 wr => ∃ kk : Nat, Aside0 (kk + gg = l0.length) ∧ s8 = .int .i64 kk ∧ Aside0 (Drawn0 w wr) ∧ Aside0 (∀ j, j < kk → p (l0.getD j 0) = false))
  case atStart => exact ⟨0, ⟨by omega⟩, rfl, ⟨Drawn0.refl _⟩, ⟨fun j hj => absurd hj (Nat.not_lt_zero _)⟩⟩
  case round =>
    obtain ⟨kk, HG, rfl, HD, HA⟩ := hrel
    by_cases hlt : kk < l0.length
    · have hltz : (kk : Int) < (l0.length : Int) := by omega
      obtain ⟨ad, e1, hx⟩ := at_int_nat (Kd.C_below HR0.out HD.out.below) kk hlt
      cases e1
      have HQ : Aside0 (l0.getD kk 0 = l0.getD kk 0) := ⟨rfl⟩
      revert HQ hx
      generalize he : l0.getD kk 0 = y
      intro hx HQ
      have HE := Aside0.mk he
      have HMEM : Aside0 (y ∈ l0) := ⟨by rw [← he, List.getD_eq_getElem?_getD, List.getElem?_eq_getElem hlt]; exact List.getElem_mem hlt⟩
      clear he HQ
      cases hq : p y with
      | true =>
        have HQ2 := Aside0.mk hq
        clear hq
        have HI : Aside0 (idxP p l0 = (kk : Int)) := ⟨idxP_hit p 0 l0 kk hlt (by rw [HE.out]; exact HQ2.out) HA.out⟩
        clear hlt
        have hcall := HP.out _ y HMEM.out HD.out
        rw [HQ2.out] at hcall
        have HCL := Aside0.mk hcall
        clear hcall
        go_wp2_with fail
        refine HCL.out.mono ?_
        rintro e w' ⟨rfl, ⟨q, rfl⟩⟩
        go_wp2
        go_ret
        exact ⟨by rw [HI.out]; rfl, HD.out.step _⟩
      | false =>
        have HQ2 := Aside0.mk hq
        clear hq
        have hcall := HP.out _ y HMEM.out HD.out
        rw [HQ2.out] at hcall
        have HCL := Aside0.mk hcall
        clear hcall
        go_wp2_with fail
        refine HCL.out.mono ?_
        rintro e w' ⟨rfl, ⟨q, rfl⟩⟩
        go_wp2
        go_roundg (l0.length - (kk + 1))
        case measure => have := HG.out; omega
        case rel =>
          refine ⟨kk + 1, ⟨by omega⟩, by go_num, ⟨HD.out.step _⟩, ⟨fun j hj => ?_⟩⟩
          by_cases e : j = kk
          · subst e
            rw [HE.out]; exact HQ2.out
          · exact HA.out j (by omega)
    · have hltz : ¬ (kk : Int) < (l0.length : Int) := by omega
      have HI : Aside0 (idxP p l0 = -1) := ⟨idxP_all p 0 l0 kk (by omega) HA.out⟩
      clear hlt
      go_wp2
      go_ret
      exact ⟨by rw [HI.out]; rfl, HD.out⟩
end Go.Proofs.YtehlmkgldcfciaaGreat.F
-- Written by this repo's wip/tools/myprint.py (the kit's print program, with contracts of our own beside). Lean checks it.
namespace Go.Proofs.YtehlmkgldcfciaaGreat.F
open Go.Proofs.YtehlmkgldcfciaaGreat.Common
open Go.RowKit Go.Proofs.YtehlmkgldcfciaaGreatW.PrintWords Go.Proofs.YtehlmkgldcfciaaGreatW.PrintLast Go.Proofs.YtehlmkgldcfciaaGreatW.PrintMore
set_option linter.unusedVariables false
set_option linter.unusedSimpArgs false
set_option maxHeartbeats 1000000 in
theorem slices_ContainsFunc_int_int.calls (g : Nat) (lb : Array Value) (eg : ∀ args w, (callFunc g args).run Tryz.prog w = .ok (.enter g args) w) (p : Int → Bool)
    (A0 : Option Addr) (c0 : Nat) (l0 : List Int) (w : World) (hr0 : Kd.C (Kd.int .i64) w A0 l0.length l0) (hc0 : l0.length ≤ c0)
    (hp : ∀ W x, x ∈ l0 → Drawn0 w W → Calls Tryz.prog g (#[.int .i64 x] ++ lb) W fun e w' => e = .returned (.bool (p x)) ∧ Drawn0 W w') :
    Calls Tryz.prog 89 #[.slice A0 l0.length c0, .func (.func g) #[] lb] w fun e w' => e = .returned (.bool (l0.any p)) ∧ Drawn0 w w' := by
  have HC := Aside0.mk (slices_IndexFunc_int_int.calls g lb eg p A0 c0 l0 w hr0 hc0 hp)
  have HA := Aside0.mk (idxP_any p l0)
  clear hr0 hc0 hp
  go_enter Tryz.func89, Tryz.ntmps89
  go_wp2_with fail
  refine HC.out.mono ?_
  rintro e w' ⟨rfl, ⟨q, rfl⟩⟩
  go_wp2
  go_ret
  exact ⟨by rw [← HA.out]; rfl, (Drawn0.refl _).step _⟩
end Go.Proofs.YtehlmkgldcfciaaGreat.F
/- The file store: units; a change noted; names that clash. -/
set_option linter.unusedVariables false
set_option linter.unusedSimpArgs false
namespace Go.Proofs.YtehlmkgldcfciaaGreat.Files
open Go.Proofs.YtehlmkgldcfciaaGreat.Common Go.Maps Go.ChangeMaps Go.WideMaps Go.Proofs.YtehlmkgldcfciaaGreat.F
open Go.RowKit Go.Proofs.YtehlmkgldcfciaaGreatW.PrintWords Go.Proofs.YtehlmkgldcfciaaGreatW.PrintLast Go.Proofs.YtehlmkgldcfciaaGreatW.PrintMore
set_option maxRecDepth 100000 in
theorem changed_c (fb ub : Nat) (F : FS) (rv uv : Value) (u : ByteArray) (W : World) (hF : FileAt W fb F rv uv ub) :
    Calls Tryz.prog 73 #[.pointer (some ⟨fb, 0, none⟩), .string u] W fun e w' => e = .returned (.int .i64 0) ∧ w' = (W.setCell ⟨fb, 5, none⟩ (.int .i64 (wrap64 (F.ch + 1)))).setCell ⟨fb, 4, none⟩ (.string u) := by
  have c5 : W.cell? ⟨fb, 5, none⟩ = some (.int .i64 F.ch) := (blk_cell hF 5).trans rfl
  have c4 : W.cell? ⟨fb, 4, none⟩ = some (.string F.last) := (blk_cell hF 4).trans rfl
  have f5 := blk_frozen hF 5
  have f4 := blk_frozen hF 4
  clear hF
  go_enter Tryz.func73, Tryz.ntmps73
  go_wp2
  go_ret
  exact ⟨rfl, rfl⟩
theorem file_set {W : World} {fb ub : Nat} {F : FS} {rv uv : Value} (hF : FileAt W fb F rv uv ub) (i : Nat) (v : Value) {F' : FS} {rv' uv' : Value} (h : (F.cells rv uv ub).setIfInBounds i v = F'.cells rv' uv' ub) : FileAt (W.setCell ⟨fb, i, none⟩ v) fb F' rv' uv' ub := by
  unfold FileAt
  rw [← h]
  exact blk_set hF i v
set_option maxRecDepth 100000 in
set_option maxHeartbeats 2000000 in
theorem clash1_c (B1 B2 cu : Nat) (Au : Option Addr) (units : List S29) (nm : ByteArray) (i : Int) (W : World) (c1 : W.cell? ⟨B1, 0, none⟩ = some (.slice Au units.length cu)) (c2 : W.cell? ⟨B2, 0, none⟩ = some (.string nm))
    (hr : Kd.C k29 W Au units.length units) (h0 : 0 ≤ i) (h1 : i < (units.length : Int)) :
    Calls Tryz.prog 90 #[.int .i64 i, .pointer (some ⟨B1, 0, none⟩), .pointer (some ⟨B2, 0, none⟩)] W fun e w' => e = .returned (.bool (decide ((rd_T29 units i).f0 = nm))) ∧ Drawn0 W w' := by
  obtain ⟨ad, rfl, hx0, _, _⟩ := at_T29 hr i h0 h1
  have hbig : units.length ≤ 9223372036854775807 := hr.2.1
  clear hr
  generalize rd_T29 units i = x at hx0
  by_cases he : x.f0 = nm
  · have he' : (x.f0.toList == nm.toList) = true := by rw [he]; exact beq_yes _
    rw [show decide (x.f0 = nm) = true from decide_eq_true he]
    clear he
    go_enter Tryz.func90, Tryz.ntmps90
    go_wp2
    go_region
    go_wp2
    go_ret
    exact ⟨rfl, ⟨1, rfl⟩⟩
  · have he' := beq_no he
    rw [show decide (x.f0 = nm) = false from decide_eq_false he]
    clear he
    go_enter Tryz.func90, Tryz.ntmps90
    go_wp2
    go_region
    go_wp2
    go_ret
    exact ⟨rfl, ⟨1, rfl⟩⟩
def clashB (units : List S29) (at_ : List Int) (nm : ByteArray) : Bool := !decide (nm = ⟨#[]⟩) && at_.any fun i => decide ((rd_T29 units i).f0 = nm)
set_option maxRecDepth 100000 in
set_option maxHeartbeats 2000000 in
theorem clash_c (cu ca : Nat) (Au Aa : Option Addr) (units : List S29) (at_ : List Int) (nm : ByteArray) (W : World) (hr : Kd.C k29 W Au units.length units) (hc : units.length ≤ cu) (ha : (Kd.int .i64).C W Aa at_.length at_) (hca : at_.length ≤ ca)
    (hin : ∀ i ∈ at_, 0 ≤ i ∧ i < (units.length : Int)) :
    Calls Tryz.prog 71 #[.slice Au units.length cu, .slice Aa at_.length ca, .string nm] W fun e w' => e = .returned (.bool (clashB units at_ nm)) ∧ Below W.heap.size W w' := by
  have hb : Below W.heap.size W ((W.alloc (.cells #[.slice Au units.length cu] 52)).alloc (.cells #[.string nm] 9)) := ((Below.refl _ W).alloc (Nat.le_refl _) _).alloc (by simp) _
  have b1 := ((Boxed.new W 52 (.slice Au units.length cu)).alloc (.cells #[.string nm] 9)).cell
  have b2 := (Boxed.new (W.alloc (.cells #[.slice Au units.length cu] 52)) 9 (.string nm)).cell
  rw [World.size_alloc] at b2
  have HC := Aside0.mk (slices_ContainsFunc_int_int.calls 90 #[.pointer (some ⟨W.heap.size, 0, none⟩), .pointer (some ⟨W.heap.size + 1, 0, none⟩)] (enters_of Tryz.func90 (by kernel_rfl) rfl) (fun i => decide ((rd_T29 units i).f0 = nm)) Aa ca at_ _ (Kd.C_below ha hb) hca
    (fun W2 x hx hd => clash1_c W.heap.size (W.heap.size + 1) cu Au units nm x W2 ((hd.below.cell (p := ⟨W.heap.size, 0, none⟩) (by simp <;> omega)).trans b1) ((hd.below.cell (p := ⟨W.heap.size + 1, 0, none⟩) (by simp <;> omega)).trans b2) (Kd.C_below (Kd.C_below hr hb) hd.below) (hin x hx).1 (hin x hx).2))
  have HB := Aside0.mk hb
  clear hr ha
  by_cases he : nm = ⟨#[]⟩
  · have he' : (nm.toList == []) = true := by rw [he, ByteArray.toList_eq]; rfl
    rw [show clashB units at_ nm = false by simp [clashB, he]]
    clear hb he
    go_enter Tryz.func71, Tryz.ntmps71
    go_wp2
    go_ret
    exact ⟨by first | rfl | simp [*], HB.out⟩
  · have he' : (nm.toList == []) = false := by
      have := beq_no he
      rw [ByteArray.toList_eq (⟨#[]⟩ : ByteArray)] at this
      exact this
    rw [show clashB units at_ nm = at_.any (fun i => decide ((rd_T29 units i).f0 = nm)) by simp [clashB, he]]
    clear hb he
    go_enter Tryz.func71, Tryz.ntmps71
    go_wp2_with (go_at_call 89; refine HC.out.mono ?_; rintro e w2 ⟨rfl, hd2⟩)
    go_ret
    exact ⟨by first | rfl | simp [*], HB.out.trans (hd2.below.mono HB.out.size)⟩
def uCells (x : S29) : List Value := [.string x.f0, .string x.f1, .int .i64 x.f2]
def uRow (l : List S29) : List Value := (l.map uCells).flatten
theorem uRow_snoc (l : List S29) (x : S29) : uRow (l ++ [x]) = uRow l ++ uCells x := by simp [uRow]
theorem R_of_uRow {W : World} {base : Nat} {v : Value} {l : List S29} (h : W.ownsRow base 29 3 v l.length (uRow l)) : Kd.R k29 29 W base (fun _ => True) v l := by
  refine ⟨fun _ _ => trivial, uRow l, h, h.1, fun j x hj => ?_⟩
  have e : ((uRow l).drop (j * 3)).take 3 = uCells x := flat_at (css := l.map uCells) (fun c hc => by obtain ⟨y, _, rfl⟩ := List.mem_map.1 hc; rfl) (by rw [List.getElem?_map, hj]; rfl)
  show k29.M W base _ x (((uRow l).drop (j * 3)).take 3)
  rw [e]
  exact k29_mkM _ _ _ x
theorem uRow_of_R {W : World} {base : Nat} {ok : Nat → Prop} {v : Value} {l : List S29} (h : Kd.R k29 29 W base ok v l) : W.ownsRow base 29 3 v l.length (uRow l) := by
  obtain ⟨_, inner, ho, hl, hr⟩ := h
  have e : inner = uRow l := by
    clear ho
    have hr' : ∀ (j : Nat) (x : S29), l[j]? = some x → (inner.drop (j * 3)).take 3 = uCells x := fun j x hj => k29_openM (hr j x hj)
    have hl' : inner.length = l.length * 3 := hl
    clear hl hr
    induction l generalizing inner with
    | nil => simp at hl'; rw [hl']; rfl
    | cons x r ih =>
      have h1 := hr' 0 x rfl
      rw [Nat.zero_mul, List.drop_zero] at h1
      have h2 := ih (inner := inner.drop 3) (fun j y hj => by
        have := hr' (j + 1) y (by simpa using hj)
        rw [List.drop_drop]
        rw [Nat.add_mul, Nat.one_mul, Nat.add_comm] at this
        exact this) (by rw [List.length_drop, hl', List.length_cons]; omega)
      rw [show uRow (x :: r) = uCells x ++ uRow r from rfl, ← h1, ← h2]
      exact (List.take_append_drop 3 inner).symm
  rw [← e]
  exact ho
def InsEnd (w : World) (base g len : Nat) (xs news : List Value) (e : Ending) (w' : World) : Prop :=
  ∃ g' cap', e = .returned (.slice (some ⟨g', 0, none⟩) (len + 1) cap') ∧ w'.ownsRow base 29 3 (.slice (some ⟨g', 0, none⟩) (len + 1) cap') (len + 1) (xs ++ news) ∧ w.grownBy w' (some g) ∧ (g' = g ∨ g' = w.heap.size) ∧ g' < w'.heap.size
set_option maxRecDepth 100000 in
set_option maxHeartbeats 2000000 in
theorem Ins_c (base g len cap vb : Nat) (xs : List Value) (a b c : Value) (w : World) (hown : w.ownsRow base 29 3 (.slice (some ⟨g, 0, none⟩) len cap) len xs) (hv : w.heap[vb]? = some (.cells #[a, b, c] 29 (0, 0)))
    (h1 : a.oneCell' = true ∧ b.oneCell' = true ∧ c.oneCell' = true) (hlen : len < 100000) (hcap : len ≤ cap ∧ cap ≤ 9223372036854775807) (hb : base ≤ w.heap.size) :
    Calls Tryz.prog 72 #[.slice (some ⟨g, 0, none⟩) len cap, .int .i64 len, .slice (some ⟨vb, 0, none⟩) 1 1] w (InsEnd w base g len xs [a, b, c]) := by
  obtain ⟨i0, hi, hz0, hz1, hz2⟩ := info_parts (P := Tryz.prog) (e := 29) (show (Tryz.prog.info? 29).map (fun i => (i.zero, i.size, i.bytes)) = some (some (.agg #[.string ⟨#[]⟩, .string ⟨#[]⟩, .int .i64 0]), 3, 40) by kernel_rfl)
  have hl0 : (0 : Int) ≤ (len : Int) := by omega
  have hlc : (len : Int) ≤ (cap : Int) := by omega
  have hcb : (cap : Int) ≤ 9223372036854775807 := by omega
  have HV := Aside0.mk (World.news_of_block hv)
  have H1 := Aside0.mk (show ∀ u ∈ [a, b, c], u.oneCell' = true from fun u hu => by
    rcases List.mem_cons.1 hu with rfl | hu
    · exact h1.1
    · rcases List.mem_cons.1 hu with rfl | hu
      · exact h1.2.1
      · rw [List.mem_singleton.1 hu]; exact h1.2.2)
  clear hv h1
  go_enter Tryz.func72, Tryz.ntmps72
  go_wp2_with first | (at_builtin; refine wpList_append_lies _ rfl _ _ 52 rfl base 29 i0 _ 3 40 Tryz.underlying52 hi hz0 hz1 hz2 rfl (by decide) (.slice (some ⟨g, 0, none⟩) len cap) len xs rfl hown ⟨vb, 0, none⟩ 1 1 [a, b, c] rfl rfl HV.out H1.out (by decide) (by unfold maxLen; omega) (by omega) hb _ rfl ?_; intro g' cap' w' hown' hgrow' hat' hlt'; have HAT := Aside0.mk hat'; clear hat')
  all_goals
    go_ret
    have hat2 : g' = g ∨ g' = w.heap.size := by
      rcases HAT.out with h | h
      · have h2 : some g = some g' := h
        injection h2 with h2
        exact .inl h2.symm
      · exact .inr h
    exact ⟨g', cap', rfl, hown', hgrow', hat2, hlt'⟩
end Go.Proofs.YtehlmkgldcfciaaGreat.Files
/- The file store as data: maps as lists, what a step may turn, a file and the store in memory. -/
set_option linter.unusedVariables false
set_option linter.unusedSimpArgs false
namespace Go.Proofs.YtehlmkgldcfciaaGreat.Files
open Go.Proofs.YtehlmkgldcfciaaGreat.Common Go.Maps Go.ChangeMaps Go.WideMaps Go.Proofs.YtehlmkgldcfciaaGreat.F
open Go.RowKit Go.Proofs.YtehlmkgldcfciaaGreatW.PrintWords Go.Proofs.YtehlmkgldcfciaaGreatW.PrintLast Go.Proofs.YtehlmkgldcfciaaGreatW.PrintMore
abbrev Key := List UInt8
def look {α : Type} (l : List (Key × α)) (k : Key) : Option α := (l.find? fun p => decide (p.1 = k)).map (·.2)
theorem look_nil {α : Type} (k : Key) : look ([] : List (Key × α)) k = none := rfl
theorem look_cons {α : Type} (p : Key × α) (l : List (Key × α)) (k : Key) : look (p :: l) k = if p.1 = k then some p.2 else look l k := by
  unfold look
  by_cases h : p.1 = k
  · rw [List.find?_cons_of_pos (by simp [h]), if_pos h]; rfl
  · rw [List.find?_cons_of_neg (by simp [h]), if_neg h]
theorem look_snoc {α : Type} (l : List (Key × α)) (p : Key × α) (k : Key) : look (l ++ [p]) k = match look l k with | some x => some x | none => if p.1 = k then some p.2 else none := by
  induction l with
  | nil => rw [List.nil_append, look_cons]; rfl
  | cons q l ih =>
    rw [List.cons_append, look_cons, look_cons]
    by_cases h : q.1 = k
    · rw [if_pos h, if_pos h]
    · rw [if_neg h, if_neg h, ih]
theorem look_none {α : Type} {l : List (Key × α)} {k : Key} : look l k = none ↔ ∀ p ∈ l, p.1 ≠ k := by
  induction l with
  | nil => simp [look_nil]
  | cons q l ih =>
    rw [look_cons]
    by_cases h : q.1 = k
    · rw [if_pos h]; simp [h]
    · rw [if_neg h, ih]; simp [h]
theorem look_mem {α : Type} {l : List (Key × α)} {k : Key} {x : α} (h : look l k = some x) : (k, x) ∈ l := by
  unfold look at h
  obtain ⟨p, hp, rfl⟩ := Option.map_eq_some_iff.1 h
  have h1 := List.find?_some hp
  have h2 := List.mem_of_find?_eq_some hp
  have h3 : p.1 = k := by simpa using h1
  rw [← h3]
  exact h2
theorem look_of_mem {α : Type} {l : List (Key × α)} (hn : (l.map (·.1)).Nodup) {p : Key × α} (hp : p ∈ l) : look l p.1 = some p.2 := by
  induction l with
  | nil => cases hp
  | cons q l ih =>
    rw [look_cons]
    simp only [List.map_cons, List.nodup_cons] at hn
    rcases List.mem_cons.1 hp with rfl | hp
    · rw [if_pos rfl]
    · rw [if_neg (fun e => hn.1 (by rw [e]; exact List.mem_map.2 ⟨p, hp, rfl⟩)), ih hn.2 hp]
def drop_ {α : Type} (l : List (Key × α)) (k : Key) : List (Key × α) := l.filter fun p => !decide (p.1 = k)
theorem look_drop {α : Type} (l : List (Key × α)) (k k' : Key) : look (drop_ l k) k' = if k' = k then none else look l k' := by
  induction l with
  | nil => simp [drop_, look_nil]
  | cons q l ih =>
    have e : drop_ (q :: l) k = if q.1 = k then drop_ l k else q :: drop_ l k := by
      unfold drop_
      rw [List.filter_cons]
      by_cases h : q.1 = k <;> simp [h]
    rw [e, look_cons]
    by_cases h : q.1 = k
    · rw [if_pos h, ih]
      by_cases h2 : k' = k
      · rw [if_pos h2, if_pos h2]
      · rw [if_neg h2, if_neg h2, if_neg (fun e => h2 (e.symm.trans h))]
    · rw [if_neg h, look_cons, ih]
      by_cases h3 : q.1 = k'
      · rw [if_pos h3, if_pos h3, if_neg (fun e => h (h3.trans e))]
      · rw [if_neg h3, if_neg h3]
theorem drop_length {α : Type} {l : List (Key × α)} (hn : (l.map (·.1)).Nodup) (k : Key) : (drop_ l k).length + (if (look l k).isSome = true then 1 else 0) = l.length := by
  induction l with
  | nil => simp [drop_, look_nil]
  | cons q l ih =>
    simp only [List.map_cons, List.nodup_cons] at hn
    have e : drop_ (q :: l) k = if q.1 = k then drop_ l k else q :: drop_ l k := by
      unfold drop_
      rw [List.filter_cons]
      by_cases h : q.1 = k <;> simp [h]
    have := ih hn.2
    rw [e, look_cons]
    by_cases h : q.1 = k
    · have h0 : look l k = none := look_none.2 fun p hp e2 => hn.1 (by rw [h, ← e2]; exact List.mem_map.2 ⟨p, hp, rfl⟩)
      rw [if_pos h, if_pos h]
      rw [h0] at this
      simp at this ⊢
      omega
    · rw [if_neg h, if_neg h, List.length_cons, List.length_cons]
      omega
structure MapIs (D : DataW Unit) (l : List (Key × DataW Unit)) : Prop where
  at_ : ∀ k z, D.atKey (.string k) z = (look l k).getD z
  has : ∀ k, Maps.has D (.string k) = (look l k).isSome
  size : Maps.size D = l.length
  tidy : Maps.Tidy D
theorem MapIs.nil : MapIs (.map []) [] := ⟨fun k z => rfl, fun k => rfl, rfl, tidy_empty⟩
theorem key_ne {k k' : Key} (h : k' ≠ k) : (Lit.string k') ≠ (Lit.string k) := fun e => h (by injection e)
theorem MapIs.put {D : DataW Unit} {l : List (Key × DataW Unit)} (h : MapIs D l) (k : Key) (d : DataW Unit) (hn : look l k = none) : MapIs (D.put (.string k) d) (l ++ [(k, d)]) := by
  have hk : WideAt.IsKeyLit (.string k) := trivial
  refine ⟨fun k' z => ?_, fun k' => ?_, ?_, h.tidy.put hk d⟩
  · rw [look_snoc]
    by_cases e : k' = k
    · subst e
      rw [atKey_put_same h.tidy.isMap hk, hn]
      simp
    · rw [atKey_put_other (key_ne e), h.at_]
      cases look l k' with
      | some x => rfl
      | none => show z = (if k = k' then some d else none).getD z; rw [if_neg (fun e2 => e (Eq.symm e2))]; rfl
  · rw [look_snoc]
    by_cases e : k' = k
    · subst e
      rw [has_put_same h.tidy.isMap hk, hn]
      simp
    · rw [has_put_other (key_ne e), h.has]
      cases look l k' with
      | some x => rfl
      | none => show false = (if k = k' then some d else none).isSome; rw [if_neg (fun e2 => e (Eq.symm e2))]; rfl
  · rw [size_put h.tidy, h.has, hn, h.size]
    simp
theorem MapIs.del {D : DataW Unit} {l : List (Key × DataW Unit)} (h : MapIs D l) (hn : (l.map (·.1)).Nodup) (k : Key) : MapIs (D.del (.string k)) (drop_ l k) := by
  refine ⟨fun k' z => ?_, fun k' => ?_, ?_, h.tidy.del _⟩
  · rw [look_drop]
    by_cases e : k' = k
    · subst e
      rw [atKey_del_same, if_pos rfl]; rfl
    · rw [atKey_del_other (key_ne e), h.at_, if_neg e]
  · rw [look_drop]
    by_cases e : k' = k
    · subst e
      rw [has_del_same, if_pos rfl]; rfl
    · rw [has_del_other (key_ne e), h.has, if_neg e]
  · have h1 := size_del (k := .string k) h.tidy
    have h2 := drop_length hn k
    rw [h.has, h.size] at h1
    omega
theorem ownsMap_tight {w : World} {k b n : Nat} {R : Value → Option (DataW Unit × List MemPlace)} {D : DataW Unit} (h : w.ownsMap Tryz.prog k R b n D) : w.ownsMap Tryz.prog k R b (Maps.size D) D := by
  obtain ⟨es, clock, hb, F, hs, rfl⟩ := h
  exact ⟨es, clock, hb, F, by simp [Maps.size, length_sorted], rfl⟩
structure Chg (W W' : World) (S : Nat → Prop) : Prop where
  os : W'.os = W.os
  tape : W'.tape = W.tape
  output : W'.output = W.output
  size : W.heap.size ≤ W'.heap.size
  block : ∀ k, k < W.heap.size → ¬ S k → W'.heap[k]? = W.heap[k]?
theorem Chg.of_below {W W' : World} (h : Below W.heap.size W W') (S : Nat → Prop) : Chg W W' S := ⟨h.os, h.tape, h.output, h.size, fun k hk _ => h.block k hk⟩
theorem Chg.below0 {W W' : World} {S : Nat → Prop} (h : Chg W W' S) (hS : ∀ k, ¬ S k) : Below W.heap.size W W' := ⟨h.os, h.tape, h.output, h.size, fun k hk => h.block k hk (hS k)⟩
theorem Chg.below {B : Nat} {W W' : World} {S : Nat → Prop} (h : Chg W W' S) (hB : B ≤ W.heap.size) (hS : ∀ k, S k → B ≤ k) : Below B W W' := ⟨h.os, h.tape, h.output, h.size, fun k hk => h.block k (by omega) (fun hs => by have := hS k hs; omega)⟩
theorem Chg.of_grown {W W' : World} {row : Option Nat} (h : W.grownBy W' row) {S : Nat → Prop} (hS : ∀ k, some k = row → S k) : Chg W W' S := ⟨h.os, h.tape, h.output, h.size, fun k hk hs => h.block k hk (fun e => hs (hS k e))⟩
theorem Chg.of_set (W : World) (p : Addr) (u : Value) {S : Nat → Prop} (hS : S p.block) : Chg W (W.setCell p u) S := ⟨rfl, rfl, rfl, by simp [World.setCell], fun k _ hs => Below.heap_setCell _ _ _ _ (fun e => hs (by rw [e]; exact hS))⟩
theorem Chg.of_turned {W W' : World} {b : Nat} (h : W.mapTurned W' b) {S : Nat → Prop} (hS : S b) : Chg W W' S := Chg.of_grown h.grown (fun k e => by injection e with e; rw [e]; exact hS)
theorem Chg.mono {W W' : World} {S T : Nat → Prop} (h : Chg W W' S) (hST : ∀ k, S k → T k) : Chg W W' T := ⟨h.os, h.tape, h.output, h.size, fun k hk ht => h.block k hk (fun hs => ht (hST k hs))⟩
theorem Chg.trans {W W1 W2 : World} {S T : Nat → Prop} (h : Chg W W1 S) (k : Chg W1 W2 T) (hT : ∀ i, T i → S i ∨ W.heap.size ≤ i) : Chg W W2 S :=
  ⟨k.os.trans h.os, k.tape.trans h.tape, k.output.trans h.output, Nat.le_trans h.size k.size, fun i hi hs =>
    (k.block i (Nat.lt_of_lt_of_le hi h.size) (fun ht => (hT i ht).elim hs (fun hle => absurd hi (Nat.not_lt.2 hle)))).trans (h.block i hi hs)⟩
theorem Chg.map {W W' : World} {S : Nat → Prop} (h : Chg W W' S) {k : Nat} {R : Value → Option (DataW Unit × List MemPlace)} {b n : Nat} {D : DataW Unit} (ho : W.ownsMap Tryz.prog k R b n D) (hs : ¬ S b) : W'.ownsMap Tryz.prog k R b n D := by
  have hlt := ho.lt
  obtain ⟨es, clock, hb, F, hs', hD⟩ := ho
  exact ⟨es, clock, (h.block b hlt hs).trans hb, F, hs', hD⟩
theorem Chg.row {α : Type} {d : Kd α} {e base : Nat} {ok : Nat → Prop} {v : Value} {xs : List α} {W W' : World} {S : Nat → Prop} (h : Chg W W' S) (hr : d.R e W base ok v xs) (hs : ∀ k, ok k → ¬ S k) : d.R e W' base ok v xs :=
  Kd.R_step hr (fun k hk hlt => h.block k hlt (hs k hk))
structure AF where
  F : FS
  rules : List S100
  units : List S29
  users : List (ByteArray × (Int × Int))
def AF.key (f : AF) : Key := f.F.name.data.toList
def openD (p : Int × Int) : DataW Unit := .agg [.lit (.int .i64 p.1), .lit (.int .i64 p.2)]
def usersL (l : List (ByteArray × (Int × Int))) : List (Key × DataW Unit) := l.map fun p => (p.1.data.toList, openD p.2)
def lookU (l : List (ByteArray × (Int × Int))) (u : ByteArray) : Option (Int × Int) := (l.find? fun p => decide (p.1 = u)).map (·.2)
theorem data_inj {a b : ByteArray} (h : a.data.toList = b.data.toList) : a = b := by
  cases a; cases b
  simpa using h
theorem look_users (l : List (ByteArray × (Int × Int))) (u : ByteArray) : look (usersL l) u.data.toList = (lookU l u).map openD := by
  induction l with
  | nil => rfl
  | cons p l ih =>
    show look ((p.1.data.toList, openD p.2) :: usersL l) _ = _
    rw [look_cons]
    unfold lookU at ih ⊢
    by_cases h : p.1 = u
    · rw [if_pos (by rw [h]), List.find?_cons_of_pos (by simp [h])]; rfl
    · rw [if_neg (fun e => h (data_inj e)), List.find?_cons_of_neg (by simp [h]), ih]
structure FileParts (W : World) (ok : Nat → Prop) (fb : Nat) (f : AF) (A : Option Addr) (rc : Nat) (uv : Value) (ub : Nat) (DU : DataW Unit) : Prop where
  okb : ok fb
  F : FileAt W fb f.F (.slice A f.rules.length rc) uv ub
  rules : Kd.R k100 100 W 0 ok (.slice A f.rules.length rc) f.rules
  units : Kd.R k29 29 W 0 ok uv f.units
  oku : ok ub
  U : W.ownsMap Tryz.prog 9 Ro ub (Maps.size DU) DU
  mU : MapIs DU (usersL f.users)
def FileRep (W : World) (ok : Nat → Prop) (fb : Nat) (f : AF) : Prop := ∃ A rc uv ub DU, FileParts W ok fb f A rc uv ub DU
theorem FileParts.step {W W' : World} {S ok : Nat → Prop} {fb rc ub : Nat} {f : AF} {A : Option Addr} {uv : Value} {DU : DataW Unit} (h : FileParts W ok fb f A rc uv ub DU) (hc : Chg W W' S) (hs : ∀ k, ok k → ¬ S k) : FileParts W' ok fb f A rc uv ub DU :=
  ⟨h.okb, (hc.block fb (blk_lt h.F) (hs fb h.okb)).trans h.F, hc.row h.rules hs, hc.row h.units hs, h.oku, hc.map h.U (hs ub h.oku), h.mU⟩
theorem FileParts.mono {W : World} {ok ok' : Nat → Prop} {fb rc ub : Nat} {f : AF} {A : Option Addr} {uv : Value} {DU : DataW Unit} (h : FileParts W ok fb f A rc uv ub DU) (hs : ∀ k, ok k → ok' k) : FileParts W ok' fb f A rc uv ub DU :=
  ⟨hs _ h.okb, h.F, Kd.R_mono h.rules hs, Kd.R_mono h.units hs, hs _ h.oku, h.U, h.mU⟩
theorem FileParts.below {W W' : World} {ok : Nat → Prop} {fb rc ub : Nat} {f : AF} {A : Option Addr} {uv : Value} {DU : DataW Unit} (h : FileParts W ok fb f A rc uv ub DU) (hb : Below W.heap.size W W') : FileParts W' ok fb f A rc uv ub DU :=
  h.step (Chg.of_below hb (fun _ => False)) (fun _ _ h => h)
theorem FileRep.step {W W' : World} {S ok : Nat → Prop} {fb : Nat} {f : AF} (h : FileRep W ok fb f) (hc : Chg W W' S) (hs : ∀ k, ok k → ¬ S k) : FileRep W' ok fb f := by
  obtain ⟨A, rc, uv, ub, DU, h⟩ := h
  exact ⟨A, rc, uv, ub, DU, h.step hc hs⟩
theorem FileRep.mono {W : World} {ok ok' : Nat → Prop} {fb : Nat} {f : AF} (h : FileRep W ok fb f) (hs : ∀ k, ok k → ok' k) : FileRep W ok' fb f := by
  obtain ⟨A, rc, uv, ub, DU, h⟩ := h
  exact ⟨A, rc, uv, ub, DU, h.mono hs⟩
structure View (W : World) (sb mb : Nat) (D : DataW Unit) (u n : ByteArray) : Prop where
  c0 : W.cell? ⟨sb, 0, none⟩ = some (.map (some mb))
  M : W.ownsMap Tryz.prog 9 Rp mb (Maps.size D) D
  hu : 1 ≤ u.size ∧ u.size ≤ 20
  hn : 1 ≤ n.size ∧ n.size ≤ 30
theorem View.below {W W' : World} {sb mb : Nat} {D : DataW Unit} {u n : ByteArray} (h : View W sb mb D u n) (hb : Below W.heap.size W W') : View W' sb mb D u n :=
  ⟨pw_cell_below hb h.c0, (Chg.of_below hb (fun _ => False)).map h.M (fun h => h), h.hu, h.hn⟩
structure StoreParts (W : World) (ok : Nat → Prop) (sb : Nat) (L : List (Nat × AF)) (mb : Nat) (D : DataW Unit) (own : Nat → Nat) : Prop where
  oks : ok sb
  okm : ok mb
  S : Boxed W sb 43 (.map (some mb))
  M : W.ownsMap Tryz.prog 9 Rp mb (Maps.size D) D
  mM : MapIs D (L.map fun p => (p.2.key, .lit (.int .i64 p.1)))
  files : ∀ p ∈ L, FileRep W (fun k => ok k ∧ own k = p.1) p.1 p.2
  ownm : ∀ p ∈ L, own mb ≠ p.1 ∧ own sb ≠ p.1
  lt : ∀ k, ok k → k < W.heap.size
  fbs : (L.map (·.1)).Nodup
  names : (L.map (·.2.key)).Nodup
def StoreRep (W : World) (ok : Nat → Prop) (sb : Nat) (L : List (Nat × AF)) : Prop := ∃ mb D own, StoreParts W ok sb L mb D own
end Go.Proofs.YtehlmkgldcfciaaGreat.Files
-- Written by this repo's wip/tools/myprint.py (the kit's print program, with contracts of our own beside). Lean checks it.
namespace Go.Proofs.YtehlmkgldcfciaaGreat.F
open Go.Proofs.YtehlmkgldcfciaaGreat.Common
open Go.RowKit Go.Proofs.YtehlmkgldcfciaaGreatW.PrintWords Go.Proofs.YtehlmkgldcfciaaGreatW.PrintLast Go.Proofs.YtehlmkgldcfciaaGreatW.PrintMore
set_option linter.unusedVariables false
set_option linter.unusedSimpArgs false
mutual
def files_children.l0 : Nat → List (S29) → Int → List Int → Int → Option (List Int)
 | 0, _, _, _, _ => none
 | k + 1, x0, x1, x5, x6 => if x6 < (x0.length : Int) then (if 0 ≤ x6 then (if 0 ≤ x1 then (if x1 < (x0.length : Int) then (files_children.j1 k x0 x1 x5 x6 (decide (((rd_T29 x0 x6).f2) > ((rd_T29 x0 x1).f2)))) else (none)) else (none)) else (none)) else (files_children.j1 k x0 x1 x5 x6 false)
def files_children.j1 : Nat → List (S29) → Int → List Int → Int → Bool → Option (List Int)
 | 0, _, _, _, _, _ => none
 | k + 1, x0, x1, x5, x6, x25 => if x25 = true then (if 0 ≤ x6 then (if x6 < (x0.length : Int) then (if 0 ≤ x1 then (if x1 < (x0.length : Int) then (if ((rd_T29 x0 x6).f2) = (wrap64 (((rd_T29 x0 x1).f2) + 1)) then (if x5.length < 17592186044416 then (files_children.l0 k x0 x1 (x5 ++ [x6]) (wrap64 (x6 + 1))) else (none)) else (files_children.l0 k x0 x1 x5 (wrap64 (x6 + 1)))) else (none)) else (none)) else (none)) else (none)) else (some x5)
end
def files_children.f (k : Nat) (l0 : List (S29)) (a1 : Int) : Option (List Int) := files_children.l0 k l0 a1 ([] : List Int) (wrap64 (a1 + 1))
set_option maxHeartbeats 8000000 in
set_option maxRecDepth 100000 in
theorem files_children.calls (k : Nat) (A0 : Option Addr) (c0 : Nat) (l0 : List (S29)) (a1 : Int) (r : List Int) (w : World) (hr0 : Kd.C k29 w A0 l0.length l0) (hc0 : l0.length ≤ c0) (h : files_children.f k l0 a1 = some r) :
  Calls Tryz.prog 64 #[.slice A0 l0.length c0, .int .i64 a1] w fun e w' => ∃ v0_ : Value, e = .returned (v0_) ∧ Kd.R (Kd.int .i64) 3 w' w.heap.size (fun _ => True) v0_ r ∧ Below w.heap.size w w' := by
 have HR0 := Aside0.mk hr0
 have HC0 := Aside0.mk hc0
 clear hr0 hc0
 have HB := Aside0.mk (Below.refl w.heap.size w)
 have H : (files_children.l0 k l0 a1 ([] : List Int) (wrap64 (a1 + 1))) = some r := h
 clear h
 have H' := Aside0.mk H
 clear H
 go_enter Tryz.func64, Tryz.ntmps64
 go_wp2
 repeat (go_quiet (fail); try go_wp2)
 go_loopg [5, 6] k (fun kq v5 v6 w' => ∃ (x5_1 : List Int) (x6_1 : Int), v6 = .int .i64 x6_1 ∧ Aside0 (files_children.l0 kq l0 a1 x5_1 x6_1 = some r) ∧ Aside0 (kq ≤ k) ∧ Aside0 (Kd.R (Kd.int .i64) 3 w' w.heap.size (fun _ => True) v5 x5_1) ∧ Aside0 (Below w.heap.size w w'))
 case atStart => exact ⟨(([] : List Int)), (wrap64 (a1 + 1)), (by first | rfl | (simp; done) | (simp [*]; done)), H', ⟨Nat.le_refl _⟩, ⟨by first | exact Kd.R_nil _ _ _ _ _ | exact Kd.N_nil _ _ _ _ _ | exact Kd.V_nil _ _ _ _ _ | exact Kd.Q_nil _ _ _ _ _ | exact Kd.S_nil _ _ _ _ _⟩, ⟨by repeat (first | (with_reducible first | exact HB.out | apply below_alloc | apply pw_below_drewN | apply below_drew1) | exact HB.out)⟩⟩
 case round =>
  clear H'
  try clear p2
  obtain ⟨x5_1, x6_1, rfl, HA, HK1, HO_5, HB⟩ := hrel
  cases gk with
  | zero => exact absurd HA.out (by simp [files_children.l0])
  | succ k1 =>
   have H := HA.out
   clear HA
   simp only [files_children.l0] at H
   have HC3 := Aside0.mk H
   clear H
   go_upto_region 3 with (fail)
   repeat (go_quiet (fail); go_upto_region 3 with (fail))
   go_cut [25] (fun v25 wc => ∃ (kq : Nat) (x25_2 : Bool), v25 = .bool x25_2 ∧ Aside0 (files_children.j1 kq l0 a1 x5_1 x6_1 x25_2 = some r) ∧ Aside0 (kq ≤ k1) ∧ Aside0 (Kd.R (Kd.int .i64) 3 wc w.heap.size (fun _ => True) u5 x5_1) ∧ Aside0 (Below w.heap.size w wc))
   case first =>
    have H := HC3.out
    clear HC3
    by_cases c4 : x6_1 < (l0.length : Int)
    ·rw [if_pos c4] at H
     have c4b0 : decide (x6_1 < (l0.length : Int)) = true := decide_eq_true c4
     clear c4
     (first | rw [c4b0] | (simp only [i64_w, i32_w]; rw [c4b0]) | skip)
     by_cases c5 : 0 ≤ x6_1
     ·rw [if_pos c5] at H
      have c5b0 : decide (0 ≤ x6_1) = true := decide_eq_true c5
      clear c5
      by_cases c6 : 0 ≤ a1
      ·rw [if_pos c6] at H
       have c6b0 : decide (0 ≤ a1) = true := decide_eq_true c6
       clear c6
       by_cases c7 : a1 < (l0.length : Int)
       ·rw [if_pos c7] at H
        have c7b0 : decide (a1 < (l0.length : Int)) = true := decide_eq_true c7
        clear c7
        have H' := Aside0.mk H
        clear H
        have p111 : 0 ≤ (x6_1 : Int) := of_decide_eq_true (by first | (with_reducible assumption) | assumption)
        have q111 : x6_1 < (l0.length : Int) := of_decide_eq_true (by first | (with_reducible assumption) | assumption)
        obtain ⟨ad111, e111, hx111_0, hx111_1, hx111_2⟩ := at_T29 HR0.out x6_1 p111 q111
        cases e111
        replace hx111_0 := (HB.out.cell (World.block_lt_of_cell? w _ hx111_0)).trans hx111_0
        replace hx111_1 := (HB.out.cell (World.block_lt_of_cell? w _ hx111_1)).trans hx111_1
        replace hx111_2 := (HB.out.cell (World.block_lt_of_cell? w _ hx111_2)).trans hx111_2
        replace p111 := eq_true p111
        replace q111 := eq_true q111
        have p112 : 0 ≤ (a1 : Int) := of_decide_eq_true (by first | (with_reducible assumption) | assumption)
        have q112 : a1 < (l0.length : Int) := of_decide_eq_true (by first | (with_reducible assumption) | assumption)
        obtain ⟨ad112, e112, hx112_0, hx112_1, hx112_2⟩ := at_T29 HR0.out a1 p112 q112
        obtain rfl : ad111 = ad112 := (by injection e112)
        replace hx112_0 := (HB.out.cell (World.block_lt_of_cell? w _ hx112_0)).trans hx112_0
        replace hx112_1 := (HB.out.cell (World.block_lt_of_cell? w _ hx112_1)).trans hx112_1
        replace hx112_2 := (HB.out.cell (World.block_lt_of_cell? w _ hx112_2)).trans hx112_2
        replace p112 := eq_true p112
        replace q112 := eq_true q112
        go_wp2
        repeat (go_quiet (fail); try go_wp2)
        go_meet
        case rel => exact ⟨_, (decide (((rd_T29 l0 x6_1).f2) > ((rd_T29 l0 a1).f2))), (by first | rfl | (simp; done) | (simp [*]; done)), H', ⟨by have := HK1.out; first | omega | exact Nat.le_refl _⟩, ⟨by (with_reducible repeat (first | apply Kd.R_alloc | apply Kd.R_drewN | apply Kd.R_drew)); exact HO_5.out⟩, ⟨by repeat (first | (with_reducible first | exact HB.out | apply below_alloc | apply pw_below_drewN | apply below_drew1) | exact HB.out)⟩⟩
       ·rw [if_neg c7] at H
        exact absurd H (by simp)
      ·rw [if_neg c6] at H
       exact absurd H (by simp)
     ·rw [if_neg c5] at H
      exact absurd H (by simp)
    ·rw [if_neg c4] at H
     have c4b0 : decide (x6_1 < (l0.length : Int)) = false := decide_eq_false c4
     clear c4
     (first | rw [c4b0] | (simp only [i64_w, i32_w]; rw [c4b0]) | skip)
     have H' := Aside0.mk H
     clear H
     go_wp2
     repeat (go_quiet (fail); try go_wp2)
     go_meet
     case rel => exact ⟨_, (false), (by first | rfl | (simp; done) | (simp [*]; done)), H', ⟨by have := HK1.out; first | omega | exact Nat.le_refl _⟩, ⟨by (with_reducible repeat (first | apply Kd.R_alloc | apply Kd.R_drewN | apply Kd.R_drew)); exact HO_5.out⟩, ⟨by repeat (first | (with_reducible first | exact HB.out | apply below_alloc | apply pw_below_drewN | apply below_drew1) | exact HB.out)⟩⟩
   case rest =>
    clear HC3
    try clear p1
    try clear q1
    try clear hx1
    try clear p2
    try clear c4
    try clear c4b0
    try clear c5
    try clear c5b0
    try clear c6
    try clear c6b0
    try clear p6
    try clear c7
    try clear c7b0
    try clear hx111_0
    try clear hx111_1
    try clear hx111_2
    try clear hx112_0
    try clear hx112_1
    try clear hx112_2
    try clear p111
    try clear p112
    try clear p2
    try clear q111
    try clear q112
    obtain ⟨kq, x25_2, rfl, HA, HJ2, HO_5, HB⟩ := hcut
    cases kq with
    | zero => exact absurd HA.out (by simp [files_children.j1])
    | succ kj2 =>
     have H := HA.out
     clear HA
     simp only [files_children.j1] at H
     by_cases c8 : x25_2 = true
     ·subst c8
      have H1 : (if 0 ≤ x6_1 then (if x6_1 < (l0.length : Int) then (if 0 ≤ a1 then (if a1 < (l0.length : Int) then (if ((rd_T29 l0 x6_1).f2) = (wrap64 (((rd_T29 l0 a1).f2) + 1)) then (if x5_1.length < 17592186044416 then (files_children.l0 kj2 l0 a1 (x5_1 ++ [x6_1]) (wrap64 (x6_1 + 1))) else (none)) else (files_children.l0 kj2 l0 a1 x5_1 (wrap64 (x6_1 + 1)))) else (none)) else (none)) else (none)) else (none)) = some r := by rw [if_pos rfl] at H; exact H
      clear H
      have H := H1
      clear H1
      by_cases c9 : 0 ≤ x6_1
      ·rw [if_pos c9] at H
       have c9b0 : decide (0 ≤ x6_1) = true := decide_eq_true c9
       clear c9
       by_cases c10 : x6_1 < (l0.length : Int)
       ·rw [if_pos c10] at H
        have c10b0 : decide (x6_1 < (l0.length : Int)) = true := decide_eq_true c10
        clear c10
        by_cases c11 : 0 ≤ a1
        ·rw [if_pos c11] at H
         have c11b0 : decide (0 ≤ a1) = true := decide_eq_true c11
         clear c11
         by_cases c12 : a1 < (l0.length : Int)
         ·rw [if_pos c12] at H
          have c12b0 : decide (a1 < (l0.length : Int)) = true := decide_eq_true c12
          clear c12
          by_cases c13 : ((rd_T29 l0 x6_1).f2) = (wrap64 (((rd_T29 l0 a1).f2) + 1))
          ·rw [if_pos c13] at H
           have c13b0 : (((rd_T29 l0 x6_1).f2) == (wrap64 (((rd_T29 l0 a1).f2) + 1))) = true := beq_iff_eq.mpr c13
           have c13b1 : (((rd_T29 l0 x6_1).f2) != (wrap64 (((rd_T29 l0 a1).f2) + 1))) = false := bne_eq_false_iff_eq.mpr c13
           clear c13
           by_cases c14 : x5_1.length < 17592186044416
           ·rw [if_pos c14] at H
            have LMc14 := Aside0.mk c14
            clear c14
            obtain ⟨y115, hy115⟩ : ∃ y_ : List Int, y_ = (x5_1 ++ [x6_1]) := ⟨_, rfl⟩
            replace H : (files_children.l0 kj2 l0 a1 y115 (wrap64 (x6_1 + 1))) = some r := by first | (rw [hy115]; with_reducible exact H) | (have H2_ := (Option.bind_some _ _).symm.trans H; rw [hy115]; with_reducible exact H2_) | (have H2_ := (Option.bind_some _ _).symm.trans H; with_reducible exact H2_) | with_reducible exact H | (rw [hy115]; exact H) | exact H
            have Ny115 := Aside0.mk hy115
            clear hy115
            have H' := Aside0.mk H
            clear H
            have p113 : 0 ≤ (x6_1 : Int) := of_decide_eq_true (by first | (with_reducible assumption) | assumption)
            have q113 : x6_1 < (l0.length : Int) := of_decide_eq_true (by first | (with_reducible assumption) | assumption)
            obtain ⟨ad113, e113, hx113_0, hx113_1, hx113_2⟩ := at_T29 HR0.out x6_1 p113 q113
            cases e113
            replace hx113_0 := (HB.out.cell (World.block_lt_of_cell? w _ hx113_0)).trans hx113_0
            replace hx113_1 := (HB.out.cell (World.block_lt_of_cell? w _ hx113_1)).trans hx113_1
            replace hx113_2 := (HB.out.cell (World.block_lt_of_cell? w _ hx113_2)).trans hx113_2
            replace p113 := eq_true p113
            replace q113 := eq_true q113
            have p114 : 0 ≤ (a1 : Int) := of_decide_eq_true (by first | (with_reducible assumption) | assumption)
            have q114 : a1 < (l0.length : Int) := of_decide_eq_true (by first | (with_reducible assumption) | assumption)
            obtain ⟨ad114, e114, hx114_0, hx114_1, hx114_2⟩ := at_T29 HR0.out a1 p114 q114
            obtain rfl : ad113 = ad114 := (by injection e114)
            replace hx114_0 := (HB.out.cell (World.block_lt_of_cell? w _ hx114_0)).trans hx114_0
            replace hx114_1 := (HB.out.cell (World.block_lt_of_cell? w _ hx114_1)).trans hx114_1
            replace hx114_2 := (HB.out.cell (World.block_lt_of_cell? w _ hx114_2)).trans hx114_2
            replace p114 := eq_true p114
            replace q114 := eq_true q114
            go_wp2_with (first | ((with_reducible refine gate_builtin (b := .append) (xs := #[.tmp 40, .tmp 42]) rfl ?_); at_builtin; refine Kd.R_append (Kd.int .i64) (w0 := w) w.heap.size rfl (.tmp 40) (.tmp 42) 113 3 (.int .i64 0) 8 rfl Tryz.underlying113 info3 rfl (by decide) (by omega) u5 x5_1 x6_1 [.int .i64 x6_1] (fun _ => True) (fun _ => False) rfl rfl ?aP (fun _ hk => hk.elim) ?aF ?aO ?aB ?aS ?aL ?_; (case aP => exact rfl); (case aB => exact (by repeat (first | (with_reducible first | exact HB.out | apply below_alloc | apply pw_below_drewN | apply below_drew1) | exact HB.out))); (case aF => exact (fun _ _ => trivial)); (case aO => exact (by (with_reducible repeat (first | apply Kd.R_alloc | apply Kd.R_drewN | apply Kd.R_drew)); exact HO_5.out)); (case aS => exact (below_size (by repeat (first | (with_reducible first | exact HB.out | apply below_alloc | apply pw_below_drewN | apply below_drew1) | exact HB.out)))); (case aL => have := LMc14.out; omega); intro v116 w15 ho hb hg hat; rw [← Ny115.out] at ho; have n0_ := Aside0.mk (hb); have n1_ := Aside0.mk (ho); clear HB; clear HO_5; have HB := n0_; have HO117 := n1_; clear n0_ n1_; clear ho hb hg hat))
            repeat (go_quiet (first | ((with_reducible refine gate_builtin (b := .append) (xs := #[.tmp 40, .tmp 42]) rfl ?_); at_builtin; refine Kd.R_append (Kd.int .i64) (w0 := w) w.heap.size rfl (.tmp 40) (.tmp 42) 113 3 (.int .i64 0) 8 rfl Tryz.underlying113 info3 rfl (by decide) (by omega) u5 x5_1 x6_1 [.int .i64 x6_1] (fun _ => True) (fun _ => False) rfl rfl ?aP (fun _ hk => hk.elim) ?aF ?aO ?aB ?aS ?aL ?_; (case aP => exact rfl); (case aB => exact (by repeat (first | (with_reducible first | exact HB.out | apply below_alloc | apply pw_below_drewN | apply below_drew1) | exact HB.out))); (case aF => exact (fun _ _ => trivial)); (case aO => exact (by (with_reducible repeat (first | apply Kd.R_alloc | apply Kd.R_drewN | apply Kd.R_drew)); exact HO_5.out)); (case aS => exact (below_size (by repeat (first | (with_reducible first | exact HB.out | apply below_alloc | apply pw_below_drewN | apply below_drew1) | exact HB.out)))); (case aL => have := LMc14.out; omega); intro v116 w15 ho hb hg hat; rw [← Ny115.out] at ho; have n0_ := Aside0.mk (hb); have n1_ := Aside0.mk (ho); clear HB; clear HO_5; have HB := n0_; have HO117 := n1_; clear n0_ n1_; clear ho hb hg hat)); try go_wp2_with (first | ((with_reducible refine gate_builtin (b := .append) (xs := #[.tmp 40, .tmp 42]) rfl ?_); at_builtin; refine Kd.R_append (Kd.int .i64) (w0 := w) w.heap.size rfl (.tmp 40) (.tmp 42) 113 3 (.int .i64 0) 8 rfl Tryz.underlying113 info3 rfl (by decide) (by omega) u5 x5_1 x6_1 [.int .i64 x6_1] (fun _ => True) (fun _ => False) rfl rfl ?aP (fun _ hk => hk.elim) ?aF ?aO ?aB ?aS ?aL ?_; (case aP => exact rfl); (case aB => exact (by repeat (first | (with_reducible first | exact HB.out | apply below_alloc | apply pw_below_drewN | apply below_drew1) | exact HB.out))); (case aF => exact (fun _ _ => trivial)); (case aO => exact (by (with_reducible repeat (first | apply Kd.R_alloc | apply Kd.R_drewN | apply Kd.R_drew)); exact HO_5.out)); (case aS => exact (below_size (by repeat (first | (with_reducible first | exact HB.out | apply below_alloc | apply pw_below_drewN | apply below_drew1) | exact HB.out)))); (case aL => have := LMc14.out; omega); intro v116 w15 ho hb hg hat; rw [← Ny115.out] at ho; have n0_ := Aside0.mk (hb); have n1_ := Aside0.mk (ho); clear HB; clear HO_5; have HB := n0_; have HO117 := n1_; clear n0_ n1_; clear ho hb hg hat)))
            go_roundg kj2
            case measure => have := HK1.out; have := HJ2.out; omega
            case rel => exact ⟨(y115), (wrap64 (x6_1 + 1)), (by first | rfl | (simp; done) | (simp [*]; done)), H', ⟨by have := HK1.out; have := HJ2.out; omega⟩, ⟨by (with_reducible repeat (first | apply Kd.R_alloc | apply Kd.R_drewN | apply Kd.R_drew)); exact HO117.out⟩, ⟨by repeat (first | (with_reducible first | exact HB.out | apply below_alloc | apply pw_below_drewN | apply below_drew1) | exact HB.out)⟩⟩
           ·rw [if_neg c14] at H
            exact absurd H (by simp)
          ·rw [if_neg c13] at H
           have c13b0 : (((rd_T29 l0 x6_1).f2) == (wrap64 (((rd_T29 l0 a1).f2) + 1))) = false := beq_eq_false_iff_ne.mpr c13
           have c13b1 : (((rd_T29 l0 x6_1).f2) != (wrap64 (((rd_T29 l0 a1).f2) + 1))) = true := bne_iff_ne.mpr c13
           have H' := Aside0.mk H
           clear H
           have p113 : 0 ≤ (x6_1 : Int) := of_decide_eq_true (by first | (with_reducible assumption) | assumption)
           have q113 : x6_1 < (l0.length : Int) := of_decide_eq_true (by first | (with_reducible assumption) | assumption)
           obtain ⟨ad113, e113, hx113_0, hx113_1, hx113_2⟩ := at_T29 HR0.out x6_1 p113 q113
           cases e113
           replace hx113_0 := (HB.out.cell (World.block_lt_of_cell? w _ hx113_0)).trans hx113_0
           replace hx113_1 := (HB.out.cell (World.block_lt_of_cell? w _ hx113_1)).trans hx113_1
           replace hx113_2 := (HB.out.cell (World.block_lt_of_cell? w _ hx113_2)).trans hx113_2
           replace p113 := eq_true p113
           replace q113 := eq_true q113
           have p114 : 0 ≤ (a1 : Int) := of_decide_eq_true (by first | (with_reducible assumption) | assumption)
           have q114 : a1 < (l0.length : Int) := of_decide_eq_true (by first | (with_reducible assumption) | assumption)
           obtain ⟨ad114, e114, hx114_0, hx114_1, hx114_2⟩ := at_T29 HR0.out a1 p114 q114
           obtain rfl : ad113 = ad114 := (by injection e114)
           replace hx114_0 := (HB.out.cell (World.block_lt_of_cell? w _ hx114_0)).trans hx114_0
           replace hx114_1 := (HB.out.cell (World.block_lt_of_cell? w _ hx114_1)).trans hx114_1
           replace hx114_2 := (HB.out.cell (World.block_lt_of_cell? w _ hx114_2)).trans hx114_2
           replace p114 := eq_true p114
           replace q114 := eq_true q114
           go_wp2
           repeat (go_quiet (fail); try go_wp2)
           go_roundg kj2
           case measure => have := HK1.out; have := HJ2.out; omega
           case rel => exact ⟨(x5_1), (wrap64 (x6_1 + 1)), (by first | rfl | (simp; done) | (simp [*]; done)), H', ⟨by have := HK1.out; have := HJ2.out; omega⟩, ⟨by (with_reducible repeat (first | apply Kd.R_alloc | apply Kd.R_drewN | apply Kd.R_drew)); exact HO_5.out⟩, ⟨by repeat (first | (with_reducible first | exact HB.out | apply below_alloc | apply pw_below_drewN | apply below_drew1) | exact HB.out)⟩⟩
         ·rw [if_neg c12] at H
          exact absurd H (by simp)
        ·rw [if_neg c11] at H
         exact absurd H (by simp)
       ·rw [if_neg c10] at H
        exact absurd H (by simp)
      ·rw [if_neg c9] at H
       exact absurd H (by simp)
     ·replace c8 := Bool.eq_false_iff.mpr c8
      subst c8
      have H1 : (some x5_1) = some r := by rw [if_neg (show ¬ (false = true) by decide)] at H; exact H
      clear H
      have H := H1
      clear H1
      obtain rfl := Option.some.inj H
      go_wp2
      repeat (go_quiet (fail); try go_wp2)
      go_ret
      exact ⟨_, by first | rfl | (simp [errW_none, errW_some] <;> rfl) | (simp [*, errW_none, errW_some] <;> rfl), by (with_reducible repeat (first | apply Kd.R_alloc | apply Kd.R_drewN | apply Kd.R_drew)); exact HO_5.out, by repeat (first | (with_reducible first | exact HB.out | apply below_alloc | apply pw_below_drewN | apply below_drew1) | exact HB.out)⟩
end Go.Proofs.YtehlmkgldcfciaaGreat.F
-- Written by this repo's wip/tools/myprint.py (the kit's print program, with contracts of our own beside). Lean checks it.
namespace Go.Proofs.YtehlmkgldcfciaaGreat.F
open Go.Proofs.YtehlmkgldcfciaaGreat.Common
open Go.RowKit Go.Proofs.YtehlmkgldcfciaaGreatW.PrintWords Go.Proofs.YtehlmkgldcfciaaGreatW.PrintLast Go.Proofs.YtehlmkgldcfciaaGreatW.PrintMore
set_option linter.unusedVariables false
set_option linter.unusedSimpArgs false
def files_beyond.l0 : Nat → List (S29) → Int → Int → Option (Int)
 | 0, _, _, _ => none
 | k + 1, x0, x1, x5 => if x5 < (x0.length : Int) then (if 0 ≤ x5 then (if 0 ≤ x1 then (if x1 < (x0.length : Int) then (if ((rd_T29 x0 x5).f2) > ((rd_T29 x0 x1).f2) then (files_beyond.l0 k x0 x1 (wrap64 (x5 + 1))) else (some x5)) else (none)) else (none)) else (none)) else (some x5)
def files_beyond.f (k : Nat) (l0 : List (S29)) (a1 : Int) : Option (Int) := files_beyond.l0 k l0 a1 (wrap64 (a1 + 1))
set_option maxHeartbeats 8000000 in
set_option maxRecDepth 100000 in
theorem files_beyond.calls (k : Nat) (A0 : Option Addr) (c0 : Nat) (l0 : List (S29)) (a1 : Int) (r : Int) (w : World) (hr0 : Kd.C k29 w A0 l0.length l0) (hc0 : l0.length ≤ c0) (h : files_beyond.f k l0 a1 = some r) :
  Calls Tryz.prog 70 #[.slice A0 l0.length c0, .int .i64 a1] w fun e w' => e = .returned (.int .i64 r) ∧ Drawn0 w w' := by
 have HR0 := Aside0.mk hr0
 have HC0 := Aside0.mk hc0
 clear hr0 hc0
 have H : (files_beyond.l0 k l0 a1 (wrap64 (a1 + 1))) = some r := h
 clear h
 have H' := Aside0.mk H
 clear H
 go_enter Tryz.func70, Tryz.ntmps70
 go_wp2
 repeat (go_quiet (fail); try go_wp2)
 go_loopg [5] k (fun kq v5 w' => ∃ (x5_1 : Int), v5 = .int .i64 x5_1 ∧ Aside0 (files_beyond.l0 kq l0 a1 x5_1 = some r) ∧ Aside0 (kq ≤ k) ∧ Drawn0 w w')
 case atStart => exact ⟨(wrap64 (a1 + 1)), (by first | rfl | (simp; done) | (simp [*]; done)), H', ⟨Nat.le_refl _⟩, by repeat (first | exact Drawn0.refl _ | apply Drawn0.step)⟩
 case round =>
  clear H'
  try clear p2
  obtain ⟨x5_1, rfl, HA, HK1, ⟨m1, rfl⟩⟩ := hrel
  cases gk with
  | zero => exact absurd HA.out (by simp [files_beyond.l0])
  | succ k1 =>
   have H := HA.out
   clear HA
   simp only [files_beyond.l0] at H
   by_cases c3 : x5_1 < (l0.length : Int)
   ·rw [if_pos c3] at H
    have c3b0 : decide (x5_1 < (l0.length : Int)) = true := decide_eq_true c3
    clear c3
    by_cases c4 : 0 ≤ x5_1
    ·rw [if_pos c4] at H
     have c4b0 : decide (0 ≤ x5_1) = true := decide_eq_true c4
     clear c4
     by_cases c5 : 0 ≤ a1
     ·rw [if_pos c5] at H
      have c5b0 : decide (0 ≤ a1) = true := decide_eq_true c5
      clear c5
      by_cases c6 : a1 < (l0.length : Int)
      ·rw [if_pos c6] at H
       have c6b0 : decide (a1 < (l0.length : Int)) = true := decide_eq_true c6
       clear c6
       by_cases c7 : ((rd_T29 l0 x5_1).f2) > ((rd_T29 l0 a1).f2)
       ·rw [if_pos c7] at H
        have c7b0 : decide (((rd_T29 l0 a1).f2) < ((rd_T29 l0 x5_1).f2)) = true := decide_eq_true c7
        clear c7
        have H' := Aside0.mk H
        clear H
        have p126 : 0 ≤ (x5_1 : Int) := of_decide_eq_true (by first | (with_reducible assumption) | assumption)
        have q126 : x5_1 < (l0.length : Int) := of_decide_eq_true (by first | (with_reducible assumption) | assumption)
        obtain ⟨ad126, e126, hx126_0, hx126_1, hx126_2⟩ := at_T29 HR0.out x5_1 p126 q126
        cases e126
        replace p126 := eq_true p126
        replace q126 := eq_true q126
        have p127 : 0 ≤ (a1 : Int) := of_decide_eq_true (by first | (with_reducible assumption) | assumption)
        have q127 : a1 < (l0.length : Int) := of_decide_eq_true (by first | (with_reducible assumption) | assumption)
        obtain ⟨ad127, e127, hx127_0, hx127_1, hx127_2⟩ := at_T29 HR0.out a1 p127 q127
        obtain rfl : ad126 = ad127 := (by injection e127)
        replace p127 := eq_true p127
        replace q127 := eq_true q127
        go_wp2
        repeat (go_quiet (fail); try go_wp2)
        go_roundg k1
        case measure => have := HK1.out; omega
        case rel => exact ⟨(wrap64 (x5_1 + 1)), (by first | rfl | (simp; done) | (simp [*]; done)), H', ⟨by have := HK1.out; omega⟩, by repeat (first | exact Drawn0.refl _ | apply Drawn0.step)⟩
       ·rw [if_neg c7] at H
        have c7b0 : decide (((rd_T29 l0 a1).f2) < ((rd_T29 l0 x5_1).f2)) = false := decide_eq_false c7
        clear c7
        obtain rfl := Option.some.inj H
        have p126 : 0 ≤ (x5_1 : Int) := of_decide_eq_true (by first | (with_reducible assumption) | assumption)
        have q126 : x5_1 < (l0.length : Int) := of_decide_eq_true (by first | (with_reducible assumption) | assumption)
        obtain ⟨ad126, e126, hx126_0, hx126_1, hx126_2⟩ := at_T29 HR0.out x5_1 p126 q126
        cases e126
        replace p126 := eq_true p126
        replace q126 := eq_true q126
        have p127 : 0 ≤ (a1 : Int) := of_decide_eq_true (by first | (with_reducible assumption) | assumption)
        have q127 : a1 < (l0.length : Int) := of_decide_eq_true (by first | (with_reducible assumption) | assumption)
        obtain ⟨ad127, e127, hx127_0, hx127_1, hx127_2⟩ := at_T29 HR0.out a1 p127 q127
        obtain rfl : ad126 = ad127 := (by injection e127)
        replace p127 := eq_true p127
        replace q127 := eq_true q127
        go_wp2
        repeat (go_quiet (fail); try go_wp2)
        go_ret
        exact ⟨by first | rfl | (simp; done) | (simp [*]; done), by repeat (first | exact Drawn0.refl _ | apply Drawn0.step)⟩
      ·rw [if_neg c6] at H
       exact absurd H (by simp)
     ·rw [if_neg c5] at H
      exact absurd H (by simp)
    ·rw [if_neg c4] at H
     exact absurd H (by simp)
   ·rw [if_neg c3] at H
    have c3b0 : decide (x5_1 < (l0.length : Int)) = false := decide_eq_false c3
    clear c3
    obtain rfl := Option.some.inj H
    go_wp2
    repeat (go_quiet (fail); try go_wp2)
    go_ret
    exact ⟨by first | rfl | (simp; done) | (simp [*]; done), by repeat (first | exact Drawn0.refl _ | apply Drawn0.step)⟩
end Go.Proofs.YtehlmkgldcfciaaGreat.F
/- The file store: units as a tree; the ways to a file, to an opened file and to a unit, and how each may fail. -/
set_option linter.unusedVariables false
set_option linter.unusedSimpArgs false
namespace Go.Proofs.YtehlmkgldcfciaaGreat.Files
open Go.Proofs.YtehlmkgldcfciaaGreat.Common Go.Maps Go.ChangeMaps Go.WideMaps Go.Proofs.YtehlmkgldcfciaaGreat.F
open Go.RowKit Go.Proofs.YtehlmkgldcfciaaGreatW.PrintWords Go.Proofs.YtehlmkgldcfciaaGreatW.PrintLast Go.Proofs.YtehlmkgldcfciaaGreatW.PrintMore
def lv (l : List S29) (i : Nat) : Int := (rd_T29 l (i : Int)).f2
def nm (l : List S29) (i : Nat) : ByteArray := (rd_T29 l (i : Int)).f0
theorem rd_get (l : List S29) (i : Nat) (h : i < l.length) : rd_T29 l (i : Int) = l[i] := by simp [rd_T29, List.getElem?_eq_getElem h]
theorem drop_at (l : List S29) (i : Nat) (h : i < l.length) : l.drop i = rd_T29 l (i : Int) :: l.drop (i + 1) := by rw [List.drop_eq_getElem_cons h, rd_get l i h]
def runLen (lev : Int) : List S29 → Nat
  | [] => 0
  | u :: r => if u.f2 > lev then runLen lev r + 1 else 0
theorem runLen_cons (lev : Int) (u : S29) (r : List S29) : runLen lev (u :: r) = if u.f2 > lev then runLen lev r + 1 else 0 := rfl
theorem runLen_le (lev : Int) : ∀ l, runLen lev l ≤ l.length
  | [] => Nat.le_refl _
  | u :: r => by
    unfold runLen
    have := runLen_le lev r
    split
    · rw [List.length_cons]; omega
    · exact Nat.zero_le _
def endOf (l : List S29) (i : Nat) : Nat := i + 1 + runLen (lv l i) (l.drop (i + 1))
theorem endOf_le {l : List S29} {i : Nat} (h : i < l.length) : i + 1 ≤ endOf l i ∧ endOf l i ≤ l.length := by
  have := runLen_le (lv l i) (l.drop (i + 1))
  rw [List.length_drop] at this
  unfold endOf
  omega
def kidsFrom (lev : Int) : Nat → List S29 → List Int
  | _, [] => []
  | i, u :: r => if u.f2 > lev then (if u.f2 = lev + 1 then (i : Int) :: kidsFrom lev (i + 1) r else kidsFrom lev (i + 1) r) else []
theorem kidsFrom_len (lev : Int) : ∀ i l, (kidsFrom lev i l).length ≤ l.length
  | _, [] => Nat.le_refl _
  | i, u :: r => by
    unfold kidsFrom
    have := kidsFrom_len lev (i + 1) r
    split
    · split <;> simp only [List.length_cons] <;> omega
    · exact Nat.zero_le _
theorem kidsFrom_in (lev : Int) : ∀ i l, ∀ x ∈ kidsFrom lev i l, (i : Int) ≤ x ∧ x < (i + l.length : Nat)
  | _, [] => by simp [kidsFrom]
  | i, u :: r => by
    unfold kidsFrom
    have ih := kidsFrom_in lev (i + 1) r
    intro x hx
    split at hx
    · split at hx
      · rcases List.mem_cons.1 hx with rfl | hx
        · simp only [List.length_cons]; omega
        · have := ih x hx; simp only [List.length_cons]; omega
      · have := ih x hx; simp only [List.length_cons]; omega
    · cases hx
def kids (l : List S29) (i : Nat) : List Int := kidsFrom (lv l i) (i + 1) (l.drop (i + 1))
theorem kids_in {l : List S29} {i : Nat} (h : i < l.length) : ∀ x ∈ kids l i, (0 : Int) ≤ x ∧ x < (l.length : Int) := fun x hx => by
  have := kidsFrom_in _ _ _ x hx
  rw [List.length_drop] at this
  omega
theorem wr (j n : Nat) (h : j < n) (hn : n ≤ 9223372036854775807) : wrap64 ((j : Int) + 1) = ((j + 1 : Nat) : Int) := by unfold wrap64; omega
theorem beyond_l0 (l : List S29) (i : Nat) (hi : i < l.length) (hl : l.length ≤ 9223372036854775807) : ∀ (d j k : Nat), l.length - j = d → j ≤ l.length → d < k → files_beyond.l0 k l (i : Int) (j : Int) = some ((j + runLen (lv l i) (l.drop j) : Nat) : Int)
  | 0, j, k, hd, hj, hk => by
    obtain ⟨k, rfl⟩ : ∃ m, k = m + 1 := ⟨k - 1, by omega⟩
    obtain rfl : j = l.length := by omega
    simp only [files_beyond.l0]
    rw [if_neg (by omega), List.drop_length]
    simp [runLen]
  | d + 1, j, k, hd, hj, hk => by
    obtain ⟨k, rfl⟩ : ∃ m, k = m + 1 := ⟨k - 1, by omega⟩
    have ih := beyond_l0 l i hi hl d (j + 1) k (by omega) (by omega) (by omega)
    simp only [files_beyond.l0]
    rw [if_pos (by omega), if_pos (by omega), if_pos (by omega), if_pos (by omega), drop_at l j (by omega), wr j l.length (by omega) hl, ih]
    rw [runLen_cons]
    show (if (rd_T29 l (j : Int)).f2 > lv l i then _ else _) = _
    by_cases c : (rd_T29 l (j : Int)).f2 > lv l i
    · rw [if_pos c, if_pos c]; congr 1; omega
    · rw [if_neg c, if_neg c]; rfl
theorem beyond_f (l : List S29) (i : Nat) (hi : i < l.length) (hl : l.length ≤ 9223372036854775807) : files_beyond.f (l.length + 1) l (i : Int) = some (endOf l i : Int) := by
  unfold files_beyond.f
  rw [wr i l.length hi hl, beyond_l0 l i hi hl _ (i + 1) _ rfl (by omega) (by omega)]
  all_goals rfl
theorem children_l0 (l : List S29) (i : Nat) (hi : i < l.length) (hl : l.length ≤ 1000000000) (hv : wrap64 (lv l i + 1) = lv l i + 1) : ∀ (d j k : Nat) (acc : List Int), l.length - j = d → j ≤ l.length → 2 * d + 1 < k → acc.length ≤ j → files_children.l0 k l (i : Int) acc (j : Int) = some (acc ++ kidsFrom (lv l i) j (l.drop j))
  | 0, j, k, acc, hd, hj, hk, ha => by
    obtain ⟨k, rfl⟩ : ∃ m, k = m + 2 := ⟨k - 2, by omega⟩
    obtain rfl : j = l.length := by omega
    simp only [files_children.l0, files_children.j1]
    rw [if_neg (by omega), if_neg (by simp), List.drop_length]
    simp [kidsFrom]
  | d + 1, j, k, acc, hd, hj, hk, ha => by
    obtain ⟨k, rfl⟩ : ∃ m, k = m + 2 := ⟨k - 2, by omega⟩
    have ih := fun acc h => children_l0 l i hi hl hv d (j + 1) k acc (by omega) (by omega) (by omega) h
    simp only [files_children.l0, files_children.j1]
    rw [if_pos (by omega), if_pos (by omega), if_pos (by omega), if_pos (by omega), drop_at l j (by omega)]
    unfold kidsFrom
    show (if decide ((rd_T29 l (j : Int)).f2 > lv l i) = true then _ else _) = _
    by_cases c : (rd_T29 l (j : Int)).f2 > lv l i
    · rw [if_pos (by simp [c]), if_pos (by omega), if_pos (by omega), if_pos (by omega), if_pos (by omega), wr j l.length (by omega) (by omega), if_pos c]
      show (if (rd_T29 l (j : Int)).f2 = wrap64 (lv l i + 1) then _ else _) = _
      rw [hv]
      by_cases c2 : (rd_T29 l (j : Int)).f2 = lv l i + 1
      · rw [if_pos c2, if_pos c2, if_pos (by omega), ih _ (by simp; omega), List.append_assoc]; rfl
      · rw [if_neg c2, if_neg c2, ih _ (by omega)]
    · rw [if_neg (by simp [c]), if_neg c]; simp
theorem children_f (l : List S29) (i : Nat) (hi : i < l.length) (hl : l.length ≤ 1000000000) (hv : wrap64 (lv l i + 1) = lv l i + 1) : files_children.f (2 * l.length + 2) l (i : Int) = some (kids l i) := by
  unfold files_children.f
  rw [wr i l.length hi (by omega), children_l0 l i hi hl hv _ (i + 1) _ [] rfl (by omega) (by omega) (by simp)]
  all_goals rfl
theorem beyond_c (A : Option Addr) (c i : Nat) (l : List S29) (W : World) (hr : Kd.C k29 W A l.length l) (hc : l.length ≤ c) (hi : i < l.length) :
    Calls Tryz.prog 70 #[.slice A l.length c, .int .i64 (i : Int)] W fun e w' => e = .returned (.int .i64 (endOf l i : Int)) ∧ Drawn0 W w' :=
  files_beyond.calls _ A c l (i : Int) _ W hr hc (beyond_f l i hi hr.2.1)
theorem children_c (A : Option Addr) (c i : Nat) (l : List S29) (W : World) (hr : Kd.C k29 W A l.length l) (hc : l.length ≤ c) (hi : i < l.length) (hl : l.length ≤ 1000000000) (hv : wrap64 (lv l i + 1) = lv l i + 1) :
    Calls Tryz.prog 64 #[.slice A l.length c, .int .i64 (i : Int)] W fun e w' => ∃ v : Value, e = .returned v ∧ Kd.R (Kd.int .i64) 3 w' W.heap.size (fun _ => True) v (kids l i) ∧ Below W.heap.size W w' :=
  files_children.calls _ A c l (i : Int) _ W hr hc (children_f l i hi hl hv)
def FoundErr (W : World) (sp : Value) (u n : ByteArray) (E : Int) : Prop := E ≠ 0 ∧ ∀ W', Below W.heap.size W W' → Calls Tryz.prog 58 #[sp, .string u, .string n] W' fun e w' => e = .returned (.tuple #[.pointer none, .int .i64 E]) ∧ W' = w'
def FoundOk (W : World) (sp : Value) (u n : ByteArray) (fb : Nat) : Prop := ∀ W', Below W.heap.size W W' → Calls Tryz.prog 58 #[sp, .string u, .string n] W' fun e w' => e = .returned (.tuple #[.pointer (some ⟨fb, 0, none⟩), .int .i64 0]) ∧ W' = w'
def OpenedErr (W : World) (sp : Value) (u n : ByteArray) (action E : Int) : Prop := E ≠ 0 ∧ ∀ W', Below W.heap.size W W' → Calls Tryz.prog 63 #[sp, .string u, .string n, .int .i64 action] W' fun e w' => e = .returned (.tuple #[.pointer none, .int .i64 E, .int .i64 E]) ∧ Below W'.heap.size W' w'
def OpenedOk (W : World) (sp : Value) (u n : ByteArray) (action : Int) (fb : Nat) (dn : Int) : Prop := ∀ W', Below W.heap.size W W' → Calls Tryz.prog 63 #[sp, .string u, .string n, .int .i64 action] W' fun e w' => e = .returned (.tuple #[.pointer (some ⟨fb, 0, none⟩), .int .i64 0, .int .i64 dn]) ∧ Below W'.heap.size W' w'
def UnitErr (W : World) (sp : Value) (u n : ByteArray) (at_ action E : Int) : Prop := E ≠ 0 ∧ ∀ W', Below W.heap.size W W' → Calls Tryz.prog 69 #[sp, .string u, .string n, .int .i64 at_, .int .i64 action] W' fun e w' => ∃ dn : Int, e = .returned (.tuple #[.pointer none, .int .i64 E, .int .i64 dn]) ∧ Below W'.heap.size W' w'
def UnitOk (W : World) (sp : Value) (u n : ByteArray) (at_ action : Int) (fb : Nat) (dn : Int) : Prop := ∀ W', Below W.heap.size W W' → Calls Tryz.prog 69 #[sp, .string u, .string n, .int .i64 at_, .int .i64 action] W' fun e w' => e = .returned (.tuple #[.pointer (some ⟨fb, 0, none⟩), .int .i64 0, .int .i64 dn]) ∧ Below W'.heap.size W' w'
def userB (u : ByteArray) : Bool := decide (1 ≤ u.size) && decide (u.size ≤ 20)
def nameB (u : ByteArray) : Bool := decide (1 ≤ u.size) && decide (u.size ≤ 30)
theorem found_user (sb mb : Nat) (u n : ByteArray) (W : World) (c0 : W.cell? ⟨sb, 0, none⟩ = some (.map (some mb))) (hu : userB u = false) :
    Calls Tryz.prog 58 #[.pointer (some ⟨sb, 0, none⟩), .string u, .string n] W fun e w' => e = .returned (.tuple #[.pointer none, .int .i64 1]) ∧ W = w' := by
  have HN := Aside0.mk (no_live sb mb W c0)
  have CU := Aside0.mk (user_c u W)
  rw [show (decide (1 ≤ u.size) && decide (u.size ≤ 20)) = false from hu] at CU
  clear c0 hu
  go_enter Tryz.func58, Tryz.ntmps58
  go_wp2_with first | (go_at_call 44; refine HN.out.mono ?_; rintro e w' ⟨rfl, rfl⟩) | (go_at_call 53; refine CU.out.mono ?_; rintro e w' ⟨rfl, rfl⟩)
  refine bodyPost_ret (v := .tuple #[.pointer none, .int .i64 1]) (by simp [results, Tryz.f58, go_sem]) rfl ?_
  exact ⟨rfl, rfl⟩
theorem found_name (sb mb : Nat) (u n : ByteArray) (W : World) (c0 : W.cell? ⟨sb, 0, none⟩ = some (.map (some mb))) (hu : userB u = true) (hn : nameB n = false) :
    Calls Tryz.prog 58 #[.pointer (some ⟨sb, 0, none⟩), .string u, .string n] W fun e w' => e = .returned (.tuple #[.pointer none, .int .i64 1]) ∧ W = w' := by
  have HN := Aside0.mk (no_live sb mb W c0)
  have CU := Aside0.mk (user_c u W)
  rw [show (decide (1 ≤ u.size) && decide (u.size ≤ 20)) = true from hu] at CU
  have CM := Aside0.mk (name_c n W)
  rw [show (decide (1 ≤ n.size) && decide (n.size ≤ 30)) = false from hn] at CM
  clear c0 hu hn
  go_enter Tryz.func58, Tryz.ntmps58
  go_wp2_with first | (go_at_call 44; refine HN.out.mono ?_; rintro e w' ⟨rfl, rfl⟩) | (go_at_call 53; refine CU.out.mono ?_; rintro e w' ⟨rfl, rfl⟩) | (go_at_call 54; refine CM.out.mono ?_; rintro e w' ⟨rfl, rfl⟩)
  refine bodyPost_ret (v := .tuple #[.pointer none, .int .i64 1]) (by simp [results, Tryz.f58, go_sem]) rfl ?_
  exact ⟨rfl, rfl⟩
theorem B_user {u : ByteArray} (h : 1 ≤ u.size ∧ u.size ≤ 20) : (decide (1 ≤ u.size) && decide (u.size ≤ 20)) = true := by simp [h.1, h.2]
theorem B_name {u : ByteArray} (h : 1 ≤ u.size ∧ u.size ≤ 30) : (decide (1 ≤ u.size) && decide (u.size ≤ 30)) = true := by simp [h.1, h.2]
theorem found_none (sb mb : Nat) (D : DataW Unit) (u n : ByteArray) (W : World) (V : View W sb mb D u n) (hD : D.atKey (.string n.data.toList) .nil = .nil) :
    Calls Tryz.prog 58 #[.pointer (some ⟨sb, 0, none⟩), .string u, .string n] W fun e w' => e = .returned (.tuple #[.pointer none, .int .i64 3]) ∧ W = w' := by
  have hkey := key_of V.hn.2
  obtain ⟨v, ps, hrun, hv⟩ := V.M.lookup law9 Tryz.underlying41 (zeroP _) (zd := .nil) (zp := []) rfl hkey
  rw [hD] at hv
  obtain rfl := Rp_nil hv
  have c0 := V.c0
  have HN := Aside0.mk (no_live sb mb W c0)
  have CU := Aside0.mk (user_c u W)
  have CN := Aside0.mk (name_c n W)
  rw [B_user V.hu] at CU
  rw [B_name V.hn] at CN
  clear hv V hD
  go_enter Tryz.func58, Tryz.ntmps58
  go_wp2_with first | (go_at_call 44; refine HN.out.mono ?_; rintro e w' ⟨rfl, rfl⟩) | (go_at_call 53; refine CU.out.mono ?_; rintro e w' ⟨rfl, rfl⟩) | (go_at_call 54; refine CN.out.mono ?_; rintro e w' ⟨rfl, rfl⟩)
  refine bodyPost_ret (v := .tuple #[.pointer none, .int .i64 3]) (by simp [results, Tryz.f58, go_sem]) rfl ?_
  exact ⟨rfl, rfl⟩
theorem View.found {sb mb fb : Nat} {D : DataW Unit} {u n : ByteArray} {W : World} (V : View W sb mb D u n) (hD : D.atKey (.string n.data.toList) .nil = .lit (.int .i64 (fb : Nat))) : FoundOk W (.pointer (some ⟨sb, 0, none⟩)) u n fb :=
  fun W' hb => have V' := V.below hb; found_c sb mb _ fb D u n W' V'.c0 V'.M V'.hu V'.hn hD
theorem opened_err (sp : Value) (u n : ByteArray) (action E : Int) (W : World) (HF : FoundErr W sp u n E) : OpenedErr W sp u n action E := by
  obtain ⟨hE, hf⟩ := HF
  refine ⟨hE, fun W' hb => ?_⟩
  have CF := Aside0.mk (hf W' hb)
  have hE' : (E == 0) = false := by simpa using hE
  have hE2 : (E != 0) = true := by simpa using hE
  clear hf hE hb
  go_enter Tryz.func63, Tryz.ntmps63
  go_wp2_with first | (go_at_call 58; refine CF.out.mono ?_; rintro e w' ⟨rfl, rfl⟩)
  go_ret3
  exact ⟨rfl, Below.refl _ _⟩
theorem opened_not (sp : Value) (u n : ByteArray) (action : Int) (W : World) (ok : Nat → Prop) (fb rc ub : Nat) (f : AF) (A : Option Addr) (uv : Value) (DU : DataW Unit) (HF : FoundOk W sp u n fb) (P : FileParts W ok fb f A rc uv ub DU) (hu : u.size ≤ 30) (hl : lookU f.users u = none) : OpenedErr W sp u n action 8 := by
  refine ⟨by decide, fun W' hb => ?_⟩
  have P' := P.below hb
  have hkey := key_of hu
  obtain ⟨v, ps, hrun, hv⟩ := P'.U.look_ok law9 Tryz.underlying88 (zeroO _) (zd := .agg [.lit (.int .i64 0), .lit (.int .i64 0)]) (zp := []) rfl hkey
  have hh : Maps.has DU (.string u.data.toList) = false := by rw [P'.mU.has, look_users, hl]; rfl
  rw [atKey_of_not_has hh] at hv
  obtain rfl := Ro_at hv
  rw [hh] at hrun
  have c9 : W'.cell? ⟨fb, 9, none⟩ = some (.map (some ub)) := (blk_cell P'.F 9).trans rfl
  have CF := Aside0.mk (HF W' hb)
  clear HF P P' hb hh hv hl
  go_enter Tryz.func63, Tryz.ntmps63
  go_wp2_with first | (go_at_call 58; refine CF.out.mono ?_; rintro e w' ⟨rfl, rfl⟩)
  go_ret3
  exact ⟨rfl, (Below.refl _ _).alloc (Nat.le_refl _) _⟩
def denied (a action : Int) : Int := if bits .and .i64 a action = 0 then 12 else 0
theorem opened_ok (sp : Value) (u n : ByteArray) (action : Int) (W : World) (ok : Nat → Prop) (fb rc ub : Nat) (f : AF) (A : Option Addr) (uv : Value) (DU : DataW Unit) (a b : Int) (HF : FoundOk W sp u n fb) (P : FileParts W ok fb f A rc uv ub DU) (hu : u.size ≤ 30) (hl : lookU f.users u = some (a, b)) : OpenedOk W sp u n action fb (denied a action) := by
  intro W' hb
  have P' := P.below hb
  have hkey := key_of hu
  obtain ⟨v, ps, hrun, hv⟩ := P'.U.look_ok law9 Tryz.underlying88 (zeroO _) (zd := .agg [.lit (.int .i64 0), .lit (.int .i64 0)]) (zp := []) rfl hkey
  have hh : Maps.has DU (.string u.data.toList) = true := by rw [P'.mU.has, look_users, hl]; rfl
  have hat : DU.atKey (.string u.data.toList) (.agg [.lit (.int .i64 0), .lit (.int .i64 0)]) = .agg [.lit (.int .i64 a), .lit (.int .i64 b)] := by rw [P'.mU.at_, look_users, hl]; rfl
  rw [hat] at hv
  obtain rfl := Ro_at hv
  rw [hh] at hrun
  have c9 : W'.cell? ⟨fb, 9, none⟩ = some (.map (some ub)) := (blk_cell P'.F 9).trans rfl
  have CF := Aside0.mk (HF W' hb)
  clear HF P P' hb hh hv hl hat
  unfold denied
  by_cases h0 : bits .and .i64 a action = 0
  · have h0' : (bits .and .i64 a action == 0) = true := by simpa using h0
    rw [if_pos h0]
    clear h0
    go_enter Tryz.func63, Tryz.ntmps63
    go_wp2_with first | (go_at_call 58; refine CF.out.mono ?_; rintro e w' ⟨rfl, rfl⟩)
    go_ret3
    exact ⟨rfl, (Below.refl _ _).alloc (Nat.le_refl _) _⟩
  · have h0' : (bits .and .i64 a action == 0) = false := by simpa using h0
    rw [if_neg h0]
    clear h0
    go_enter Tryz.func63, Tryz.ntmps63
    go_wp2_with first | (go_at_call 58; refine CF.out.mono ?_; rintro e w' ⟨rfl, rfl⟩)
    go_ret3
    exact ⟨rfl, (Below.refl _ _).alloc (Nat.le_refl _) _⟩
theorem unit_neg (sp : Value) (u n : ByteArray) (at_ action : Int) (W : World) (h : at_ < 0) : UnitErr W sp u n at_ action 1 := by
  refine ⟨by decide, fun W' hb => ?_⟩
  have h0 : decide (at_ < 0) = true := decide_eq_true h
  clear hb h
  go_enter Tryz.func69, Tryz.ntmps69
  go_wp2
  go_ret3
  exact ⟨_, rfl, Below.refl _ _⟩
theorem unit_err (sp : Value) (u n : ByteArray) (at_ action E : Int) (W : World) (h : 0 ≤ at_) (HO : OpenedErr W sp u n action E) : UnitErr W sp u n at_ action E := by
  obtain ⟨hE, ho⟩ := HO
  refine ⟨hE, fun W' hb => ?_⟩
  have h0 : decide (at_ < 0) = false := decide_eq_false (by omega)
  have hE' : (E == 0) = false := by simpa using hE
  have CO := Aside0.mk (ho W' hb)
  clear hb h ho hE
  go_enter Tryz.func69, Tryz.ntmps69
  go_wp2_with first | (go_at_call 63; refine CO.out.mono ?_; rintro e w2 ⟨rfl, hb2⟩)
  go_ret3
  exact ⟨_, rfl, hb2⟩
theorem unit_none (sp : Value) (u n : ByteArray) (at_ action dn : Int) (W : World) (ok : Nat → Prop) (fb rc ub : Nat) (f : AF) (A : Option Addr) (uv : Value) (DU : DataW Unit) (HO : OpenedOk W sp u n action fb dn) (P : FileParts W ok fb f A rc uv ub DU) (h : (f.units.length : Int) ≤ at_) : UnitErr W sp u n at_ action 3 := by
  refine ⟨by decide, fun W' hb => ?_⟩
  have P' := P.below hb
  obtain ⟨Au, cu, huv⟩ := Kd.R_slice P'.units
  have hlt := blk_lt P'.F
  have c8 : W'.cell? ⟨fb, 8, none⟩ = some (.slice Au f.units.length cu) := (blk_cell P'.F 8).trans (by rw [huv]; rfl)
  have h0 : decide (at_ < 0) = false := decide_eq_false (by omega)
  have h1 : decide ((f.units.length : Int) ≤ at_) = true := decide_eq_true h
  have CO := Aside0.mk (HO W' hb)
  clear hb h HO P P' huv
  go_enter Tryz.func69, Tryz.ntmps69
  go_wp2_with first | (go_at_call 63; refine CO.out.mono ?_; rintro e w2 ⟨rfl, hb2⟩; have d8 := (hb2.cell (p := ⟨fb, 8, none⟩) hlt).trans c8)
  go_ret3
  exact ⟨_, rfl, hb2⟩
theorem unit_ok (sp : Value) (u n : ByteArray) (at_ action dn : Int) (W : World) (ok : Nat → Prop) (fb rc ub : Nat) (f : AF) (A : Option Addr) (uv : Value) (DU : DataW Unit) (HO : OpenedOk W sp u n action fb dn) (P : FileParts W ok fb f A rc uv ub DU) (h0 : 0 ≤ at_) (h : at_ < (f.units.length : Int)) : UnitOk W sp u n at_ action fb dn := by
  intro W' hb
  have P' := P.below hb
  obtain ⟨Au, cu, huv⟩ := Kd.R_slice P'.units
  have hlt := blk_lt P'.F
  have c8 : W'.cell? ⟨fb, 8, none⟩ = some (.slice Au f.units.length cu) := (blk_cell P'.F 8).trans (by rw [huv]; rfl)
  have h0' : decide (at_ < 0) = false := decide_eq_false (by omega)
  have h1 : decide ((f.units.length : Int) ≤ at_) = false := decide_eq_false (by omega)
  have CO := Aside0.mk (HO W' hb)
  clear hb h h0 HO P P' huv
  go_enter Tryz.func69, Tryz.ntmps69
  go_wp2_with first | (go_at_call 63; refine CO.out.mono ?_; rintro e w2 ⟨rfl, hb2⟩; have d8 := (hb2.cell (p := ⟨fb, 8, none⟩) hlt).trans c8)
  go_ret3
  exact ⟨rfl, hb2⟩
end Go.Proofs.YtehlmkgldcfciaaGreat.Files
-- Written by this repo's wip/tools/myprint.py (the kit's print program, with contracts of our own beside). Lean checks it.
namespace Go.Proofs.YtehlmkgldcfciaaGreat.F
open Go.Proofs.YtehlmkgldcfciaaGreat.Common
open Go.RowKit Go.Proofs.YtehlmkgldcfciaaGreatW.PrintWords Go.Proofs.YtehlmkgldcfciaaGreatW.PrintLast Go.Proofs.YtehlmkgldcfciaaGreatW.PrintMore
set_option linter.unusedVariables false
set_option linter.unusedSimpArgs false
set_option maxHeartbeats 1000000 in
theorem files_Unit_50.raw (A0 : Option Addr) (c0 n0 : Nat) (css : List (List Value)) (w : World) (hr0 : Kd.C (Kd.raw 3) w A0 n0 css) (hl : n0 * 40 ≤ 140737488355328) :
    Calls Tryz.prog 50 #[.slice A0 n0 c0] w fun e w' => ∃ v : Value, e = .returned v ∧ Kd.R (Kd.raw 3) 29 w' w.heap.size (fun _ => True) v css ∧ Below w.heap.size w w' := by
  have HL := Aside0.mk hl
  cases A0 with
  | none =>
    have h0 : n0 = 0 := by
      rcases Nat.eq_zero_or_pos n0 with h | h
      · exact h
      · obtain ⟨ad, h2, _⟩ := hr0.2.2 h
        cases h2
    subst h0
    obtain rfl : css = [] := List.eq_nil_of_length_eq_zero hr0.1
    clear hr0 hl
    have hn : ∀ W : World, (binOp .eql 52 (.slice none 0 c0) (.slice none 0 0)).run Tryz.prog W = .ok (.bool true) W := fun W => Lib.run_eql_slice_nil W 52 29 none 0 c0 0 0 Tryz.underlying52
    go_enter Tryz.func50, Tryz.ntmps50
    go_wp2
    go_ret
    exact ⟨_, rfl, Kd.R_nil _ _ _ _ _, Below.refl _ _⟩
  | some ad =>
    have HR := Aside0.mk hr0
    clear hr0 hl
    have hn : ∀ W : World, (binOp .eql 52 (.slice (some ad) n0 c0) (.slice none 0 0)).run Tryz.prog W = .ok (.bool false) W := fun W => Lib.run_eql_slice_nil W 52 29 (some ad) n0 c0 0 0 Tryz.underlying52
    go_enter Tryz.func50, Tryz.ntmps50
    go_wp2_with (first | ((with_reducible refine gate_dst (N := 5) rfl ?_); refine Kd.R_lit (Kd.raw 3) w.heap.size 29 ?hg (N := 5) ?hd (xs := ([] : List (List Value))) (inner := []) (ok := fun _ => True) (okp := fun _ => True) ?hr ?hp (fun _ hk => hk) trivial (Below.refl _ _) (Nat.le_refl _) (by simp) ?_; (case hd => rfl); (case hg => rfl); (case hr => first | (go_simp; done) | (go_simp; rfl)); (case hp => exact (Reps.none _ _)); intro v1 w1 ho hb _ _; have HO := Aside0.mk ho; have HB := Aside0.mk hb; clear ho hb) | ((with_reducible refine gate_builtin (b := .append) (xs := #[.tmp 5, .tmp 6]) rfl ?_); at_builtin; refine Kd.R_append_rows (Kd.raw 3) (Rr := (Kd.raw 3).K w) (w0 := w) w.heap.size rfl (.tmp 5) (.tmp 6) 52 29 (.agg #[(.string ⟨#[]⟩), (.string ⟨#[]⟩), (.int .i64 0)]) 40 rfl Tryz.underlying52 info29 rfl (by decide) (by omega) v1 [] css _ _ _ (fun _ => True) (fun _ => False) rfl rfl HO.out (Kd.C_below HR.out HB.out) (fun _ _ h => h) (fun _ h => h.elim) (fun _ _ => trivial) HB.out HB.out.size (by have := HL.out; simp only [List.length_nil]; omega) ?_; intro v2 w2 ho hb _ _; have HO2 := Aside0.mk ho; have HB2 := Aside0.mk hb; clear ho hb))
    go_ret
    exact ⟨v2, rfl, HO2.out, HB2.out⟩
end Go.Proofs.YtehlmkgldcfciaaGreat.F
/- The file store: Read. -/
set_option linter.unusedVariables false
set_option linter.unusedSimpArgs false
namespace Go.Proofs.YtehlmkgldcfciaaGreat.Files
open Go.Proofs.YtehlmkgldcfciaaGreat.Common Go.Maps Go.ChangeMaps Go.WideMaps Go.Proofs.YtehlmkgldcfciaaGreat.F
open Go.RowKit Go.Proofs.YtehlmkgldcfciaaGreatW.PrintWords Go.Proofs.YtehlmkgldcfciaaGreatW.PrintLast Go.Proofs.YtehlmkgldcfciaaGreatW.PrintMore
theorem R_of_uRow' {W : World} {base : Nat} {ok : Nat → Prop} {v : Value} {l : List S29} (h : W.ownsRow base 29 3 v l.length (uRow l)) (h0 : ∀ k, v.ownBlock = some k → ok k) : Kd.R k29 29 W base ok v l := by
  refine ⟨h0, uRow l, h, h.1, fun j x hj => ?_⟩
  have e : ((uRow l).drop (j * 3)).take 3 = uCells x := flat_at (css := l.map uCells) (fun c hc => by obtain ⟨y, _, rfl⟩ := List.mem_map.1 hc; rfl) (by rw [List.getElem?_map, hj]; rfl)
  show k29.M W base _ x (((uRow l).drop (j * 3)).take 3)
  rw [e]
  exact k29_mkM _ _ _ x
theorem uRow_set : ∀ (l : List S29) (i j : Nat) (x' : S29) (u : Value), i < l.length → j < 3 → (uCells (rd_T29 l (i : Int))).set j u = uCells x' → uRow (l.set i x') = (uRow l).set (i * 3 + j) u
  | [], i, j, x', u, h, _, _ => by simp at h
  | x :: r, 0, j, x', u, h, hj, hc => by
    have hc' : (uCells x).set j u = uCells x' := hc
    show uCells x' ++ uRow r = (uCells x ++ uRow r).set (0 * 3 + j) u
    rw [Nat.zero_mul, Nat.zero_add, List.set_append_left _ _ (by exact hj), hc']
  | x :: r, i + 1, j, x', u, h, hj, hc => by
    have e : rd_T29 (x :: r) ((i + 1 : Nat) : Int) = rd_T29 r (i : Int) := by simp [rd_T29]
    rw [e] at hc
    have ih := uRow_set r i j x' u (by simpa using h) hj hc
    show uCells x ++ uRow (r.set i x') = (uCells x ++ uRow r).set ((i + 1) * 3 + j) u
    rw [ih, List.set_append_right _ _ (by show 3 ≤ _; omega)]
    congr 1
    show _ = (uRow r).set ((i + 1) * 3 + j - 3) u
    rw [show (i + 1) * 3 + j - 3 = i * 3 + j by omega]
theorem units_set {W : World} {base g n cap : Nat} {ok : Nat → Prop} {l : List S29} (h : Kd.R k29 29 W base ok (.slice (some ⟨g, 0, none⟩) n cap) l) (i j : Nat) (x' : S29) (u : Value) (hi : i < l.length) (hj : j < 3) (hc : (uCells (rd_T29 l (i : Int))).set j u = uCells x') :
    Kd.R k29 29 (W.setCell ⟨g, i * 3 + j, none⟩ u) base ok (.slice (some ⟨g, 0, none⟩) n cap) (l.set i x') ∧ W.grownBy (W.setCell ⟨g, i * 3 + j, none⟩ u) (some g) := by
  have h0 := h.1
  have ho := uRow_of_R h
  obtain ⟨hn, _⟩ := Kd.R_reads' h
  subst hn
  obtain ⟨h1, h2⟩ := ho.stored (i * 3 + j) u
  refine ⟨R_of_uRow' ?_ h0, h2⟩
  rw [List.length_set, uRow_set l i j x' u hi hj hc]
  exact h1
theorem units_slice {W : World} {base : Nat} {ok : Nat → Prop} {v : Value} {l : List S29} (h : Kd.R k29 29 W base ok v l) (hn : 0 < l.length) : ∃ g c, v = .slice (some ⟨g, 0, none⟩) l.length c ∧ l.length ≤ c ∧ c ≤ 9223372036854775807 := by
  rcases (uRow_of_R h).2 with ⟨_, h0⟩ | ⟨g, cap, cur, hv, _, _, hnc, hcm, _⟩
  · omega
  · exact ⟨g, cap, hv, hnc, hcm⟩
theorem units_sub {W : World} {g i j : Nat} {l : List S29} (h : Kd.C k29 W (some ⟨g, 0, none⟩) l.length l) (hij : i ≤ j) (hj : j ≤ l.length) : Kd.C (Kd.raw 3) W (some ⟨g, i * 3, none⟩) (j - i) (((l.take j).drop i).map uCells) := by
  have hlen : (((l.take j).drop i).map uCells).length = j - i := by simp [Nat.min_eq_left hj]
  refine ⟨hlen, by have := h.2.1; omega, fun hpos => ⟨_, rfl, fun q c hq => ?_⟩⟩
  obtain ⟨ad, he, hc⟩ := h.2.2 (by omega)
  cases he
  rw [List.getElem?_map] at hq
  obtain ⟨x, hx, rfl⟩ := Option.map_eq_some_iff.1 hq
  have hx' : l[i + q]? = some x := by
    rw [List.getElem?_drop, List.getElem?_take] at hx
    split at hx
    · exact hx
    · cases hx
  obtain ⟨c, hcl, hk, hu⟩ := hc (i + q) x hx'
  obtain rfl := k29_open hk
  refine ⟨_, rfl, ⟨rfl, rfl, fun u hu' => Kd.K_one k29 (k29_mk W x) u hu'⟩, fun t u ht => ?_⟩
  have := hu t u ht
  rw [add_plain] at this
  rw [Addr.add_lit]
  rw [show i * 3 + (q * (Kd.raw 3).sz + t) = (i + q) * k29.sz + t by show i * 3 + (q * 3 + t) = (i + q) * 3 + t; omega]
  exact this
theorem units_of_raw {W : World} {base : Nat} {ok : Nat → Prop} {v : Value} {l : List S29} (h : (Kd.raw 3).R 29 W base ok v (l.map uCells)) : Kd.R k29 29 W base ok v l := by
  obtain ⟨h0, ho, _⟩ := raw_flat h
  rw [List.length_map] at ho
  exact R_of_uRow' ho h0
theorem blk_map_ne {W : World} {fb b k n t : Nat} {cs : Array Value} {R : Value → Option (DataW Unit × List MemPlace)} {D : DataW Unit} (h : W.heap[fb]? = some (.cells cs t (0, 0))) (ho : W.ownsMap Tryz.prog k R b n D) : b ≠ fb := by
  rintro rfl
  obtain ⟨es, clock, hb, _⟩ := ho
  rw [h] at hb
  cases hb
theorem FileParts.set {W : World} {ok : Nat → Prop} {fb rc ub : Nat} {f : AF} {A : Option Addr} {uv : Value} {DU : DataW Unit} (h : FileParts W ok fb f A rc uv ub DU) (i : Nat) (v : Value) {F' : FS} (hc : (f.F.cells (.slice A f.rules.length rc) uv ub).setIfInBounds i v = F'.cells (.slice A f.rules.length rc) uv ub) :
    FileParts (W.setCell ⟨fb, i, none⟩ v) ok fb { f with F := F' } A rc uv ub DU :=
  ⟨h.okb, file_set h.F i v hc, Kd.R_set h.rules h.F (by decide) i v, Kd.R_set h.units h.F (by decide) i v, h.oku, h.U.setCell (a := ⟨fb, i, none⟩) (blk_map_ne h.F h.U) v, h.mU⟩
theorem FileParts.bound {W : World} {ok : Nat → Prop} {fb rc ub : Nat} {f : AF} {A : Option Addr} {uv : Value} {DU : DataW Unit} (h : FileParts W ok fb f A rc uv ub DU) : FileParts W (fun k => ok k ∧ k < W.heap.size) fb f A rc uv ub DU :=
  ⟨⟨h.okb, blk_lt h.F⟩, h.F, Kd.R_mono (Kd.R_bound h.rules) (fun k hk => ⟨hk.1, hk.2.2.1⟩), Kd.R_mono (Kd.R_bound h.units) (fun k hk => ⟨hk.1, hk.2.2.1⟩), ⟨h.oku, h.U.lt⟩, h.U, h.mU⟩
theorem FileParts.far {W1 w' : World} {ok : Nat → Prop} {B fb rc ub : Nat} {f : AF} {A : Option Addr} {uv : Value} {DU : DataW Unit} (h : FileParts W1 (fun k => ok k ∧ k < B) fb f A rc uv ub DU) (hb : Below B W1 w') : FileParts w' ok fb f A rc uv ub DU :=
  (h.step (S := fun k => B ≤ k) ⟨hb.os, hb.tape, hb.output, hb.size, fun k _ hs => hb.block k (by omega)⟩ (fun k hk => by omega)).mono (fun k hk => hk.1)
def lower (b : Int) (x : S29) : S29 := ⟨x.f0, x.f1, wrap64 (x.f2 - b)⟩
def readL (l : List S29) (i : Nat) (whole : Bool) : List S29 := ((l.take (if whole then endOf l i else i + 1)).drop i).map (lower (lv l i))
theorem Read_err (sp : Value) (u n : ByteArray) (at_ E : Int) (whole : Bool) (W : World) (HU : UnitErr W sp u n at_ 1 E) :
    Calls Tryz.prog 26 #[sp, .string u, .string n, .int .i64 at_, .bool whole] W fun e w' => e = .returned (.tuple #[.slice none 0 0, .int .i64 E]) ∧ Below W.heap.size W w' := by
  obtain ⟨hE, hu⟩ := HU
  have hE' : (E == 0) = false := by simpa using hE
  have CU := Aside0.mk (hu W (Below.refl _ _))
  clear hu hE
  go_enter Tryz.func26, Tryz.ntmps26
  go_wp2_with first | (go_at_call 69; refine CU.out.mono ?_; rintro e w2 ⟨dn, rfl, hb2⟩)
  refine bodyPost_ret (v := .tuple #[.slice none 0 0, .int .i64 E]) (by simp [results, Tryz.f26, go_sem]) rfl ?_
  exact ⟨rfl, hb2⟩
theorem Read_denied (sp : Value) (u n : ByteArray) (at_ : Int) (fb : Nat) (whole : Bool) (W : World) (HU : UnitOk W sp u n at_ 1 fb 12) :
    Calls Tryz.prog 26 #[sp, .string u, .string n, .int .i64 at_, .bool whole] W fun e w' => e = .returned (.tuple #[.slice none 0 0, .int .i64 12]) ∧ Below W.heap.size W w' := by
  have CU := Aside0.mk (HU W (Below.refl _ _))
  clear HU
  go_enter Tryz.func26, Tryz.ntmps26
  go_wp2_with first | (go_at_call 69; refine CU.out.mono ?_; rintro e w2 ⟨rfl, hb2⟩)
  refine bodyPost_ret (v := .tuple #[.slice none 0 0, .int .i64 12]) (by simp [results, Tryz.f26, go_sem]) rfl ?_
  exact ⟨rfl, hb2⟩
def adj (S : List S29) (b : Int) (k : Nat) : List S29 := (S.take k).map (lower b) ++ S.drop k
theorem adj_len (S : List S29) (b : Int) (k : Nat) : (adj S b k).length = S.length := by simp [adj]; omega
theorem adj_zero (S : List S29) (b : Int) : adj S b 0 = S := by simp [adj]
theorem adj_all (S : List S29) (b : Int) : adj S b S.length = S.map (lower b) := by simp [adj]
theorem adj_at (S : List S29) (b : Int) (k : Nat) (h : k < S.length) : rd_T29 (adj S b k) (k : Int) = rd_T29 S (k : Int) := by
  rw [rd_get _ _ (by rw [adj_len]; exact h), rd_get _ _ h]
  simp [adj, List.getElem_append, Nat.min_eq_left (Nat.le_of_lt h)]
theorem adj_succ (S : List S29) (b : Int) (k : Nat) (h : k < S.length) : (adj S b k).set k (lower b (rd_T29 S (k : Int))) = adj S b (k + 1) := by
  unfold adj
  have hl : ((S.take k).map (lower b)).length = k := by simp [Nat.min_eq_left (Nat.le_of_lt h)]
  rw [List.set_append_right _ _ (by omega), hl, Nat.sub_self, drop_at S k h, List.set_cons_zero, List.take_succ_eq_append_getElem h, List.map_append, List.append_assoc, ← rd_get S k h]
  all_goals rfl
def AF.read (f : AF) : AF := { f with F := { f.F with rd := wrap64 (f.F.rd + 1) } }
def ReadEnd (W : World) (ok : Nat → Prop) (fb rc ub : Nat) (f : AF) (A : Option Addr) (uv : Value) (DU : DataW Unit) (l : List S29) (e : Ending) (w' : World) : Prop :=
  ∃ v, e = .returned (.tuple #[v, .int .i64 0]) ∧ Kd.R k29 29 w' W.heap.size (fun _ => True) v l ∧ FileParts w' ok fb f.read A rc uv ub DU ∧ Chg W w' (fun k => k = fb)
set_option maxRecDepth 100000 in
set_option maxHeartbeats 2000000 in
theorem Read_ok (sp : Value) (u n : ByteArray) (i fb rc ub : Nat) (whole : Bool) (f : AF) (A : Option Addr) (uv : Value) (DU : DataW Unit) (ok : Nat → Prop) (W : World) (HU : UnitOk W sp u n (i : Int) 1 fb 0) (P : FileParts W ok fb f A rc uv ub DU)
    (hi : i < f.units.length) (hl : f.units.length ≤ 1000) :
    Calls Tryz.prog 26 #[sp, .string u, .string n, .int .i64 (i : Int), .bool whole] W (ReadEnd W ok fb rc ub f A uv DU (readL f.units i whole)) := by
  have CU := Aside0.mk (HU W (Below.refl _ _))
  have HP := Aside0.mk P
  have hfl := blk_lt P.F
  clear HU P
  go_enter Tryz.func26, Tryz.ntmps26
  go_wp2_with fail
  refine CU.out.mono ?_
  rintro e w2 ⟨rfl, hb2⟩
  have P2 := HP.out.below hb2
  obtain ⟨g, cu, huv, hlc, hcm⟩ := units_slice P2.units (by omega)
  subst huv
  have c6 : w2.cell? ⟨fb, 6, none⟩ = some (.int .i64 f.F.rd) := (blk_cell P2.F 6).trans rfl
  have f6 := blk_frozen P2.F 6
  have c8 : w2.cell? ⟨fb, 8, none⟩ = some (.slice (some ⟨g, 0, none⟩) f.units.length cu) := (blk_cell P2.F 8).trans rfl
  have P1 : FileParts (w2.setCell ⟨fb, 6, none⟩ (.int .i64 (wrap64 (f.F.rd + 1)))) ok fb f.read A rc (.slice (some ⟨g, 0, none⟩) f.units.length cu) ub DU := P2.set 6 _ rfl
  have HP1 := Aside0.mk P1
  have HB2 := Aside0.mk hb2
  have hR1 : Kd.C k29 (w2.setCell ⟨fb, 6, none⟩ (.int .i64 (wrap64 (f.F.rd + 1)))) (some ⟨g, 0, none⟩) f.units.length f.units := (Kd.R_reads' P1.units).2.2
  have CB := Aside0.mk (beyond_c (some ⟨g, 0, none⟩) cu i f.units _ hR1 hlc hi)
  have HS := Aside0.mk (fun j (h1 : i ≤ j) (h2 : j ≤ f.units.length) => units_sub hR1 h1 h2)
  obtain ⟨he1, he2⟩ := endOf_le hi
  have hne : ¬ cu = i := by omega
  have hic : i ≤ cu := by omega
  clear P1 P2 hb2 hR1
  have hgl : g < W.heap.size := own_lt (uRow_of_R HP.out.units) g rfl
  have P1b : FileParts (w2.setCell ⟨fb, 6, none⟩ (.int .i64 (wrap64 (f.F.rd + 1)))) (fun k => ok k ∧ k < W.heap.size) fb f.read A rc (.slice (some ⟨g, 0, none⟩) f.units.length cu) ub DU := (HP.out.bound.below HB2.out).set 6 _ rfl
  have HP1b := Aside0.mk P1b
  have HC8 := Aside0.mk (show (w2.setCell ⟨fb, 6, none⟩ (.int .i64 (wrap64 (f.F.rd + 1)))).cell? ⟨fb, 8, none⟩ = some (.slice (some ⟨g, 0, none⟩) f.units.length cu) from (blk_cell P1b.F 8).trans rfl)
  have HXA := Aside0.mk (show (w2.setCell ⟨fb, 6, none⟩ (.int .i64 (wrap64 (f.F.rd + 1)))).cell? ⟨g, i * 3 + 2, none⟩ = some (.int .i64 (lv f.units i)) by
    obtain ⟨_, _, hC⟩ := Kd.R_reads' P1b.units
    obtain ⟨ad, he, _, _, h3⟩ := at_T29 (xs := f.units) hC (i : Int) (by omega) (by omega)
    cases he
    rw [Int.toNat_natCast, add_plain] at h3
    exact h3)
  clear P1b HP1
  cases whole with
  | true =>
    have h1 : i ≤ endOf f.units i := by omega
    have h2 : endOf f.units i ≤ cu := by omega
    have h1z : (i : Int) ≤ (endOf f.units i : Int) := by omega
    have h2z : (endOf f.units i : Int) ≤ (cu : Int) := by omega
    go_wp2_with fail
    refine CB.out.mono ?_
    rintro e w3 ⟨rfl, ⟨m, rfl⟩⟩
    go_wp2_with fail
    refine ((files_Unit_50.raw _ _ _ _ _ (Kd.C_below (HS.out (endOf f.units i) h1 he2) (pw_below_drewN (Below.refl _ _) m)) (by omega)).mono ?_)
    rintro e w4 ⟨v, rfl, hr4, hb4⟩
    generalize hS : (f.units.take (endOf f.units i)).drop i = S at hr4
    have hSl : S.length = (endOf f.units i) - i := by rw [← hS]; simp; omega
    have hS0 : 0 < S.length := by omega
    have HSL := Lib.hid hSl
    have hSm : S.length ≤ 1000 := by omega
    clear hSl
    have hread : readL f.units i true = S.map (lower (lv f.units i)) := by unfold readL; rw [← hS]; rfl
    have HREAD := Lib.hid hread
    clear hread hS
    have hr4' := units_of_raw hr4
    obtain ⟨g2, c2, rfl, hc2, hc2m⟩ := units_slice hr4' hS0
    have hb14 := (pw_below_drewN (Below.refl _ _) m).trans hb4 |>.mono (by have := HB2.out.size; simpa using this)
    have HR4 := Aside0.mk (Kd.R_lower hr4' (by have := HB2.out.size; simpa using this))
    have HB14 := Aside0.mk hb14
    clear hr4 hr4' hb4 hb14
    go_wp2_with fail
    go_loopw [61] (fun s wr => ∃ k : Nat, k ≤ S.length ∧ s = .int .i64 k ∧ Aside0 (Kd.R k29 29 wr W.heap.size (fun _ => True) (.slice (some ⟨g2, 0, none⟩) S.length c2) (adj S (lv f.units i) k)) ∧ Aside0 (Below W.heap.size (w2.setCell ⟨fb, 6, none⟩ (.int .i64 (wrap64 (f.F.rd + 1)))) wr)) (fun s _ => S.length - (intOf s).toNat)
    case atStart => exact ⟨0, Nat.zero_le _, rfl, ⟨by rw [adj_zero]; exact HR4.out⟩, HB14⟩
    case round =>
      clear HR4 HB14
      obtain ⟨k, hk, rfl, HR, HB⟩ := hrel
      by_cases hlt : k < S.length
      · have hltz : (k : Int) < (S.length : Int) := by omega
        have d8 : wr.cell? ⟨fb, 8, none⟩ = some (.slice (some ⟨g, 0, none⟩) f.units.length cu) := (HB.out.cell (p := ⟨fb, 8, none⟩) hfl).trans HC8.out
        have xa : wr.cell? ⟨g, i * 3 + 2, none⟩ = some (.int .i64 (lv f.units i)) := (HB.out.cell (p := ⟨g, i * 3 + 2, none⟩) hgl).trans HXA.out
        have xk : wr.cell? ⟨g2, k * 3 + 2, none⟩ = some (.int .i64 (rd_T29 S (k : Int)).f2) := by
          obtain ⟨_, _, hC⟩ := Kd.R_reads' HR.out
          obtain ⟨ad, he, _, _, h3⟩ := at_T29 hC (k : Int) (by omega) (by rw [adj_len]; omega)
          cases he
          rw [adj_at S _ k hlt, Int.toNat_natCast, add_plain] at h3
          exact h3
        have fk : wr.frozen? ⟨g2, k * 3 + 2, none⟩ = false := by
          obtain ⟨cells, hc⟩ := own_typed (uRow_of_R HR.out) g2 rfl
          exact blk_frozen hc _
        have hic2 : decide ((i : Int) < 0) = false := decide_eq_false (by omega)
        have hiz : (i : Int) < (f.units.length : Int) := by omega
        have HW := Aside0.mk (units_set HR.out k 2 (lower (lv f.units i) (rd_T29 S (k : Int))) (.int .i64 (wrap64 ((rd_T29 S (k : Int)).f2 - lv f.units i))) (by rw [adj_len]; exact hlt) (by decide) (by rw [adj_at S _ k hlt]; rfl))
        have hg2 : W.heap.size ≤ g2 := (own_base (uRow_of_R HR.out) g2 rfl)
        have HN := Aside0.mk (adj_succ S (lv f.units i) k hlt)
        go_wp2_with fail
        go_region
        go_wp2_with fail
        go_roundw
        case rel => exact ⟨k + 1, by omega, by go_num, ⟨by rw [← HN.out]; exact Kd.R_drew HW.out.1⟩, ⟨(HB.out.setCell (p := ⟨g2, k * 3 + 2, none⟩) hg2 _).drew⟩⟩
        case measure => simp [intOf]; omega
      · have hltz : ¬ (k : Int) < (S.length : Int) := by omega
        obtain rfl : k = S.length := by omega
        clear hlt
        go_wp2
        refine bodyPost_ret (v := .tuple #[.slice (some ⟨g2, 0, none⟩) S.length c2, .int .i64 0]) (by simp [results, Tryz.f26, go_sem]) rfl ?_
        have hbw := HB.out
        exact ⟨_, rfl, by rw [HREAD.out, ← adj_all]; exact HR.out, HP1b.out.far hbw, ⟨hbw.os.trans HB2.out.os, hbw.tape.trans HB2.out.tape, hbw.output.trans HB2.out.output, Nat.le_trans HB2.out.size (by have := hbw.size; simpa [World.setCell] using this), fun q hq hne2 => (hbw.block q hq).trans ((Below.heap_setCell _ _ _ _ hne2).trans (HB2.out.block q hq))⟩⟩
  | false =>
    have h1 : i ≤ i + 1 := by omega
    have h2 : i + 1 ≤ cu := by omega
    have h1z : (i : Int) ≤ (i : Int) + 1 := by omega
    have h2z : (i : Int) + 1 ≤ (cu : Int) := by omega
    have HS1 := Aside0.mk (show Kd.C (Kd.raw 3) (w2.setCell ⟨fb, 6, none⟩ (.int .i64 (wrap64 (f.F.rd + 1)))) (some ⟨g, i * 3, none⟩) 1 (((f.units.take (i + 1)).drop i).map uCells) by have := HS.out (i + 1) h1 (by omega); rwa [show i + 1 - i = 1 by omega] at this)
    go_wp2_with fail
    refine ((files_Unit_50.raw _ _ _ _ _ HS1.out (by omega)).mono ?_)
    rintro e w4 ⟨v, rfl, hr4, hb4⟩
    generalize hS : (f.units.take (i + 1)).drop i = S at hr4
    have hSl : S.length = 1 := by rw [← hS]; simp; omega
    have hS0 : 0 < S.length := by omega
    have HSL := Lib.hid hSl
    have hSm : S.length ≤ 1000 := by omega
    clear hSl
    have hread : readL f.units i false = S.map (lower (lv f.units i)) := by unfold readL; rw [← hS]; rfl
    have HREAD := Lib.hid hread
    clear hread hS
    have hr4' := units_of_raw hr4
    obtain ⟨g2, c2, rfl, hc2, hc2m⟩ := units_slice hr4' hS0
    have hb14 := hb4.mono (by have := HB2.out.size; simpa using this)
    have HR4 := Aside0.mk (Kd.R_lower hr4' (by have := HB2.out.size; simpa using this))
    have HB14 := Aside0.mk hb14
    clear hr4 hr4' hb4 hb14
    go_wp2_with fail
    go_loopw [61] (fun s wr => ∃ k : Nat, k ≤ S.length ∧ s = .int .i64 k ∧ Aside0 (Kd.R k29 29 wr W.heap.size (fun _ => True) (.slice (some ⟨g2, 0, none⟩) S.length c2) (adj S (lv f.units i) k)) ∧ Aside0 (Below W.heap.size (w2.setCell ⟨fb, 6, none⟩ (.int .i64 (wrap64 (f.F.rd + 1)))) wr)) (fun s _ => S.length - (intOf s).toNat)
    case atStart => exact ⟨0, Nat.zero_le _, rfl, ⟨by rw [adj_zero]; exact HR4.out⟩, HB14⟩
    case round =>
      clear HR4 HB14
      obtain ⟨k, hk, rfl, HR, HB⟩ := hrel
      by_cases hlt : k < S.length
      · have hltz : (k : Int) < (S.length : Int) := by omega
        have d8 : wr.cell? ⟨fb, 8, none⟩ = some (.slice (some ⟨g, 0, none⟩) f.units.length cu) := (HB.out.cell (p := ⟨fb, 8, none⟩) hfl).trans HC8.out
        have xa : wr.cell? ⟨g, i * 3 + 2, none⟩ = some (.int .i64 (lv f.units i)) := (HB.out.cell (p := ⟨g, i * 3 + 2, none⟩) hgl).trans HXA.out
        have xk : wr.cell? ⟨g2, k * 3 + 2, none⟩ = some (.int .i64 (rd_T29 S (k : Int)).f2) := by
          obtain ⟨_, _, hC⟩ := Kd.R_reads' HR.out
          obtain ⟨ad, he, _, _, h3⟩ := at_T29 hC (k : Int) (by omega) (by rw [adj_len]; omega)
          cases he
          rw [adj_at S _ k hlt, Int.toNat_natCast, add_plain] at h3
          exact h3
        have fk : wr.frozen? ⟨g2, k * 3 + 2, none⟩ = false := by
          obtain ⟨cells, hc⟩ := own_typed (uRow_of_R HR.out) g2 rfl
          exact blk_frozen hc _
        have hic2 : decide ((i : Int) < 0) = false := decide_eq_false (by omega)
        have hiz : (i : Int) < (f.units.length : Int) := by omega
        have HW := Aside0.mk (units_set HR.out k 2 (lower (lv f.units i) (rd_T29 S (k : Int))) (.int .i64 (wrap64 ((rd_T29 S (k : Int)).f2 - lv f.units i))) (by rw [adj_len]; exact hlt) (by decide) (by rw [adj_at S _ k hlt]; rfl))
        have hg2 : W.heap.size ≤ g2 := (own_base (uRow_of_R HR.out) g2 rfl)
        have HN := Aside0.mk (adj_succ S (lv f.units i) k hlt)
        go_wp2_with fail
        go_region
        go_wp2_with fail
        go_roundw
        case rel => exact ⟨k + 1, by omega, by go_num, ⟨by rw [← HN.out]; exact Kd.R_drew HW.out.1⟩, ⟨(HB.out.setCell (p := ⟨g2, k * 3 + 2, none⟩) hg2 _).drew⟩⟩
        case measure => simp [intOf]; omega
      · have hltz : ¬ (k : Int) < (S.length : Int) := by omega
        obtain rfl : k = S.length := by omega
        clear hlt
        go_wp2
        refine bodyPost_ret (v := .tuple #[.slice (some ⟨g2, 0, none⟩) S.length c2, .int .i64 0]) (by simp [results, Tryz.f26, go_sem]) rfl ?_
        have hbw := HB.out
        exact ⟨_, rfl, by rw [HREAD.out, ← adj_all]; exact HR.out, HP1b.out.far hbw, ⟨hbw.os.trans HB2.out.os, hbw.tape.trans HB2.out.tape, hbw.output.trans HB2.out.output, Nat.le_trans HB2.out.size (by have := hbw.size; simpa [World.setCell] using this), fun q hq hne2 => (hbw.block q hq).trans ((Below.heap_setCell _ _ _ _ hne2).trans (HB2.out.block q hq))⟩⟩
end Go.Proofs.YtehlmkgldcfciaaGreat.Files
-- Written by this repo's wip/tools/myprint.py (the kit's print program, with contracts of our own beside). Lean checks it.
namespace Go.Proofs.YtehlmkgldcfciaaGreat.F
open Go.Proofs.YtehlmkgldcfciaaGreat.Common
open Go.RowKit Go.Proofs.YtehlmkgldcfciaaGreatW.PrintWords Go.Proofs.YtehlmkgldcfciaaGreatW.PrintLast Go.Proofs.YtehlmkgldcfciaaGreatW.PrintMore
set_option linter.unusedVariables false
set_option linter.unusedSimpArgs false
theorem files_Unit_72.cellsOf {w : World} {g : Nat} {x : List Value} {e : TypeId} (h : w.heap[g]? = some (.cells x.toArray e (0, 0))) : ∀ j u, x[j]? = some u → w.cell? ⟨g, j, none⟩ = some u := fun j u hu => by
  rw [blk_cell h j]
  simpa using hu
set_option maxHeartbeats 4000000 in
set_option maxRecDepth 100000 in
theorem files_Unit_72.room (g n cap i base vb vc : Nat) (ok : Nat → Prop) (css : List (List Value)) (x : List Value) (w : World) (hr0 : (Kd.raw 3).R 29 w base ok (.slice (some ⟨g, 0, none⟩) n cap) css) (hi : i < n) (hroom : n + 1 ≤ cap)
    (hv : w.heap[vb]? = some (.cells x.toArray 29 (0, 0))) (hx : x.length = 3) (h1x : ∀ u ∈ x, u.oneCell' = true) (hne : vb ≠ g) :
    Calls Tryz.prog 72 #[.slice (some ⟨g, 0, none⟩) n cap, .int .i64 (i : Int), .slice (some ⟨vb, 0, none⟩) 1 vc] w fun e w' => e = .returned (.slice (some ⟨g, 0, none⟩) (n + 1) cap) ∧
      (Kd.raw 3).R 29 w' base ok (.slice (some ⟨g, 0, none⟩) (n + 1) cap) (css.take i ++ x :: css.drop i) ∧ w.grownBy w' (some g) := by
  obtain ⟨hn, hnc, _⟩ := Kd.R_reads' hr0
  obtain ⟨h0, ho, hcs⟩ := raw_flat hr0
  subst hn
  have hlen : ∀ c ∈ css, c.length = 3 := fun c hc => (hcs c hc).1
  obtain ⟨i0, hi0, hz0⟩ := Option.map_eq_some_iff.1 info29
  simp only [Prod.mk.injEq] at hz0
  obtain ⟨_, hz1, _⟩ := hz0
  have hsz : (Tryz.prog.info? 29).map (·.size) = some 3 := by rw [hi0]; simp [hz1]
  obtain ⟨hT, hD, hS⟩ := ins_lens hlen (Nat.le_of_lt hi)
  obtain ⟨hgh, hcapm⟩ : (∃ cur, w.heap[g]? = some (.cells cur 29 (0, 0)) ∧ cur.size = cap * 3) ∧ cap ≤ 9223372036854775807 := by
    rcases ho.2 with ⟨h', _⟩ | ⟨g', cap', cur, hv, _, hh, _, hcm, hcz, _⟩
    · cases h'
    · injection hv with hv1 _ hv3
      injection hv1 with hv1
      injection hv1 with hv1
      subst hv1 hv3
      exact ⟨⟨cur, hh, hcz⟩, hcm⟩
  obtain ⟨cur, hgh, hcz⟩ := hgh
  obtain ⟨ys, hyl, hyt, hoy⟩ := own_more ho (Nat.le_succ css.length) hroom
  have hod : w.drew.ownsRow base 29 3 (.slice (some ⟨g, 0, none⟩) (css.length + 1) cap) (css.length + 1) ys := hoy
  have hcell : ∀ j u, ys[j]? = some u → w.drew.cell? ⟨g, j, none⟩ = some u := fun j u hu => by
    have := hod.cells (g := g) rfl j u hu
    rwa [add_plain] at this
  have hsome : ∀ j, j < (css.length + 1) * 3 → (w.drew.cell? ⟨g, j, none⟩).isSome = true := fun j hj => by
    rw [hcell j _ (List.getElem?_eq_getElem (by rw [hyl]; exact hj))]
    all_goals rfl
  have hfz : ∀ j, w.drew.frozen? ⟨g, j, none⟩ = false := fun j => blk_frozen (w := w.drew) (show w.drew.heap[g]? = some (.cells cur 29 (0, 0)) from hgh) j
  -- what is moved to the right
  obtain ⟨news, hnews⟩ : ∃ news, news = (css.drop i).flatten := ⟨_, rfl⟩
  have hone : ∀ u ∈ news, u.oneCell' = true := fun u hu => by
    rw [hnews] at hu
    obtain ⟨c, hc, hu⟩ := List.mem_flatten.1 hu
    exact (hcs c (List.mem_of_mem_drop hc)).2 u hu
  have hyd : ∀ j u, news[j]? = some u → ys[i * 3 + j]? = some u := fun j u hu => by
    have hlt : j < news.length := by
      rcases Nat.lt_or_ge j news.length with h | h
      · exact h
      · rw [List.getElem?_eq_none h] at hu
        cases hu
    have hf : css.flatten = (css.take i).flatten ++ news := by rw [hnews, ← List.flatten_append, List.take_append_drop]
    have h1 : css.flatten[i * 3 + j]? = some u := by rw [hf, List.getElem?_append_right (by omega), hT, Nat.add_sub_cancel_left]; exact hu
    rw [← hyt, List.getElem?_take] at h1
    split at h1
    · exact h1
    · cases h1
  have hcp1 : ∀ ty dc sc, (Builtin.copy_ #[52, 52] ty #[.slice (some ⟨g, (i + 1) * 3, none⟩) (css.length + 1 - (i + 1)) dc, .slice (some ⟨g, i * 3, none⟩) (css.length + 1 - i) sc]).run Tryz.prog w.drew = .ok (goInt ((css.length - i : Nat) : Int)) (w.drew.setCells g ((i + 1) * 3) news) := fun ty dc sc => by
    have hnl : news.length = (css.length - i) * 3 := by rw [hnews]; exact hD
    exact run_copy_sz w.drew _ _ ty 29 g ((i + 1) * 3) (css.length + 1 - (i + 1)) dc ⟨g, i * 3, none⟩ (css.length + 1 - i) sc 3 (css.length - i) news Tryz.underlying52 hsz (by simp only [Nat.min_def]; split <;> omega) hnl
      (fun j v hj => by rw [Addr.add_lit]; exact hcell _ _ (hyd j v hj))
      (fun j hj => hsome _ (by rw [hnl] at hj; rw [Nat.add_mul, Nat.one_mul]; omega)) (fun j hj => hfz _) hone
  obtain ⟨W1, hW1⟩ : ∃ W1, W1 = w.drew.setCells g ((i + 1) * 3) news := ⟨_, rfl⟩
  obtain ⟨ho1, hg1⟩ := own_setCells news ((i + 1) * 3) w.drew _ hod
  rw [← hW1] at hcp1 ho1 hg1
  have hsome1 : ∀ j, j < (css.length + 1) * 3 → (W1.cell? ⟨g, j, none⟩).isSome = true := fun j hj => by
    rw [hW1]
    exact setCells_some g _ _ _ (fun t ht => hsome _ (by rw [hnews, hD] at ht; rw [Nat.add_mul, Nat.one_mul]; omega)) _ (hsome j hj)
  have hcp2 : ∀ (W : World), (∀ a, W.cell? a = W1.cell? a) → (∀ a, W.frozen? a = W1.frozen? a) → ∀ ty dc, (Builtin.copy_ #[52, 52] ty #[.slice (some ⟨g, i * 3, none⟩) (css.length + 1 - i) dc, .slice (some ⟨vb, 0, none⟩) 1 vc]).run Tryz.prog W = .ok (goInt ((1 : Nat) : Int)) (W.setCells g (i * 3) x) := fun W hWc hWf ty dc =>
    run_copy_sz W _ _ ty 29 g (i * 3) (css.length + 1 - i) dc ⟨vb, 0, none⟩ 1 vc 3 1 x Tryz.underlying52 hsz (by simp only [Nat.min_def]; split <;> omega) (by rw [hx, Nat.one_mul])
      (fun j v hj => by
        rw [add_plain, hWc, hW1, World.cell?_setCells_out g _ _ _ _ (fun h _ => absurd h hne)]
        exact files_Unit_72.cellsOf hv j v hj)
      (fun j hj => by rw [hWc]; exact hsome1 _ (by rw [hx] at hj; omega)) (fun j hj => by rw [hWf, hW1, World.frozen?_setCells]; exact hfz _) h1x
  obtain ⟨ho2, hg2⟩ := own_setCells x (i * 3) W1 _ ho1
  have hins := insert_flat1 hlen (Nat.le_of_lt hi) hx hyl (by
    have := congrArg (List.take (i * 3)) hyt
    rw [List.take_take, Nat.min_eq_left (Nat.mul_le_mul_right _ (Nat.le_of_lt hi))] at this
    rw [this]
    have hf : css.flatten = (css.take i).flatten ++ (css.drop i).flatten := by rw [← List.flatten_append, List.take_append_drop]
    rw [hf, ← hT, List.take_left])
  rw [hnews, hins] at ho2
  have hfin : (Kd.raw 3).R 29 (W1.setCells g (i * 3) x) base ok (.slice (some ⟨g, 0, none⟩) (css.length + 1) cap) (css.take i ++ x :: css.drop i) := by
    have hl : (css.take i ++ x :: css.drop i).length = css.length + 1 := by
      simp only [List.length_append, List.length_cons, List.length_take, List.length_drop]
      omega
    refine flat_raw (fun k hk => h0 k (by simpa [Value.ownBlock] using hk)) (by rw [hl]; exact ho2) (fun c hc => ?_)
    rcases List.mem_append.1 hc with hc | hc
    · exact hcs c (List.mem_of_mem_take hc)
    · rcases List.mem_cons.1 hc with rfl | hc
      · exact ⟨hx, h1x⟩
      · exact hcs c (List.mem_of_mem_drop hc)
  have hgr : w.grownBy (W1.setCells g (i * 3) x) (some g) := (grown_of_below (below_drew (Below.refl _ _)) _).trans (hg1.trans hg2)
  have hov : ∀ lb cb, (callFunc 91 #[.slice (some ⟨vb, 0, none⟩) 1 vc, .slice (some ⟨g, (i + 1) * 3, none⟩) lb cb]).run Tryz.prog w = .ok (.value (.bool false)) w := fun lb cb => by
    rw [run_callFunc_extern Tryz.func91 (by kernel_rfl) (by kernel_rfl) (by kernel_rfl) (e := Extern.SlicesOverlaps.overlaps #[52, 52] #[4]) (by kernel_rfl),
      Lib.run_overlaps_apart w 52 4 29 Tryz.underlying52 3 (fun W => by simp [sizeOf, typeInfo, hi0, hz1]) ⟨vb, 0, none⟩ ⟨g, (i + 1) * 3, none⟩ 1 vc lb cb hne 29 29 3 (cap * 3) (by simp [World.shape?, hv, hx]) (by simp [World.shape?, hgh, hcz]) (by omega) (by simp [World.frozen?, hv]) (by simp [World.frozen?, hv])]
    rfl
  have HFIN := Aside0.mk hfin
  have HGR := Aside0.mk hgr
  have hz2 : ¬ ((i : Int) = (css.length : Int)) := by omega
  have hw1 : IntKind.i64.wrap ((i : Int) + 1) = (i : Int) + 1 := by rw [IntKind.wrap_i64]; omega
  have hw2 : IntKind.i64.wrap ((css.length : Int) + 1) = (css.length : Int) + 1 := by rw [IntKind.wrap_i64]; omega
  have hb0 : (0 : Int) ≤ (i : Int) + 1 := by omega
  have hb1 : (0 : Int) ≤ (css.length : Int) + 1 := by omega
  have hin : i ≤ css.length := by omega
  have htn : ((i : Int) + 1).toNat = i + 1 := by omega
  have htm : ((css.length : Int) + 1).toNat = css.length + 1 := by omega
  have hb2 : ¬ (cap = i + 1) := by omega
  have hb3 : (i : Int) ≤ (css.length : Int) + 1 := by omega
  have hb4 : ¬ (cap = i) := by omega
  have hb5 : ¬ ((cap : Int) < (css.length : Int) + 1) := by omega
  clear hfin hgr hcell hsome hfz hyd hone hod hoy ho1 hg1 ho2 hg2 hsome1 hins hT hD hS hcs hlen ho h0 hr0 hv hgh
  go_enter Tryz.func72, Tryz.ntmps72
  go_wp2_with (simp only [hov])
  go_region_law (refine copy_step rfl (.tmp 73) (.tmp 76) 52 52 rfl (.slice (some ⟨g, (i + 1) * 3, none⟩) (css.length + 1 - (i + 1)) (cap - (i + 1))) (.slice (some ⟨g, i * 3, none⟩) (css.length + 1 - i) (cap - i)) (by simp [Act.eval, Act.put]) (by simp [Act.eval, Act.put]) (hcp1 _ _ _) ?_)
  go_wp2_with (at_builtin; refine copy_list _ rfl _ _ 52 52 rfl _ _ rfl rfl (hcp2 _ (fun _ => rfl) (fun _ => rfl) _ _) ?_)
  go_ret
  subst hW1 hnews
  exact ⟨rfl, HFIN.out, HGR.out⟩
set_option maxHeartbeats 4000000 in
set_option maxRecDepth 100000 in
theorem files_Unit_72.grow (g n cap i base vb vc : Nat) (css : List (List Value)) (x : List Value) (w : World) (hr0 : (Kd.raw 3).R 29 w base (fun _ => True) (.slice (some ⟨g, 0, none⟩) n cap) css) (hi : i < n) (hroom : cap < n + 1) (hbig : (n + 1) * 40 ≤ 140737488355328) (hbase : base ≤ w.heap.size)
    (hv : w.heap[vb]? = some (.cells x.toArray 29 (0, 0))) (hx : x.length = 3) (h1x : ∀ u ∈ x, u.oneCell' = true) :
    Calls Tryz.prog 72 #[.slice (some ⟨g, 0, none⟩) n cap, .int .i64 (i : Int), .slice (some ⟨vb, 0, none⟩) 1 vc] w fun e w' => ∃ v, e = .returned v ∧ v.ownBlock = some w.heap.size ∧
      (Kd.raw 3).R 29 w' base (fun _ => True) v (css.take i ++ x :: css.drop i) ∧ Below w.heap.size w w' := by
  obtain ⟨hn, hnc, _⟩ := Kd.R_reads' hr0
  obtain ⟨h0, ho, hcs⟩ := raw_flat hr0
  subst hn
  have hlen : ∀ c ∈ css, c.length = 3 := fun c hc => (hcs c hc).1
  obtain ⟨i0, hi0, hz0⟩ := Option.map_eq_some_iff.1 info29
  simp only [Prod.mk.injEq] at hz0
  obtain ⟨hzz, hz1, hzb⟩ := hz0
  have hsz : (Tryz.prog.info? 29).map (·.size) = some 3 := by rw [hi0]; simp [hz1]
  obtain ⟨hT, hD, hS⟩ := ins_lens hlen (Nat.le_of_lt hi)
  have hcell : ∀ j u, css.flatten[j]? = some u → w.cell? ⟨g, j, none⟩ = some u := fun j u hu => by
    have := ho.cells (g := g) rfl j u hu
    rwa [add_plain] at this
  have hgw : g < w.heap.size := by
    rcases ho.2 with ⟨h', _⟩ | ⟨g', cap', cur, hv, _, hh, _⟩
    · cases h'
    · injection hv with hv1 _ _
      injection hv1 with hv1
      injection hv1 with hv1
      subst hv1
      exact blk_lt hh
  have hvw : vb < w.heap.size := blk_lt hv
  have hf : css.flatten = (css.take i).flatten ++ (css.drop i).flatten := by rw [← List.flatten_append, List.take_append_drop]
  have hbk : (css.length + 1) * 1 ≤ (css.length + 1) * 40 := Nat.mul_le_mul_left _ (by decide)
  have hik : i + (css.length + 1 - i) = css.length + 1 := by omega
  have hkk : (css.length : Int) + 1 - (i : Int) = ((css.length + 1 - i : Nat) : Int) := by omega
  have hold : (Builtin.firstCells i0.size i (.slice (some ⟨g, 0, none⟩) i cap)).run Tryz.prog w.drew = .ok (css.take i).flatten.toArray w.drew := by
    rw [hz1]
    exact run_firstCells_some w.drew 3 i ⟨g, 0, none⟩ i cap (css.take i).flatten hT (fun j u hj => by
      rw [add_plain]
      refine hcell j u ?_
      have hlt : j < (css.take i).flatten.length := by
        rcases Nat.lt_or_ge j (css.take i).flatten.length with h | h
        · exact h
        · rw [List.getElem?_eq_none h] at hj
          cases hj
      rw [hf, List.getElem?_append_left hlt]
      exact hj)
  have hrz : ∀ ty, (Builtin.append_ #[52, 3] ty #[.slice (some ⟨g, 0, none⟩) i cap, .int .i64 ((css.length : Int) + 1 - (i : Int))]).run Tryz.prog w =
      .ok (.slice (some ⟨w.heap.size, 0, none⟩) (css.length + 1) (grownCap w (css.length + 1) cap 29)) (w.drew.alloc (.cells ((css.take i).flatten.toArray ++ Builtin.zeroCells ((.agg #[(.string ⟨#[]⟩), (.string ⟨#[]⟩), (.int .i64 0)]) : Value).cells (css.length + 1 - i) ++ Builtin.zeroCells ((.agg #[(.string ⟨#[]⟩), (.string ⟨#[]⟩), (.int .i64 0)]) : Value).cells (grownCap w (css.length + 1) cap 29 - (css.length + 1))) 29)) := fun ty => by
    have h := Lib.run_append_grow_zeros w 52 3 ty 29 i0 _ .i64 .i64 Tryz.underlying52 Tryz.underlying3 hi0 hzz (some ⟨g, 0, none⟩) i cap (css.take i).flatten hold (css.length + 1 - i) (by omega) (by rw [hz1]; decide) (by omega) (by omega) (by rw [hzb]; omega) (by rw [hzb, hik]; exact growslice_fits (by omega) hbig)
    rw [hik] at h
    rw [hkk]
    exact h
  obtain ⟨G, hG⟩ : ∃ G, G = grownCap w (css.length + 1) cap 29 := ⟨_, rfl⟩
  have hGn : css.length + 1 ≤ G := by rw [hG]; exact grownCap_ge w _ _ _
  have hG63 : G ≤ 9223372036854775807 := by
    have := grownCap_le_maxLen w (css.length + 1) cap 29 (by unfold maxLen; omega)
    rw [← hG] at this
    unfold maxLen at this
    omega
  obtain ⟨ROW, hROW⟩ : ∃ ROW : Array Value, ROW = (css.take i).flatten.toArray ++ Builtin.zeroCells ((.agg #[(.string ⟨#[]⟩), (.string ⟨#[]⟩), (.int .i64 0)]) : Value).cells (css.length + 1 - i) ++ Builtin.zeroCells ((.agg #[(.string ⟨#[]⟩), (.string ⟨#[]⟩), (.int .i64 0)]) : Value).cells (G - (css.length + 1)) := ⟨_, rfl⟩
  rw [← hG] at hrz
  rw [← hROW] at hrz
  have hZ : ((.agg #[(.string ⟨#[]⟩), (.string ⟨#[]⟩), (.int .i64 0)]) : Value).cells.size = 3 := rfl
  have hRl : ROW.size = G * 3 := by
    rw [hROW]
    simp only [Array.size_append, List.size_toArray, hT, Builtin.zeroCells, Array.size_map, Array.size_range]
    rw [hZ]
    omega
  have hRt : ROW.toList.take (i * 3) = (css.take i).flatten := by
    rw [hROW]
    simp only [Array.toList_append, List.append_assoc]
    rw [← hT, List.take_left]
  obtain ⟨ys, hys⟩ : ∃ ys, ys = ROW.toList.take ((css.length + 1) * 3) := ⟨_, rfl⟩
  have hRL : ROW.toList.length = ROW.size := Array.length_toList
  have hyl : ys.length = (css.length + 1) * 3 := by rw [hys, List.length_take, hRL, hRl]; omega
  have hyt : ys.take (i * 3) = (css.take i).flatten := by rw [hys, List.take_take, Nat.min_eq_left (by omega)]; exact hRt
  obtain ⟨W1, hW1⟩ : ∃ W1, W1 = (w.alloc (.cells ROW 29)).drew := ⟨_, rfl⟩
  have hnew : W1.heap[w.heap.size]? = some (.cells ROW 29 (0, 0)) := by rw [hW1]; exact heap_alloc_new w _
  have ho1 : W1.ownsRow base 29 3 (.slice (some ⟨w.heap.size, 0, none⟩) (css.length + 1) G) (css.length + 1) ys :=
    ⟨hyl, .inr ⟨w.heap.size, G, ROW, rfl, hbase, hnew, hGn, hG63, hRl, hys.symm⟩⟩
  have hb1 : Below w.heap.size w W1 := by rw [hW1]; exact below_drew1 ((Below.refl _ _).alloc (Nat.le_refl _) _)
  have hN : ∀ j, j < (css.length + 1) * 3 → (W1.cell? ⟨w.heap.size, j, none⟩).isSome = true := fun j hj => by
    rw [blk_cell hnew j, Array.getElem?_eq_getElem (by rw [hRl]; omega)]
    all_goals rfl
  have hNf : ∀ j, W1.frozen? ⟨w.heap.size, j, none⟩ = false := fun j => blk_frozen hnew j
  have hcpA : ∀ (W : World), (∀ a, W.cell? a = W1.cell? a) → (∀ a, W.frozen? a = W1.frozen? a) → ∀ ty dc, (Builtin.copy_ #[52, 52] ty #[.slice (some ⟨w.heap.size, i * 3, none⟩) (css.length + 1 - i) dc, .slice (some ⟨vb, 0, none⟩) 1 vc]).run Tryz.prog W = .ok (goInt ((1 : Nat) : Int)) (W.setCells w.heap.size (i * 3) x) := fun W hWc hWf ty dc =>
    run_copy_sz W _ _ ty 29 w.heap.size (i * 3) (css.length + 1 - i) dc ⟨vb, 0, none⟩ 1 vc 3 1 x Tryz.underlying52 hsz (by simp only [Nat.min_def]; split <;> omega) (by rw [hx, Nat.one_mul])
      (fun j v hj => by
        rw [add_plain, hWc]
        exact pw_cell_below hb1 (files_Unit_72.cellsOf hv j v hj))
      (fun j hj => by rw [hWc]; exact hN _ (by rw [hx] at hj; omega)) (fun j hj => by rw [hWf]; exact hNf _) h1x
  obtain ⟨W2, hW2⟩ : ∃ W2, W2 = (W1.setCells w.heap.size (i * 3) x).drew := ⟨_, rfl⟩
  obtain ⟨ho2', hg2'⟩ := own_setCells x (i * 3) W1 _ ho1
  have ho2 : W2.ownsRow base 29 3 (.slice (some ⟨w.heap.size, 0, none⟩) (css.length + 1) G) (css.length + 1) (layV ys (i * 3) x) := by rw [hW2]; exact ho2'
  have hg2 : W1.grownBy W2 (some w.heap.size) := by rw [hW2]; exact hg2'.trans (grown_of_below (below_drew1 (Below.refl _ _)) _)
  have hb2 : Below w.heap.size w W2 := hb1.grown hg2 hb1.size (fun k hk => by injection hk with hk; omega)
  obtain ⟨news, hnews⟩ : ∃ news, news = (css.drop i).flatten := ⟨_, rfl⟩
  have hnl : news.length = (css.length - i) * 3 := by rw [hnews]; exact hD
  have hone : ∀ u ∈ news, u.oneCell' = true := fun u hu => by
    rw [hnews] at hu
    obtain ⟨c, hc, hu⟩ := List.mem_flatten.1 hu
    exact (hcs c (List.mem_of_mem_drop hc)).2 u hu
  have hcpB : ∀ ty dc sc, (Builtin.copy_ #[52, 52] ty #[.slice (some ⟨w.heap.size, (i + 1) * 3, none⟩) (css.length + 1 - (i + 1)) dc, .slice (some ⟨g, i * 3, none⟩) (css.length - i) sc]).run Tryz.prog W2 = .ok (goInt ((css.length - i : Nat) : Int)) (W2.setCells w.heap.size ((i + 1) * 3) news) := fun ty dc sc =>
    run_copy_sz W2 _ _ ty 29 w.heap.size ((i + 1) * 3) (css.length + 1 - (i + 1)) dc ⟨g, i * 3, none⟩ (css.length - i) sc 3 (css.length - i) news Tryz.underlying52 hsz (by simp only [Nat.min_def]; split <;> omega) hnl
      (fun j v hj => by
        rw [Addr.add_lit]
        refine pw_cell_below hb2 (hcell _ _ ?_)
        rw [hf, List.getElem?_append_right (by omega), hT, Nat.add_sub_cancel_left, ← hnews]
        exact hj)
      (fun j hj => by
        rw [hW2]
        exact setCells_some _ _ _ _ (fun t ht => hN _ (by rw [hx] at ht; omega)) _ (hN _ (by rw [hnl] at hj; rw [Nat.add_mul, Nat.one_mul]; omega)))
      (fun j hj => by
        rw [hW2]
        show (W1.setCells w.heap.size (i * 3) x).frozen? _ = false
        rw [World.frozen?_setCells]
        exact hNf _) hone
  obtain ⟨ho3, hg3⟩ := own_setCells news ((i + 1) * 3) W2 _ ho2
  have hins := insert_flat2 hlen (Nat.le_of_lt hi) hx hyl hyt
  rw [← hnews] at hins
  rw [hins] at ho3
  have hfin : (Kd.raw 3).R 29 (W2.setCells w.heap.size ((i + 1) * 3) news) base (fun _ => True) (.slice (some ⟨w.heap.size, 0, none⟩) (css.length + 1) G) (css.take i ++ x :: css.drop i) := by
    have hl : (css.take i ++ x :: css.drop i).length = css.length + 1 := by
      simp only [List.length_append, List.length_cons, List.length_take, List.length_drop]
      omega
    refine flat_raw (fun k hk => trivial) (by rw [hl]; exact ho3) (fun c hc => ?_)
    rcases List.mem_append.1 hc with hc | hc
    · exact hcs c (List.mem_of_mem_take hc)
    · rcases List.mem_cons.1 hc with rfl | hc
      · exact ⟨hx, h1x⟩
      · exact hcs c (List.mem_of_mem_drop hc)
  have HFIN := Aside0.mk hfin
  have HB3 := Aside0.mk (hb2.grown hg3 hb2.size (fun k hk => by injection hk with hk; omega))
  have HW1 := Aside0.mk hW1
  have HW2 := Aside0.mk hW2
  subst hW1
  have hE1 : ∀ a, ((w.alloc (.cells ROW 29)).drew).cell? a = (w.drew.alloc (.cells ROW 29)).cell? a := fun a => rfl
  have hE2 : ∀ a, ((w.alloc (.cells ROW 29)).drew).frozen? a = (w.drew.alloc (.cells ROW 29)).frozen? a := fun a => rfl
  have hz2 : ¬ ((i : Int) = (css.length : Int)) := by omega
  have hz3 : (cap : Int) < (css.length : Int) + 1 := by omega
  have hw1 : IntKind.i64.wrap ((i : Int) + 1) = (i : Int) + 1 := by rw [IntKind.wrap_i64]; omega
  have hw2 : IntKind.i64.wrap ((css.length : Int) + 1) = (css.length : Int) + 1 := by rw [IntKind.wrap_i64]; omega
  have hb0 : (0 : Int) ≤ (i : Int) + 1 := by omega
  have hb01 : (0 : Int) ≤ (css.length : Int) + 1 := by omega
  have hin : i ≤ css.length := by omega
  have htn : ((i : Int) + 1).toNat = i + 1 := by omega
  have htm : ((css.length : Int) + 1).toNat = css.length + 1 := by omega
  have hb3 : (i : Int) ≤ (css.length : Int) + 1 := by omega
  have hci : ¬ (cap = i) := by omega
  have hGi : ¬ (G = i) := by omega
  have hGim : ¬ (G = i + 1) := by omega
  clear hfin hcell hone ho1 ho2 ho3 hg2 hg3 hg2' ho2' hins hT hD hS hcs hlen ho h0 hr0 hv hgw hvw hf hbk hkk hold hN hNf hb1 hb2 hRl hRt hyl hyt hnew hys hik hROW hW2 hG hRL
  go_enter Tryz.func72, Tryz.ntmps72
  go_wp2_with (first
    | (at_builtin; refine Lib.wpList_append_run _ rfl _ _ _ _ rfl _ _ rfl rfl _ _ (hrz _) ?_)
    | (at_builtin; refine copy_list _ rfl _ _ 52 52 rfl _ _ rfl rfl (hcpA _ hE1 hE2 _ _) ?_))
  go_region_law (refine copy_step rfl (.tmp 50) (.tmp 53) 52 52 rfl (.slice (some ⟨w.heap.size, (i + 1) * 3, none⟩) (css.length + 1 - (i + 1)) (G - (i + 1))) (.slice (some ⟨g, i * 3, none⟩) (css.length - i) (cap - i)) (by simp [Act.eval, Act.put]) (by simp [Act.eval, Act.put]) (by rw [← HW2.out]; exact hcpB _ _ _) ?_)
  go_wp2
  go_ret
  subst hnews
  exact ⟨_, rfl, rfl, HFIN.out, HB3.out⟩
end Go.Proofs.YtehlmkgldcfciaaGreat.F
/- The file store: slices.Insert over units, told with the very block that is written. -/
set_option linter.unusedVariables false
set_option linter.unusedSimpArgs false
namespace Go.Proofs.YtehlmkgldcfciaaGreat.Files
open Go.Proofs.YtehlmkgldcfciaaGreat.Common Go.Maps Go.ChangeMaps Go.WideMaps Go.Proofs.YtehlmkgldcfciaaGreat.F
open Go.RowKit Go.Proofs.YtehlmkgldcfciaaGreatW.PrintWords Go.Proofs.YtehlmkgldcfciaaGreatW.PrintLast Go.Proofs.YtehlmkgldcfciaaGreatW.PrintMore
theorem raw_of_units {W : World} {base : Nat} {ok : Nat → Prop} {v : Value} {l : List S29} (h : Kd.R k29 29 W base ok v l) : (Kd.raw 3).R 29 W base ok v (l.map uCells) := by
  refine flat_raw h.1 ?_ (fun c hc => ?_)
  · rw [List.length_map]
    exact uRow_of_R h
  · obtain ⟨x, _, rfl⟩ := List.mem_map.1 hc
    exact ⟨rfl, fun u hu => Kd.K_one k29 (k29_mk W x) u hu⟩
theorem R_only {W : World} {base g n c : Nat} {ok : Nat → Prop} {l : List S29} (h : Kd.R k29 29 W base ok (.slice (some ⟨g, 0, none⟩) n c) l) : Kd.R k29 29 W base (fun k => k = g) (.slice (some ⟨g, 0, none⟩) n c) l := by
  obtain ⟨hn, _⟩ := Kd.R_reads' h
  subst hn
  refine R_of_uRow' (uRow_of_R h) (fun k hk => ?_)
  have : g = k := by simpa [Value.ownBlock] using hk
  exact this.symm
def InsOut (w : World) (g i : Nat) (l : List S29) (x : S29) (e : Ending) (w' : World) : Prop :=
  ∃ g' c', e = .returned (.slice (some ⟨g', 0, none⟩) (l.length + 1) c') ∧ Kd.R k29 29 w' 0 (fun k => k = g') (.slice (some ⟨g', 0, none⟩) (l.length + 1) c') (l.take i ++ x :: l.drop i) ∧ w.grownBy w' (some g) ∧ (g' = g ∨ w.heap.size ≤ g') ∧ l.length + 1 ≤ c'
theorem Ins_units (g cap i vb : Nat) (ok : Nat → Prop) (l : List S29) (x : S29) (w : World) (hR : Kd.R k29 29 w 0 ok (.slice (some ⟨g, 0, none⟩) l.length cap) l) (hi : i ≤ l.length) (hl : l.length ≤ 1000)
    (hv : w.heap[vb]? = some (.cells #[.string x.f0, .string x.f1, .int .i64 x.f2] 29 (0, 0))) (hne : vb ≠ g) :
    Calls Tryz.prog 72 #[.slice (some ⟨g, 0, none⟩) l.length cap, .int .i64 (i : Int), .slice (some ⟨vb, 0, none⟩) 1 1] w (InsOut w g i l x) := by
  have hraw := Kd.R_mono (raw_of_units hR) (fun _ _ => trivial) (ok' := fun _ => True)
  have hlen : (l.map uCells).length = l.length := List.length_map _
  have hcat : (l.map uCells).take i ++ uCells x :: (l.map uCells).drop i = (l.take i ++ x :: l.drop i).map uCells := by simp [List.map_take, List.map_drop]
  have hnl : (l.take i ++ x :: l.drop i).length = l.length + 1 := by simp; omega
  have hone : ∀ u ∈ uCells x, u.oneCell' = true := fun u hu => Kd.K_one k29 (k29_mk w x) u hu
  obtain ⟨_, hcap, _⟩ := Kd.R_reads' hR
  rcases Nat.lt_or_ge i l.length with hlt | hge
  · rcases Nat.lt_or_ge cap (l.length + 1) with hroom | hroom
    · refine (files_Unit_72.grow g l.length cap i 0 vb 1 (l.map uCells) (uCells x) w hraw hlt hroom (by omega) (Nat.zero_le _) hv rfl hone).mono ?_
      rintro e w' ⟨v, rfl, ho, h1, h2⟩
      rw [hcat] at h1
      have h3 := units_of_raw h1
      obtain ⟨g', c', rfl, hc', _⟩ := units_slice h3 (by omega)
      rw [hnl] at h3 hc' ⊢
      have : g' = w.heap.size := by simpa [Value.ownBlock] using ho
      exact ⟨g', c', rfl, R_only h3, grown_of_below h2 _, .inr (by omega), hc'⟩
    · refine (files_Unit_72.room g l.length cap i 0 vb 1 (fun _ => True) (l.map uCells) (uCells x) w hraw hlt hroom hv rfl hone hne).mono ?_
      rintro e w' ⟨rfl, h1, h2⟩
      rw [hcat] at h1
      exact ⟨g, cap, rfl, R_only (units_of_raw h1), h2, .inl rfl, hroom⟩
  · obtain rfl : i = l.length := by omega
    have hcm : cap ≤ 9223372036854775807 := by
      rcases (uRow_of_R hR).2 with ⟨h', _⟩ | ⟨g', cap', cur, hv', _, _, _, hcm, _⟩
      · cases h'
      · injection hv' with _ _ h3
        rw [h3]; exact hcm
    refine (Ins_c 0 g l.length cap vb (uRow l) (.string x.f0) (.string x.f1) (.int .i64 x.f2) w (uRow_of_R hR) hv ⟨rfl, rfl, rfl⟩ (by omega) ⟨hcap, hcm⟩ (Nat.zero_le _)).mono ?_
    rintro e w' ⟨g', c', rfl, h1, h2, h3, h4⟩
    have e1 : l.take l.length ++ x :: l.drop l.length = l ++ [x] := by simp
    unfold InsOut
    rw [e1]
    have h5 : w'.ownsRow 0 29 3 (.slice (some ⟨g', 0, none⟩) (l.length + 1) c') (l ++ [x]).length (uRow (l ++ [x])) := by rw [uRow_snoc, List.length_append]; exact h1
    have h6 := R_of_uRow h5
    have h7 := (Kd.R_reads' h6).2.1
    exact ⟨g', c', rfl, R_only h6, h2, h3.elim .inl (fun e => .inr (by omega)), h7⟩
theorem FileParts.newUnits {W w1 : World} {ok ok' : Nat → Prop} {fb rc ub : Nat} {f : AF} {A : Option Addr} {uv v' : Value} {DU : DataW Unit} {units' : List S29} (P : FileParts W ok fb f A rc uv ub DU) (hc : Chg W w1 (fun k => some k = uv.ownBlock))
    (hr : Kd.R k29 29 w1 0 ok' v' units') (hok' : ∀ k, ok' k → ok k ∨ W.heap.size ≤ k) :
    FileParts (w1.setCell ⟨fb, 8, none⟩ v') (fun k => ok k ∨ W.heap.size ≤ k) fb { f with units := units' } A rc v' ub DU ∧ Chg W (w1.setCell ⟨fb, 8, none⟩ v') ok := by
  have hty : ∀ k, some k = uv.ownBlock → ∃ cells, W.heap[k]? = some (.cells cells 29 (0, 0)) := fun k hk => own_typed (uRow_of_R P.units) k hk.symm
  have hfb : ¬ some fb = uv.ownBlock := fun e => by
    obtain ⟨cells, h⟩ := hty fb e
    rw [P.F] at h
    cases h
  have hub : ¬ some ub = uv.ownBlock := fun e => by
    obtain ⟨cells, h⟩ := hty ub e
    obtain ⟨es, clock, hb, _⟩ := P.U
    rw [hb] at h
    cases h
  have F1 : FileAt w1 fb f.F (.slice A f.rules.length rc) uv ub := (hc.block fb (blk_lt P.F) hfb).trans P.F
  have R1 : Kd.R k100 100 w1 0 ok (.slice A f.rules.length rc) f.rules := by
    cases hu : uv.ownBlock with
    | none => exact hc.row P.rules (fun k hk e => by rw [hu] at e; cases e)
    | some g =>
      obtain ⟨cells, h⟩ := hty g hu.symm
      refine Kd.R_mono (hc.row (Kd.R_types P.rules h (by decide)) (fun k hk e => ?_)) (fun k hk => hk.1)
      rw [hu] at e
      injection e with e
      exact hk.2 e
  have U1 := hc.map P.U hub
  refine ⟨⟨.inl P.okb, file_set F1 8 v' rfl, Kd.R_mono (Kd.R_set R1 F1 (by decide) 8 v') (fun k hk => .inl hk), Kd.R_mono (Kd.R_set hr F1 (by decide) 8 v') hok', .inl P.oku, U1.setCell (a := ⟨fb, 8, none⟩) (blk_map_ne F1 U1) v', P.mU⟩, ?_⟩
  refine (hc.mono (fun k hk => ?_)).trans (Chg.of_set w1 ⟨fb, 8, none⟩ v' (S := ok) P.okb) (fun i hi => .inl hi)
  exact P.units.1 k hk.symm
def FS.noted (F : FS) (u : ByteArray) : FS := { F with ch := wrap64 (F.ch + 1), last := u }
theorem FileParts.noted {W : World} {ok : Nat → Prop} {fb rc ub : Nat} {f : AF} {A : Option Addr} {uv : Value} {DU : DataW Unit} (P : FileParts W ok fb f A rc uv ub DU) (u : ByteArray) :
    FileParts ((W.setCell ⟨fb, 5, none⟩ (.int .i64 (wrap64 (f.F.ch + 1)))).setCell ⟨fb, 4, none⟩ (.string u)) ok fb { f with F := f.F.noted u } A rc uv ub DU ∧ Chg W ((W.setCell ⟨fb, 5, none⟩ (.int .i64 (wrap64 (f.F.ch + 1)))).setCell ⟨fb, 4, none⟩ (.string u)) ok :=
  ⟨(P.set 5 (.int .i64 (wrap64 (f.F.ch + 1))) (F' := { f.F with ch := wrap64 (f.F.ch + 1) }) rfl).set 4 (.string u) (F' := f.F.noted u) rfl,
    (Chg.of_set W ⟨fb, 5, none⟩ _ (S := ok) P.okb).trans (Chg.of_set _ ⟨fb, 4, none⟩ _ (S := ok) P.okb) (fun i hi => .inl hi)⟩
end Go.Proofs.YtehlmkgldcfciaaGreat.Files
/- The file store: Insert. -/
set_option linter.unusedVariables false
set_option linter.unusedSimpArgs false
namespace Go.Proofs.YtehlmkgldcfciaaGreat.Files
open Go.Proofs.YtehlmkgldcfciaaGreat.Common Go.Maps Go.ChangeMaps Go.WideMaps Go.Proofs.YtehlmkgldcfciaaGreat.F
open Go.RowKit Go.Proofs.YtehlmkgldcfciaaGreatW.PrintWords Go.Proofs.YtehlmkgldcfciaaGreatW.PrintLast Go.Proofs.YtehlmkgldcfciaaGreatW.PrintMore
def Ins.T14 : Bool × List (List Nat × List Nat) := (true, [([], []), ([0], [0]), ([1], [1]), ([2], [2]), ([], []), ([4], [4]), ([5], [5]), ([6], [6]), ([], []), ([7, 8], [7, 8]), ([], []), ([10], [10]), ([3, 9, 11, 9], [3, 9, 11]), ([12, 12], [12])])
def Ins.B14 : List Nat := [0, 1, 3, 7, 0, 16, 48, 112, 0, 496, 0, 1024, 4095, 8191]
theorem Ins.tab14 : rtab .any (opsOf Tryz.f30 14) = Ins.T14 := by kernel_rfl
theorem Ins.bits14 : waitsOk Ins.T14.2 Ins.B14 = true := by kernel_rfl
def Ins.T20 : Bool × List (List Nat × List Nat) := (true, [([], []), ([], []), ([1], [1]), ([2], [2]), ([3], [3]), ([], []), ([5], [5]), ([6], [6]), ([7], [7]), ([], []), ([8, 9], [8, 9]), ([], []), ([11], [11]), ([4, 10, 12, 10], [4, 10, 12]), ([0, 0, 1, 2, 3, 4, 5, 6, 7, 8, 9, 10, 11, 12, 13], [0]), ([14, 0, 1, 2, 3, 4, 5, 6, 7, 8, 9, 10, 11, 12, 13], [14]), ([15, 13, 13, 0, 1, 2, 3, 4, 5, 6, 7, 8, 9, 10, 11, 12, 13], [13, 15])])
def Ins.B20 : List Nat := [0, 0, 2, 6, 14, 0, 32, 96, 224, 0, 992, 0, 2048, 8190, 16383, 32767, 65535]
theorem Ins.tab20 : rtab .any (opsOf Tryz.f30 20) = Ins.T20 := by kernel_rfl
theorem Ins.bits20 : waitsOk Ins.T20.2 Ins.B20 = true := by kernel_rfl
def aboveOf (l : List S29) (lev : Int) : Nat → Nat
  | 0 => 0
  | i + 1 => if lv l (i + 1) ≥ lev then aboveOf l lev i else i + 1
theorem aboveOf_le (l : List S29) (lev : Int) : ∀ i, aboveOf l lev i ≤ i
  | 0 => Nat.le_refl _
  | i + 1 => by
    unfold aboveOf
    have := aboveOf_le l lev i
    split <;> omega
def insLev (l : List S29) (i : Nat) (child : Bool) : Int := lv l i + (if child then 1 else 0)
def insBad (kind lev : Int) : Bool := decide (lev = 0) || (decide (kind < 2) && decide (lev > kind))
def AF.ins (f : AF) (u : ByteArray) (i : Nat) (x : S29) : AF := { f with F := f.F.noted u, units := f.units.take (endOf f.units i) ++ x :: f.units.drop (endOf f.units i) }
def InsEnd' (W : World) (ok : Nat → Prop) (fb rc ub : Nat) (f' : AF) (A : Option Addr) (DU : DataW Unit) (e : Ending) (w' : World) : Prop :=
  e = .returned (.int .i64 0) ∧ ∃ uv, FileParts w' (fun k => ok k ∨ W.heap.size ≤ k) fb f' A rc uv ub DU ∧ Chg W w' ok
theorem Insert_arg (sp : Value) (u n : ByteArray) (at_ : Int) (child : Bool) (a b : ByteArray) (lev0 : Int) (W : World) (h : (decide (a.size ≤ 30) && decide (b.size ≤ 400)) = false) :
    Calls Tryz.prog 30 #[sp, .string u, .string n, .int .i64 at_, .bool child, .agg #[.string a, .string b, .int .i64 lev0]] W fun e w' => e = .returned (.int .i64 1) ∧ Below W.heap.size W w' := by
  by_cases h1 : a.size ≤ 30
  · have h2 : ¬ b.size ≤ 400 := by simp [h1] at h; omega
    have g1 : decide ((30 : Int) < (a.size : Int)) = false := decide_eq_false (by omega)
    have g2 : decide ((400 : Int) < (b.size : Int)) = true := decide_eq_true (by omega)
    clear h h1 h2
    go_enter Tryz.func30, Tryz.ntmps30
    go_wp2
    go_ret
    exact ⟨rfl, (Below.refl _ _).alloc (Nat.le_refl _) _⟩
  · have g1 : decide ((30 : Int) < (a.size : Int)) = true := decide_eq_true (by omega)
    clear h h1
    go_enter Tryz.func30, Tryz.ntmps30
    go_wp2
    go_ret
    exact ⟨rfl, (Below.refl _ _).alloc (Nat.le_refl _) _⟩
theorem Insert_err (sp : Value) (u n : ByteArray) (at_ : Int) (child : Bool) (a b : ByteArray) (lev0 E : Int) (W : World) (h1 : a.size ≤ 30) (h2 : b.size ≤ 400) (HU : UnitErr W sp u n at_ 2 E) :
    Calls Tryz.prog 30 #[sp, .string u, .string n, .int .i64 at_, .bool child, .agg #[.string a, .string b, .int .i64 lev0]] W fun e w' => e = .returned (.int .i64 E) ∧ Below W.heap.size W w' := by
  obtain ⟨hE, hu⟩ := HU
  have hb0 : Below W.heap.size W (W.alloc (.cells #[.string a, .string b, .int .i64 lev0] 29)) := (Below.refl _ _).alloc (Nat.le_refl _) _
  have CU := Aside0.mk (hu _ hb0)
  have HB0 := Aside0.mk hb0
  have g1 : decide ((30 : Int) < (a.size : Int)) = false := decide_eq_false (by omega)
  have g2 : decide ((400 : Int) < (b.size : Int)) = false := decide_eq_false (by omega)
  have hE' : (E == 0) = false := by simpa using hE
  clear hu hb0 h1 h2 hE
  go_enter Tryz.func30, Tryz.ntmps30
  go_wp2_with first | (go_at_call 69; refine CU.out.mono ?_; rintro e w2 ⟨dn, rfl, hb2⟩)
  go_ret
  exact ⟨rfl, HB0.out.trans (hb2.mono HB0.out.size)⟩
set_option maxRecDepth 100000 in
set_option maxHeartbeats 2000000 in
theorem Insert_ok (sp : Value) (u n : ByteArray) (i fb rc ub : Nat) (child : Bool) (a b : ByteArray) (lev0 dn : Int) (f : AF) (A : Option Addr) (uv : Value) (DU : DataW Unit) (ok : Nat → Prop) (W : World) (HU : UnitOk W sp u n (i : Int) 2 fb dn) (P : FileParts W ok fb f A rc uv ub DU)
    (hi : i < f.units.length) (hl : f.units.length ≤ 1000) (h1 : a.size ≤ 30) (h2 : b.size ≤ 400) (hlv : ∀ j, 0 ≤ lv f.units j ∧ lv f.units j ≤ 1000) (hroot : lv f.units 0 = 0) (hbad : insBad f.F.kind (insLev f.units i child) = false)
    (hcl : clashB f.units (kids f.units (aboveOf f.units (insLev f.units i child) i)) a = false) (hdn : dn = 0) (hfull : f.units.length < 100) :
    Calls Tryz.prog 30 #[sp, .string u, .string n, .int .i64 (i : Int), .bool child, .agg #[.string a, .string b, .int .i64 lev0]] W (InsEnd' W ok fb rc ub (f.ins u i ⟨a, b, insLev f.units i child⟩) A DU) := by
  subst hdn
  have hb0 : Below W.heap.size W (W.alloc (.cells #[.string a, .string b, .int .i64 lev0] 29)) := (Below.refl _ _).alloc (Nat.le_refl _) _
  have CU := Aside0.mk (HU _ hb0)
  have HP := Aside0.mk (P.below hb0)
  have HB0 := Aside0.mk hb0
  have hfl := blk_lt P.F
  have g1 : decide ((30 : Int) < (a.size : Int)) = false := decide_eq_false (by omega)
  have g2 : decide ((400 : Int) < (b.size : Int)) = false := decide_eq_false (by omega)
  obtain ⟨g, cu, huv, hlc, hcm⟩ := units_slice P.units (by omega)
  subst huv
  have HPW := Aside0.mk P
  have hgl : g < W.heap.size := own_lt (uRow_of_R P.units) g rfl
  have HBX := Aside0.mk (show (W.alloc (.cells #[.string a, .string b, .int .i64 lev0] 29)).heap[W.heap.size]? = some (.cells #[.string a, .string b, .int .i64 lev0] 29 (0, 0)) from heap_alloc_new _ _)
  have HSZ := Aside0.mk (show (W.alloc (.cells #[.string a, .string b, .int .i64 lev0] 29)).heap.size = W.heap.size + 1 by simp)
  clear hb0 P HU
  have HLV := Aside0.mk hlv
  have hlvi := hlv i
  have hlev0 : 0 ≤ lv f.units i := hlvi.1
  have hlev1 : lv f.units i ≤ 1000 := hlvi.2
  clear hlv hlvi
  go_enter Tryz.func30, Tryz.ntmps30
  go_wp2_with fail
  refine CU.out.mono ?_
  rintro e w2 ⟨rfl, hb2⟩
  have P2 := HP.out.below hb2
  have hbx2 : w2.heap[W.heap.size]? = some (.cells #[.string a, .string b, .int .i64 lev0] 29 (0, 0)) := (hb2.block _ (by rw [HSZ.out]; exact Nat.lt_succ_self _)).trans HBX.out
  have c8 : w2.cell? ⟨fb, 8, none⟩ = some (.slice (some ⟨g, 0, none⟩) f.units.length cu) := (blk_cell P2.F 8).trans rfl
  have b2 : w2.cell? ⟨W.heap.size, 2, none⟩ = some (.int .i64 lev0) := (blk_cell hbx2 2).trans rfl
  have fb2 := blk_frozen hbx2 2
  have xa : w2.cell? ⟨g, i * 3 + 2, none⟩ = some (.int .i64 (lv f.units i)) := by
    obtain ⟨_, _, hC⟩ := Kd.R_reads' P2.units
    obtain ⟨ad, he, _, _, h3⟩ := at_T29 (xs := f.units) hC (i : Int) (by omega) (by omega)
    cases he
    rw [Int.toNat_natCast, add_plain] at h3
    exact h3
  have hiz : (i : Int) < (f.units.length : Int) := by omega
  have HB2 := Aside0.mk (show Below W.heap.size W w2 from HB0.out.trans (hb2.mono HB0.out.size))
  have HX2 := Aside0.mk hbx2
  obtain ⟨lev, hlev⟩ : ∃ lev, lev = insLev f.units i child := ⟨_, rfl⟩
  have hbad' := hbad
  unfold insBad at hbad'
  rw [← hlev] at hbad'
  simp only [Bool.or_eq_false_iff, Bool.and_eq_false_iff, decide_eq_false_iff_not] at hbad'
  have hpos : 0 < lev := by
    have h0 : 0 ≤ lev := by rw [hlev]; unfold insLev; split <;> omega
    omega
  have HK : Aside0 (f.F.kind < 2 → ¬ lev > f.F.kind) := ⟨fun h => by rcases hbad'.2 with h2 | h2 <;> omega⟩
  have HLE := Lib.hid hlev
  have HCL := Lib.hid hcl
  have HFP := Aside0.mk (HP.out.below hb2)
  have hlev1000 : lev ≤ 1001 := by rw [hlev]; unfold insLev; split <;> omega
  clear hbad hbad' hlev hcl hb2 hbx2 P2 CU HBX
  cases child
  all_goals
    go_wp2_with fail
    first
    | (obtain ⟨w3, hw3⟩ : ∃ w3, w3 = (w2.setCell ⟨W.heap.size, 2, none⟩ (.int .i64 (lv f.units i))).setCell ⟨W.heap.size, 2, none⟩ (.int .i64 (lv f.units i + 1)) := ⟨_, rfl⟩
       rw [← hw3]
       have HX3 : Aside0 (w3.heap[W.heap.size]? = some (.cells #[.string a, .string b, .int .i64 lev] 29 (0, 0))) := ⟨by rw [hw3, HLE.out]; exact (blk_set (blk_set HX2.out 2 _) 2 _)⟩
       have HB3 : Aside0 (Below W.heap.size W w3) := ⟨by rw [hw3]; exact (HB2.out.setCell (p := ⟨W.heap.size, 2, none⟩) (Nat.le_refl _) _).setCell (p := ⟨W.heap.size, 2, none⟩) (Nat.le_refl _) _⟩)
    | (obtain ⟨w3, hw3⟩ : ∃ w3, w3 = w2.setCell ⟨W.heap.size, 2, none⟩ (.int .i64 (lv f.units i)) := ⟨_, rfl⟩
       rw [← hw3]
       have HX3 : Aside0 (w3.heap[W.heap.size]? = some (.cells #[.string a, .string b, .int .i64 lev] 29 (0, 0))) := ⟨by rw [hw3, HLE.out, show insLev f.units i false = lv f.units i by simp [insLev]]; exact (blk_set HX2.out 2 _)⟩
       have HB3 : Aside0 (Below W.heap.size W w3) := ⟨by rw [hw3]; exact HB2.out.setCell (p := ⟨W.heap.size, 2, none⟩) (Nat.le_refl _) _⟩)
    clear b2 fb2 xa c8 HX2 HB2 HFP hw3
    have P3 := HPW.out.below HB3.out
    have c8 : w3.cell? ⟨fb, 8, none⟩ = some (.slice (some ⟨g, 0, none⟩) f.units.length cu) := (blk_cell P3.F 8).trans rfl
    have c1 : w3.cell? ⟨fb, 1, none⟩ = some (.int .i64 f.F.kind) := (blk_cell P3.F 1).trans rfl
    have b2 : w3.cell? ⟨W.heap.size, 2, none⟩ = some (.int .i64 lev) := (blk_cell HX3.out 2).trans rfl
    have hl0 : (lev == 0) = false := beq_eq_false_iff_ne.2 (by omega)
    have HP3 := Aside0.mk P3
    clear P3
    have hkk : (decide (f.F.kind < 2) = true ∧ decide (f.F.kind < lev) = false) ∨ decide (f.F.kind < 2) = false := by
      rcases Decidable.em (f.F.kind < 2) with hk | hk
      · exact .inl ⟨decide_eq_true hk, decide_eq_false (by have := HK.out hk; omega)⟩
      · exact .inr (decide_eq_false hk)
    rcases hkk with ⟨hk1, hk2⟩ | hk1
    all_goals
      go_quiet (fail)
      clear hk1
      go_wp2_with fail
  all_goals
    have HWV := Aside0.mk (fun j => show wrap64 (lv f.units j + 1) = lv f.units j + 1 by have := HLV.out j; unfold wrap64; omega)
    clear c8 c1 b2
    go_loopw [16] (fun s wr => ∃ j : Nat, j ≤ i ∧ s = .int .i64 j ∧ Aside0 (Below w3.heap.size w3 wr) ∧ Aside0 (aboveOf f.units lev j = aboveOf f.units lev i)) (fun s _ => (intOf s).toNat)
    case atStart => exact ⟨i, Nat.le_refl _, rfl, ⟨pw_below_drewN (Below.refl _ _) _⟩, ⟨rfl⟩⟩
    case round =>
      obtain ⟨j, hji, rfl, HBR, HJ⟩ := hrel
      have HB4 := Aside0.mk (show Below W.heap.size W wr from HB3.out.trans (HBR.out.mono HB3.out.size))
      have HX4 := Aside0.mk ((HBR.out.block _ (blk_lt HX3.out)).trans HX3.out)
      have P4 := HPW.out.below HB4.out
      have c8 : wr.cell? ⟨fb, 8, none⟩ = some (.slice (some ⟨g, 0, none⟩) f.units.length cu) := (blk_cell P4.F 8).trans rfl
      have b2 : wr.cell? ⟨W.heap.size, 2, none⟩ = some (.int .i64 lev) := (blk_cell HX4.out 2).trans rfl
      have hjl : j < f.units.length := by omega
      have xj : wr.cell? ⟨g, j * 3 + 2, none⟩ = some (.int .i64 (lv f.units j)) := by
        obtain ⟨_, _, hC⟩ := Kd.R_reads' P4.units
        obtain ⟨ad, he, _, _, h3⟩ := at_T29 (xs := f.units) hC (j : Int) (by omega) (by omega)
        cases he
        rw [Int.toNat_natCast, add_plain] at h3
        exact h3
      have hjz : (j : Int) < (f.units.length : Int) := by omega
      have hjz0 : decide ((j : Int) < 0) = false := decide_eq_false (by omega)
      clear P4
      by_cases hge : lev ≤ lv f.units j
      · have hg1 : decide (lev ≤ lv f.units j) = true := decide_eq_true hge
        obtain ⟨j, rfl⟩ : ∃ j2, j = j2 + 1 := ⟨j - 1, by
          have : j ≠ 0 := fun e => by rw [e, hroot] at hge; omega
          omega⟩
        have HA := Aside0.mk (show aboveOf f.units lev (j + 1) = aboveOf f.units lev j by show (if lv f.units (j + 1) ≥ lev then _ else _) = _; rw [if_pos hge])
        clear hge
        go_wp2_with fail
        go_quiet (fail)
        go_wp2_with fail
        go_roundw
        case rel => exact ⟨j, by omega, by go_num, ⟨pw_below_drewN HBR.out _⟩, ⟨by rw [← HA.out]; exact HJ.out⟩⟩
        case measure => simp [intOf]
      · have hg1 : decide (lev ≤ lv f.units j) = false := decide_eq_false hge
        have HA := Aside0.mk (show aboveOf f.units lev j = j by
          cases j with
          | zero => rfl
          | succ j => show (if lv f.units (j + 1) ≥ lev then _ else _) = _; rw [if_neg hge])
        replace HJ := Aside0.mk (show j = aboveOf f.units lev i from HA.out.symm.trans HJ.out)
        clear hge
        go_wp2_with fail
        go_quiet (fail)
        have HB5 := Aside0.mk (show Below W.heap.size W (wr.drewN nq) from pw_below_drewN HB4.out _)
        have HX5 := Aside0.mk (show (wr.drewN nq).heap[W.heap.size]? = _ from HX4.out)
        generalize wr.drewN nq = w5 at HB5 HX5 ⊢
        go_wp2_with fail
        clear c8 b2 xj
        have hz8 : w5.cell? ⟨fb, 8, none⟩ = some (.slice (some ⟨g, 0, none⟩) f.units.length cu) := (blk_cell (HPW.out.below HB5.out).F 8).trans rfl
        have hz0 : w5.cell? ⟨W.heap.size, 0, none⟩ = some (.string a) := (blk_cell HX5.out 0).trans rfl
        refine start_ (n := 14) (S := fun w' => w'.cell? ⟨fb, 8, none⟩ = some (.slice (some ⟨g, 0, none⟩) f.units.length cu) ∧ w'.cell? ⟨W.heap.size, 0, none⟩ = some (.string a)) (ds := [12]) #[false, false, false, false, false, false, false, false, false, false, false, false, false, false] (by kernel_rfl) rfl rfl ⟨hz8, hz0⟩ (fun hHeld => ?_)
        refine with_tabW Ins.tab14 Ins.bits14 (fun HT_ HW_ => ?_)
        have HWD := Aside0.mk (show Below W.heap.size W w5.drew from HB5.out.drew)
        have HBL := Aside0.mk (show W.heap.size < w5.drew.heap.size from blk_lt HX5.out)
        have HXD := Aside0.mk (show w5.drew.heap[W.heap.size]? = _ from HX5.out)
        generalize w5.drew = wd at HWD HBL HXD hHeld ⊢
        refine pure_ (i := 0) (N := some 89) (v := ?_) (a' := ?_) #[true, false, false, false, false, false, false, false, false, false, false, false, false, false] rfl rfl (any_of HT_.out (by kernel_rfl)) (fun _ _ _ h => h) (Or.inl ⟨by rfl, ?_⟩) ?_ ?_
        rotate_left
        · intro w'
          go_simp
          with_reducible rfl
        rotate_left
        · simp only [Act.put, List.setIfInBounds_toArray, List.set_cons_zero, List.set_cons_succ, i64_w, i32_w]
          rfl
        refine pure_ (i := 1) (N := some 90) (v := ?_) (a' := ?_) #[true, true, false, false, false, false, false, false, false, false, false, false, false, false] rfl rfl (any_of HT_.out (by kernel_rfl)) (fun _ _ _ h => h) (Or.inl ⟨by rfl, ?_⟩) ?_ ?_
        rotate_left
        · intro w'
          go_simp
          with_reducible rfl
        rotate_left
        · simp only [Act.put, List.setIfInBounds_toArray, List.set_cons_zero, List.set_cons_succ, i64_w, i32_w]
          rfl
        refine pure_ (i := 2) (N := some 91) (v := ?_) (a' := ?_) #[true, true, true, false, false, false, false, false, false, false, false, false, false, false] rfl rfl (any_of HT_.out (by kernel_rfl)) (fun _ _ _ h => h) (Or.inl ⟨by rfl, ?_⟩) ?_ ?_
        rotate_left
        · intro w'
          go_simp
          with_reducible rfl
        rotate_left
        · simp only [Act.put, List.setIfInBounds_toArray, List.set_cons_zero, List.set_cons_succ, i64_w, i32_w]
          rfl
        refine pure_ (i := 4) (N := some 93) (v := ?_) (a' := ?_) #[true, true, true, false, true, false, false, false, false, false, false, false, false, false] rfl rfl (any_of HT_.out (by kernel_rfl)) (fun _ _ _ h => h) (Or.inl ⟨by rfl, ?_⟩) ?_ ?_
        rotate_left
        · intro w'
          go_simp
          with_reducible rfl
        rotate_left
        · simp only [Act.put, List.setIfInBounds_toArray, List.set_cons_zero, List.set_cons_succ, i64_w, i32_w]
          rfl
        refine pure_ (i := 5) (N := some 94) (v := ?_) (a' := ?_) #[true, true, true, false, true, true, false, false, false, false, false, false, false, false] rfl rfl (any_of HT_.out (by kernel_rfl)) (fun _ _ _ h => h) (Or.inl ⟨by rfl, ?_⟩) ?_ ?_
        rotate_left
        · intro w'
          go_simp
          with_reducible rfl
        rotate_left
        · simp only [Act.put, List.setIfInBounds_toArray, List.set_cons_zero, List.set_cons_succ, i64_w, i32_w]
          rfl
        refine pure_ (i := 6) (N := some 95) (v := ?_) (a' := ?_) #[true, true, true, false, true, true, true, false, false, false, false, false, false, false] rfl rfl (any_of HT_.out (by kernel_rfl)) (fun _ _ _ h => h) (Or.inl ⟨by rfl, ?_⟩) ?_ ?_
        rotate_left
        · intro w'
          go_simp
          with_reducible rfl
        rotate_left
        · simp only [Act.put, List.setIfInBounds_toArray, List.set_cons_zero, List.set_cons_succ, i64_w, i32_w]
          rfl
        refine pure_ (i := 8) (N := some 97) (v := ?_) (a' := ?_) #[true, true, true, false, true, true, true, false, true, false, false, false, false, false] rfl rfl (any_of HT_.out (by kernel_rfl)) (fun _ _ _ h => h) (Or.inl ⟨by rfl, ?_⟩) ?_ ?_
        rotate_left
        · intro w'
          go_simp
          with_reducible rfl
        rotate_left
        · simp only [Act.put, List.setIfInBounds_toArray, List.set_cons_zero, List.set_cons_succ, i64_w, i32_w]
          rfl
        refine pure_ (i := 10) (N := some 99) (v := ?_) (a' := ?_) #[true, true, true, false, true, true, true, false, true, false, true, false, false, false] rfl rfl (any_of HT_.out (by kernel_rfl)) (fun _ _ _ h => h) (Or.inl ⟨by rfl, ?_⟩) ?_ ?_
        rotate_left
        · intro w'
          go_simp
          with_reducible rfl
        rotate_left
        · simp only [Act.put, List.setIfInBounds_toArray, List.set_cons_zero, List.set_cons_succ, i64_w, i32_w]
          rfl
        refine take_ (i := 3) (N := some 92) (v := ?_) (a' := ?_) #[true, true, true, true, true, true, true, false, true, false, true, false, false, false] rfl rfl (take_ofW HT_.out HW_.out (by kernel_rfl)) (fun _ _ _ h => h) (Or.inl ⟨by rfl, ?_⟩) hHeld ?_ ?_
        rotate_left
        · rintro w' ⟨s0, s1⟩
          go_simp
          with_reducible rfl
        rotate_left
        · simp only [Act.put, List.setIfInBounds_toArray, List.set_cons_zero, List.set_cons_succ, i64_w, i32_w]
          rfl
        refine take_ (i := 7) (N := some 96) (v := ?_) (a' := ?_) #[true, true, true, true, true, true, true, true, true, false, true, false, false, false] rfl rfl (take_ofW HT_.out HW_.out (by kernel_rfl)) (fun _ _ _ h => h) (Or.inl ⟨by rfl, ?_⟩) hHeld ?_ ?_
        rotate_left
        · rintro w' ⟨s0, s1⟩
          go_simp
          with_reducible rfl
        rotate_left
        · simp only [Act.put, List.setIfInBounds_toArray, List.set_cons_zero, List.set_cons_succ, i64_w, i32_w]
          rfl
        refine take_ (i := 11) (N := some 100) (v := ?_) (a' := ?_) #[true, true, true, true, true, true, true, true, true, false, true, true, false, false] rfl rfl (take_ofW HT_.out HW_.out (by kernel_rfl)) (fun _ _ _ h => h) (Or.inl ⟨by rfl, ?_⟩) hHeld ?_ ?_
        rotate_left
        · rintro w' ⟨s0, s1⟩
          go_simp
          with_reducible rfl
        rotate_left
        · simp only [Act.put, List.setIfInBounds_toArray, List.set_cons_zero, List.set_cons_succ, i64_w, i32_w]
          rfl
        refine one_ (i := 9) (N := some 98) #[true, true, true, true, true, true, true, true, true, true, true, true, false, false] rfl rfl (one_of HT_.out (by kernel_rfl)) (by decide) (fun K hK => ?_)
        refine goes_ Tryz.func64 (by kernel_rfl) rfl #[.slice (some ⟨g, 0, none⟩) f.units.length cu, .int .i64 (j : Int)] (by rfl) rfl rfl (by (try simp only [List.map_toArray, List.map_cons, List.map_nil]); first | done | rfl | (simp only []; rfl)) ?_
        with_reducible refine (children_c (some ⟨g, 0, none⟩) cu j f.units _ (Kd.R_reads' (HPW.out.below HWD.out).units).2.2 hlc hjl (by omega) (HWV.out j)).mono ?_
        rintro e w6 ⟨v6, rfl, hr6, hb6⟩
        obtain ⟨A6, c6, rfl, hc6, hC6⟩ := Kd.R_reads hr6
        have HB6 := Aside0.mk hb6
        have HC6 := Aside0.mk hC6
        have HW6 := Aside0.mk (HWD.out.trans (hb6.mono HWD.out.size))
        have CC := Aside0.mk (clash_c cu c6 (some ⟨g, 0, none⟩) A6 f.units (kids f.units j) a w6 (Kd.R_reads' (HPW.out.below HW6.out).units).2.2 hlc hC6 hc6 (kids_in hjl))
        rw [show clashB f.units (kids f.units j) a = false by rw [HJ.out, HLE.out]; exact HCL.out] at CC
        clear hr6 hb6 hC6
        have hb6s := HB6.out.size
        refine ⟨_, rfl, ?_⟩
        refine hK.out _ _ ⟨pw_cell_below HB6.out hHeld.1, pw_cell_below HB6.out hHeld.2⟩ (fun hHeld => ?_)
        clear hK K
        refine norm_ (a' := ?_) ?_ ?_
        rotate_left
        · show Act.put _ (some 98) _ = _
          simp only [Act.put, List.setIfInBounds_toArray, List.set_cons_zero, List.set_cons_succ, i64_w, i32_w]
          rfl
        refine last_ (i := 12) (N := some 101) #[true, true, true, true, true, true, true, true, true, true, true, true, true, false] rfl rfl (one_of HT_.out (by kernel_rfl)) (by decide) (fun K hK => ?_)
        refine goes_ Tryz.func71 (by kernel_rfl) rfl #[.slice (some ⟨g, 0, none⟩) f.units.length cu, .slice A6 (kids f.units j).length c6, .string a] (by rfl) rfl rfl (by (try simp only [List.map_toArray, List.map_cons, List.map_nil]); first | done | rfl | (simp only []; rfl)) ?_
        with_reducible refine CC.out.mono ?_
        rintro e w7 ⟨rfl, hb7⟩
        have HB7 := Aside0.mk (HW6.out.trans (hb7.mono HW6.out.size))
        have HX7 := Aside0.mk ((hb7.block _ (Nat.lt_of_lt_of_le HBL.out hb6s)).trans ((HB6.out.block _ HBL.out).trans HXD.out))
        clear hb7
        refine ⟨_, rfl, ?_⟩
        refine hK.out _ _ ?_
        clear hK K
        refine norm_ (a' := ?_) ?_ ?_
        rotate_left
        · show Act.put _ (some 101) _ = _
          simp only [Act.put, List.setIfInBounds_toArray, List.set_cons_zero, List.set_cons_succ, i64_w, i32_w]
          rfl
        refine pure_ (i := 13) (N := some 88) (v := ?_) (a' := ?_) #[true, true, true, true, true, true, true, true, true, true, true, true, true, true] rfl rfl (any_of HT_.out (by kernel_rfl)) (fun _ _ _ h => h) (Or.inl ⟨by rfl, ?_⟩) ?_ ?_
        rotate_left
        · intro w'
          go_simp
          with_reducible rfl
        rotate_left
        · simp only [Act.put, List.setIfInBounds_toArray, List.set_cons_zero, List.set_cons_succ, i64_w, i32_w]
          rfl
        refine done_ (done_of HT_.out (by kernel_rfl)) ?_
        clear hz8 hz0
        have hz8 : w7.cell? ⟨fb, 8, none⟩ = some (.slice (some ⟨g, 0, none⟩) f.units.length cu) := (blk_cell (HPW.out.below HB7.out).F 8).trans rfl
        have hz0 : w7.cell? ⟨W.heap.size, 0, none⟩ = some (.string a) := (blk_cell HX7.out 0).trans rfl
        have hz1 : w7.cell? ⟨W.heap.size, 1, none⟩ = some (.string b) := (blk_cell HX7.out 1).trans rfl
        have hz2 : w7.cell? ⟨W.heap.size, 2, none⟩ = some (.int .i64 lev) := (blk_cell HX7.out 2).trans rfl
        have hfz : decide ((100 : Int) ≤ (f.units.length : Int)) = false := decide_eq_false (by omega)
        go_wp2_with fail
        refine start_ (n := 17) (S := fun w' => w'.cell? ⟨fb, 8, none⟩ = some (.slice (some ⟨g, 0, none⟩) f.units.length cu) ∧ w'.cell? ⟨W.heap.size, 0, none⟩ = some (.string a) ∧ w'.cell? ⟨W.heap.size, 1, none⟩ = some (.string b) ∧ w'.cell? ⟨W.heap.size, 2, none⟩ = some (.int .i64 lev)) (ds := [13, 16]) #[false, false, false, false, false, false, false, false, false, false, false, false, false, false, false, false, false] (by kernel_rfl) rfl rfl ⟨hz8, hz0, hz1, hz2⟩ (fun hHeld => ?_)
        refine with_tabW Ins.tab20 Ins.bits20 (fun HT_ HW_ => ?_)
        have HWD := Aside0.mk (show Below W.heap.size W w7.drew from HB7.out.drew)
        generalize w7.drew = wd at HWD hHeld ⊢
        refine pure_ (i := 0) (N := some 113) (v := ?_) (a' := ?_) #[true, false, false, false, false, false, false, false, false, false, false, false, false, false, false, false, false] rfl rfl (any_of HT_.out (by kernel_rfl)) (fun _ _ _ h => h) (Or.inl ⟨by rfl, ?_⟩) ?_ ?_
        rotate_left
        · intro w'
          go_simp
          with_reducible rfl
        rotate_left
        · simp only [Act.put, List.setIfInBounds_toArray, List.set_cons_zero, List.set_cons_succ, i64_w, i32_w]
          rfl
        refine pure_ (i := 1) (N := some 114) (v := ?_) (a' := ?_) #[true, true, false, false, false, false, false, false, false, false, false, false, false, false, false, false, false] rfl rfl (any_of HT_.out (by kernel_rfl)) (fun _ _ _ h => h) (Or.inl ⟨by rfl, ?_⟩) ?_ ?_
        rotate_left
        · intro w'
          go_simp
          with_reducible rfl
        rotate_left
        · simp only [Act.put, List.setIfInBounds_toArray, List.set_cons_zero, List.set_cons_succ, i64_w, i32_w]
          rfl
        refine pure_ (i := 2) (N := some 115) (v := ?_) (a' := ?_) #[true, true, true, false, false, false, false, false, false, false, false, false, false, false, false, false, false] rfl rfl (any_of HT_.out (by kernel_rfl)) (fun _ _ _ h => h) (Or.inl ⟨by rfl, ?_⟩) ?_ ?_
        rotate_left
        · intro w'
          go_simp
          with_reducible rfl
        rotate_left
        · simp only [Act.put, List.setIfInBounds_toArray, List.set_cons_zero, List.set_cons_succ, i64_w, i32_w]
          rfl
        refine pure_ (i := 3) (N := some 116) (v := ?_) (a' := ?_) #[true, true, true, true, false, false, false, false, false, false, false, false, false, false, false, false, false] rfl rfl (any_of HT_.out (by kernel_rfl)) (fun _ _ _ h => h) (Or.inl ⟨by rfl, ?_⟩) ?_ ?_
        rotate_left
        · intro w'
          go_simp
          with_reducible rfl
        rotate_left
        · simp only [Act.put, List.setIfInBounds_toArray, List.set_cons_zero, List.set_cons_succ, i64_w, i32_w]
          rfl
        refine pure_ (i := 5) (N := some 118) (v := ?_) (a' := ?_) #[true, true, true, true, false, true, false, false, false, false, false, false, false, false, false, false, false] rfl rfl (any_of HT_.out (by kernel_rfl)) (fun _ _ _ h => h) (Or.inl ⟨by rfl, ?_⟩) ?_ ?_
        rotate_left
        · intro w'
          go_simp
          with_reducible rfl
        rotate_left
        · simp only [Act.put, List.setIfInBounds_toArray, List.set_cons_zero, List.set_cons_succ, i64_w, i32_w]
          rfl
        refine pure_ (i := 6) (N := some 119) (v := ?_) (a' := ?_) #[true, true, true, true, false, true, true, false, false, false, false, false, false, false, false, false, false] rfl rfl (any_of HT_.out (by kernel_rfl)) (fun _ _ _ h => h) (Or.inl ⟨by rfl, ?_⟩) ?_ ?_
        rotate_left
        · intro w'
          go_simp
          with_reducible rfl
        rotate_left
        · simp only [Act.put, List.setIfInBounds_toArray, List.set_cons_zero, List.set_cons_succ, i64_w, i32_w]
          rfl
        refine pure_ (i := 7) (N := some 120) (v := ?_) (a' := ?_) #[true, true, true, true, false, true, true, true, false, false, false, false, false, false, false, false, false] rfl rfl (any_of HT_.out (by kernel_rfl)) (fun _ _ _ h => h) (Or.inl ⟨by rfl, ?_⟩) ?_ ?_
        rotate_left
        · intro w'
          go_simp
          with_reducible rfl
        rotate_left
        · simp only [Act.put, List.setIfInBounds_toArray, List.set_cons_zero, List.set_cons_succ, i64_w, i32_w]
          rfl
        refine pure_ (i := 9) (N := some 122) (v := ?_) (a' := ?_) #[true, true, true, true, false, true, true, true, false, true, false, false, false, false, false, false, false] rfl rfl (any_of HT_.out (by kernel_rfl)) (fun _ _ _ h => h) (Or.inl ⟨by rfl, ?_⟩) ?_ ?_
        rotate_left
        · intro w'
          go_simp
          with_reducible rfl
        rotate_left
        · simp only [Act.put, List.setIfInBounds_toArray, List.set_cons_zero, List.set_cons_succ, i64_w, i32_w]
          rfl
        refine take_ (i := 4) (N := some 117) (v := ?_) (a' := ?_) #[true, true, true, true, true, true, true, true, false, true, false, false, false, false, false, false, false] rfl rfl (take_ofW HT_.out HW_.out (by kernel_rfl)) (fun _ _ _ h => h) (Or.inl ⟨by rfl, ?_⟩) hHeld ?_ ?_
        rotate_left
        · rintro w' ⟨s0, s1, s2, s3⟩
          go_simp
          with_reducible rfl
        rotate_left
        · simp only [Act.put, List.setIfInBounds_toArray, List.set_cons_zero, List.set_cons_succ, i64_w, i32_w]
          rfl
        refine take_ (i := 8) (N := some 121) (v := ?_) (a' := ?_) #[true, true, true, true, true, true, true, true, true, true, false, false, false, false, false, false, false] rfl rfl (take_ofW HT_.out HW_.out (by kernel_rfl)) (fun _ _ _ h => h) (Or.inl ⟨by rfl, ?_⟩) hHeld ?_ ?_
        rotate_left
        · rintro w' ⟨s0, s1, s2, s3⟩
          go_simp
          with_reducible rfl
        rotate_left
        · simp only [Act.put, List.setIfInBounds_toArray, List.set_cons_zero, List.set_cons_succ, i64_w, i32_w]
          rfl
        refine take_ (i := 11) (N := some 124) (v := ?_) (a' := ?_) #[true, true, true, true, true, true, true, true, true, true, false, true, false, false, false, false, false] rfl rfl (take_ofW HT_.out HW_.out (by kernel_rfl)) (fun _ _ _ h => h) (Or.inl ⟨by rfl, ?_⟩) hHeld ?_ ?_
        rotate_left
        · rintro w' ⟨s0, s1, s2, s3⟩
          go_simp
          with_reducible rfl
        rotate_left
        · simp only [Act.put, List.setIfInBounds_toArray, List.set_cons_zero, List.set_cons_succ, i64_w, i32_w]
          rfl
        refine join_ (σ := Nat) 4 #[true, true, true, true, true, true, true, true, true, true, true, true, true, false, false, false, false] (fun s => [(123, .int .i64 (endOf f.units i : Int)), (125, .slice (some ⟨s, 0, none⟩) 1 1)]) (fun s w' => Below wd.heap.size wd w' ∧ w'.heap[s]? = some (.cells #[.string a, .string b, .int .i64 lev] 29 (0, 0)) ∧ wd.heap.size ≤ s ∧ w'.cell? ⟨fb, 8, none⟩ = some (.slice (some ⟨g, 0, none⟩) f.units.length cu) ∧ w'.cell? ⟨W.heap.size, 0, none⟩ = some (.string a) ∧ w'.cell? ⟨W.heap.size, 1, none⟩ = some (.string b) ∧ w'.cell? ⟨W.heap.size, 2, none⟩ = some (.int .i64 lev)) ?_ ?_
        rotate_left
        · intro hCont
          refine two_ (i := 10) (j := 12) (Ni := some 123) (Nj := some 125) #[true, true, true, true, true, true, true, true, true, true, true, true, false, false, false, false, false] #[true, true, true, true, true, true, true, true, true, true, false, true, true, false, false, false, false] rfl rfl rfl rfl (two_of HT_.out (by kernel_rfl)) (by decide) (by decide) (fun K hK => ?_) (fun K hK => ?_)
          · skip
            refine goes_ Tryz.func70 (by kernel_rfl) rfl #[.slice (some ⟨g, 0, none⟩) f.units.length cu, .int .i64 (i : Int)] (by rfl) rfl rfl (by (try simp only [List.map_toArray, List.map_cons, List.map_nil]); first | done | rfl | (simp only []; rfl)) ?_
            with_reducible refine (beyond_c (some ⟨g, 0, none⟩) cu i f.units _ (Kd.R_reads' (HPW.out.below HWD.out).units).2.2 hlc hi).mono ?_
            rintro e w10 ⟨rfl, hd10⟩
            have HB10 := Aside0.mk hd10.below
            clear hd10
            refine ⟨_, rfl, ?_⟩
            refine hK.out _ _ ⟨pw_cell_below HB10.out hHeld.1, pw_cell_below HB10.out hHeld.2.1, pw_cell_below HB10.out hHeld.2.2.1, pw_cell_below HB10.out hHeld.2.2.2⟩ (fun hHeld => ?_)
            clear hK K
            refine norm_ (a' := ?_) ?_ ?_
            rotate_left
            · show Act.put _ (some 123) _ = _
              simp only [Act.put, List.setIfInBounds_toArray, List.set_cons_zero, List.set_cons_succ, i64_w, i32_w]
              rfl
            refine one_ (i := 12) (N := some 125) #[true, true, true, true, true, true, true, true, true, true, true, true, true, false, false, false, false] rfl rfl (one_of HT_.out (by kernel_rfl)) (by decide) (fun K hK => ?_)
            refine value_ (w1 := w10.alloc (Obj.cells #[Value.string a, Value.string b, Value.int .i64 lev] 29)) (v := .slice (some ⟨w10.heap.size, 0, none⟩) 1 1) (by rfl) rfl ?_ ?_
            · go_simp
            have HB11 := Aside0.mk (show Below w10.heap.size w10 (w10.alloc (Obj.cells #[Value.string a, Value.string b, Value.int .i64 lev] 29)) from (Below.refl _ _).alloc (Nat.le_refl _) _)
            have HV11 := Aside0.mk (heap_alloc_new w10 (Obj.cells #[Value.string a, Value.string b, Value.int .i64 lev] 29))
            generalize w10.alloc (Obj.cells #[Value.string a, Value.string b, Value.int .i64 lev] 29) = w11 at HB11 HV11 ⊢
            refine hK.out _ _ ⟨pw_cell_below HB11.out hHeld.1, pw_cell_below HB11.out hHeld.2.1, pw_cell_below HB11.out hHeld.2.2.1, pw_cell_below HB11.out hHeld.2.2.2⟩ (fun hHeld => ?_)
            clear hK K
            refine norm_ (a' := ?_) ?_ ?_
            rotate_left
            · show Act.put _ (some 125) _ = _
              simp only [Act.put, List.setIfInBounds_toArray, List.set_cons_zero, List.set_cons_succ, i64_w, i32_w]
              rfl
            exact norm_ (by simp only [putAll, Act.put, List.setIfInBounds_toArray, List.set_cons_zero, List.set_cons_succ]) (hCont w10.heap.size _ ⟨HB10.out.trans (HB11.out.mono HB10.out.size), HV11.out, HB10.out.size, hHeld.1, hHeld.2.1, hHeld.2.2.1, hHeld.2.2.2⟩)
          · skip
            refine value_ (w1 := wd.alloc (Obj.cells #[Value.string a, Value.string b, Value.int .i64 lev] 29)) (v := .slice (some ⟨wd.heap.size, 0, none⟩) 1 1) (by rfl) rfl ?_ ?_
            · go_simp
            have HB11 := Aside0.mk (show Below wd.heap.size wd (wd.alloc (Obj.cells #[Value.string a, Value.string b, Value.int .i64 lev] 29)) from (Below.refl _ _).alloc (Nat.le_refl _) _)
            have HV11 := Aside0.mk (heap_alloc_new wd (Obj.cells #[Value.string a, Value.string b, Value.int .i64 lev] 29))
            generalize wd.alloc (Obj.cells #[Value.string a, Value.string b, Value.int .i64 lev] 29) = w11 at HB11 HV11 ⊢
            refine hK.out _ _ ⟨pw_cell_below HB11.out hHeld.1, pw_cell_below HB11.out hHeld.2.1, pw_cell_below HB11.out hHeld.2.2.1, pw_cell_below HB11.out hHeld.2.2.2⟩ (fun hHeld => ?_)
            clear hK K
            refine norm_ (a' := ?_) ?_ ?_
            rotate_left
            · show Act.put _ (some 125) _ = _
              simp only [Act.put, List.setIfInBounds_toArray, List.set_cons_zero, List.set_cons_succ, i64_w, i32_w]
              rfl
            refine one_ (i := 10) (N := some 123) #[true, true, true, true, true, true, true, true, true, true, true, true, true, false, false, false, false] rfl rfl (one_of HT_.out (by kernel_rfl)) (by decide) (fun K hK => ?_)
            refine goes_ Tryz.func70 (by kernel_rfl) rfl #[.slice (some ⟨g, 0, none⟩) f.units.length cu, .int .i64 (i : Int)] (by rfl) rfl rfl (by (try simp only [List.map_toArray, List.map_cons, List.map_nil]); first | done | rfl | (simp only []; rfl)) ?_
            with_reducible refine (beyond_c (some ⟨g, 0, none⟩) cu i f.units _ (Kd.R_reads' (HPW.out.below (HWD.out.trans (HB11.out.mono HWD.out.size))).units).2.2 hlc hi).mono ?_
            rintro e w10 ⟨rfl, hd10⟩
            have HB10 := Aside0.mk hd10.below
            clear hd10
            refine ⟨_, rfl, ?_⟩
            refine hK.out _ _ ⟨pw_cell_below HB10.out hHeld.1, pw_cell_below HB10.out hHeld.2.1, pw_cell_below HB10.out hHeld.2.2.1, pw_cell_below HB10.out hHeld.2.2.2⟩ (fun hHeld => ?_)
            clear hK K
            refine norm_ (a' := ?_) ?_ ?_
            rotate_left
            · show Act.put _ (some 123) _ = _
              simp only [Act.put, List.setIfInBounds_toArray, List.set_cons_zero, List.set_cons_succ, i64_w, i32_w]
              rfl
            exact norm_ (by simp only [putAll, Act.put, List.setIfInBounds_toArray, List.set_cons_zero, List.set_cons_succ]) (hCont wd.heap.size _ ⟨HB11.out.trans (HB10.out.mono HB11.out.size), (HB10.out.block _ (blk_lt HV11.out)).trans HV11.out, Nat.le_refl _, hHeld.1, hHeld.2.1, hHeld.2.2.1, hHeld.2.2.2⟩)
        rintro gb w12 ⟨hb12, hv12, hgb12, hs0, hs1, hs2, hs3⟩
        have hHeld : w12.cell? ⟨fb, 8, none⟩ = some (.slice (some ⟨g, 0, none⟩) f.units.length cu) ∧ w12.cell? ⟨W.heap.size, 0, none⟩ = some (.string a) ∧ w12.cell? ⟨W.heap.size, 1, none⟩ = some (.string b) ∧ w12.cell? ⟨W.heap.size, 2, none⟩ = some (.int .i64 lev) := ⟨hs0, hs1, hs2, hs3⟩
        have HB12 := Aside0.mk (HWD.out.trans (hb12.mono HWD.out.size))
        have HV12 := Aside0.mk hv12
        have HGB := Aside0.mk hgb12
        clear hb12 hv12 hgb12 hs0 hs1 hs2 hs3
        refine norm_ (a' := ?_) ?_ ?_
        rotate_left
        · simp only [putAll, Act.put, List.setIfInBounds_toArray, List.set_cons_zero, List.set_cons_succ]
          rfl
        refine last_ (i := 13) (N := some 126) #[true, true, true, true, true, true, true, true, true, true, true, true, true, true, false, false, false] rfl rfl (one_of HT_.out (by kernel_rfl)) (by decide) (fun K hK => ?_)
        refine goes_ Tryz.func72 (by kernel_rfl) rfl #[.slice (some ⟨g, 0, none⟩) f.units.length cu, .int .i64 (endOf f.units i : Int), .slice (some ⟨gb, 0, none⟩) 1 1] (by rfl) rfl rfl (by (try simp only [List.map_toArray, List.map_cons, List.map_nil]); first | done | rfl | (simp only []; rfl)) ?_
        with_reducible refine (Ins_units g cu (endOf f.units i) gb ok f.units ⟨a, b, lev⟩ _ (HPW.out.below HB12.out).units (endOf_le hi).2 hl HV12.out (by have := HGB.out; have := HWD.out.size; omega)).mono ?_
        rintro e w13 ⟨g13, c13, rfl, hr13, hg13, hor13, hc13⟩
        have P12 := HPW.out.below HB12.out
        have hfg : some fb ≠ some g := fun e_ => by injection e_ with e_; subst e_; obtain ⟨cells_, hcc_⟩ := own_typed (uRow_of_R P12.units) fb rfl; rw [P12.F] at hcc_; cases hcc_
        have F13 : FileAt w13 fb f.F (.slice A f.rules.length rc) (.slice (some ⟨g, 0, none⟩) f.units.length cu) ub := (hg13.block fb (blk_lt P12.F) hfg).trans P12.F
        have d8 : w13.cell? ⟨fb, 8, none⟩ = some (.slice (some ⟨g, 0, none⟩) f.units.length cu) := (blk_cell F13 8).trans rfl
        have f8 := blk_frozen F13 8
        have HR13 := Aside0.mk hr13
        have HG13 := Aside0.mk hg13
        have HO13 := Aside0.mk hor13
        have HF13 := Aside0.mk F13
        clear hr13 hg13 hor13 F13 P12 hfg hc13
        refine ⟨_, rfl, ?_⟩
        refine hK.out _ _ ?_
        clear hK K
        refine norm_ (a' := ?_) ?_ ?_
        rotate_left
        · show Act.put _ (some 126) _ = _
          simp only [Act.put, List.setIfInBounds_toArray, List.set_cons_zero, List.set_cons_succ, i64_w, i32_w]
          rfl
        refine pure_ (i := 14) (N := some 127) (v := ?_) (a' := ?_) #[true, true, true, true, true, true, true, true, true, true, true, true, true, true, true, false, false] rfl rfl (any_of HT_.out (by kernel_rfl)) (fun _ _ _ h => h) (Or.inl ⟨by rfl, ?_⟩) ?_ ?_
        rotate_left
        · intro w'
          go_simp
          with_reducible rfl
        rotate_left
        · simp only [Act.put, List.setIfInBounds_toArray, List.set_cons_zero, List.set_cons_succ, i64_w, i32_w]
          rfl
        refine pure_ (i := 15) (N := some 128) (v := ?_) (a' := ?_) #[true, true, true, true, true, true, true, true, true, true, true, true, true, true, true, true, false] rfl rfl (any_of HT_.out (by kernel_rfl)) (fun _ _ _ h => h) (Or.inl ⟨by rfl, ?_⟩) ?_ ?_
        rotate_left
        · intro w'
          go_simp
          with_reducible rfl
        rotate_left
        · simp only [Act.put, List.setIfInBounds_toArray, List.set_cons_zero, List.set_cons_succ, i64_w, i32_w]
          rfl
        refine last_ (i := 16) (N := none) #[true, true, true, true, true, true, true, true, true, true, true, true, true, true, true, true, true] rfl rfl (one_of HT_.out (by kernel_rfl)) (by decide) (fun K hK => ?_)
        refine skip_ (w1 := ?_) (by rfl) rfl ?_ ?_
        rotate_left
        · go_simp
          rfl
        refine hK.out _ _ ?_
        clear hK K
        refine done_ (done_of HT_.out (by kernel_rfl)) ?_
        go_wp2_with fail
        have HC13 := Aside0.mk (show Chg W w13 (fun k => some k = (Value.slice (some ⟨g, 0, none⟩) f.units.length cu).ownBlock) from (Chg.of_below HB12.out (fun _ => False)).mono (fun _ h => h.elim) |>.trans (Chg.of_grown HG13.out (fun k e => e)) (fun k e => .inl e))
        have PN := HPW.out.newUnits HC13.out HR13.out (fun k hk => by
          subst hk
          rcases HO13.out with e | e
          · exact .inl (HPW.out.units.1 k (by rw [e]; rfl))
          · exact .inr (by have := HB12.out.size; omega))
        have CG := Aside0.mk (changed_c fb ub f.F _ _ u _ PN.1.F)
        have HPN := Aside0.mk PN
        clear PN
        refine CG.out.mono ?_
        rintro e w14 ⟨rfl, rfl⟩
        go_wp2
        go_ret
        have h14 := HPN.out.1.noted u
        refine ⟨rfl, .slice (some ⟨g13, 0, none⟩) (f.units.length + 1) c13, ?_, HPN.out.2.trans h14.2 (fun k hk => hk)⟩
        have h15 := h14.1
        rw [HLE.out] at h15
        exact h15
end Go.Proofs.YtehlmkgldcfciaaGreat.Files
/- The file store: one file's step is the store's step; a file made; a file opened. -/
set_option linter.unusedVariables false
set_option linter.unusedSimpArgs false
namespace Go.Proofs.YtehlmkgldcfciaaGreat.Files
open Go.Proofs.YtehlmkgldcfciaaGreat.Common Go.Maps Go.ChangeMaps Go.WideMaps Go.Proofs.YtehlmkgldcfciaaGreat.F
open Go.RowKit Go.Proofs.YtehlmkgldcfciaaGreatW.PrintWords Go.Proofs.YtehlmkgldcfciaaGreatW.PrintLast Go.Proofs.YtehlmkgldcfciaaGreatW.PrintMore
def okP (ok : Nat → Prop) (W w' : World) : Nat → Prop := fun q => (ok q ∨ W.heap.size ≤ q) ∧ q < w'.heap.size
theorem filesL_look {L : List (Nat × AF)} {D : DataW Unit} (hm : MapIs D (L.map fun p => (p.2.key, .lit (.int .i64 p.1)))) (hn : (L.map (·.2.key)).Nodup) {fb : Nat} {f : AF} (hp : (fb, f) ∈ L) : D.atKey (.string f.F.name.data.toList) .nil = .lit (.int .i64 (fb : Nat)) := by
  rw [hm.at_]
  have h2 : ((L.map fun p => (p.2.key, (DataW.lit (.int .i64 (p.1 : Int)) : DataW Unit))).map (·.1)).Nodup := by
    rw [List.map_map]; exact hn
  have := look_of_mem h2 (p := (f.key, .lit (.int .i64 (fb : Int)))) (List.mem_map.2 ⟨(fb, f), hp, rfl⟩)
  rw [show f.F.name.data.toList = f.key from rfl, this]
  all_goals rfl
theorem filesL_none {L : List (Nat × AF)} {D : DataW Unit} (hm : MapIs D (L.map fun p => (p.2.key, .lit (.int .i64 p.1)))) {n : ByteArray} (hn : ∀ p ∈ L, p.2.F.name ≠ n) : look (L.map fun p => (p.2.key, (DataW.lit (.int .i64 (p.1 : Int)) : DataW Unit))) n.data.toList = none :=
  look_none.2 fun p hp => by
    obtain ⟨q, hq, rfl⟩ := List.mem_map.1 hp
    exact fun e => hn q hq (data_inj e)
theorem StoreParts.below {W w' : World} {ok : Nat → Prop} {sb mb : Nat} {L : List (Nat × AF)} {D : DataW Unit} {own : Nat → Nat} (h : StoreParts W ok sb L mb D own) (hb : Below W.heap.size W w') : StoreParts w' ok sb L mb D own :=
  ⟨h.oks, h.okm, (hb.block sb (h.lt sb h.oks)).trans h.S, (Chg.of_below hb (fun _ => False)).map h.M (fun h => h), h.mM, fun p hp => (h.files p hp).step (Chg.of_below hb (fun _ => False)) (fun _ _ h => h), h.ownm, fun k hk => Nat.lt_of_lt_of_le (h.lt k hk) hb.size, h.fbs, h.names⟩
theorem StoreParts.other {W w' : World} {ok S : Nat → Prop} {sb mb : Nat} {L : List (Nat × AF)} {D : DataW Unit} {own : Nat → Nat} (h : StoreParts W ok sb L mb D own) (hc : Chg W w' S) (hs : ∀ k, ok k → ¬ S k) : StoreParts w' ok sb L mb D own :=
  ⟨h.oks, h.okm, (hc.block sb (h.lt sb h.oks) (hs sb h.oks)).trans h.S, hc.map h.M (hs mb h.okm), h.mM, fun p hp => (h.files p hp).step hc (fun k hk => hs k hk.1), h.ownm, fun k hk => Nat.lt_of_lt_of_le (h.lt k hk) hc.size, h.fbs, h.names⟩
theorem StoreRep.other {W w' : World} {ok S : Nat → Prop} {sb : Nat} {L : List (Nat × AF)} (h : StoreRep W ok sb L) (hc : Chg W w' S) (hs : ∀ k, ok k → ¬ S k) : StoreRep w' ok sb L := by
  obtain ⟨mb, D, own, h⟩ := h
  exact ⟨mb, D, own, h.other hc hs⟩
theorem set_same {α : Type} {l : List α} {k : Nat} {x : α} (h : l[k]? = some x) : l.set k x = l := by
  apply List.ext_getElem?
  intro j
  rw [List.getElem?_set]
  split
  · rename_i e
    subst e
    split
    · exact h.symm
    · rename_i h2
      rw [List.getElem?_eq_none (by omega)]
  · rfl
theorem mem_set_of {α : Type} {l : List α} {k : Nat} {x y : α} (h : x ∈ l.set k y) : x = y ∨ ∃ j, j ≠ k ∧ l[j]? = some x := by
  obtain ⟨j, hj, e⟩ := List.getElem_of_mem h
  rw [List.length_set] at hj
  by_cases hjk : j = k
  · subst hjk
    rw [List.getElem_set_self] at e
    exact .inl e.symm
  · rw [List.getElem_set_ne (Ne.symm hjk)] at e
    exact .inr ⟨j, hjk, by rw [List.getElem?_eq_getElem hj, e]⟩
theorem StoreParts.step {W w' : World} {ok : Nat → Prop} {sb mb fb k : Nat} {L : List (Nat × AF)} {D : DataW Unit} {own : Nat → Nat} {f f' : AF} (h : StoreParts W ok sb L mb D own) (hk : L[k]? = some (fb, f)) (hkey : f'.key = f.key)
    (hf : FileRep w' (fun q => (ok q ∧ own q = fb) ∨ W.heap.size ≤ q) fb f') (hc : Chg W w' (fun q => ok q ∧ own q = fb)) : StoreRep w' (okP ok W w') sb (L.set k (fb, f')) ∧ Chg W w' ok := by
  have hmem : (fb, f) ∈ L := List.mem_of_getElem? hk
  have hkl : k < L.length := (List.getElem?_eq_some_iff.1 hk).1
  have e1 : (L.set k (fb, f')).map (fun p => (p.2.key, (DataW.lit (.int .i64 (p.1 : Int)) : DataW Unit))) = L.map fun p => (p.2.key, .lit (.int .i64 p.1)) := by
    rw [List.map_set, hkey]
    refine set_same ?_
    rw [List.getElem?_map, hk]; rfl
  have e2 : (L.set k (fb, f')).map (·.1) = L.map (·.1) := by
    rw [List.map_set]
    refine set_same ?_
    rw [List.getElem?_map, hk]; rfl
  have e3 : (L.set k (fb, f')).map (·.2.key) = L.map (·.2.key) := by
    rw [List.map_set, hkey]
    refine set_same ?_
    rw [List.getElem?_map, hk]; rfl
  have hom := h.ownm _ hmem
  have hoks : okP ok W w' sb := ⟨.inl h.oks, Nat.lt_of_lt_of_le (h.lt sb h.oks) hc.size⟩
  have hokm : okP ok W w' mb := ⟨.inl h.okm, Nat.lt_of_lt_of_le (h.lt mb h.okm) hc.size⟩
  refine ⟨⟨mb, D, fun q => if q < W.heap.size then own q else fb, ⟨hoks, hokm, ?_, ?_, ?_, ?_, ?_, fun q hq => hq.2, ?_, ?_⟩⟩, hc.mono (fun q hq => hq.1)⟩
  · exact (hc.block sb (h.lt sb h.oks) (fun hq => hom.2 hq.2)).trans h.S
  · exact hc.map h.M (fun hq => hom.1 hq.2)
  · rw [e1]; exact h.mM
  · intro p hp
    rcases mem_set_of hp with rfl | ⟨j, hj, hjp⟩
    · obtain ⟨A, rc, uv, ub, DU, P⟩ := hf
      refine ⟨A, rc, uv, ub, DU, P.bound.mono (fun q hq => ?_)⟩
      obtain ⟨hq1 | hq1, hq2⟩ := hq
      · exact ⟨⟨.inl hq1.1, hq2⟩, by show (if q < W.heap.size then own q else fb) = fb; rw [if_pos (h.lt q hq1.1)]; exact hq1.2⟩
      · exact ⟨⟨.inr hq1, hq2⟩, by show (if q < W.heap.size then own q else fb) = fb; rw [if_neg (by omega)]⟩
    · have hjl : j < L.length := (List.getElem?_eq_some_iff.1 hjp).1
      have hne : p.1 ≠ fb := by
        intro e
        have h1 : (L.map (·.1))[j]? = some p.1 := by rw [List.getElem?_map, hjp]; rfl
        have h2 : (L.map (·.1))[k]? = some fb := by rw [List.getElem?_map, hk]; rfl
        have := (List.getElem?_inj (by rw [List.length_map]; exact hjl) h.fbs).1 (h1.trans (by rw [e]; exact h2.symm))
        exact hj this
      refine ((h.files p (List.mem_of_getElem? hjp)).step hc (fun q hq hq2 => hne (hq.2.symm.trans hq2.2))).mono (fun q hq => ?_)
      exact ⟨⟨.inl hq.1, Nat.lt_of_lt_of_le (h.lt q hq.1) hc.size⟩, by show (if q < W.heap.size then own q else fb) = p.1; rw [if_pos (h.lt q hq.1)]; exact hq.2⟩
  · intro p hp
    have hp1 : p.1 ∈ L.map (·.1) := by rw [← e2]; exact List.mem_map.2 ⟨p, hp, rfl⟩
    obtain ⟨q, hq, hqe⟩ := List.mem_map.1 hp1
    have := h.ownm q hq
    show (if mb < W.heap.size then own mb else fb) ≠ p.1 ∧ (if sb < W.heap.size then own sb else fb) ≠ p.1
    rw [if_pos (h.lt mb h.okm), if_pos (h.lt sb h.oks), ← hqe]
    exact this
  · rw [e2]; exact h.fbs
  · rw [e3]; exact h.names
def SOut (W : World) (ok : Nat → Prop) (sb : Nat) (v : Value) (st' : List AF) (e : Ending) (w' : World) : Prop := e = .returned v ∧ ∃ ok' L', StoreRep w' ok' sb L' ∧ L'.map (·.2) = st' ∧ Chg W w' ok ∧ ∀ q, ok' q → ok q ∨ W.heap.size ≤ q
theorem SOut.below {W w' : World} {ok : Nat → Prop} {sb : Nat} {L : List (Nat × AF)} {v : Value} (h : StoreRep W ok sb L) (hb : Below W.heap.size W w') : SOut W ok sb v (L.map (·.2)) (.returned v) w' :=
  ⟨rfl, ok, L, h.other (Chg.of_below hb (fun _ => False)) (fun _ _ h => h), rfl, Chg.of_below hb _, fun q hq => .inl hq⟩
theorem SOut.step {W w' : World} {ok : Nat → Prop} {sb mb fb k : Nat} {L : List (Nat × AF)} {D : DataW Unit} {own : Nat → Nat} {f f' : AF} {v : Value} (h : StoreParts W ok sb L mb D own) (hk : L[k]? = some (fb, f)) (hkey : f'.key = f.key)
    (hf : FileRep w' (fun q => (ok q ∧ own q = fb) ∨ W.heap.size ≤ q) fb f') (hc : Chg W w' (fun q => ok q ∧ own q = fb)) : SOut W ok sb v ((L.map (·.2)).set k f') (.returned v) w' := by
  obtain ⟨h1, h2⟩ := h.step hk hkey hf hc
  exact ⟨rfl, _, _, h1, by rw [List.map_set], h2, fun q hq => hq.1⟩
end Go.Proofs.YtehlmkgldcfciaaGreat.Files
/- The file store: New, Create and Open as steps of the store. -/
set_option linter.unusedVariables false
set_option linter.unusedSimpArgs false
namespace Go.Proofs.YtehlmkgldcfciaaGreat.Files
open Go.Proofs.YtehlmkgldcfciaaGreat.Common Go.Maps Go.ChangeMaps Go.WideMaps Go.Proofs.YtehlmkgldcfciaaGreat.F
open Go.RowKit Go.Proofs.YtehlmkgldcfciaaGreatW.PrintWords Go.Proofs.YtehlmkgldcfciaaGreatW.PrintLast Go.Proofs.YtehlmkgldcfciaaGreatW.PrintMore
def NewOut (w : World) (e : Ending) (w' : World) : Prop := ∃ sb ok, e = .returned (.pointer (some ⟨sb, 0, none⟩)) ∧ StoreRep w' ok sb [] ∧ Below w.heap.size w w' ∧ ∀ q, ok q → w.heap.size ≤ q
theorem S_New (w : World) : Calls Tryz.prog 5 #[] w (NewOut w) := by
  refine (New_c w).mono ?_
  rintro e w' ⟨rfl, rfl⟩
  have hM := (World.ownsMap_made w Tryz.prog 9 Rp).alloc (.cells #[.map (some w.heap.size)] 43)
  have hsz : ((w.alloc (.map #[] 0)).alloc (.cells #[.map (some w.heap.size)] 43)).heap.size = w.heap.size + 2 := by simp
  have hS : Boxed ((w.alloc (.map #[] 0)).alloc (.cells #[.map (some w.heap.size)] 43)) (w.heap.size + 1) 43 (.map (some w.heap.size)) := by
    have := Boxed.new (w.alloc (.map #[] 0)) 43 (.map (some w.heap.size))
    rwa [World.size_alloc] at this
  refine ⟨w.heap.size + 1, fun q => w.heap.size ≤ q ∧ q < w.heap.size + 2, rfl, ⟨w.heap.size, .map [], fun _ => 0, ?_⟩, ((Below.refl _ _).alloc (Nat.le_refl _) _).alloc (by simp) _, fun q hq => hq.1⟩
  exact ⟨⟨by omega, by omega⟩, ⟨by omega, by omega⟩, hS, ownsMap_tight hM, MapIs.nil, (fun p hp => by cases hp), (fun p hp => by cases hp), fun k hk => by rw [hsz]; exact hk.2, List.nodup_nil, List.nodup_nil⟩
def newF (u n : ByteArray) (kind perm : Int) : AF := ⟨⟨n, kind, perm, u, ByteArray.empty, 0, 0⟩, [], [⟨ByteArray.empty, ByteArray.empty, 0⟩], []⟩
theorem new_parts (W : World) (u n : ByteArray) (kind perm : Int) (W3 : World) (h : ((W.alloc (.cells #[.string ByteArray.empty, .string ByteArray.empty, .int .i64 0] 29)).alloc (.map #[] 0)).alloc (.cells (FS.cells ⟨n, kind, perm, u, ByteArray.empty, 0, 0⟩ (.slice none 0 0) (.slice (some ⟨W.heap.size, 0, none⟩) 1 1) (W.heap.size + 1)) 92) = W3) :
    FileParts W3 (fun q => W.heap.size ≤ q) (W.heap.size + 2) (newF u n kind perm) none 0 (.slice (some ⟨W.heap.size, 0, none⟩) 1 1) (W.heap.size + 1) (.map []) ∧ Below W.heap.size W W3 ∧ W3.heap.size = W.heap.size + 3 := by
  subst h
  have hU := (World.ownsMap_made (W.alloc (.cells #[.string ByteArray.empty, .string ByteArray.empty, .int .i64 0] 29)) Tryz.prog 9 Ro).alloc (.cells (FS.cells ⟨n, kind, perm, u, ByteArray.empty, 0, 0⟩ (.slice none 0 0) (.slice (some ⟨W.heap.size, 0, none⟩) 1 1) (W.heap.size + 1)) 92)
  rw [World.size_alloc] at hU
  have hF := heap_alloc_new ((W.alloc (.cells #[.string ByteArray.empty, .string ByteArray.empty, .int .i64 0] 29)).alloc (.map #[] 0)) (.cells (FS.cells ⟨n, kind, perm, u, ByteArray.empty, 0, 0⟩ (.slice none 0 0) (.slice (some ⟨W.heap.size, 0, none⟩) 1 1) (W.heap.size + 1)) 92)
  rw [World.size_alloc, World.size_alloc] at hF
  refine ⟨⟨by omega, hF, Kd.R_nil _ _ _ _ _, ?_, by omega, ownsMap_tight hU, MapIs.nil⟩, (((Below.refl _ _).alloc (Nat.le_refl _) _).alloc (by simp) _).alloc (by simp <;> omega) _, by simp⟩
  refine R_of_uRow' ⟨rfl, .inr ⟨W.heap.size, 1, #[.string ByteArray.empty, .string ByteArray.empty, .int .i64 0], rfl, Nat.zero_le _, ?_, Nat.le_refl _, by decide, rfl, rfl⟩⟩ (fun k hk => by
    have : W.heap.size = k := by simpa [Value.ownBlock] using hk
    omega)
  rw [Below.heap_alloc _ _ _ (by simp <;> omega), Below.heap_alloc _ _ _ (by simp)]
  exact heap_alloc_new W _
theorem S_Create_ok (sb : Nat) (ok : Nat → Prop) (L : List (Nat × AF)) (u n : ByteArray) (kind perm : Int) (W : World) (hR : StoreRep W ok sb L)
    (hu : 1 ≤ u.size ∧ u.size ≤ 20) (hn : 1 ≤ n.size ∧ n.size ≤ 30) (hkd : 0 ≤ kind ∧ kind ≤ 2) (hpm : 0 ≤ perm ∧ perm ≤ 255) (hno : ∀ p ∈ L, p.2.F.name ≠ n) (hlen : L.length < 30) :
    Calls Tryz.prog 16 #[.pointer (some ⟨sb, 0, none⟩), .string u, .string n, .int .i64 kind, .int .i64 perm] W (SOut W ok sb (.int .i64 0) (L.map (·.2) ++ [newF u n kind perm])) := by
  obtain ⟨mb, D, own, R⟩ := hR
  have hlook := filesL_none R.mM hno
  have hD : D.atKey (.string n.data.toList) .nil = .nil := by rw [R.mM.at_, hlook]; rfl
  have hsz : Maps.size D = L.length := by rw [R.mM.size, List.length_map]
  refine (Create_c sb mb _ D u n kind perm W R.S.cell R.M (by omega) hu hn hkd hpm hD (by omega)).mono ?_
  rintro e w' ⟨rfl, W3, hW3, hM', hT⟩
  obtain ⟨P3, hb3, hs3⟩ := new_parts W u n kind perm W3 hW3
  have hmb := R.M.lt
  have hsb := R.S.lt
  have hne : sb ≠ mb := fun e => by
    have h1 := R.S
    obtain ⟨es, clock, hb, _⟩ := R.M
    rw [← e] at hb
    exact absurd (h1.symm.trans hb) (by simp)
  have hcT : Chg W3 w' (fun q => q = mb) := Chg.of_turned hT rfl
  have hsz' : w'.heap.size = W3.heap.size := by
    obtain ⟨_, _, _, _, _, rfl⟩ := hT
    simp [setBlock]
  have hcW : Chg W w' ok := ((Chg.of_below hb3 (fun _ => False)).mono (fun _ h => h.elim)).trans hcT (fun q hq => .inl (by rw [hq]; exact R.okm))
  have hfbs : ∀ p ∈ L, p.1 < W.heap.size ∧ p.1 ≠ mb := fun p hp => by
    obtain ⟨A, rc, uv, ub, DU, P⟩ := R.files p hp
    exact ⟨blk_lt P.F, Ne.symm (blk_map_ne P.F R.M)⟩
  refine ⟨rfl, okP ok W w', L ++ [(W.heap.size + 2, newF u n kind perm)], ⟨mb, D.put (.string n.data.toList) (.lit (.int .i64 (W.heap.size + 2 : Nat))), fun q => if q = mb ∨ q = sb then mb else if q < W.heap.size then own q else W.heap.size + 2, ?_⟩, by simp, hcW, fun q hq => hq.1⟩
  have hmap : (L ++ [(W.heap.size + 2, newF u n kind perm)]).map (fun p => (p.2.key, (DataW.lit (.int .i64 (p.1 : Int)) : DataW Unit))) = L.map (fun p => (p.2.key, (DataW.lit (.int .i64 (p.1 : Int)) : DataW Unit))) ++ [(n.data.toList, .lit (.int .i64 (W.heap.size + 2 : Nat)))] := by
    rw [List.map_append]; rfl
  refine ⟨⟨.inl R.oks, by omega⟩, ⟨.inl R.okm, by omega⟩, ?_, ownsMap_tight hM', ?_, ?_, ?_, fun q hq => hq.2, ?_, ?_⟩
  · exact (hcT.block sb (by omega) hne).trans ((hb3.block sb hsb).trans R.S)
  · rw [hmap]
    exact R.mM.put _ _ hlook
  · intro p hp
    rcases List.mem_append.1 hp with hp | hp
    · refine (((R.files p hp).step (Chg.of_below hb3 (fun _ => False)) (fun _ _ h => h)).step hcT (fun q hq e => (R.ownm p hp).1 (by rw [← e]; exact hq.2))).mono (fun q hq => ?_)
      have hqlt := R.lt q hq.1
      refine ⟨⟨.inl hq.1, by omega⟩, ?_⟩
      have h1 : ¬ (q = mb ∨ q = sb) := fun h => h.elim (fun e => (R.ownm p hp).1 (by rw [← e]; exact hq.2)) (fun e => (R.ownm p hp).2 (by rw [← e]; exact hq.2))
      show (if q = mb ∨ q = sb then mb else if q < W.heap.size then own q else W.heap.size + 2) = p.1
      rw [if_neg h1, if_pos hqlt]
      exact hq.2
    · obtain rfl := List.mem_singleton.1 hp
      refine ⟨_, _, _, _, _, (P3.step hcT (fun q hq => by omega)).bound.mono (fun q hq => ⟨⟨.inr hq.1, hq.2⟩, ?_⟩)⟩
      show (if q = mb ∨ q = sb then mb else if q < W.heap.size then own q else W.heap.size + 2) = W.heap.size + 2
      have hq1 := hq.1
      rw [if_neg (by omega), if_neg (by omega)]
  · intro p hp
    have h2 : p.1 ≠ mb := by
      rcases List.mem_append.1 hp with hp | hp
      · exact (hfbs p hp).2
      · obtain rfl := List.mem_singleton.1 hp
        show W.heap.size + 2 ≠ mb
        omega
    show (if mb = mb ∨ mb = sb then mb else _) ≠ p.1 ∧ (if sb = mb ∨ sb = sb then mb else _) ≠ p.1
    rw [if_pos (.inl rfl), if_pos (.inr rfl)]
    exact ⟨Ne.symm h2, Ne.symm h2⟩
  · rw [List.map_append, List.nodup_append]
    refine ⟨R.fbs, by simp, fun a ha b hb e => ?_⟩
    obtain ⟨p, hp, rfl⟩ := List.mem_map.1 ha
    have := (hfbs p hp).1
    have hb' : b = W.heap.size + 2 := by simpa using hb
    omega
  · rw [List.map_append, List.nodup_append]
    refine ⟨R.names, by simp, fun a ha b hb e => ?_⟩
    obtain ⟨p, hp, rfl⟩ := List.mem_map.1 ha
    have hb' : b = n.data.toList := by simpa [newF, AF.key] using hb
    exact hno p hp (data_inj (e.trans hb'))
def freeB (l : List (ByteArray × (Int × Int))) (actions exclusive : Int) : Bool := l.all fun p => decide (bits .and .i64 p.2.2 actions = 0) && decide (bits .and .i64 exclusive p.2.1 = 0)
theorem openD_inj {p q : Int × Int} (h : openD p = openD q) : p = q := by
  unfold openD at h
  simp only [DataW.agg.injEq, List.cons.injEq, DataW.lit.injEq, Lit.int.injEq, true_and, and_true] at h
  exact Prod.ext h.1 h.2
theorem users_keys (l : List (ByteArray × (Int × Int))) : (usersL l).map (·.1) = l.map (fun p => p.1.data.toList) := by simp [usersL]
theorem free_iff {DU : DataW Unit} {l : List (ByteArray × (Int × Int))} (h : MapIs DU (usersL l)) (hn : (l.map (fun p => p.1.data.toList)).Nodup) (actions exclusive : Int) : Free DU actions exclusive ↔ freeB l actions exclusive = true := by
  unfold Free freeB
  rw [List.all_eq_true]
  constructor
  · intro hf p hp
    have h1 : look (usersL l) p.1.data.toList = some (openD p.2) := look_of_mem (by rw [users_keys]; exact hn) (p := (p.1.data.toList, openD p.2)) (List.mem_map.2 ⟨p, hp, rfl⟩)
    have h2 := hf p.1.data.toList p.2.1 p.2.2 (fun zd => by rw [h.at_, h1]; rfl)
    simp [h2.1, h2.2]
  · intro hf k a b hz
    have h1 := hz .nil
    rw [h.at_] at h1
    cases hl : look (usersL l) k with
    | none => rw [hl] at h1; cases h1
    | some d =>
      rw [hl] at h1
      obtain ⟨p, hp, he⟩ := List.mem_map.1 (look_mem hl)
      injection he with he1 he2
      have h3 : openD p.2 = openD (a, b) := he2.trans h1
      have h4 := openD_inj h3
      have h5 := hf p hp
      rw [h4] at h5
      simpa using h5
def AF.opened (f : AF) (u : ByteArray) (a x : Int) : AF := { f with users := f.users ++ [(u, (a, x))] }
theorem S_Open (sb fb k : Nat) (ok : Nat → Prop) (L : List (Nat × AF)) (f : AF) (u n : ByteArray) (actions exclusive : Int) (W : World) (hR : StoreRep W ok sb L) (hk : L[k]? = some (fb, f)) (hnm : f.F.name = n)
    (hu : 1 ≤ u.size ∧ u.size ≤ 20) (hn : 1 ≤ n.size ∧ n.size ≤ 30) (hact : 0 ≤ actions ∧ actions ≤ 255) (hexc : 0 ≤ exclusive ∧ exclusive ≤ 255) (hsub : bits .andNot .i64 exclusive actions = 0)
    (hhas : lookU f.users u = none) (hmay : mayB f.F f.rules u actions = true) (hnd : (f.users.map (fun p => p.1.data.toList)).Nodup) (hul : f.users.length < 1000) :
    Calls Tryz.prog 20 #[.pointer (some ⟨sb, 0, none⟩), .string u, .string n, .int .i64 actions, .int .i64 exclusive] W
      (SOut W ok sb (.int .i64 (if freeB f.users actions exclusive then 0 else 12)) (if freeB f.users actions exclusive then (L.map (·.2)).set k (f.opened u actions exclusive) else L.map (·.2))) := by
  have hR0 := hR
  obtain ⟨mb, D, own, R⟩ := hR
  obtain ⟨A, rc, uv, ub, DU, P⟩ := R.files _ (List.mem_of_getElem? hk)
  have hD := filesL_look R.mM R.names (List.mem_of_getElem? hk)
  rw [hnm] at hD
  have hlook : look (usersL f.users) u.data.toList = none := by rw [look_users, hhas]; rfl
  have hh : Maps.has DU (.string u.data.toList) = false := by rw [P.mU.has, hlook]; rfl
  have hsz : Maps.size DU = f.users.length := by rw [P.mU.size]; simp [usersL]
  obtain ⟨_, hrc, hrC⟩ := Kd.R_reads' P.rules
  refine (Open_c sb mb _ fb ub _ rc D DU f.F A f.rules uv u n actions exclusive W R.S.cell R.M hu hn hD P.F P.U (by omega) hrC hrc hact hexc hsub hh hmay).mono ?_
  rintro e w' (⟨rfl, hf, hM', w3, hb3, hT⟩ | ⟨rfl, hf, hb⟩)
  · rw [(free_iff P.mU hnd actions exclusive).1 hf]
    have hcT : Chg w3 w' (fun q => q = ub) := Chg.of_turned hT rfl
    have hcW : Chg W w' (fun q => q = ub) := ((Chg.of_below hb3 (fun _ => False)).mono (fun _ h => h.elim)).trans hcT (fun q hq => .inl hq)
    have hF' : FileAt w' fb f.F (.slice A f.rules.length rc) uv ub := (hcW.block fb (blk_lt P.F) (Ne.symm (blk_map_ne P.F P.U))).trans P.F
    have hne : ∀ q cells t, W.heap[q]? = some (.cells cells t (0, 0)) → q ≠ ub := fun q cells t h => Ne.symm (blk_map_ne h P.U)
    have hrow : ∀ {α : Type} {d : Kd α} {e0 : Nat} {v : Value} {xs : List α}, d.R e0 W 0 (fun q => ok q ∧ own q = fb) v xs → d.R e0 w' 0 (fun q => ok q ∧ own q = fb) v xs := fun h =>
      Kd.R_mono (hcW.row (Kd.R_bound h) (fun q hq => by
        obtain ⟨_, _, _, t, _, cells, hc⟩ := hq
        exact hne q cells t hc)) (fun q hq => hq.1)
    have hput := P.mU.put u.data.toList (openD (actions, exclusive)) hlook
    have e : usersL (f.opened u actions exclusive).users = usersL f.users ++ [(u.data.toList, openD (actions, exclusive))] := by simp [usersL, AF.opened]
    have P' : FileParts w' (fun q => ok q ∧ own q = fb) fb (f.opened u actions exclusive) A rc uv ub _ := ⟨P.okb, hF', hrow P.rules, hrow P.units, P.oku, ownsMap_tight hM', by rw [e]; exact hput⟩
    exact SOut.step R hk rfl ⟨A, rc, uv, ub, _, P'.mono (fun q hq => .inl hq)⟩ (hcW.mono (fun q hq => by rw [hq]; exact P.oku))
  · have : freeB f.users actions exclusive = false := by
      cases h : freeB f.users actions exclusive with
      | false => rfl
      | true => exact absurd ((free_iff P.mU hnd actions exclusive).2 h) hf
    rw [this]
    exact SOut.below hR0 hb
end Go.Proofs.YtehlmkgldcfciaaGreat.Files
/- The file store: Insert and Read as steps of the store; the example of the chapter. -/
set_option linter.unusedVariables false
set_option linter.unusedSimpArgs false
namespace Go.Proofs.YtehlmkgldcfciaaGreat.Files
open Go.Proofs.YtehlmkgldcfciaaGreat.Common Go.Maps Go.ChangeMaps Go.WideMaps Go.Proofs.YtehlmkgldcfciaaGreat.F
open Go.RowKit Go.Proofs.YtehlmkgldcfciaaGreatW.PrintWords Go.Proofs.YtehlmkgldcfciaaGreatW.PrintLast Go.Proofs.YtehlmkgldcfciaaGreatW.PrintMore
theorem StoreParts.way {W : World} {ok : Nat → Prop} {sb mb fb k : Nat} {L : List (Nat × AF)} {D : DataW Unit} {own : Nat → Nat} {f : AF} {u n : ByteArray} (R : StoreParts W ok sb L mb D own) (hk : L[k]? = some (fb, f)) (hnm : f.F.name = n) (hu : 1 ≤ u.size ∧ u.size ≤ 20) (hn : 1 ≤ n.size ∧ n.size ≤ 30) :
    FoundOk W (.pointer (some ⟨sb, 0, none⟩)) u n fb ∧ FileRep W (fun q => ok q ∧ own q = fb) fb f := by
  have hD := filesL_look R.mM R.names (List.mem_of_getElem? hk)
  rw [hnm] at hD
  exact ⟨View.found ⟨R.S.cell, R.M, hu, hn⟩ hD, R.files _ (List.mem_of_getElem? hk)⟩
structure UOk (l : List S29) : Prop where
  pos : 1 ≤ l.length
  len : l.length ≤ 100
  lev : ∀ j, 0 ≤ lv l j ∧ lv l j ≤ 1000
  root : lv l 0 = 0
theorem S_Insert_ok (sb fb k i : Nat) (ok : Nat → Prop) (L : List (Nat × AF)) (f : AF) (u n : ByteArray) (child : Bool) (a b : ByteArray) (lev0 ac ex : Int) (W : World) (hR : StoreRep W ok sb L) (hk : L[k]? = some (fb, f)) (hnm : f.F.name = n)
    (hu : 1 ≤ u.size ∧ u.size ≤ 20) (hn : 1 ≤ n.size ∧ n.size ≤ 30) (hlook : lookU f.users u = some (ac, ex)) (hU : UOk f.units) (hi : i < f.units.length) (h1 : a.size ≤ 30) (h2 : b.size ≤ 400) (hbad : insBad f.F.kind (insLev f.units i child) = false)
    (hcl : clashB f.units (kids f.units (aboveOf f.units (insLev f.units i child) i)) a = false) (hdn : denied ac 2 = 0) (hfull : f.units.length < 100) :
    Calls Tryz.prog 30 #[.pointer (some ⟨sb, 0, none⟩), .string u, .string n, .int .i64 (i : Int), .bool child, .agg #[.string a, .string b, .int .i64 lev0]] W (SOut W ok sb (.int .i64 0) ((L.map (·.2)).set k (f.ins u i ⟨a, b, insLev f.units i child⟩))) := by
  obtain ⟨mb, D, own, R⟩ := hR
  obtain ⟨HF, A, rc, uv, ub, DU, P⟩ := R.way hk hnm hu hn
  have HO := opened_ok _ u n 2 W _ fb rc ub f A uv DU ac ex HF P (by omega) hlook
  rw [hdn] at HO
  have HU := unit_ok _ u n (i : Int) 2 0 W _ fb rc ub f A uv DU HO P (by omega) (by omega)
  refine (Insert_ok _ u n i fb rc ub child a b lev0 0 f A uv DU _ W HU P hi (by have := hU.len; omega) h1 h2 hU.lev hU.root hbad hcl rfl hfull).mono ?_
  rintro e w' ⟨rfl, uv', hP, hC⟩
  exact SOut.step R hk rfl ⟨A, rc, uv', ub, DU, hP⟩ hC
def RdOut (W : World) (ok : Nat → Prop) (sb : Nat) (l : List S29) (E : Int) (st' : List AF) (e : Ending) (w' : World) : Prop := ∃ v, SOut W ok sb (.tuple #[v, .int .i64 E]) st' e w' ∧ Kd.R k29 29 w' W.heap.size (fun _ => True) v l
theorem S_Read_ok (sb fb k i : Nat) (ok : Nat → Prop) (L : List (Nat × AF)) (f : AF) (u n : ByteArray) (whole : Bool) (ac ex : Int) (W : World) (hR : StoreRep W ok sb L) (hk : L[k]? = some (fb, f)) (hnm : f.F.name = n)
    (hu : 1 ≤ u.size ∧ u.size ≤ 20) (hn : 1 ≤ n.size ∧ n.size ≤ 30) (hlook : lookU f.users u = some (ac, ex)) (hU : UOk f.units) (hi : i < f.units.length) (hdn : denied ac 1 = 0) :
    Calls Tryz.prog 26 #[.pointer (some ⟨sb, 0, none⟩), .string u, .string n, .int .i64 (i : Int), .bool whole] W (RdOut W ok sb (readL f.units i whole) 0 ((L.map (·.2)).set k f.read)) := by
  obtain ⟨mb, D, own, R⟩ := hR
  obtain ⟨HF, A, rc, uv, ub, DU, P⟩ := R.way hk hnm hu hn
  have HO := opened_ok _ u n 1 W _ fb rc ub f A uv DU ac ex HF P (by omega) hlook
  rw [hdn] at HO
  have HU := unit_ok _ u n (i : Int) 1 0 W _ fb rc ub f A uv DU HO P (by omega) (by omega)
  refine (Read_ok _ u n i fb rc ub whole f A uv DU _ W HU P hi (by have := hU.len; omega)).mono ?_
  rintro e w' ⟨v, rfl, hr, hP, hC⟩
  exact ⟨v, SOut.step R hk rfl ⟨A, rc, uv, ub, DU, hP.mono (fun q hq => .inl hq)⟩ (hC.mono (fun q hq => by rw [hq]; exact P.okb)), hr⟩
def su : ByteArray := ⟨#[117]⟩
def sf : ByteArray := ⟨#[102]⟩
def sa : ByteArray := ⟨#[97]⟩
def sb_ : ByteArray := ⟨#[98]⟩
def s1 : ByteArray := ⟨#[49]⟩
def s2 : ByteArray := ⟨#[50]⟩
def F0 : AF := newF su sf 2 255
def F1 : AF := F0.opened su 255 0
def F2 : AF := F1.ins su 0 ⟨sa, s1, insLev F1.units 0 true⟩
def F3 : AF := F2.ins su 1 ⟨sb_, s2, insLev F2.units 1 false⟩
theorem F1_units : F1.units = [⟨ByteArray.empty, ByteArray.empty, 0⟩] := rfl
theorem F2_units : F2.units = [⟨ByteArray.empty, ByteArray.empty, 0⟩, ⟨sa, s1, 1⟩] := rfl
theorem F3_units : F3.units = [⟨ByteArray.empty, ByteArray.empty, 0⟩, ⟨sa, s1, 1⟩, ⟨sb_, s2, 1⟩] := rfl
theorem uok_of {l : List S29} (h0 : 1 ≤ l.length) (h1 : l.length ≤ 100) (h2 : ∀ x ∈ l, 0 ≤ x.f2 ∧ x.f2 ≤ 1000) (h3 : lv l 0 = 0) : UOk l := ⟨h0, h1, fun j => by
  unfold lv
  by_cases h : j < l.length
  · rw [rd_get l j h]; exact h2 _ (List.getElem_mem h)
  · have : rd_T29 l (j : Int) = z29 := by simp [rd_T29, List.getElem?_eq_none (by omega : l.length ≤ j)]
    rw [this]
    decide, h3⟩
end Go.Proofs.YtehlmkgldcfciaaGreat.Files
/- The file store: Close, Change, and Open of what is no set. -/
set_option linter.unusedVariables false
set_option linter.unusedSimpArgs false
namespace Go.Proofs.YtehlmkgldcfciaaGreat.Files
open Go.Proofs.YtehlmkgldcfciaaGreat.Common Go.Maps Go.ChangeMaps Go.WideMaps Go.Proofs.YtehlmkgldcfciaaGreat.F
open Go.RowKit Go.Proofs.YtehlmkgldcfciaaGreatW.PrintWords Go.Proofs.YtehlmkgldcfciaaGreatW.PrintLast Go.Proofs.YtehlmkgldcfciaaGreatW.PrintMore
def setB (n : Int) : Bool := decide (0 ≤ n) && decide (n ≤ 255)
theorem Open_arg (sp : Value) (u n : ByteArray) (actions exclusive : Int) (W : World) (h : (setB actions && setB exclusive && decide (bits .andNot .i64 exclusive actions = 0)) = false) :
    Calls Tryz.prog 20 #[sp, .string u, .string n, .int .i64 actions, .int .i64 exclusive] W fun e w' => e = .returned (.int .i64 1) ∧ Below W.heap.size W w' := by
  have CA := Aside0.mk (set_c actions W)
  have CE := Aside0.mk (set_c exclusive W)
  by_cases h1 : setB actions = true
  · rw [show (decide (0 ≤ actions) && decide (actions ≤ 255)) = true from h1] at CA
    by_cases h2 : setB exclusive = true
    · rw [show (decide (0 ≤ exclusive) && decide (exclusive ≤ 255)) = true from h2] at CE
      rw [h1, h2] at h
      have h3 : ¬ bits .andNot .i64 exclusive actions = 0 := by simpa using h
      have g3 : (bits .andNot .i64 exclusive actions == 0) = false := by simpa using h3
      have g4 : (bits .andNot .i64 exclusive actions != 0) = true := by simpa using h3
      clear h h1 h2 h3
      go_enter Tryz.func20, Tryz.ntmps20
      go_wp2_with first | (go_at_call 55; first | ((with_reducible refine CA.out.mono ?_); rintro e w' ⟨rfl, rfl⟩) | ((with_reducible refine CE.out.mono ?_); rintro e w' ⟨rfl, rfl⟩))
      go_ret
      exact ⟨rfl, Below.refl _ _⟩
    · rw [show (decide (0 ≤ exclusive) && decide (exclusive ≤ 255)) = false from Bool.eq_false_iff.2 h2] at CE
      clear h h1 h2
      go_enter Tryz.func20, Tryz.ntmps20
      go_wp2_with first | (go_at_call 55; first | ((with_reducible refine CA.out.mono ?_); rintro e w' ⟨rfl, rfl⟩) | ((with_reducible refine CE.out.mono ?_); rintro e w' ⟨rfl, rfl⟩))
      go_ret
      exact ⟨rfl, Below.refl _ _⟩
  · rw [show (decide (0 ≤ actions) && decide (actions ≤ 255)) = false from Bool.eq_false_iff.2 h1] at CA
    clear h h1 CE
    go_enter Tryz.func20, Tryz.ntmps20
    go_wp2_with first | (go_at_call 55; refine CA.out.mono ?_; rintro e w' ⟨rfl, rfl⟩)
    go_ret
    exact ⟨rfl, Below.refl _ _⟩
def AF.closed (f : AF) (u : ByteArray) : AF := { f with users := f.users.filter fun p => !decide (p.1 = u) }
theorem usersL_closed (l : List (ByteArray × (Int × Int))) (u : ByteArray) : usersL (l.filter fun p => !decide (p.1 = u)) = drop_ (usersL l) u.data.toList := by
  induction l with
  | nil => rfl
  | cons p l ih =>
    unfold drop_ usersL at *
    rw [List.filter_cons, List.map_cons, List.filter_cons]
    by_cases h : p.1 = u
    · rw [if_neg (by simp [h]), if_neg (by simp [h])]; exact ih
    · have h2 : ¬ p.1.data.toList = u.data.toList := fun e => h (data_inj e)
      rw [if_pos (by simp [h]), if_pos (by simp [h2]), List.map_cons, ih]
theorem FileParts.newUsers {W w1 w' : World} {ok : Nat → Prop} {fb rc ub n : Nat} {f : AF} {A : Option Addr} {uv : Value} {DU DU' : DataW Unit} (P : FileParts W ok fb f A rc uv ub DU) (hb : Below W.heap.size W w1) (hT : w1.mapTurned w' ub) (hM : w'.ownsMap Tryz.prog 9 Ro ub n DU') (us : List (ByteArray × (Int × Int))) (hm : MapIs DU' (usersL us)) :
    FileParts w' ok fb { f with users := us } A rc uv ub DU' ∧ Chg W w' (fun q => q = ub) := by
  have hcT : Chg w1 w' (fun q => q = ub) := Chg.of_turned hT rfl
  have hcW : Chg W w' (fun q => q = ub) := ((Chg.of_below hb (fun _ => False)).mono (fun _ h => h.elim)).trans hcT (fun q hq => .inl hq)
  have hF' : FileAt w' fb f.F (.slice A f.rules.length rc) uv ub := (hcW.block fb (blk_lt P.F) (Ne.symm (blk_map_ne P.F P.U))).trans P.F
  have hrow : ∀ {α : Type} {d : Kd α} {e0 : Nat} {v : Value} {xs : List α}, d.R e0 W 0 ok v xs → d.R e0 w' 0 ok v xs := fun h =>
    Kd.R_mono (hcW.row (Kd.R_bound h) (fun q hq => by
      obtain ⟨_, _, _, t, _, cells, hc⟩ := hq
      exact Ne.symm (blk_map_ne hc P.U))) (fun q hq => hq.1)
  exact ⟨⟨P.okb, hF', hrow P.rules, hrow P.units, P.oku, ownsMap_tight hM, hm⟩, hcW⟩
def CloseEnd (W : World) (ok : Nat → Prop) (fb rc ub : Nat) (f : AF) (A : Option Addr) (uv : Value) (e : Ending) (w' : World) : Prop :=
  e = .returned (.int .i64 0) ∧ ∃ DU, FileParts w' ok fb f A rc uv ub DU ∧ Chg W w' (fun q => q = ub)
set_option maxRecDepth 100000 in
theorem Close_ok (sp : Value) (u n : ByteArray) (W : World) (ok : Nat → Prop) (fb rc ub : Nat) (f : AF) (A : Option Addr) (uv : Value) (DU : DataW Unit) (a b : Int) (HF : FoundOk W sp u n fb) (P : FileParts W ok fb f A rc uv ub DU) (hu : u.size ≤ 30) (hl : lookU f.users u = some (a, b)) (hnd : (f.users.map (fun p => p.1.data.toList)).Nodup) :
    Calls Tryz.prog 22 #[sp, .string u, .string n] W (CloseEnd W ok fb rc ub (f.closed u) A uv) := by
  have hkey := key_of hu
  obtain ⟨v, ps, hrun, hv⟩ := P.U.look_ok law9 Tryz.underlying88 (zeroO _) (zd := .agg [.lit (.int .i64 0), .lit (.int .i64 0)]) (zp := []) rfl hkey
  have hh : Maps.has DU (.string u.data.toList) = true := by rw [P.mU.has, look_users, hl]; rfl
  have hat : DU.atKey (.string u.data.toList) (.agg [.lit (.int .i64 0), .lit (.int .i64 0)]) = .agg [.lit (.int .i64 a), .lit (.int .i64 b)] := by rw [P.mU.at_, look_users, hl]; rfl
  rw [hat] at hv
  obtain rfl := Ro_at hv
  rw [hh] at hrun
  have c9 : W.cell? ⟨fb, 9, none⟩ = some (.map (some ub)) := (blk_cell P.F 9).trans rfl
  have c9' : (W.alloc (.cells #[.int .i64 a, .int .i64 b] 90)).cell? ⟨fb, 9, none⟩ = some (.map (some ub)) := Lib.cell?_alloc_some _ c9
  have CF := Aside0.mk (HF W (Below.refl _ _))
  have HP := Aside0.mk P
  have hM := P.U.alloc (.cells #[.int .i64 a, .int .i64 b] 90)
  have HMD := Aside0.mk (P.mU.del (by rw [users_keys]; exact hnd) u.data.toList)
  clear HF P hh hv hl hat
  go_enter Tryz.func22, Tryz.ntmps22
  go_wp2_with first | (go_at_call 58; refine CF.out.mono ?_; rintro e w' ⟨rfl, rfl⟩) | (at_delete; refine wpList_delete_own _ rfl _ _ 88 9 rfl 90 law9 Tryz.underlying88 _ ub _ DU rfl hM _ _ rfl hkey ?_; intro w4 hown4 hturn4)
  go_ret
  obtain ⟨h1, h2⟩ := HP.out.newUsers ((Below.refl _ _).alloc (Nat.le_refl _) _) hturn4 hown4 (f.users.filter fun p => !decide (p.1 = u)) (by rw [usersL_closed]; exact HMD.out)
  exact ⟨rfl, _, h1, h2⟩
theorem S_Close_ok (sb fb k : Nat) (ok : Nat → Prop) (L : List (Nat × AF)) (f : AF) (u n : ByteArray) (a b : Int) (W : World) (hR : StoreRep W ok sb L) (hk : L[k]? = some (fb, f)) (hnm : f.F.name = n)
    (hu : 1 ≤ u.size ∧ u.size ≤ 20) (hn : 1 ≤ n.size ∧ n.size ≤ 30) (hl : lookU f.users u = some (a, b)) (hnd : (f.users.map (fun p => p.1.data.toList)).Nodup) :
    Calls Tryz.prog 22 #[.pointer (some ⟨sb, 0, none⟩), .string u, .string n] W (SOut W ok sb (.int .i64 0) ((L.map (·.2)).set k (f.closed u))) := by
  obtain ⟨mb, D, own, R⟩ := hR
  obtain ⟨HF, A, rc, uv, ub, DU, P⟩ := R.way hk hnm hu hn
  refine (Close_ok _ u n W _ fb rc ub f A uv DU a b HF P (by omega) hl hnd).mono ?_
  rintro e w' ⟨rfl, DU', hP, hC⟩
  exact SOut.step R hk rfl ⟨A, rc, uv, ub, DU', hP.mono (fun q hq => .inl hq)⟩ (hC.mono (fun q hq => by rw [hq]; exact P.oku))
def badRule (x : S100) : Bool := !(userB x.f0 && setB x.f1)
set_option maxRecDepth 100000 in
theorem Change1_c (x : S100) (W : World) : Calls Tryz.prog 79 #[.agg #[.string x.f0, .int .i64 x.f1]] W fun e w' => e = .returned (.bool (badRule x)) ∧ Below W.heap.size W w' := by
  have CU := Aside0.mk (user_c x.f0 (W.alloc (.cells #[.string x.f0, .int .i64 x.f1] 100)))
  have CS := Aside0.mk (set_c x.f1 (W.alloc (.cells #[.string x.f0, .int .i64 x.f1] 100)))
  unfold badRule
  cases h1 : userB x.f0 with
  | false =>
    rw [show (decide (1 ≤ x.f0.size) && decide (x.f0.size ≤ 20)) = false from h1] at CU
    clear h1
    go_enter Tryz.func79, Tryz.ntmps79
    go_wp2_with first | (go_at_call 53; refine CU.out.mono ?_; rintro e w' ⟨rfl, rfl⟩) | (go_at_call 55; refine CS.out.mono ?_; rintro e w' ⟨rfl, rfl⟩)
    go_ret
    exact ⟨rfl, (Below.refl _ _).alloc (Nat.le_refl _) _⟩
  | true =>
    rw [show (decide (1 ≤ x.f0.size) && decide (x.f0.size ≤ 20)) = true from h1] at CU
    clear h1
    cases h2 : setB x.f1 with
    | false =>
      rw [show (decide (0 ≤ x.f1) && decide (x.f1 ≤ 255)) = false from h2] at CS
      clear h2
      go_enter Tryz.func79, Tryz.ntmps79
      go_wp2_with first | (go_at_call 53; refine CU.out.mono ?_; rintro e w' ⟨rfl, rfl⟩) | (go_at_call 55; refine CS.out.mono ?_; rintro e w' ⟨rfl, rfl⟩)
      go_ret
      exact ⟨rfl, (Below.refl _ _).alloc (Nat.le_refl _) _⟩
    | true =>
      rw [show (decide (0 ≤ x.f1) && decide (x.f1 ≤ 255)) = true from h2] at CS
      clear h2
      go_enter Tryz.func79, Tryz.ntmps79
      go_wp2_with first | (go_at_call 53; refine CU.out.mono ?_; rintro e w' ⟨rfl, rfl⟩) | (go_at_call 55; refine CS.out.mono ?_; rintro e w' ⟨rfl, rfl⟩)
      go_ret
      exact ⟨rfl, (Below.refl _ _).alloc (Nat.le_refl _) _⟩
theorem idx_any {α : Type} (p : α → Bool) (l : List α) : ∃ r, idxM (fun x => some (p x)) l = some r ∧ decide (0 ≤ r) = l.any p := by
  obtain ⟨r, h1, h2⟩ := idx_find p l
  refine ⟨r, h1, ?_⟩
  rcases h2 with ⟨rfl, hn⟩ | ⟨i, rfl, _, x, _, hf⟩
  · rw [List.find?_eq_none] at hn
    symm
    show l.any p = false
    rw [List.any_eq_false]
    exact hn
  · have : l.any p = true := List.any_eq_true.2 ⟨x, List.mem_of_find?_eq_some hf, List.find?_some hf⟩
    rw [this]
    simp
theorem badRules_c (A : Option Addr) (c : Nat) (l : List S100) (W : World) (hr : Kd.C k100 W A l.length l) (hc : l.length ≤ c) :
    Calls Tryz.prog 78 #[.slice A l.length c, .func (.func 79) #[] #[]] W fun e w' => e = .returned (.bool (l.any badRule)) ∧ Below W.heap.size W w' := by
  obtain ⟨r, h1, h2⟩ := idx_any badRule l
  have HI := Aside0.mk (files_Rule_87.calls 79 #[] (enters_of Tryz.func79 (by kernel_rfl) rfl) (fun x => some (badRule x)) A c l r W hr hc h1 (fun W2 x cs b hb hk hx => by
    obtain rfl := Option.some.inj hx
    rw [k100_open hk]
    exact Change1_c x W2))
  have H2 := Aside0.mk h2
  clear hr h1 h2
  go_enter Tryz.func78, Tryz.ntmps78
  go_wp2_with (go_at_call 87; refine HI.out.mono ?_; rintro e w2 ⟨rfl, hb2⟩)
  go_ret
  exact ⟨by rw [← H2.out]; rfl, hb2⟩
end Go.Proofs.YtehlmkgldcfciaaGreat.Files
-- Written by this repo's wip/tools/myprint.py (the kit's print program, with contracts of our own beside). Lean checks it.
namespace Go.Proofs.YtehlmkgldcfciaaGreat.F
open Go.Proofs.YtehlmkgldcfciaaGreat.Common
open Go.RowKit Go.Proofs.YtehlmkgldcfciaaGreatW.PrintWords Go.Proofs.YtehlmkgldcfciaaGreatW.PrintLast Go.Proofs.YtehlmkgldcfciaaGreatW.PrintMore
set_option linter.unusedVariables false
set_option linter.unusedSimpArgs false
set_option maxHeartbeats 1000000 in
theorem files_Rule_52.raw (A0 : Option Addr) (c0 n0 : Nat) (css : List (List Value)) (w : World) (hr0 : Kd.C (Kd.raw 2) w A0 n0 css) (hl : n0 * 24 ≤ 140737488355328) :
    Calls Tryz.prog 52 #[.slice A0 n0 c0] w fun e w' => ∃ v : Value, e = .returned v ∧ Kd.R (Kd.raw 2) 100 w' w.heap.size (fun _ => True) v css ∧ Below w.heap.size w w' := by
  have HL := Aside0.mk hl
  cases A0 with
  | none =>
    have h0 : n0 = 0 := by
      rcases Nat.eq_zero_or_pos n0 with h | h
      · exact h
      · obtain ⟨ad, h2, _⟩ := hr0.2.2 h
        cases h2
    subst h0
    obtain rfl : css = [] := List.eq_nil_of_length_eq_zero hr0.1
    clear hr0 hl
    have hn : ∀ W : World, (binOp .eql 31 (.slice none 0 c0) (.slice none 0 0)).run Tryz.prog W = .ok (.bool true) W := fun W => Lib.run_eql_slice_nil W 31 100 none 0 c0 0 0 Tryz.underlying31
    go_enter Tryz.func52, Tryz.ntmps52
    go_wp2
    go_ret
    exact ⟨_, rfl, Kd.R_nil _ _ _ _ _, Below.refl _ _⟩
  | some ad =>
    have HR := Aside0.mk hr0
    clear hr0 hl
    have hn : ∀ W : World, (binOp .eql 31 (.slice (some ad) n0 c0) (.slice none 0 0)).run Tryz.prog W = .ok (.bool false) W := fun W => Lib.run_eql_slice_nil W 31 100 (some ad) n0 c0 0 0 Tryz.underlying31
    go_enter Tryz.func52, Tryz.ntmps52
    go_wp2_with (first | ((with_reducible refine gate_dst (N := 5) rfl ?_); refine Kd.R_lit (Kd.raw 2) w.heap.size 100 ?hg (N := 5) ?hd (xs := ([] : List (List Value))) (inner := []) (ok := fun _ => True) (okp := fun _ => True) ?hr ?hp (fun _ hk => hk) trivial (Below.refl _ _) (Nat.le_refl _) (by simp) ?_; (case hd => rfl); (case hg => rfl); (case hr => first | (go_simp; done) | (go_simp; rfl)); (case hp => exact (Reps.none _ _)); intro v1 w1 ho hb _ _; have HO := Aside0.mk ho; have HB := Aside0.mk hb; clear ho hb) | ((with_reducible refine gate_builtin (b := .append) (xs := #[.tmp 5, .tmp 6]) rfl ?_); at_builtin; refine Kd.R_append_rows (Kd.raw 2) (Rr := (Kd.raw 2).K w) (w0 := w) w.heap.size rfl (.tmp 5) (.tmp 6) 31 100 (.agg #[(.string ⟨#[]⟩), (.int .i64 0)]) 24 rfl Tryz.underlying31 info100 rfl (by decide) (by omega) v1 [] css _ _ _ (fun _ => True) (fun _ => False) rfl rfl HO.out (Kd.C_below HR.out HB.out) (fun _ _ h => h) (fun _ h => h.elim) (fun _ _ => trivial) HB.out HB.out.size (by have := HL.out; simp only [List.length_nil]; omega) ?_; intro v2 w2 ho hb _ _; have HO2 := Aside0.mk ho; have HB2 := Aside0.mk hb; clear ho hb))
    go_ret
    exact ⟨v2, rfl, HO2.out, HB2.out⟩
end Go.Proofs.YtehlmkgldcfciaaGreat.F
/- The file store: Change. -/
set_option linter.unusedVariables false
set_option linter.unusedSimpArgs false
namespace Go.Proofs.YtehlmkgldcfciaaGreat.Files
open Go.Proofs.YtehlmkgldcfciaaGreat.Common Go.Maps Go.ChangeMaps Go.WideMaps Go.Proofs.YtehlmkgldcfciaaGreat.F
open Go.RowKit Go.Proofs.YtehlmkgldcfciaaGreatW.PrintWords Go.Proofs.YtehlmkgldcfciaaGreatW.PrintLast Go.Proofs.YtehlmkgldcfciaaGreatW.PrintMore
def changeOk (perm : Int) (rules : List S100) : Bool := setB perm && decide (rules.length ≤ 10) && !rules.any badRule
theorem Change_arg (sp : Value) (u n : ByteArray) (perm : Int) (A : Option Addr) (c : Nat) (rules : List S100) (W : World) (hr : Kd.C k100 W A rules.length rules) (hc : rules.length ≤ c) (h : changeOk perm rules = false) :
    Calls Tryz.prog 42 #[sp, .string u, .string n, .int .i64 perm, .slice A rules.length c] W fun e w' => e = .returned (.int .i64 1) ∧ Below W.heap.size W w' := by
  have CS := Aside0.mk (set_c perm W)
  have CB := Aside0.mk (badRules_c A c rules W hr hc)
  unfold changeOk at h
  clear hr
  cases h1 : setB perm with
  | false =>
    rw [show (decide (0 ≤ perm) && decide (perm ≤ 255)) = false from h1] at CS
    clear h h1
    go_enter Tryz.func42, Tryz.ntmps42
    go_wp2_with first | (go_at_call 55; refine CS.out.mono ?_; rintro e w' ⟨rfl, rfl⟩)
    go_ret
    exact ⟨rfl, Below.refl _ _⟩
  | true =>
    rw [show (decide (0 ≤ perm) && decide (perm ≤ 255)) = true from h1] at CS
    by_cases h2 : rules.length ≤ 10
    · have h3 : rules.any badRule = true := by simpa [h1, h2] using h
      rw [h3] at CB
      have g1 : decide ((10 : Int) < (rules.length : Int)) = false := decide_eq_false (by omega)
      clear h h1 h2 h3
      go_enter Tryz.func42, Tryz.ntmps42
      go_wp2_with first | (go_at_call 55; refine CS.out.mono ?_; rintro e w' ⟨rfl, rfl⟩) | (go_at_call 78; refine CB.out.mono ?_; rintro e w2 ⟨rfl, hb2⟩)
      go_ret
      exact ⟨rfl, hb2⟩
    · have g1 : decide ((10 : Int) < (rules.length : Int)) = true := decide_eq_true (by omega)
      clear h h1 h2
      go_enter Tryz.func42, Tryz.ntmps42
      go_wp2_with first | (go_at_call 55; refine CS.out.mono ?_; rintro e w' ⟨rfl, rfl⟩)
      go_ret
      exact ⟨rfl, Below.refl _ _⟩
theorem changeOk_parts {perm : Int} {rules : List S100} (h : changeOk perm rules = true) : setB perm = true ∧ rules.length ≤ 10 ∧ rules.any badRule = false := by
  unfold changeOk at h
  simp only [Bool.and_eq_true, decide_eq_true_eq, Bool.not_eq_true'] at h
  exact ⟨h.1.1, h.1.2, h.2⟩
theorem Change_err (sp : Value) (u n : ByteArray) (perm E : Int) (A : Option Addr) (c : Nat) (rules : List S100) (W : World) (hr : Kd.C k100 W A rules.length rules) (hc : rules.length ≤ c) (h : changeOk perm rules = true) (HO : OpenedErr W sp u n 64 E) :
    Calls Tryz.prog 42 #[sp, .string u, .string n, .int .i64 perm, .slice A rules.length c] W fun e w' => e = .returned (.int .i64 E) ∧ Below W.heap.size W w' := by
  obtain ⟨h1, h2, h3⟩ := changeOk_parts h
  obtain ⟨hE, ho⟩ := HO
  have CS := Aside0.mk (set_c perm W)
  have CB := Aside0.mk (badRules_c A c rules W hr hc)
  have CO := Aside0.mk ho
  rw [show (decide (0 ≤ perm) && decide (perm ≤ 255)) = true from h1] at CS
  rw [h3] at CB
  have g1 : decide ((10 : Int) < (rules.length : Int)) = false := decide_eq_false (by omega)
  have hE' : (E == 0) = false := by simpa using hE
  clear h h1 h2 h3 hr ho hE
  go_enter Tryz.func42, Tryz.ntmps42
  go_wp2_with first | (go_at_call 55; refine CS.out.mono ?_; rintro e w' ⟨rfl, rfl⟩) | (go_at_call 78; refine CB.out.mono ?_; rintro e w2 ⟨rfl, hb2⟩; have HB2 := Aside0.mk hb2; clear hb2) | (go_at_call 63; refine (CO.out _ HB2.out).mono ?_; rintro e w3 ⟨rfl, hb3⟩)
  go_ret
  exact ⟨rfl, HB2.out.trans (hb3.mono HB2.out.size)⟩
theorem Change_denied (sp : Value) (u n : ByteArray) (perm : Int) (fb : Nat) (A : Option Addr) (c : Nat) (rules : List S100) (W : World) (hr : Kd.C k100 W A rules.length rules) (hc : rules.length ≤ c) (h : changeOk perm rules = true) (HO : OpenedOk W sp u n 64 fb 12) :
    Calls Tryz.prog 42 #[sp, .string u, .string n, .int .i64 perm, .slice A rules.length c] W fun e w' => e = .returned (.int .i64 12) ∧ Below W.heap.size W w' := by
  obtain ⟨h1, h2, h3⟩ := changeOk_parts h
  have CS := Aside0.mk (set_c perm W)
  have CB := Aside0.mk (badRules_c A c rules W hr hc)
  have CO := Aside0.mk (show ∀ W', Below W.heap.size W W' → _ from HO)
  rw [show (decide (0 ≤ perm) && decide (perm ≤ 255)) = true from h1] at CS
  rw [h3] at CB
  have g1 : decide ((10 : Int) < (rules.length : Int)) = false := decide_eq_false (by omega)
  clear h h1 h2 h3 hr HO
  go_enter Tryz.func42, Tryz.ntmps42
  go_wp2_with first | (go_at_call 55; refine CS.out.mono ?_; rintro e w' ⟨rfl, rfl⟩) | (go_at_call 78; refine CB.out.mono ?_; rintro e w2 ⟨rfl, hb2⟩; have HB2 := Aside0.mk hb2; clear hb2) | (go_at_call 63; refine (CO.out _ HB2.out).mono ?_; rintro e w3 ⟨rfl, hb3⟩)
  go_ret
  exact ⟨rfl, HB2.out.trans (hb3.mono HB2.out.size)⟩
def AF.change (f : AF) (perm : Int) (rules : List S100) : AF := { f with F := { f.F with perm := perm }, rules := rules }
def ChangeEnd (W : World) (ok : Nat → Prop) (fb ub : Nat) (f' : AF) (uv : Value) (DU : DataW Unit) (e : Ending) (w' : World) : Prop :=
  e = .returned (.int .i64 0) ∧ ∃ A rc, FileParts w' (fun k => ok k ∨ W.heap.size ≤ k) fb f' A rc uv ub DU ∧ Chg W w' ok
theorem FileParts.newRules {W w1 : World} {ok : Nat → Prop} {fb rc ub : Nat} {f : AF} {A : Option Addr} {uv v : Value} {DU : DataW Unit} {rules : List S100} (P : FileParts W ok fb f A rc uv ub DU) (hb : Below W.heap.size W w1) (hr : Kd.R k100 100 w1 W.heap.size (fun _ => True) v rules) (perm : Int) :
    ∃ A' rc', FileParts ((w1.setCell ⟨fb, 2, none⟩ (.int .i64 perm)).setCell ⟨fb, 7, none⟩ v) (fun k => ok k ∨ W.heap.size ≤ k) fb (f.change perm rules) A' rc' uv ub DU ∧ Chg W ((w1.setCell ⟨fb, 2, none⟩ (.int .i64 perm)).setCell ⟨fb, 7, none⟩ v) ok := by
  obtain ⟨A', rc', rfl⟩ := Kd.R_slice hr
  have P1 := P.below hb
  have F1 : FileAt (w1.setCell ⟨fb, 2, none⟩ (.int .i64 perm)) fb { f.F with perm := perm } (.slice A f.rules.length rc) uv ub := file_set P1.F 2 _ rfl
  have F2 : FileAt ((w1.setCell ⟨fb, 2, none⟩ (.int .i64 perm)).setCell ⟨fb, 7, none⟩ (.slice A' rules.length rc')) fb { f.F with perm := perm } (.slice A' rules.length rc') uv ub := file_set F1 7 _ rfl
  have hr' : Kd.R k100 100 w1 0 (fun k => ok k ∨ W.heap.size ≤ k) (.slice A' rules.length rc') rules := Kd.R_mono (Kd.R_lower (Kd.R_bound hr) (Nat.zero_le _)) (fun k hk => .inr hk.2.1)
  refine ⟨A', rc', ⟨.inl P.okb, F2, Kd.R_set (Kd.R_set hr' P1.F (by decide) 2 _) F1 (by decide) 7 _, Kd.R_mono (Kd.R_set (Kd.R_set P1.units P1.F (by decide) 2 _) F1 (by decide) 7 _) (fun k hk => .inl hk), .inl P.oku,
    (P1.U.setCell (a := ⟨fb, 2, none⟩) (blk_map_ne P1.F P1.U) _).setCell (a := ⟨fb, 7, none⟩) (blk_map_ne P1.F P1.U) _, P.mU⟩, ?_⟩
  exact (((Chg.of_below hb (fun _ => False)).mono (fun _ h => h.elim)).trans (Chg.of_set _ ⟨fb, 2, none⟩ _ (S := ok) P.okb) (fun i hi => .inl hi)).trans (Chg.of_set _ ⟨fb, 7, none⟩ _ (S := ok) P.okb) (fun i hi => .inl hi)
set_option maxRecDepth 100000 in
theorem Change_ok (sp : Value) (u n : ByteArray) (perm : Int) (fb rc ub : Nat) (A : Option Addr) (c : Nat) (rules : List S100) (f : AF) (Ar : Option Addr) (uv : Value) (DU : DataW Unit) (ok : Nat → Prop) (W : World) (hr : Kd.C k100 W A rules.length rules) (hc : rules.length ≤ c) (h : changeOk perm rules = true) (HO : OpenedOk W sp u n 64 fb 0) (P : FileParts W ok fb f Ar rc uv ub DU) :
    Calls Tryz.prog 42 #[sp, .string u, .string n, .int .i64 perm, .slice A rules.length c] W (ChangeEnd W ok fb ub (f.change perm rules) uv DU) := by
  obtain ⟨h1, h2, h3⟩ := changeOk_parts h
  have CS := Aside0.mk (set_c perm W)
  have CB := Aside0.mk (badRules_c A c rules W hr hc)
  have CO := Aside0.mk (show ∀ W', Below W.heap.size W W' → _ from HO)
  rw [show (decide (0 ≤ perm) && decide (perm ≤ 255)) = true from h1] at CS
  rw [h3] at CB
  have g1 : decide ((10 : Int) < (rules.length : Int)) = false := decide_eq_false (by omega)
  have HP := Aside0.mk P
  have HR := Aside0.mk hr
  have HL := Aside0.mk (show rules.length * 24 ≤ 140737488355328 by omega)
  clear h h1 h2 h3 hr HO P
  go_enter Tryz.func42, Tryz.ntmps42
  go_wp2_with fail
  refine CS.out.mono ?_
  rintro e w' ⟨rfl, rfl⟩
  go_wp2_with fail
  refine CB.out.mono ?_
  rintro e w2 ⟨rfl, hb2⟩
  have HB2 := Aside0.mk hb2
  clear hb2
  go_wp2_with fail
  refine (CO.out _ HB2.out).mono ?_
  rintro e w3 ⟨rfl, hb3⟩
  have HB3 := Aside0.mk (show Below W.heap.size W w3 from HB2.out.trans (hb3.mono HB2.out.size))
  obtain ⟨css, hcl, hcr, hck⟩ := C_raw (Kd.C_below HR.out HB3.out)
  have CC := Aside0.mk (files_Rule_52.raw A c rules.length css w3 hcr HL.out)
  have HCK := Aside0.mk hck
  have HCL := Lib.hid hcl
  clear hb3 hcl hcr hck
  go_wp2_with fail
  refine CC.out.mono ?_
  rintro e w4 ⟨v, rfl, hr4, hb4⟩
  have HB4 := Aside0.mk (show Below W.heap.size W w4 from HB3.out.trans (hb4.mono HB3.out.size))
  have hr5 : Kd.R k100 100 w4 w3.heap.size (fun _ => True) v rules := R_of_raw (d := k100) hr4 HCL.out (fun j x cs hj hcs => by
    obtain ⟨c0, h0, hK⟩ := HCK.out j x hj
    rw [hcs] at h0
    injection h0 with h0
    rw [h0, k100_open hK]
    exact k100_mkM _ _ _ x)
  obtain ⟨A5, c5, hv5⟩ := Kd.R_slice hr5
  subst hv5
  have HR5 := Aside0.mk (Kd.R_lower hr5 HB3.out.size)
  have P4 := HP.out.below HB4.out
  have f2 := blk_frozen P4.F 2
  have f7 := blk_frozen P4.F 7
  have d2 : w4.cell? ⟨fb, 2, none⟩ = some (.int .i64 f.F.perm) := (blk_cell P4.F 2).trans rfl
  have d7 : w4.cell? ⟨fb, 7, none⟩ = some (.slice Ar f.rules.length rc) := (blk_cell P4.F 7).trans rfl
  clear hr4 hb4 hr5 P4
  go_wp2
  go_ret
  exact ⟨rfl, HP.out.newRules HB4.out HR5.out perm⟩
end Go.Proofs.YtehlmkgldcfciaaGreat.Files
