/- The parts of this proof that lie in one text. -/
import Derived.Test.YtehlmkgldcfciaaGreatCommon
import Derived.Test.YtehlmkgldcfciaaGreatProg
import Derived.Maps.OwnSet
import Derived.Maps.RangeWalk
import Derived.RangeFuncBox
import Derived.WalkKit
import Derived.WalkSpells
import Derived.Below
import Derived.Deep.Draws
import Derived.Deep.AppendLies
import Derived.Maps.AppendAt
import Derived.OwnWalk
import Derived.Laws.BytesArg
import Derived.Laws.MakeOwn
import Derived.Laws.OwnMore
import Derived.Deep.OwnRows
import Derived.Tactics
import Derived.Lib.ConvBytes
import Derived.Laws.Slices
import Derived.KernelRfl
import Derived.RowKit3
import Derived.Deep.LoopGhost
import Derived.Deep.QuietTactic
import Derived.BigQuiet
import Derived.WideLaws
import Derived.Deep.DeepCutAuto
import Derived.Deep.CutBlock
import Derived.Deep.RegionHeld3
import Derived.Laws.Rows
import Derived.Lib.AppendStr
import Derived.ArgAppend
import Derived.Laws.IdiomCopy
import Derived.OrdersHeld
import Derived.Laws.BitsLemmas
import Derived.RowKit
import Derived.Test.YtehlmkgldcfciaaGreatRawRow
import Derived.Test.YtehlmkgldcfciaaGreatRawIns
import Derived.Shelf.Abstract
import Derived.Deep.RegionWith
import Derived.Test.YtehlmkgldcfciaaGreatWWords
import Derived.Test.YtehlmkgldcfciaaGreatWLast
import Derived.Test.YtehlmkgldcfciaaGreatWTab
import Derived.Test.YtehlmkgldcfciaaGreatWFour
import Derived.Test.YtehlmkgldcfciaaGreatWQPut
import Derived.Test.YtehlmkgldcfciaaGreatWApart
import Derived.Test.YtehlmkgldcfciaaGreatWArr
import Derived.Test.YtehlmkgldcfciaaGreatWZeros
import Derived.Test.YtehlmkgldcfciaaGreatWFoot
import Derived.Test.YtehlmkgldcfciaaGreatWKept
import Derived.Test.YtehlmkgldcfciaaGreatWShare
import Derived.Test.YtehlmkgldcfciaaGreatWN
import Derived.Test.YtehlmkgldcfciaaGreatWFootNe
import Derived.Test.YtehlmkgldcfciaaGreatWAt
import Derived.Test.YtehlmkgldcfciaaGreatWEqStruct
import Derived.Test.YtehlmkgldcfciaaGreatWRepsOne
import Derived.Test.YtehlmkgldcfciaaGreatWInv
import Derived.Test.YtehlmkgldcfciaaGreatWInvWords
import Derived.Test.YtehlmkgldcfciaaGreatWGuard
import Derived.Test.YtehlmkgldcfciaaGreatWNEv
import Derived.Test.YtehlmkgldcfciaaGreatWMore
import Derived.Maps.Ext
import Derived.Outline
import Derived.Lib.Hide
/- The file store of layer 28: what its functions do with memory, each walked once. -/
set_option linter.unusedVariables false
set_option linter.unusedSimpArgs false
namespace Go.Proofs.YtehlmkgldcfciaaGreat.Files
open Go.Proofs.YtehlmkgldcfciaaGreat.Common Go.Maps Go.ChangeMaps Go.WideMaps
open Go.RowKit Go.Proofs.YtehlmkgldcfciaaGreatW.PrintWords Go.Proofs.YtehlmkgldcfciaaGreatW.PrintLast Go.Proofs.YtehlmkgldcfciaaGreatW.PrintMore
theorem user_c (u : ByteArray) (w : World) : Calls Tryz.prog 53 #[.string u] w fun e w' => e = .returned (.bool (decide (1 ≤ u.size) && decide (u.size ≤ 20))) ∧ w = w' := by
  by_cases c : 1 ≤ u.size
  · have h0 : decide (1 ≤ (u.size : Int)) = true := decide_eq_true (by omega)
    have h1 : decide (1 ≤ u.size) = true := decide_eq_true c
    have h2 : decide ((u.size : Int) ≤ 20) = decide (u.size ≤ 20) := decide_eq_decide.2 (by omega)
    go_enter Tryz.func53, Tryz.ntmps53
    go_wp2
    go_ret
    exact ⟨by simp [h1, h2], rfl⟩
  · have h0 : decide (1 ≤ (u.size : Int)) = false := decide_eq_false (by omega)
    have h1 : decide (1 ≤ u.size) = false := decide_eq_false c
    go_enter Tryz.func53, Tryz.ntmps53
    go_wp2
    go_ret
    exact ⟨by simp [h1], rfl⟩
theorem name_c (u : ByteArray) (w : World) : Calls Tryz.prog 54 #[.string u] w fun e w' => e = .returned (.bool (decide (1 ≤ u.size) && decide (u.size ≤ 30))) ∧ w = w' := by
  by_cases c : 1 ≤ u.size
  · have h0 : decide (1 ≤ (u.size : Int)) = true := decide_eq_true (by omega)
    have h1 : decide (1 ≤ u.size) = true := decide_eq_true c
    have h2 : decide ((u.size : Int) ≤ 30) = decide (u.size ≤ 30) := decide_eq_decide.2 (by omega)
    go_enter Tryz.func54, Tryz.ntmps54
    go_wp2
    go_ret
    exact ⟨by simp [h1, h2], rfl⟩
  · have h0 : decide (1 ≤ (u.size : Int)) = false := decide_eq_false (by omega)
    have h1 : decide (1 ≤ u.size) = false := decide_eq_false c
    go_enter Tryz.func54, Tryz.ntmps54
    go_wp2
    go_ret
    exact ⟨by simp [h1], rfl⟩
theorem set_c (n : Int) (w : World) : Calls Tryz.prog 55 #[.int .i64 n] w fun e w' => e = .returned (.bool (decide (0 ≤ n) && decide (n ≤ 255))) ∧ w = w' := by
  by_cases c : 0 ≤ n
  · have h0 : decide (0 ≤ n) = true := decide_eq_true c
    go_enter Tryz.func55, Tryz.ntmps55
    go_wp2
    go_ret
    exact ⟨by simp [h0], rfl⟩
  · have h0 : decide (0 ≤ n) = false := decide_eq_false c
    go_enter Tryz.func55, Tryz.ntmps55
    go_wp2
    go_ret
    exact ⟨by simp [h0], rfl⟩
theorem eqlSome (bm : Nat) (w : World) : (binOp .eql 41 (.map (some bm)) (.map none)).run Tryz.prog w = .ok (.bool false) w := by kernel_rfl
set_option maxRecDepth 100000 in
theorem no_live (sb mb : Nat) (w : World) (c0 : w.cell? ⟨sb, 0, none⟩ = some (.map (some mb))) : Calls Tryz.prog 44 #[.pointer (some ⟨sb, 0, none⟩)] w fun e w' => e = .returned (.bool false) ∧ w = w' := by
  have q := eqlSome mb
  go_enter Tryz.func44, Tryz.ntmps44
  go_wp2
  go_ret
  exact ⟨rfl, rfl⟩
theorem New_c (w : World) : Calls Tryz.prog 5 #[] w fun e w' => e = .returned (.pointer (some ⟨w.heap.size + 1, 0, none⟩)) ∧ w' = (w.alloc (.map #[] 0)).alloc (.cells #[.map (some w.heap.size)] 43) := by
  have hmm := @run_makeMap Tryz.prog
  go_enter Tryz.func5, Tryz.ntmps5
  go_wp2
  go_ret
  exact ⟨rfl, rfl⟩
theorem law9 : Keyed Tryz.prog 9 := string_keyed Tryz.underlying9
def Rp : Value → Option (DataW Unit × List MemPlace)
  | .pointer none => some (.nil, [])
  | .pointer (some ⟨b, 0, none⟩) => some (.lit (.int .i64 b), [])
  | _ => none
theorem Rp_nil {v : Value} {ps : List MemPlace} (h : Rp v = some (.nil, ps)) : v = .pointer none := by
  unfold Rp at h
  split at h
  · rfl
  · cases h
  · cases h
theorem Rp_at {v : Value} {b : Nat} {ps : List MemPlace} (h : Rp v = some (.lit (.int .i64 b), ps)) : v = .pointer (some ⟨b, 0, none⟩) := by
  unfold Rp at h
  split at h
  · cases h
  · rename_i c
    injection h with h
    injection h with h
    injection h with h
    injection h with _ h
    have : c = b := by omega
    rw [this]
  · cases h
def Ro : Value → Option (DataW Unit × List MemPlace)
  | .agg ⟨[.int .i64 a, .int .i64 b]⟩ => some (.agg [.lit (.int .i64 a), .lit (.int .i64 b)], [])
  | _ => none
theorem zeroP (w : World) : (zeroValue 82).run Tryz.prog w = .ok (.pointer none) w := by kernel_rfl
theorem zeroO (w : World) : (zeroValue 90).run Tryz.prog w = .ok (.agg #[.int .i64 0, .int .i64 0]) w := by kernel_rfl
structure FS where
  name : ByteArray
  kind : Int
  perm : Int
  owner : ByteArray
  last : ByteArray
  ch : Int
  rd : Int
def FS.cells (F : FS) (rv uv : Value) (ub : Nat) : Array Value := #[.string F.name, .int .i64 F.kind, .int .i64 F.perm, .string F.owner, .string F.last, .int .i64 F.ch, .int .i64 F.rd, rv, uv, .map (some ub)]
def FileAt (W : World) (fb : Nat) (F : FS) (rv uv : Value) (ub : Nat) : Prop := W.heap[fb]? = some (.cells (F.cells rv uv ub) 92 (0, 0))
theorem key_of {s : ByteArray} (h : s.size ≤ 30) : keyOf Tryz.prog 9 (.string s) = some (.string s.data.toList) := keyOf_string_mk Tryz.underlying9 (by unfold maxLen; omega)
set_option maxRecDepth 100000 in
set_option maxHeartbeats 2000000 in
theorem Create_c (sb mb k : Nat) (D : DataW Unit) (u n : ByteArray) (kind perm : Int) (W : World) (c0 : W.cell? ⟨sb, 0, none⟩ = some (.map (some mb))) (hown : W.ownsMap Tryz.prog 9 Rp mb k D) (hk : k < 1000)
    (hu : 1 ≤ u.size ∧ u.size ≤ 20) (hn : 1 ≤ n.size ∧ n.size ≤ 30) (hkd : 0 ≤ kind ∧ kind ≤ 2) (hpm : 0 ≤ perm ∧ perm ≤ 255) (hD : D.atKey (.string n.data.toList) .nil = .nil) (hs : Maps.size D < 30) :
    Calls Tryz.prog 16 #[.pointer (some ⟨sb, 0, none⟩), .string u, .string n, .int .i64 kind, .int .i64 perm] W fun e w' => e = .returned (.int .i64 0) ∧
      ∃ W3, ((W.alloc (.cells #[.string ByteArray.empty, .string ByteArray.empty, .int .i64 0] 29)).alloc (.map #[] 0)).alloc (.cells (FS.cells ⟨n, kind, perm, u, ByteArray.empty, 0, 0⟩ (.slice none 0 0) (.slice (some ⟨W.heap.size, 0, none⟩) 1 1) (W.heap.size + 1)) 92) = W3 ∧
        w'.ownsMap Tryz.prog 9 Rp mb (k + 1) (D.put (.string n.data.toList) (.lit (.int .i64 (W.heap.size + 2 : Nat)))) ∧ W3.mapTurned w' mb := by
  have hkey := key_of hn.2
  obtain ⟨v, ps, hrun, hv⟩ := hown.lookup law9 Tryz.underlying41 (zeroP _) (zd := .nil) (zp := []) rfl hkey
  rw [hD] at hv
  obtain rfl := Rp_nil hv
  have hlen := fun ty => hown.len Tryz.underlying41 ty
  have hmm := @run_makeMap Tryz.prog
  have hu1 : (decide (1 ≤ u.size) && decide (u.size ≤ 20)) = true := by simp [hu.1, hu.2]
  have hn1 : (decide (1 ≤ n.size) && decide (n.size ≤ 30)) = true := by simp [hn.1, hn.2]
  have hp1 : (decide (0 ≤ perm) && decide (perm ≤ 255)) = true := by simp [hpm.1, hpm.2]
  have hk1 : decide (kind < 0) = false := decide_eq_false (by omega)
  have hk2 : decide (2 < kind) = false := decide_eq_false (by omega)
  have hs1 : decide (30 ≤ Maps.size D) = false := decide_eq_false (by omega)
  have hs2 : decide ((30 : Int) ≤ (Maps.size D : Int)) = false := decide_eq_false (by omega)
  have CU := Aside0.mk (user_c u W)
  have CN := Aside0.mk (name_c n W)
  have CP := Aside0.mk (set_c perm W)
  rw [hu1] at CU
  rw [hn1] at CN
  rw [hp1] at CP
  go_enter Tryz.func16, Tryz.ntmps16
  go_wp2_with first | (go_at_call 44; refine (no_live sb mb _ c0).mono ?_; rintro e w' ⟨rfl, rfl⟩) | (go_at_call 53; refine CU.out.mono ?_; rintro e w' ⟨rfl, rfl⟩) | (go_at_call 54; refine CN.out.mono ?_; rintro e w' ⟨rfl, rfl⟩) | (go_at_call 55; refine CP.out.mono ?_; rintro e w' ⟨rfl, rfl⟩) | (at_mapUpdate; refine wpList_mapUpdate_in _ rfl _ _ _ 41 rfl 9 82 law9 Tryz.underlying41 _ mb k D rfl (((hown.alloc _).alloc _).alloc _) (by unfold maxLen; omega) _ _ _ rfl rfl hkey (.lit (.int .i64 (W.heap.size + 2 : Nat))) [] rfl ?_; intro w1 hown1 hturn1)
  go_ret
  exact ⟨rfl, _, rfl, hown1, hturn1⟩
set_option maxRecDepth 100000 in
theorem found_c (sb mb k fb : Nat) (D : DataW Unit) (u n : ByteArray) (W : World) (c0 : W.cell? ⟨sb, 0, none⟩ = some (.map (some mb))) (hown : W.ownsMap Tryz.prog 9 Rp mb k D)
    (hu : 1 ≤ u.size ∧ u.size ≤ 20) (hn : 1 ≤ n.size ∧ n.size ≤ 30) (hD : D.atKey (.string n.data.toList) .nil = .lit (.int .i64 (fb : Nat))) :
    Calls Tryz.prog 58 #[.pointer (some ⟨sb, 0, none⟩), .string u, .string n] W fun e w' => e = .returned (.tuple #[.pointer (some ⟨fb, 0, none⟩), .int .i64 0]) ∧ W = w' := by
  have hkey := key_of hn.2
  obtain ⟨v, ps, hrun, hv⟩ := hown.lookup law9 Tryz.underlying41 (zeroP _) (zd := .nil) (zp := []) rfl hkey
  rw [hD] at hv
  obtain rfl := Rp_at hv
  have hu1 : (decide (1 ≤ u.size) && decide (u.size ≤ 20)) = true := by simp [hu.1, hu.2]
  have hn1 : (decide (1 ≤ n.size) && decide (n.size ≤ 30)) = true := by simp [hn.1, hn.2]
  have CU := Aside0.mk (user_c u W)
  have CN := Aside0.mk (name_c n W)
  rw [hu1] at CU
  rw [hn1] at CN
  go_enter Tryz.func58, Tryz.ntmps58
  go_wp2_with first | (go_at_call 44; refine (no_live sb mb _ c0).mono ?_; rintro e w' ⟨rfl, rfl⟩) | (go_at_call 53; refine CU.out.mono ?_; rintro e w' ⟨rfl, rfl⟩) | (go_at_call 54; refine CN.out.mono ?_; rintro e w' ⟨rfl, rfl⟩)
  refine bodyPost_ret (v := .tuple #[.pointer (some ⟨fb, 0, none⟩), .int .i64 0]) (by simp [results, Tryz.f58, go_sem]) rfl ?_
  exact ⟨rfl, rfl⟩
theorem Ro_at {v : Value} {a b : Int} {ps : List MemPlace} (h : Ro v = some (.agg [.lit (.int .i64 a), .lit (.int .i64 b)], ps)) : v = .agg #[.int .i64 a, .int .i64 b] := by
  unfold Ro at h
  split at h
  · rename_i c d
    simp only [Option.some.injEq, Prod.mk.injEq, DataW.agg.injEq, List.cons.injEq, DataW.lit.injEq, Lit.int.injEq, true_and, and_true] at h
    rw [h.1.1, h.1.2]
  · cases h
end Go.Proofs.YtehlmkgldcfciaaGreat.Files
-- Written by this repo's wip/tools/myprint.py (the kit's print program, with contracts of our own beside). Lean checks it.
namespace Go.Proofs.YtehlmkgldcfciaaGreat.F
open Go.Proofs.YtehlmkgldcfciaaGreat.Common
open Go.RowKit Go.Proofs.YtehlmkgldcfciaaGreatW.PrintWords Go.Proofs.YtehlmkgldcfciaaGreatW.PrintLast Go.Proofs.YtehlmkgldcfciaaGreatW.PrintMore
set_option linter.unusedVariables false
set_option linter.unusedSimpArgs false
def errW : Option Int → Value
  | none => .nilIface
  | some c => .iface 0 (.int .i64 c)
theorem errW_none : errW none = .nilIface := rfl
theorem errW_some (c : Int) : errW (some c) = .iface 0 (.int .i64 c) := rfl
theorem info3 : (Tryz.prog.info? 3).map (fun i => (i.zero, i.size, i.bytes)) = some (some (.int .i64 0), 1, 8) := by kernel_rfl
theorem info29 : (Tryz.prog.info? 29).map (fun i => (i.zero, i.size, i.bytes)) = some (some (.agg #[(.string ⟨#[]⟩), (.string ⟨#[]⟩), (.int .i64 0)]), 3, 40) := by kernel_rfl
theorem info62 : (Tryz.prog.info? 62).map (fun i => (i.zero, i.size, i.bytes)) = some (some (.agg #[(.string ⟨#[]⟩), (.string ⟨#[]⟩), (.int .i64 0)]), 3, 40) := by kernel_rfl
theorem info100 : (Tryz.prog.info? 100).map (fun i => (i.zero, i.size, i.bytes)) = some (some (.agg #[(.string ⟨#[]⟩), (.int .i64 0)]), 2, 24) := by kernel_rfl
theorem info129 : (Tryz.prog.info? 129).map (fun i => (i.zero, i.size, i.bytes)) = some (some (.agg #[(.string ⟨#[]⟩), (.int .i64 0)]), 2, 24) := by kernel_rfl
structure S129 where
  f0 : ByteArray
  f1 : Int
def z129 : S129 := ⟨(⟨#[]⟩ : ByteArray), (0 : Int)⟩
def k129 : Kd S129 := Kd.iso (Kd.pair Kd.string (Kd.int .i64)) (fun x : S129 => (x.f0, x.f1))
theorem k129_open {w : World} {x : S129} {cs : List Value} (h : k129.K w x cs) : cs = [.string x.f0, .int .i64 x.f1] := by
  obtain ⟨_, _, rfl, rfl, rfl⟩ := h
  exact rfl
theorem k129_mkM (w : World) (base : Nat) (ok : Nat → Prop) (x : S129)  : k129.M w base ok x [.string x.f0, .int .i64 x.f1] := ⟨[.string x.f0], [.int .i64 x.f1], rfl, rfl, rfl⟩
def rd_T129 (xs : List S129) (i : Int) : S129 := xs.getD i.toNat z129
theorem at_T129 {w : World} {A : Option Addr} {n : Nat} {xs : List S129} (h : Kd.C k129 w A n xs) (i : Int) (h0 : 0 ≤ i) (h1 : i < n) : ∃ ad , A = some ad ∧ w.cell? (ad.add (i.toNat * 2)) = some (.string (rd_T129 xs i).f0) ∧ w.cell? ⟨(ad.add (i.toNat * 2)).block, (ad.add (i.toNat * 2)).off + 1, none⟩ = some (.int .i64 (rd_T129 xs i).f1) := by
  obtain ⟨ad, c, e, _, hK, hc0⟩ := Kd.C_get h z129 i h0 h1
  have hc : ∀ j u, c[j]? = some u → w.cell? (ad.add (i.toNat * 2 + j)) = some u := hc0
  obtain rfl := k129_open hK
  exact ⟨ad, e, hc 0 _ rfl, by rw [← add_field _ _ 1 (by omega)]; exact hc 1 _ rfl⟩
structure S71 where
  f0 : ByteArray
  f1 : Int
  f2 : Int
  f3 : ByteArray
  f4 : ByteArray
  f5 : Int
  f6 : Int
  f7 : (List S129)
def z71 : S71 := ⟨(⟨#[]⟩ : ByteArray), (0 : Int), (0 : Int), (⟨#[]⟩ : ByteArray), (⟨#[]⟩ : ByteArray), (0 : Int), (0 : Int), ([] : List S129)⟩
def k71 : Kd S71 := Kd.iso (Kd.pair Kd.string (Kd.pair (Kd.int .i64) (Kd.pair (Kd.int .i64) (Kd.pair Kd.string (Kd.pair Kd.string (Kd.pair (Kd.int .i64) (Kd.pair (Kd.int .i64) (Kd.slice 129 k129)))))))) (fun x : S71 => (x.f0, x.f1, x.f2, x.f3, x.f4, x.f5, x.f6, x.f7))
theorem k71_open {w : World} {x : S71} {cs : List Value} (h : k71.K w x cs) : ∃ A7 c7, cs = [.string x.f0, .int .i64 x.f1, .int .i64 x.f2, .string x.f3, .string x.f4, .int .i64 x.f5, .int .i64 x.f6, .slice A7 x.f7.length c7] ∧ x.f7.length ≤ c7 ∧ k129.C w A7 x.f7.length x.f7 := by
  obtain ⟨_, _, rfl, rfl, ⟨_, _, rfl, rfl, ⟨_, _, rfl, rfl, ⟨_, _, rfl, rfl, ⟨_, _, rfl, rfl, ⟨_, _, rfl, rfl, ⟨_, _, rfl, rfl, ⟨A7, c7, rfl, l7, g7⟩⟩⟩⟩⟩⟩⟩⟩ := h
  exact ⟨A7, c7, rfl, l7, g7⟩
theorem k71_openM {w : World} {base : Nat} {ok : Nat → Prop} {x : S71} {cs : List Value} (h : k71.M w base ok x cs) : ∃ v7, cs = [.string x.f0, .int .i64 x.f1, .int .i64 x.f2, .string x.f3, .string x.f4, .int .i64 x.f5, .int .i64 x.f6, v7] ∧ k129.R 129 w base ok v7 x.f7 := by
  obtain ⟨_, _, rfl, rfl, ⟨_, _, rfl, rfl, ⟨_, _, rfl, rfl, ⟨_, _, rfl, rfl, ⟨_, _, rfl, rfl, ⟨_, _, rfl, rfl, ⟨_, _, rfl, rfl, ⟨v7, rfl, g7⟩⟩⟩⟩⟩⟩⟩⟩ := h
  exact ⟨v7, rfl, g7⟩
theorem k71_mkM (w : World) (base : Nat) (ok : Nat → Prop) (x : S71) {v7 : Value} (g7 : k129.R 129 w base ok v7 x.f7) : k71.M w base ok x [.string x.f0, .int .i64 x.f1, .int .i64 x.f2, .string x.f3, .string x.f4, .int .i64 x.f5, .int .i64 x.f6, v7] := ⟨[.string x.f0], [.int .i64 x.f1, .int .i64 x.f2, .string x.f3, .string x.f4, .int .i64 x.f5, .int .i64 x.f6, v7], rfl, rfl, ⟨[.int .i64 x.f1], [.int .i64 x.f2, .string x.f3, .string x.f4, .int .i64 x.f5, .int .i64 x.f6, v7], rfl, rfl, ⟨[.int .i64 x.f2], [.string x.f3, .string x.f4, .int .i64 x.f5, .int .i64 x.f6, v7], rfl, rfl, ⟨[.string x.f3], [.string x.f4, .int .i64 x.f5, .int .i64 x.f6, v7], rfl, rfl, ⟨[.string x.f4], [.int .i64 x.f5, .int .i64 x.f6, v7], rfl, rfl, ⟨[.int .i64 x.f5], [.int .i64 x.f6, v7], rfl, rfl, ⟨[.int .i64 x.f6], [v7], rfl, rfl, ⟨v7, rfl, g7⟩⟩⟩⟩⟩⟩⟩⟩
structure S62 where
  f0 : ByteArray
  f1 : ByteArray
  f2 : Int
def z62 : S62 := ⟨(⟨#[]⟩ : ByteArray), (⟨#[]⟩ : ByteArray), (0 : Int)⟩
def k62 : Kd S62 := Kd.iso (Kd.pair Kd.string (Kd.pair Kd.string (Kd.int .i64))) (fun x : S62 => (x.f0, x.f1, x.f2))
theorem k62_open {w : World} {x : S62} {cs : List Value} (h : k62.K w x cs) : cs = [.string x.f0, .string x.f1, .int .i64 x.f2] := by
  obtain ⟨_, _, rfl, rfl, ⟨_, _, rfl, rfl, rfl⟩⟩ := h
  exact rfl
theorem k62_mkM (w : World) (base : Nat) (ok : Nat → Prop) (x : S62)  : k62.M w base ok x [.string x.f0, .string x.f1, .int .i64 x.f2] := ⟨[.string x.f0], [.string x.f1, .int .i64 x.f2], rfl, rfl, ⟨[.string x.f1], [.int .i64 x.f2], rfl, rfl, rfl⟩⟩
def rd_T62 (xs : List S62) (i : Int) : S62 := xs.getD i.toNat z62
theorem at_T62 {w : World} {A : Option Addr} {n : Nat} {xs : List S62} (h : Kd.C k62 w A n xs) (i : Int) (h0 : 0 ≤ i) (h1 : i < n) : ∃ ad , A = some ad ∧ w.cell? (ad.add (i.toNat * 3)) = some (.string (rd_T62 xs i).f0) ∧ w.cell? ⟨(ad.add (i.toNat * 3)).block, (ad.add (i.toNat * 3)).off + 1, none⟩ = some (.string (rd_T62 xs i).f1) ∧ w.cell? ⟨(ad.add (i.toNat * 3)).block, (ad.add (i.toNat * 3)).off + 2, none⟩ = some (.int .i64 (rd_T62 xs i).f2) := by
  obtain ⟨ad, c, e, _, hK, hc0⟩ := Kd.C_get h z62 i h0 h1
  have hc : ∀ j u, c[j]? = some u → w.cell? (ad.add (i.toNat * 3 + j)) = some u := hc0
  obtain rfl := k62_open hK
  exact ⟨ad, e, hc 0 _ rfl, by rw [← add_field _ _ 1 (by omega)]; exact hc 1 _ rfl, by rw [← add_field _ _ 2 (by omega)]; exact hc 2 _ rfl⟩
structure S95 where
  f0 : ByteArray
  f1 : Int
  f2 : Int
def z95 : S95 := ⟨(⟨#[]⟩ : ByteArray), (0 : Int), (0 : Int)⟩
def k95 : Kd S95 := Kd.iso (Kd.pair Kd.string (Kd.pair (Kd.int .i64) (Kd.int .i64))) (fun x : S95 => (x.f0, x.f1, x.f2))
theorem k95_open {w : World} {x : S95} {cs : List Value} (h : k95.K w x cs) : cs = [.string x.f0, .int .i64 x.f1, .int .i64 x.f2] := by
  obtain ⟨_, _, rfl, rfl, ⟨_, _, rfl, rfl, rfl⟩⟩ := h
  exact rfl
theorem k95_openM {w : World} {base : Nat} {ok : Nat → Prop} {x : S95} {cs : List Value} (h : k95.M w base ok x cs) : cs = [.string x.f0, .int .i64 x.f1, .int .i64 x.f2] := by
  obtain ⟨_, _, rfl, rfl, ⟨_, _, rfl, rfl, rfl⟩⟩ := h
  exact rfl
theorem k95_mkM (w : World) (base : Nat) (ok : Nat → Prop) (x : S95)  : k95.M w base ok x [.string x.f0, .int .i64 x.f1, .int .i64 x.f2] := ⟨[.string x.f0], [.int .i64 x.f1, .int .i64 x.f2], rfl, rfl, ⟨[.int .i64 x.f1], [.int .i64 x.f2], rfl, rfl, rfl⟩⟩
def rd_T95 (xs : List S95) (i : Int) : S95 := xs.getD i.toNat z95
theorem at_T95 {w : World} {A : Option Addr} {n : Nat} {xs : List S95} (h : Kd.C k95 w A n xs) (i : Int) (h0 : 0 ≤ i) (h1 : i < n) : ∃ ad , A = some ad ∧ w.cell? (ad.add (i.toNat * 3)) = some (.string (rd_T95 xs i).f0) ∧ w.cell? ⟨(ad.add (i.toNat * 3)).block, (ad.add (i.toNat * 3)).off + 1, none⟩ = some (.int .i64 (rd_T95 xs i).f1) ∧ w.cell? ⟨(ad.add (i.toNat * 3)).block, (ad.add (i.toNat * 3)).off + 2, none⟩ = some (.int .i64 (rd_T95 xs i).f2) := by
  obtain ⟨ad, c, e, _, hK, hc0⟩ := Kd.C_get h z95 i h0 h1
  have hc : ∀ j u, c[j]? = some u → w.cell? (ad.add (i.toNat * 3 + j)) = some u := hc0
  obtain rfl := k95_open hK
  exact ⟨ad, e, hc 0 _ rfl, by rw [← add_field _ _ 1 (by omega)]; exact hc 1 _ rfl, by rw [← add_field _ _ 2 (by omega)]; exact hc 2 _ rfl⟩
structure S85 where
  f0 : S71
  f1 : (List S62)
  f2 : (List S95)
def z85 : S85 := ⟨z71, ([] : List S62), ([] : List S95)⟩
def k85 : Kd S85 := Kd.iso (Kd.pair k71 (Kd.pair (Kd.slice 62 k62) (Kd.slice 95 k95))) (fun x : S85 => (x.f0, x.f1, x.f2))
theorem k85_open {w : World} {x : S85} {cs : List Value} (h : k85.K w x cs) : ∃ A7 c7 A8 c8 A9 c9, cs = [.string x.f0.f0, .int .i64 x.f0.f1, .int .i64 x.f0.f2, .string x.f0.f3, .string x.f0.f4, .int .i64 x.f0.f5, .int .i64 x.f0.f6, .slice A7 x.f0.f7.length c7, .slice A8 x.f1.length c8, .slice A9 x.f2.length c9] ∧ x.f0.f7.length ≤ c7 ∧ k129.C w A7 x.f0.f7.length x.f0.f7 ∧ x.f1.length ≤ c8 ∧ k62.C w A8 x.f1.length x.f1 ∧ x.f2.length ≤ c9 ∧ k95.C w A9 x.f2.length x.f2 := by
  obtain ⟨_, _, rfl, s0, ⟨_, _, rfl, ⟨A8, c8, rfl, l8, g8⟩, ⟨A9, c9, rfl, l9, g9⟩⟩⟩ := h
  obtain ⟨A7, c7, rfl, l7, g7⟩ := k71_open s0
  exact ⟨A7, c7, A8, c8, A9, c9, rfl, l7, g7, l8, g8, l9, g9⟩
theorem k85_openM {w : World} {base : Nat} {ok : Nat → Prop} {x : S85} {cs : List Value} (h : k85.M w base ok x cs) : ∃ v7 v8 v9, cs = [.string x.f0.f0, .int .i64 x.f0.f1, .int .i64 x.f0.f2, .string x.f0.f3, .string x.f0.f4, .int .i64 x.f0.f5, .int .i64 x.f0.f6, v7, v8, v9] ∧ k129.R 129 w base ok v7 x.f0.f7 ∧ k62.R 62 w base ok v8 x.f1 ∧ k95.R 95 w base ok v9 x.f2 := by
  obtain ⟨_, _, rfl, s0, ⟨_, _, rfl, ⟨v8, rfl, g8⟩, ⟨v9, rfl, g9⟩⟩⟩ := h
  obtain ⟨v7, rfl, g7⟩ := k71_openM s0
  exact ⟨v7, v8, v9, rfl, g7, g8, g9⟩
theorem k85_mkM (w : World) (base : Nat) (ok : Nat → Prop) (x : S85) {v7 : Value} (g7 : k129.R 129 w base ok v7 x.f0.f7) {v8 : Value} (g8 : k62.R 62 w base ok v8 x.f1) {v9 : Value} (g9 : k95.R 95 w base ok v9 x.f2) : k85.M w base ok x [.string x.f0.f0, .int .i64 x.f0.f1, .int .i64 x.f0.f2, .string x.f0.f3, .string x.f0.f4, .int .i64 x.f0.f5, .int .i64 x.f0.f6, v7, v8, v9] := ⟨[.string x.f0.f0, .int .i64 x.f0.f1, .int .i64 x.f0.f2, .string x.f0.f3, .string x.f0.f4, .int .i64 x.f0.f5, .int .i64 x.f0.f6, v7], [v8, v9], rfl, (k71_mkM w base ok x.f0 g7), ⟨[v8], [v9], rfl, ⟨v8, rfl, g8⟩, ⟨v9, rfl, g9⟩⟩⟩
def rd_T85 (xs : List S85) (i : Int) : S85 := xs.getD i.toNat z85
theorem at_T85 {w : World} {A : Option Addr} {n : Nat} {xs : List S85} (h : Kd.C k85 w A n xs) (i : Int) (h0 : 0 ≤ i) (h1 : i < n) : ∃ ad A7 c7 A8 c8 A9 c9, A = some ad ∧ w.cell? (ad.add (i.toNat * 10)) = some (.string (rd_T85 xs i).f0.f0) ∧ w.cell? ⟨(ad.add (i.toNat * 10)).block, (ad.add (i.toNat * 10)).off + 1, none⟩ = some (.int .i64 (rd_T85 xs i).f0.f1) ∧ w.cell? ⟨(ad.add (i.toNat * 10)).block, (ad.add (i.toNat * 10)).off + 2, none⟩ = some (.int .i64 (rd_T85 xs i).f0.f2) ∧ w.cell? ⟨(ad.add (i.toNat * 10)).block, (ad.add (i.toNat * 10)).off + 3, none⟩ = some (.string (rd_T85 xs i).f0.f3) ∧ w.cell? ⟨(ad.add (i.toNat * 10)).block, (ad.add (i.toNat * 10)).off + 4, none⟩ = some (.string (rd_T85 xs i).f0.f4) ∧ w.cell? ⟨(ad.add (i.toNat * 10)).block, (ad.add (i.toNat * 10)).off + 5, none⟩ = some (.int .i64 (rd_T85 xs i).f0.f5) ∧ w.cell? ⟨(ad.add (i.toNat * 10)).block, (ad.add (i.toNat * 10)).off + 6, none⟩ = some (.int .i64 (rd_T85 xs i).f0.f6) ∧ w.cell? ⟨(ad.add (i.toNat * 10)).block, (ad.add (i.toNat * 10)).off + 7, none⟩ = some (.slice A7 (rd_T85 xs i).f0.f7.length c7) ∧ w.cell? ⟨(ad.add (i.toNat * 10)).block, (ad.add (i.toNat * 10)).off + 8, none⟩ = some (.slice A8 (rd_T85 xs i).f1.length c8) ∧ w.cell? ⟨(ad.add (i.toNat * 10)).block, (ad.add (i.toNat * 10)).off + 9, none⟩ = some (.slice A9 (rd_T85 xs i).f2.length c9) ∧ (rd_T85 xs i).f0.f7.length ≤ c7 ∧ k129.C w A7 (rd_T85 xs i).f0.f7.length (rd_T85 xs i).f0.f7 ∧ (rd_T85 xs i).f1.length ≤ c8 ∧ k62.C w A8 (rd_T85 xs i).f1.length (rd_T85 xs i).f1 ∧ (rd_T85 xs i).f2.length ≤ c9 ∧ k95.C w A9 (rd_T85 xs i).f2.length (rd_T85 xs i).f2 := by
  obtain ⟨ad, c, e, _, hK, hc0⟩ := Kd.C_get h z85 i h0 h1
  have hc : ∀ j u, c[j]? = some u → w.cell? (ad.add (i.toNat * 10 + j)) = some u := hc0
  obtain ⟨A7, c7, A8, c8, A9, c9, rfl, l7, g7, l8, g8, l9, g9⟩ := k85_open hK
  exact ⟨ad, A7, c7, A8, c8, A9, c9, e, hc 0 _ rfl, by rw [← add_field _ _ 1 (by omega)]; exact hc 1 _ rfl, by rw [← add_field _ _ 2 (by omega)]; exact hc 2 _ rfl, by rw [← add_field _ _ 3 (by omega)]; exact hc 3 _ rfl, by rw [← add_field _ _ 4 (by omega)]; exact hc 4 _ rfl, by rw [← add_field _ _ 5 (by omega)]; exact hc 5 _ rfl, by rw [← add_field _ _ 6 (by omega)]; exact hc 6 _ rfl, by rw [← add_field _ _ 7 (by omega)]; exact hc 7 _ rfl, by rw [← add_field _ _ 8 (by omega)]; exact hc 8 _ rfl, by rw [← add_field _ _ 9 (by omega)]; exact hc 9 _ rfl, l7, g7, l8, g8, l9, g9⟩
structure S100 where
  f0 : ByteArray
  f1 : Int
def z100 : S100 := ⟨(⟨#[]⟩ : ByteArray), (0 : Int)⟩
def k100 : Kd S100 := Kd.iso (Kd.pair Kd.string (Kd.int .i64)) (fun x : S100 => (x.f0, x.f1))
theorem k100_open {w : World} {x : S100} {cs : List Value} (h : k100.K w x cs) : cs = [.string x.f0, .int .i64 x.f1] := by
  obtain ⟨_, _, rfl, rfl, rfl⟩ := h
  exact rfl
theorem k100_mk (w : World) (x : S100)  : k100.K w x [.string x.f0, .int .i64 x.f1] := ⟨[.string x.f0], [.int .i64 x.f1], rfl, rfl, rfl⟩
theorem k100_mkM (w : World) (base : Nat) (ok : Nat → Prop) (x : S100)  : k100.M w base ok x [.string x.f0, .int .i64 x.f1] := ⟨[.string x.f0], [.int .i64 x.f1], rfl, rfl, rfl⟩
def rd_T100 (xs : List S100) (i : Int) : S100 := xs.getD i.toNat z100
theorem at_T100 {w : World} {A : Option Addr} {n : Nat} {xs : List S100} (h : Kd.C k100 w A n xs) (i : Int) (h0 : 0 ≤ i) (h1 : i < n) : ∃ ad , A = some ad ∧ w.cell? (ad.add (i.toNat * 2)) = some (.string (rd_T100 xs i).f0) ∧ w.cell? ⟨(ad.add (i.toNat * 2)).block, (ad.add (i.toNat * 2)).off + 1, none⟩ = some (.int .i64 (rd_T100 xs i).f1) := by
  obtain ⟨ad, c, e, _, hK, hc0⟩ := Kd.C_get h z100 i h0 h1
  have hc : ∀ j u, c[j]? = some u → w.cell? (ad.add (i.toNat * 2 + j)) = some u := hc0
  obtain rfl := k100_open hK
  exact ⟨ad, e, hc 0 _ rfl, by rw [← add_field _ _ 1 (by omega)]; exact hc 1 _ rfl⟩
structure S29 where
  f0 : ByteArray
  f1 : ByteArray
  f2 : Int
def z29 : S29 := ⟨(⟨#[]⟩ : ByteArray), (⟨#[]⟩ : ByteArray), (0 : Int)⟩
def k29 : Kd S29 := Kd.iso (Kd.pair Kd.string (Kd.pair Kd.string (Kd.int .i64))) (fun x : S29 => (x.f0, x.f1, x.f2))
theorem k29_open {w : World} {x : S29} {cs : List Value} (h : k29.K w x cs) : cs = [.string x.f0, .string x.f1, .int .i64 x.f2] := by
  obtain ⟨_, _, rfl, rfl, ⟨_, _, rfl, rfl, rfl⟩⟩ := h
  exact rfl
theorem k29_openM {w : World} {base : Nat} {ok : Nat → Prop} {x : S29} {cs : List Value} (h : k29.M w base ok x cs) : cs = [.string x.f0, .string x.f1, .int .i64 x.f2] := by
  obtain ⟨_, _, rfl, rfl, ⟨_, _, rfl, rfl, rfl⟩⟩ := h
  exact rfl
theorem k29_mk (w : World) (x : S29)  : k29.K w x [.string x.f0, .string x.f1, .int .i64 x.f2] := ⟨[.string x.f0], [.string x.f1, .int .i64 x.f2], rfl, rfl, ⟨[.string x.f1], [.int .i64 x.f2], rfl, rfl, rfl⟩⟩
theorem k29_mkM (w : World) (base : Nat) (ok : Nat → Prop) (x : S29)  : k29.M w base ok x [.string x.f0, .string x.f1, .int .i64 x.f2] := ⟨[.string x.f0], [.string x.f1, .int .i64 x.f2], rfl, rfl, ⟨[.string x.f1], [.int .i64 x.f2], rfl, rfl, rfl⟩⟩
def rd_T29 (xs : List S29) (i : Int) : S29 := xs.getD i.toNat z29
theorem at_T29 {w : World} {A : Option Addr} {n : Nat} {xs : List S29} (h : Kd.C k29 w A n xs) (i : Int) (h0 : 0 ≤ i) (h1 : i < n) : ∃ ad , A = some ad ∧ w.cell? (ad.add (i.toNat * 3)) = some (.string (rd_T29 xs i).f0) ∧ w.cell? ⟨(ad.add (i.toNat * 3)).block, (ad.add (i.toNat * 3)).off + 1, none⟩ = some (.string (rd_T29 xs i).f1) ∧ w.cell? ⟨(ad.add (i.toNat * 3)).block, (ad.add (i.toNat * 3)).off + 2, none⟩ = some (.int .i64 (rd_T29 xs i).f2) := by
  obtain ⟨ad, c, e, _, hK, hc0⟩ := Kd.C_get h z29 i h0 h1
  have hc : ∀ j u, c[j]? = some u → w.cell? (ad.add (i.toNat * 3 + j)) = some u := hc0
  obtain rfl := k29_open hK
  exact ⟨ad, e, hc 0 _ rfl, by rw [← add_field _ _ 1 (by omega)]; exact hc 1 _ rfl, by rw [← add_field _ _ 2 (by omega)]; exact hc 2 _ rfl⟩
end Go.Proofs.YtehlmkgldcfciaaGreat.F
-- Written by this repo's wip/tools/myprint.py (the kit's print program, with contracts of our own beside). Lean checks it.
namespace Go.Proofs.YtehlmkgldcfciaaGreat.F
open Go.Proofs.YtehlmkgldcfciaaGreat.Common
open Go.RowKit Go.Proofs.YtehlmkgldcfciaaGreatW.PrintWords Go.Proofs.YtehlmkgldcfciaaGreatW.PrintLast Go.Proofs.YtehlmkgldcfciaaGreatW.PrintMore
set_option linter.unusedVariables false
set_option linter.unusedSimpArgs false
set_option maxHeartbeats 1000000 in
set_option maxRecDepth 100000 in
theorem files_Rule_87.calls (g : Nat) (lb : Array Value) (eg : ∀ args w, (callFunc g args).run Tryz.prog w = .ok (.enter g args) w) (p : S100 → Option Bool)
    (A0 : Option Addr) (c0 : Nat) (l0 : List S100) (r : Int) (w : World) (hr0 : Kd.C k100 w A0 l0.length l0) (hc0 : l0.length ≤ c0) (h : idxM p l0 = some r)
    (hp : ∀ W (x : S100) (cs : List Value) (b : Bool), Below w.heap.size w W → k100.K W x cs → p x = some b → Calls Tryz.prog g (#[.agg cs.toArray] ++ lb) W fun e w' => e = .returned (.bool b) ∧ Below W.heap.size W w') :
    Calls Tryz.prog 87 #[.slice A0 l0.length c0, .func (.func g) #[] lb] w fun e w' => e = .returned (.int .i64 r) ∧ Below w.heap.size w w' := by
  have HR0 := Aside0.mk hr0
  have HC0 := Aside0.mk hc0
  have HP := Aside0.mk hp
  have HI := Aside0.mk (idxAt_start h)
  have hbig : l0.length ≤ 9223372036854775807 := hr0.2.1
  clear hr0 hc0 hp h
  go_enter Tryz.func87, Tryz.ntmps87
  go_wp2
  go_loopg [5, 8] l0.length (fun gg _ s8 wr => ∃ kk : Nat, Aside0 (kk + gg = l0.length) ∧ s8 = .int .i64 kk ∧ Aside0 (Below w.heap.size w wr) ∧ Aside0 (idxAt p l0 kk r))
  case atStart => exact ⟨0, ⟨by omega⟩, rfl, ⟨Below.refl _ _⟩, HI⟩
  case round =>
    clear HI
    obtain ⟨kk, HG, rfl, HD, HI⟩ := hrel
    by_cases hlt : kk < l0.length
    · have hltz : (kk : Int) < (l0.length : Int) := by omega
      obtain ⟨b, hb, hyes, hno⟩ := idxAt_step (d := z100) HI.out hlt
      have hrd : rd_T100 l0 (kk : Int) = l0.getD kk z100 := by simp [rd_T100]
      obtain ⟨ad, e1, hx_0, hx_1⟩ := at_T100 (Kd.C_below HR0.out HD.out) (kk : Int) (by omega) (by omega)
      cases e1
      rw [hrd] at hx_0 hx_1
      rw [Int.toNat_natCast] at hx_0 hx_1
      generalize l0.getD kk z100 = x at hb hx_0 hx_1
      have hcall := HP.out wr x [.string x.f0, .int .i64 x.f1] b HD.out (k100_mk wr x ) hb
      have HCL := Aside0.mk (show Calls Tryz.prog g (#[.agg #[.string x.f0, .int .i64 x.f1]] ++ lb) wr (fun e w' => e = .returned (.bool b) ∧ Below wr.heap.size wr w') from hcall)
      have HY := Aside0.mk hyes
      have HN := Aside0.mk hno
      have HDS := Aside0.mk HD.out.size
      clear hcall hb hyes hno hrd 
      cases b with
      | true =>
        have HE : Aside0 (r = (kk : Int)) := ⟨HY.out rfl⟩
        clear hlt HY HN HI
        go_wp2_with fail
        refine HCL.out.mono ?_
        rintro e w' ⟨rfl, hb2⟩
        have HB2 := Aside0.mk hb2
        clear hb2 hx_0 hx_1
        go_wp2
        go_ret
        exact ⟨by rw [HE.out]; rfl, HD.out.trans (HB2.out.mono HD.out.size)⟩
      | false =>
        have HI2 := Aside0.mk (HN.out rfl)
        clear HY HN HI
        go_wp2_with fail
        refine HCL.out.mono ?_
        rintro e w' ⟨rfl, hb2⟩
        have HB2 := Aside0.mk hb2
        clear hb2 hx_0 hx_1
        go_wp2
        go_roundg (l0.length - (kk + 1))
        case measure => have := HG.out; omega
        case rel => exact ⟨kk + 1, ⟨by omega⟩, by go_num, ⟨HD.out.trans (HB2.out.mono HD.out.size)⟩, HI2⟩
    · have hltz : ¬ (kk : Int) < (l0.length : Int) := by omega
      have HE : Aside0 (r = -1) := ⟨idxAt_end HI.out (by omega)⟩
      clear hlt
      go_wp2
      go_ret
      exact ⟨by rw [HE.out]; rfl, HD.out⟩
end Go.Proofs.YtehlmkgldcfciaaGreat.F
/- The file store: who may do what; Open. -/
set_option linter.unusedVariables false
set_option linter.unusedSimpArgs false
namespace Go.Proofs.YtehlmkgldcfciaaGreat.Files
open Go.Proofs.YtehlmkgldcfciaaGreat.Common Go.Maps Go.ChangeMaps Go.WideMaps Go.Proofs.YtehlmkgldcfciaaGreat.F
open Go.RowKit Go.Proofs.YtehlmkgldcfciaaGreatW.PrintWords Go.Proofs.YtehlmkgldcfciaaGreatW.PrintLast Go.Proofs.YtehlmkgldcfciaaGreatW.PrintMore
def ruleOf (u : ByteArray) (x : S100) : Bool := decide (x.f0 = u) || decide (x.f0 = ⟨#[42]⟩)
theorem beq_yes (a : ByteArray) : (a.toList == a.toList) = true := by simp
theorem beq_no {a b : ByteArray} (h : a ≠ b) : (a.toList == b.toList) = false := by
  rw [beq_eq_false_iff_ne, ByteArray.toList_eq, ByteArray.toList_eq]
  intro e
  apply h
  cases a; cases b
  simpa using e
set_option maxRecDepth 100000 in
theorem may1_c (B : Nat) (u : ByteArray) (x : S100) (W : World) (cu : W.cell? ⟨B, 0, none⟩ = some (.string u)) :
    Calls Tryz.prog 88 #[.agg #[.string x.f0, .int .i64 x.f1], .pointer (some ⟨B, 0, none⟩)] W fun e w' => e = .returned (.bool (ruleOf u x)) ∧ Below W.heap.size W w' := by
  have hB : (W.alloc (.cells #[.string x.f0, .int .i64 x.f1] 100)).cell? ⟨B, 0, none⟩ = some (.string u) := Lib.cell?_alloc_some _ cu
  by_cases h1 : x.f0 = u
  · have hr : ruleOf u x = true := by simp [ruleOf, h1]
    have h1' : (x.f0.toList == u.toList) = true := by rw [h1]; exact beq_yes u
    rw [hr]
    clear cu hr h1
    go_enter Tryz.func88, Tryz.ntmps88
    go_wp2
    go_ret
    exact ⟨rfl, (Below.refl _ _).alloc (Nat.le_refl _) _⟩
  · have h1' := beq_no h1
    by_cases h2 : x.f0 = ⟨#[42]⟩
    · have hr : ruleOf u x = true := by simp [ruleOf, h2]
      have h2' : (x.f0.toList == [42]) = true := by rw [h2, ByteArray.toList_eq]; rfl
      rw [hr]
      clear cu hr h1 h2
      go_enter Tryz.func88, Tryz.ntmps88
      go_wp2
      go_ret
      exact ⟨by first | rfl | simp [*], (Below.refl _ _).alloc (Nat.le_refl _) _⟩
    · have hr : ruleOf u x = false := by simp [ruleOf, h1, h2]
      have h2' : (x.f0.toList == [42]) = false := by
        have := beq_no h2
        rw [ByteArray.toList_eq (⟨#[42]⟩ : ByteArray)] at this
        exact this
      rw [hr]
      clear cu hr h1
      go_enter Tryz.func88, Tryz.ntmps88
      go_wp2
      go_ret
      exact ⟨by first | rfl | simp [*], (Below.refl _ _).alloc (Nat.le_refl _) _⟩
def mayB (F : FS) (rules : List S100) (u : ByteArray) (actions : Int) : Bool :=
  if bits .and .i64 F.perm actions = actions then
    (match rules.find? (ruleOf u) with
    | none => decide (u = F.owner)
    | some x => decide (bits .and .i64 x.f1 actions = actions))
  else false
theorem idx_find {α : Type} (p : α → Bool) : ∀ l : List α, ∃ r, idxM (fun x => some (p x)) l = some r ∧ ((r = -1 ∧ l.find? p = none) ∨ (∃ i : Nat, r = i ∧ i < l.length ∧ ∃ x, l[i]? = some x ∧ l.find? p = some x))
  | [] => ⟨-1, rfl, .inl ⟨rfl, rfl⟩⟩
  | x :: l => by
    obtain ⟨r, h1, h2⟩ := idx_find p l
    cases hp : p x with
    | true => exact ⟨0, by simp [idxM, hp], .inr ⟨0, rfl, by simp, x, rfl, by simp [List.find?, hp]⟩⟩
    | false =>
      refine ⟨if r < 0 then -1 else r + 1, by simp [idxM, hp, h1], ?_⟩
      rcases h2 with ⟨rfl, hn⟩ | ⟨i, rfl, hi, y, hy, hf⟩
      · exact .inl ⟨by simp, by simp [List.find?, hp, hn]⟩
      · exact .inr ⟨i + 1, by rw [if_neg (by omega)]; omega, by simp; omega, y, by simpa using hy, by simp [List.find?, hp, hf]⟩
set_option maxRecDepth 100000 in
set_option maxHeartbeats 2000000 in
theorem may_c (fb ub c : Nat) (F : FS) (A : Option Addr) (rules : List S100) (uv : Value) (u : ByteArray) (actions : Int) (W : World) (hF : FileAt W fb F (.slice A rules.length c) uv ub) (hr : Kd.C k100 W A rules.length rules) (hc : rules.length ≤ c) :
    Calls Tryz.prog 59 #[.pointer (some ⟨fb, 0, none⟩), .string u, .int .i64 actions] W fun e w' => e = .returned (.bool (mayB F rules u actions)) ∧ Below W.heap.size W w' := by
  have hlt : fb < W.heap.size := (Array.getElem?_eq_some_iff.1 hF).1
  have hcell : ∀ j v, (F.cells (.slice A rules.length c) uv ub)[j]? = some v → (W.alloc (.cells #[.string u] 9)).cell? ⟨fb, j, none⟩ = some v := fun j v h => Lib.cell?_alloc_some _ ((blk_cell hF j).trans h)
  have c2 : (W.alloc (.cells #[.string u] 9)).cell? ⟨fb, 2, none⟩ = some (.int .i64 F.perm) := hcell 2 _ rfl
  have c3 : (W.alloc (.cells #[.string u] 9)).cell? ⟨fb, 3, none⟩ = some (.string F.owner) := hcell 3 _ rfl
  have c7 : (W.alloc (.cells #[.string u] 9)).cell? ⟨fb, 7, none⟩ = some (.slice A rules.length c) := hcell 7 _ rfl
  clear hcell
  have hb0 : Below W.heap.size W (W.alloc (.cells #[.string u] 9)) := (Below.refl _ _).alloc (Nat.le_refl _) _
  have hcu : (W.alloc (.cells #[.string u] 9)).cell? ⟨W.heap.size, 0, none⟩ = some (.string u) := (Boxed.new W 9 (.string u)).cell
  have hsz : (W.alloc (.cells #[.string u] 9)).heap.size = W.heap.size + 1 := by simp
  by_cases hp : bits .and .i64 F.perm actions = actions
  · have hm : mayB F rules u actions = (match rules.find? (ruleOf u) with
      | none => decide (u = F.owner)
      | some x => decide (bits .and .i64 x.f1 actions = actions)) := if_pos hp
    obtain ⟨r, hi, hfind⟩ := idx_find (ruleOf u) rules
    have HI := Aside0.mk (files_Rule_87.calls 88 #[.pointer (some ⟨W.heap.size, 0, none⟩)] (enters_of Tryz.func88 (by kernel_rfl) rfl) (fun x => some (ruleOf u x)) A c rules r (W.alloc (.cells #[.string u] 9)) (Kd.C_below hr hb0) hc hi
      (fun W2 x cs b hb2 hk hx => by
        obtain rfl := Option.some.inj hx
        rw [k100_open hk]
        exact may1_c W.heap.size u x W2 ((hb2.cell (p := ⟨W.heap.size, 0, none⟩) (by rw [hsz]; exact Nat.lt_succ_self _)).trans hcu)))
    have hp' : (bits .and .i64 F.perm actions == actions) = true := by simpa using hp
    have HR := Aside0.mk (fun (w2 : World) (hb2 : Below (W.alloc (.cells #[.string u] 9)).heap.size (W.alloc (.cells #[.string u] 9)) w2) => Kd.C_below (Kd.C_below hr hb0) hb2)
    rw [hm]
    clear hm hr hF
    rcases hfind with ⟨rfl, hf⟩ | ⟨i, rfl, hil, x, hx, hf⟩
    · rw [hf]
      dsimp only
      have HX : Aside0 (∀ w2 : World, Below (W.alloc (.cells #[.string u] 9)).heap.size (W.alloc (.cells #[.string u] 9)) w2 → True) := ⟨fun _ _ => trivial⟩
      have hend : ∀ w2 : World, Below (W.alloc (.cells #[.string u] 9)).heap.size (W.alloc (.cells #[.string u] 9)) w2 → Below W.heap.size W w2.drew := fun w2 hb2 => (hb0.trans (hb2.mono (by rw [hsz]; exact Nat.le_succ _))).trans ⟨rfl, rfl, rfl, Nat.le_refl _, fun _ _ => rfl⟩
      by_cases ho : u = F.owner
      · have ho' : (u.toList == F.owner.toList) = true := by rw [ho]; exact beq_yes _
        rw [show (decide (u = F.owner)) = true from decide_eq_true ho]
        clear ho hp
        go_enter Tryz.func59, Tryz.ntmps59
        go_wp2_with (go_at_call 87; refine HI.out.mono ?_; rintro e w2 ⟨rfl, hb2⟩; have d3 := (hb2.cell (p := ⟨fb, 3, none⟩) (by rw [hsz]; exact Nat.lt_succ_of_lt hlt)).trans c3; have d7 := (hb2.cell (p := ⟨fb, 7, none⟩) (by rw [hsz]; exact Nat.lt_succ_of_lt hlt)).trans c7; have du := (hb2.cell (p := ⟨W.heap.size, 0, none⟩) (by rw [hsz]; exact Nat.lt_succ_self _)).trans hcu; have hx2 := HX.out w2 hb2)
        go_region
        go_wp2
        go_ret
        exact ⟨rfl, hend _ hb2⟩
      · have ho' := beq_no ho
        rw [show (decide (u = F.owner)) = false from decide_eq_false ho]
        clear ho hp
        go_enter Tryz.func59, Tryz.ntmps59
        go_wp2_with (go_at_call 87; refine HI.out.mono ?_; rintro e w2 ⟨rfl, hb2⟩; have d3 := (hb2.cell (p := ⟨fb, 3, none⟩) (by rw [hsz]; exact Nat.lt_succ_of_lt hlt)).trans c3; have d7 := (hb2.cell (p := ⟨fb, 7, none⟩) (by rw [hsz]; exact Nat.lt_succ_of_lt hlt)).trans c7; have du := (hb2.cell (p := ⟨W.heap.size, 0, none⟩) (by rw [hsz]; exact Nat.lt_succ_self _)).trans hcu; have hx2 := HX.out w2 hb2)
        go_region
        go_wp2
        go_ret
        exact ⟨rfl, hend _ hb2⟩
    · rw [hf]
      dsimp only
      have hilz : (i : Int) < (rules.length : Int) := by omega
      have HX : Aside0 (∀ w2 : World, Below (W.alloc (.cells #[.string u] 9)).heap.size (W.alloc (.cells #[.string u] 9)) w2 → ∃ ad, A = some ad ∧ w2.cell? ⟨(ad.add (i * 2)).block, (ad.add (i * 2)).off + 1, none⟩ = some (.int .i64 x.f1)) := ⟨fun w2 hb2 => by
        obtain ⟨ad, e1, _, h2⟩ := at_T100 (HR.out w2 hb2) (i : Int) (by omega) (by omega)
        rw [Int.toNat_natCast] at h2
        have e2 : rd_T100 rules (i : Int) = x := by simp [rd_T100, hx]
        rw [e2] at h2
        exact ⟨ad, e1, h2⟩⟩
      have hend : ∀ w2 : World, Below (W.alloc (.cells #[.string u] 9)).heap.size (W.alloc (.cells #[.string u] 9)) w2 → Below W.heap.size W w2 := fun w2 hb2 => hb0.trans (hb2.mono (by rw [hsz]; exact Nat.le_succ _))
      have hi0 : decide ((i : Int) < 0) = false := decide_eq_false (by omega)
      by_cases ho : bits .and .i64 x.f1 actions = actions
      · have ho' : (bits .and .i64 x.f1 actions == actions) = true := by simpa using ho
        rw [show decide (bits .and .i64 x.f1 actions = actions) = true from decide_eq_true ho]
        clear ho hp
        go_enter Tryz.func59, Tryz.ntmps59
        go_wp2_with (go_at_call 87; refine HI.out.mono ?_; rintro e w2 ⟨rfl, hb2⟩; have d3 := (hb2.cell (p := ⟨fb, 3, none⟩) (by rw [hsz]; exact Nat.lt_succ_of_lt hlt)).trans c3; have d7 := (hb2.cell (p := ⟨fb, 7, none⟩) (by rw [hsz]; exact Nat.lt_succ_of_lt hlt)).trans c7; have du := (hb2.cell (p := ⟨W.heap.size, 0, none⟩) (by rw [hsz]; exact Nat.lt_succ_self _)).trans hcu; obtain ⟨ad, rfl, hx2⟩ := HX.out w2 hb2)
        go_ret
        exact ⟨by first | rfl | simp [*], hend _ hb2⟩
      · have ho' : (bits .and .i64 x.f1 actions == actions) = false := by simpa using ho
        rw [show decide (bits .and .i64 x.f1 actions = actions) = false from decide_eq_false ho]
        clear ho hp
        go_enter Tryz.func59, Tryz.ntmps59
        go_wp2_with (go_at_call 87; refine HI.out.mono ?_; rintro e w2 ⟨rfl, hb2⟩; have d3 := (hb2.cell (p := ⟨fb, 3, none⟩) (by rw [hsz]; exact Nat.lt_succ_of_lt hlt)).trans c3; have d7 := (hb2.cell (p := ⟨fb, 7, none⟩) (by rw [hsz]; exact Nat.lt_succ_of_lt hlt)).trans c7; have du := (hb2.cell (p := ⟨W.heap.size, 0, none⟩) (by rw [hsz]; exact Nat.lt_succ_self _)).trans hcu; obtain ⟨ad, rfl, hx2⟩ := HX.out w2 hb2)
        go_ret
        exact ⟨by first | rfl | simp [*], hend _ hb2⟩
  · have hp' : (bits .and .i64 F.perm actions == actions) = false := by simpa using hp
    rw [show mayB F rules u actions = false from if_neg hp]
    clear hp hF hr
    go_enter Tryz.func59, Tryz.ntmps59
    go_wp2
    go_ret
    exact ⟨rfl, hb0⟩
theorem key_str {x : ByteArray} {kl : Lit} (h : keyOf Tryz.prog 9 (.string x) = some kl) : kl = .string x.data.toList ∧ x.size ≤ maxLen := by
  have h' := h
  simp only [keyOf, Tryz.underlying9, mapKey] at h'
  split at h'
  · rename_i hs
    injection h' with h'
    exact ⟨h'.symm, hs⟩
  · cases h'
theorem Ro_shape {v : Value} {y : DataW Unit × List MemPlace} (h : Ro v = some y) : ∃ p : Int × Int, v = .agg #[.int .i64 p.1, .int .i64 p.2] := by
  unfold Ro at h
  split at h
  · exact ⟨(_, _), rfl⟩
  · cases h
theorem key_shape {key : Value} {kl : Lit} (h : keyOf Tryz.prog 9 key = some kl) : ∃ x : ByteArray, key = .string x := by
  cases key <;> simp [keyOf, Tryz.underlying9, mapKey] at h
  exact ⟨_, rfl⟩
def Free (DU : DataW Unit) (actions exclusive : Int) : Prop := ∀ (l : List UInt8) (a b : Int), (∀ zd, DU.atKey (.string l) zd = .agg [.lit (.int .i64 a), .lit (.int .i64 b)]) → bits .and .i64 b actions = 0 ∧ bits .and .i64 exclusive a = 0
def OpenEnd (W : World) (ub k2 : Nat) (DU : DataW Unit) (u : ByteArray) (actions exclusive : Int) (e : Ending) (w' : World) : Prop :=
  (e = .returned (.int .i64 0) ∧ Free DU actions exclusive ∧ w'.ownsMap Tryz.prog 9 Ro ub (k2 + 1) (DU.put (.string u.data.toList) (.agg [.lit (.int .i64 actions), .lit (.int .i64 exclusive)])) ∧ ∃ w3, Below W.heap.size W w3 ∧ w3.mapTurned w' ub) ∨
      (e = .returned (.int .i64 12) ∧ ¬ Free DU actions exclusive ∧ Below W.heap.size W w')
set_option maxRecDepth 100000 in
set_option maxHeartbeats 4000000 in
theorem Open_c (sb mb k fb ub k2 c : Nat) (D DU : DataW Unit) (F : FS) (A : Option Addr) (rules : List S100) (uv : Value) (u n : ByteArray) (actions exclusive : Int) (W : World) (c0 : W.cell? ⟨sb, 0, none⟩ = some (.map (some mb))) (hown : W.ownsMap Tryz.prog 9 Rp mb k D)
    (hu : 1 ≤ u.size ∧ u.size ≤ 20) (hn : 1 ≤ n.size ∧ n.size ≤ 30) (hD : D.atKey (.string n.data.toList) .nil = .lit (.int .i64 (fb : Nat))) (hF : FileAt W fb F (.slice A rules.length c) uv ub) (hU : W.ownsMap Tryz.prog 9 Ro ub k2 DU) (hk2 : k2 < 1000)
    (hr : Kd.C k100 W A rules.length rules) (hc : rules.length ≤ c) (hact : 0 ≤ actions ∧ actions ≤ 255) (hexc : 0 ≤ exclusive ∧ exclusive ≤ 255) (hsub : bits .andNot .i64 exclusive actions = 0)
    (hhas : Maps.has DU (.string u.data.toList) = false) (hmay : mayB F rules u actions = true) :
    Calls Tryz.prog 20 #[.pointer (some ⟨sb, 0, none⟩), .string u, .string n, .int .i64 actions, .int .i64 exclusive] W (OpenEnd W ub k2 DU u actions exclusive) := by
  have hkey := key_of (s := u) (by omega)
  obtain ⟨v, ps, hrun, hv⟩ := hU.look_ok law9 Tryz.underlying88 (zeroO _) (zd := .agg [.lit (.int .i64 0), .lit (.int .i64 0)]) (zp := []) rfl hkey
  rw [atKey_of_not_has hhas] at hv
  obtain rfl := Ro_at hv
  rw [hhas] at hrun
  have hlt : fb < W.heap.size := (Array.getElem?_eq_some_iff.1 hF).1
  have c9 : W.cell? ⟨fb, 9, none⟩ = some (.map (some ub)) := (blk_cell hF 9).trans rfl
  have CF := Aside0.mk (found_c sb mb k fb D u n W c0 hown hu hn hD)
  have CA := Aside0.mk (set_c actions W)
  have CE := Aside0.mk (set_c exclusive W)
  rw [show (decide (0 ≤ actions) && decide (actions ≤ 255)) = true by simp [hact.1, hact.2]] at CA
  rw [show (decide (0 ≤ exclusive) && decide (exclusive ≤ 255)) = true by simp [hexc.1, hexc.2]] at CE
  have hb1 : Below W.heap.size W (W.alloc (.cells #[.int .i64 0, .int .i64 0] 90)) := (Below.refl _ _).alloc (Nat.le_refl _) _
  have CM := Aside0.mk (may_c fb ub c F A rules uv u actions (W.alloc (.cells #[.int .i64 0, .int .i64 0] 90)) ((hb1.block fb hlt).trans hF) (Kd.C_below hr hb1) hc)
  rw [hmay] at CM
  have hsz : (W.alloc (.cells #[.int .i64 0, .int .i64 0] 90)).heap.size = W.heap.size + 1 := by simp
  have HU := Aside0.mk hU
  have hul : ub < W.heap.size := hU.lt
  clear hF hr hU hown
  go_enter Tryz.func20, Tryz.ntmps20
  go_wp2_with first | (go_at_call 58; refine CF.out.mono ?_; rintro e w' ⟨rfl, rfl⟩) | (go_at_call 55; first | (refine CA.out.mono ?_; rintro e w' ⟨rfl, rfl⟩) | (refine CE.out.mono ?_; rintro e w' ⟨rfl, rfl⟩)) | (go_at_call 59; refine CM.out.mono ?_; rintro e w2 ⟨rfl, hb2⟩; have d9 := (hb2.cell (p := ⟨fb, 9, none⟩) (by rw [hsz]; exact Nat.lt_succ_of_lt hlt)).trans ((hb1.cell (p := ⟨fb, 9, none⟩) hlt).trans c9)) | (at_range; refine wpList_range_own _ rfl _ 88 rfl 9 90 law9 Tryz.underlying88 _ ub k2 DU rfl ((HU.out.alloc _).kept (row := none) ⟨hb2.os, hb2.tape, hb2.output, hb2.size, fun i hi _ => hb2.block i hi⟩ (by simp)) ?_; intro w3 hrg3 hg3 hs3)
  have hb3 : Below W.heap.size W w3 := (hb1.trans (hb2.mono (by rw [hsz]; exact Nat.le_succ _))).grown hg3 (by have := hb2.size; rw [hsz] at this; omega) (fun k e => by cases e)
  have hszw : W.heap.size ≤ w2.heap.size := by have := hb2.size; rw [hsz] at this; omega
  clear hrun hmay hhas CF CA CE CM hb2 hg3
  go_frame
  go_loopw [61] (fun _ wr => ∃ (left : Lit → Bool) (cnt : Nat), wr.ranges Tryz.prog 9 Ro ub w2.heap.size k2 DU left cnt ∧ Below W.heap.size W wr ∧
      ∀ (l : List UInt8) (a b : Int), left (.string l) = false → (∀ zd, DU.atKey (.string l) zd = .agg [.lit (.int .i64 a), .lit (.int .i64 b)]) → bits .and .i64 b actions = 0 ∧ bits .and .i64 exclusive a = 0)
    (fun _ wr => wr.rangeLeft ub w2.heap.size)
  case atStart => exact ⟨_, _, hrg3, hb3, fun l a b hl hz => absurd (has_true_of_atKey hz) (by rw [hl]; simp)⟩
  case round =>
    clear hrg3 hb3 hs3
    obtain ⟨left, cnt, hrg, hbw, hfree⟩ := hrel
    have HF := Aside0.mk hfree
    clear hfree
    go_wp2_with first | (at_next; refine wpList_next_ranges _ rfl _ rfl 9 law9 Ro Value.string (fun p : Int × Int => .agg #[.int .i64 p.1, .int .i64 p.2]) (fun key kl h => key_shape h) (fun v y h => Ro_shape h) ub w2.heap.size k2 DU left cnt rfl hrg ?_ ?_)
    · intro _ hl0
      have hfr : Free DU actions exclusive := fun l a b hz => HF.out l a b (hl0 _) hz
      have d9 : wr.cell? ⟨fb, 9, none⟩ = some (.map (some ub)) := (hbw.cell (p := ⟨fb, 9, none⟩) hlt).trans c9
      have hownr := hrg.owns
      go_wp2_with first | (at_mapUpdate; refine wpList_mapUpdate_in _ rfl _ _ _ 88 rfl 9 90 law9 Tryz.underlying88 _ ub k2 DU rfl hownr (by unfold maxLen; omega) _ _ _ rfl rfl hkey (.agg [.lit (.int .i64 actions), .lit (.int .i64 exclusive)]) [] rfl ?_; intro w4 hown4 hturn4)
      go_ret
      exact .inl ⟨rfl, hfr, hown4, wr, hbw, hturn4⟩
    · intro x ca cb kl y1 y2 w4 cnt4 hkx hlk hvy hat hrg4 hlt4 hgr4 hsz4 hen
      obtain ⟨rfl, hxs⟩ := key_str hkx
      have hy : (y1, y2) = (.agg [.lit (.int .i64 ca), .lit (.int .i64 cb)], []) := (Option.some.inj hvy).symm
      obtain ⟨rfl, rfl⟩ := Prod.mk.inj hy
      have hb4 : Below W.heap.size W w4 := hbw.grown hgr4 hbw.size (fun k e => by cases e; exact hszw)
      by_cases h1 : bits .and .i64 cb actions = 0
      · have h1' : (bits .and .i64 cb actions == 0) = true := by simpa using h1
        by_cases h2 : bits .and .i64 exclusive ca = 0
        · have h2' : (bits .and .i64 exclusive ca == 0) = true := by simpa using h2
          have HN := Aside0.mk (show ∀ (l : List UInt8) (a b : Int), (left (.string l) && !(Lit.string l).sameKey (.string x.data.toList)) = false → (∀ zd, DU.atKey (.string l) zd = .agg [.lit (.int .i64 a), .lit (.int .i64 b)]) → bits .and .i64 b actions = 0 ∧ bits .and .i64 exclusive a = 0 from fun l a b hl hz => by
            rcases Bool.and_eq_false_iff.1 hl with hl | hl
            · exact HF.out l a b hl hz
            · have hs : (Lit.string l).sameKey (.string x.data.toList) = true := by simpa using hl
              have := WideAt.sameKey_eq hs
              injection this with this
              subst this
              have e := (hz .nil).symm.trans (hat .nil)
              simp only [DataW.agg.injEq, List.cons.injEq, DataW.lit.injEq, Lit.int.injEq, true_and, and_true] at e
              rw [e.1, e.2]
              exact ⟨h1, h2⟩)
          clear HF hat hvy hkx
          go_wp2
          go_roundw
          case rel => exact ⟨_, cnt4, hrg4.alloc _, hb4.alloc hb4.size _, HN.out⟩
          case measure => rw [(hrg4.alloc _).left_eq, hrg.left_eq]; exact hlt4
        · have h2' : (bits .and .i64 exclusive ca == 0) = false := by simpa using h2
          have hnf : ¬ Free DU actions exclusive := fun hf => h2 (hf x.data.toList ca cb hat).2
          clear HF hat hvy hkx
          go_wp2
          go_ret
          exact .inr ⟨rfl, hnf, hb4.alloc hb4.size _⟩
      · have h1' : (bits .and .i64 cb actions == 0) = false := by simpa using h1
        have hnf : ¬ Free DU actions exclusive := fun hf => h1 (hf x.data.toList ca cb hat).1
        clear HF hat hvy hkx
        go_wp2
        go_ret
        exact .inr ⟨rfl, hnf, hb4.alloc hb4.size _⟩
end Go.Proofs.YtehlmkgldcfciaaGreat.Files
-- Written by this repo's wip/tools/myprint.py (the kit's print program, with contracts of our own beside). Lean checks it.
namespace Go.Proofs.YtehlmkgldcfciaaGreat.F
open Go.Proofs.YtehlmkgldcfciaaGreat.Common
open Go.RowKit Go.Proofs.YtehlmkgldcfciaaGreatW.PrintWords Go.Proofs.YtehlmkgldcfciaaGreatW.PrintLast Go.Proofs.YtehlmkgldcfciaaGreatW.PrintMore
set_option linter.unusedVariables false
set_option linter.unusedSimpArgs false
set_option maxHeartbeats 1000000 in
theorem slices_IndexFunc_int_int.calls (g : Nat) (lb : Array Value) (eg : ∀ args w, (callFunc g args).run Tryz.prog w = .ok (.enter g args) w) (p : Int → Bool)
    (A0 : Option Addr) (c0 : Nat) (l0 : List Int) (w : World) (hr0 : Kd.C (Kd.int .i64) w A0 l0.length l0) (hc0 : l0.length ≤ c0)
    (hp : ∀ W x, x ∈ l0 → Drawn0 w W → Calls Tryz.prog g (#[.int .i64 x] ++ lb) W fun e w' => e = .returned (.bool (p x)) ∧ Drawn0 W w') :
    Calls Tryz.prog 65 #[.slice A0 l0.length c0, .func (.func g) #[] lb] w fun e w' => e = .returned (.int .i64 (idxP p l0)) ∧ Drawn0 w w' := by
  have HR0 := Aside0.mk hr0
  have HC0 := Aside0.mk hc0
  have HP := Aside0.mk hp
  have hbig : l0.length ≤ 9223372036854775807 := hr0.2.1
  clear hr0 hc0 hp
  go_enter Tryz.func65, Tryz.ntmps65
  go_wp2
  go_loopg [5, 8] l0.length (fun gg _ s8 wr => ∃ kk : Nat, Aside0 (kk + gg = l0.length) ∧ s8 = .int .i64 kk ∧ Aside0 (Drawn0 w wr) ∧ Aside0 (∀ j, j < kk → p (l0.getD j 0) = false))
  case atStart => exact ⟨0, ⟨by omega⟩, rfl, ⟨Drawn0.refl _⟩, ⟨fun j hj => absurd hj (Nat.not_lt_zero _)⟩⟩
  case round =>
    obtain ⟨kk, HG, rfl, HD, HA⟩ := hrel
    by_cases hlt : kk < l0.length
    · have hltz : (kk : Int) < (l0.length : Int) := by omega
      obtain ⟨ad, e1, hx⟩ := at_int_nat (Kd.C_below HR0.out HD.out.below) kk hlt
      cases e1
      have HQ : Aside0 (l0.getD kk 0 = l0.getD kk 0) := ⟨rfl⟩
      revert HQ hx
      generalize he : l0.getD kk 0 = y
      intro hx HQ
      have HE := Aside0.mk he
      have HMEM : Aside0 (y ∈ l0) := ⟨by rw [← he, List.getD_eq_getElem?_getD, List.getElem?_eq_getElem hlt]; exact List.getElem_mem hlt⟩
      clear he HQ
      cases hq : p y with
      | true =>
        have HQ2 := Aside0.mk hq
        clear hq
        have HI : Aside0 (idxP p l0 = (kk : Int)) := ⟨idxP_hit p 0 l0 kk hlt (by rw [HE.out]; exact HQ2.out) HA.out⟩
        clear hlt
        have hcall := HP.out _ y HMEM.out HD.out
        rw [HQ2.out] at hcall
        have HCL := Aside0.mk hcall
        clear hcall
        go_wp2_with fail
        refine HCL.out.mono ?_
        rintro e w' ⟨rfl, ⟨q, rfl⟩⟩
        go_wp2
        go_ret
        exact ⟨by rw [HI.out]; rfl, HD.out.step _⟩
      | false =>
        have HQ2 := Aside0.mk hq
        clear hq
        have hcall := HP.out _ y HMEM.out HD.out
        rw [HQ2.out] at hcall
        have HCL := Aside0.mk hcall
        clear hcall
        go_wp2_with fail
        refine HCL.out.mono ?_
        rintro e w' ⟨rfl, ⟨q, rfl⟩⟩
        go_wp2
        go_roundg (l0.length - (kk + 1))
        case measure => have := HG.out; omega
        case rel =>
          refine ⟨kk + 1, ⟨by omega⟩, by go_num, ⟨HD.out.step _⟩, ⟨fun j hj => ?_⟩⟩
          by_cases e : j = kk
          · subst e
            rw [HE.out]; exact HQ2.out
          · exact HA.out j (by omega)
    · have hltz : ¬ (kk : Int) < (l0.length : Int) := by omega
      have HI : Aside0 (idxP p l0 = -1) := ⟨idxP_all p 0 l0 kk (by omega) HA.out⟩
      clear hlt
      go_wp2
      go_ret
      exact ⟨by rw [HI.out]; rfl, HD.out⟩
end Go.Proofs.YtehlmkgldcfciaaGreat.F
-- Written by this repo's wip/tools/myprint.py (the kit's print program, with contracts of our own beside). Lean checks it.
namespace Go.Proofs.YtehlmkgldcfciaaGreat.F
open Go.Proofs.YtehlmkgldcfciaaGreat.Common
open Go.RowKit Go.Proofs.YtehlmkgldcfciaaGreatW.PrintWords Go.Proofs.YtehlmkgldcfciaaGreatW.PrintLast Go.Proofs.YtehlmkgldcfciaaGreatW.PrintMore
set_option linter.unusedVariables false
set_option linter.unusedSimpArgs false
set_option maxHeartbeats 1000000 in
theorem slices_ContainsFunc_int_int.calls (g : Nat) (lb : Array Value) (eg : ∀ args w, (callFunc g args).run Tryz.prog w = .ok (.enter g args) w) (p : Int → Bool)
    (A0 : Option Addr) (c0 : Nat) (l0 : List Int) (w : World) (hr0 : Kd.C (Kd.int .i64) w A0 l0.length l0) (hc0 : l0.length ≤ c0)
    (hp : ∀ W x, x ∈ l0 → Drawn0 w W → Calls Tryz.prog g (#[.int .i64 x] ++ lb) W fun e w' => e = .returned (.bool (p x)) ∧ Drawn0 W w') :
    Calls Tryz.prog 89 #[.slice A0 l0.length c0, .func (.func g) #[] lb] w fun e w' => e = .returned (.bool (l0.any p)) ∧ Drawn0 w w' := by
  have HC := Aside0.mk (slices_IndexFunc_int_int.calls g lb eg p A0 c0 l0 w hr0 hc0 hp)
  have HA := Aside0.mk (idxP_any p l0)
  clear hr0 hc0 hp
  go_enter Tryz.func89, Tryz.ntmps89
  go_wp2_with fail
  refine HC.out.mono ?_
  rintro e w' ⟨rfl, ⟨q, rfl⟩⟩
  go_wp2
  go_ret
  exact ⟨by rw [← HA.out]; rfl, (Drawn0.refl _).step _⟩
end Go.Proofs.YtehlmkgldcfciaaGreat.F
/- The file store: units; a change noted; names that clash. -/
set_option linter.unusedVariables false
set_option linter.unusedSimpArgs false
namespace Go.Proofs.YtehlmkgldcfciaaGreat.Files
open Go.Proofs.YtehlmkgldcfciaaGreat.Common Go.Maps Go.ChangeMaps Go.WideMaps Go.Proofs.YtehlmkgldcfciaaGreat.F
open Go.RowKit Go.Proofs.YtehlmkgldcfciaaGreatW.PrintWords Go.Proofs.YtehlmkgldcfciaaGreatW.PrintLast Go.Proofs.YtehlmkgldcfciaaGreatW.PrintMore
set_option maxRecDepth 100000 in
theorem changed_c (fb ub : Nat) (F : FS) (rv uv : Value) (u : ByteArray) (W : World) (hF : FileAt W fb F rv uv ub) :
    Calls Tryz.prog 73 #[.pointer (some ⟨fb, 0, none⟩), .string u] W fun e w' => e = .returned (.int .i64 0) ∧ w' = (W.setCell ⟨fb, 5, none⟩ (.int .i64 (wrap64 (F.ch + 1)))).setCell ⟨fb, 4, none⟩ (.string u) := by
  have c5 : W.cell? ⟨fb, 5, none⟩ = some (.int .i64 F.ch) := (blk_cell hF 5).trans rfl
  have c4 : W.cell? ⟨fb, 4, none⟩ = some (.string F.last) := (blk_cell hF 4).trans rfl
  have f5 := blk_frozen hF 5
  have f4 := blk_frozen hF 4
  clear hF
  go_enter Tryz.func73, Tryz.ntmps73
  go_wp2
  go_ret
  exact ⟨rfl, rfl⟩
theorem file_set {W : World} {fb ub : Nat} {F : FS} {rv uv : Value} (hF : FileAt W fb F rv uv ub) (i : Nat) (v : Value) {F' : FS} {rv' uv' : Value} (h : (F.cells rv uv ub).setIfInBounds i v = F'.cells rv' uv' ub) : FileAt (W.setCell ⟨fb, i, none⟩ v) fb F' rv' uv' ub := by
  unfold FileAt
  rw [← h]
  exact blk_set hF i v
set_option maxRecDepth 100000 in
set_option maxHeartbeats 2000000 in
theorem clash1_c (B1 B2 cu : Nat) (Au : Option Addr) (units : List S29) (nm : ByteArray) (i : Int) (W : World) (c1 : W.cell? ⟨B1, 0, none⟩ = some (.slice Au units.length cu)) (c2 : W.cell? ⟨B2, 0, none⟩ = some (.string nm))
    (hr : Kd.C k29 W Au units.length units) (h0 : 0 ≤ i) (h1 : i < (units.length : Int)) :
    Calls Tryz.prog 90 #[.int .i64 i, .pointer (some ⟨B1, 0, none⟩), .pointer (some ⟨B2, 0, none⟩)] W fun e w' => e = .returned (.bool (decide ((rd_T29 units i).f0 = nm))) ∧ Drawn0 W w' := by
  obtain ⟨ad, rfl, hx0, _, _⟩ := at_T29 hr i h0 h1
  have hbig : units.length ≤ 9223372036854775807 := hr.2.1
  clear hr
  generalize rd_T29 units i = x at hx0
  by_cases he : x.f0 = nm
  · have he' : (x.f0.toList == nm.toList) = true := by rw [he]; exact beq_yes _
    rw [show decide (x.f0 = nm) = true from decide_eq_true he]
    clear he
    go_enter Tryz.func90, Tryz.ntmps90
    go_wp2
    go_region
    go_wp2
    go_ret
    exact ⟨rfl, ⟨1, rfl⟩⟩
  · have he' := beq_no he
    rw [show decide (x.f0 = nm) = false from decide_eq_false he]
    clear he
    go_enter Tryz.func90, Tryz.ntmps90
    go_wp2
    go_region
    go_wp2
    go_ret
    exact ⟨rfl, ⟨1, rfl⟩⟩
def clashB (units : List S29) (at_ : List Int) (nm : ByteArray) : Bool := !decide (nm = ⟨#[]⟩) && at_.any fun i => decide ((rd_T29 units i).f0 = nm)
set_option maxRecDepth 100000 in
set_option maxHeartbeats 2000000 in
theorem clash_c (cu ca : Nat) (Au Aa : Option Addr) (units : List S29) (at_ : List Int) (nm : ByteArray) (W : World) (hr : Kd.C k29 W Au units.length units) (hc : units.length ≤ cu) (ha : (Kd.int .i64).C W Aa at_.length at_) (hca : at_.length ≤ ca)
    (hin : ∀ i ∈ at_, 0 ≤ i ∧ i < (units.length : Int)) :
    Calls Tryz.prog 71 #[.slice Au units.length cu, .slice Aa at_.length ca, .string nm] W fun e w' => e = .returned (.bool (clashB units at_ nm)) ∧ Below W.heap.size W w' := by
  have hb : Below W.heap.size W ((W.alloc (.cells #[.slice Au units.length cu] 52)).alloc (.cells #[.string nm] 9)) := ((Below.refl _ W).alloc (Nat.le_refl _) _).alloc (by simp) _
  have b1 := ((Boxed.new W 52 (.slice Au units.length cu)).alloc (.cells #[.string nm] 9)).cell
  have b2 := (Boxed.new (W.alloc (.cells #[.slice Au units.length cu] 52)) 9 (.string nm)).cell
  rw [World.size_alloc] at b2
  have HC := Aside0.mk (slices_ContainsFunc_int_int.calls 90 #[.pointer (some ⟨W.heap.size, 0, none⟩), .pointer (some ⟨W.heap.size + 1, 0, none⟩)] (enters_of Tryz.func90 (by kernel_rfl) rfl) (fun i => decide ((rd_T29 units i).f0 = nm)) Aa ca at_ _ (Kd.C_below ha hb) hca
    (fun W2 x hx hd => clash1_c W.heap.size (W.heap.size + 1) cu Au units nm x W2 ((hd.below.cell (p := ⟨W.heap.size, 0, none⟩) (by simp <;> omega)).trans b1) ((hd.below.cell (p := ⟨W.heap.size + 1, 0, none⟩) (by simp <;> omega)).trans b2) (Kd.C_below (Kd.C_below hr hb) hd.below) (hin x hx).1 (hin x hx).2))
  have HB := Aside0.mk hb
  clear hr ha
  by_cases he : nm = ⟨#[]⟩
  · have he' : (nm.toList == []) = true := by rw [he, ByteArray.toList_eq]; rfl
    rw [show clashB units at_ nm = false by simp [clashB, he]]
    clear hb he
    go_enter Tryz.func71, Tryz.ntmps71
    go_wp2
    go_ret
    exact ⟨by first | rfl | simp [*], HB.out⟩
  · have he' : (nm.toList == []) = false := by
      have := beq_no he
      rw [ByteArray.toList_eq (⟨#[]⟩ : ByteArray)] at this
      exact this
    rw [show clashB units at_ nm = at_.any (fun i => decide ((rd_T29 units i).f0 = nm)) by simp [clashB, he]]
    clear hb he
    go_enter Tryz.func71, Tryz.ntmps71
    go_wp2_with (go_at_call 89; refine HC.out.mono ?_; rintro e w2 ⟨rfl, hd2⟩)
    go_ret
    exact ⟨by first | rfl | simp [*], HB.out.trans (hd2.below.mono HB.out.size)⟩
def uCells (x : S29) : List Value := [.string x.f0, .string x.f1, .int .i64 x.f2]
def uRow (l : List S29) : List Value := (l.map uCells).flatten
theorem uRow_snoc (l : List S29) (x : S29) : uRow (l ++ [x]) = uRow l ++ uCells x := by simp [uRow]
theorem R_of_uRow {W : World} {base : Nat} {v : Value} {l : List S29} (h : W.ownsRow base 29 3 v l.length (uRow l)) : Kd.R k29 29 W base (fun _ => True) v l := by
  refine ⟨fun _ _ => trivial, uRow l, h, h.1, fun j x hj => ?_⟩
  have e : ((uRow l).drop (j * 3)).take 3 = uCells x := flat_at (css := l.map uCells) (fun c hc => by obtain ⟨y, _, rfl⟩ := List.mem_map.1 hc; rfl) (by rw [List.getElem?_map, hj]; rfl)
  show k29.M W base _ x (((uRow l).drop (j * 3)).take 3)
  rw [e]
  exact k29_mkM _ _ _ x
theorem uRow_of_R {W : World} {base : Nat} {ok : Nat → Prop} {v : Value} {l : List S29} (h : Kd.R k29 29 W base ok v l) : W.ownsRow base 29 3 v l.length (uRow l) := by
  obtain ⟨_, inner, ho, hl, hr⟩ := h
  have e : inner = uRow l := by
    clear ho
    have hr' : ∀ (j : Nat) (x : S29), l[j]? = some x → (inner.drop (j * 3)).take 3 = uCells x := fun j x hj => k29_openM (hr j x hj)
    have hl' : inner.length = l.length * 3 := hl
    clear hl hr
    induction l generalizing inner with
    | nil => simp at hl'; rw [hl']; rfl
    | cons x r ih =>
      have h1 := hr' 0 x rfl
      rw [Nat.zero_mul, List.drop_zero] at h1
      have h2 := ih (inner := inner.drop 3) (fun j y hj => by
        have := hr' (j + 1) y (by simpa using hj)
        rw [List.drop_drop]
        rw [Nat.add_mul, Nat.one_mul, Nat.add_comm] at this
        exact this) (by rw [List.length_drop, hl', List.length_cons]; omega)
      rw [show uRow (x :: r) = uCells x ++ uRow r from rfl, ← h1, ← h2]
      exact (List.take_append_drop 3 inner).symm
  rw [← e]
  exact ho
def InsEnd (w : World) (base g len : Nat) (xs news : List Value) (e : Ending) (w' : World) : Prop :=
  ∃ g' cap', e = .returned (.slice (some ⟨g', 0, none⟩) (len + 1) cap') ∧ w'.ownsRow base 29 3 (.slice (some ⟨g', 0, none⟩) (len + 1) cap') (len + 1) (xs ++ news) ∧ w.grownBy w' (some g) ∧ (g' = g ∨ g' = w.heap.size) ∧ g' < w'.heap.size
set_option maxRecDepth 100000 in
set_option maxHeartbeats 2000000 in
theorem Ins_c (base g len cap vb : Nat) (xs : List Value) (a b c : Value) (w : World) (hown : w.ownsRow base 29 3 (.slice (some ⟨g, 0, none⟩) len cap) len xs) (hv : w.heap[vb]? = some (.cells #[a, b, c] 29 (0, 0)))
    (h1 : a.oneCell' = true ∧ b.oneCell' = true ∧ c.oneCell' = true) (hlen : len < 100000) (hcap : len ≤ cap ∧ cap ≤ 9223372036854775807) (hb : base ≤ w.heap.size) :
    Calls Tryz.prog 72 #[.slice (some ⟨g, 0, none⟩) len cap, .int .i64 len, .slice (some ⟨vb, 0, none⟩) 1 1] w (InsEnd w base g len xs [a, b, c]) := by
  obtain ⟨i0, hi, hz0, hz1, hz2⟩ := info_parts (P := Tryz.prog) (e := 29) (show (Tryz.prog.info? 29).map (fun i => (i.zero, i.size, i.bytes)) = some (some (.agg #[.string ⟨#[]⟩, .string ⟨#[]⟩, .int .i64 0]), 3, 40) by kernel_rfl)
  have hl0 : (0 : Int) ≤ (len : Int) := by omega
  have hlc : (len : Int) ≤ (cap : Int) := by omega
  have hcb : (cap : Int) ≤ 9223372036854775807 := by omega
  have HV := Aside0.mk (World.news_of_block hv)
  have H1 := Aside0.mk (show ∀ u ∈ [a, b, c], u.oneCell' = true from fun u hu => by
    rcases List.mem_cons.1 hu with rfl | hu
    · exact h1.1
    · rcases List.mem_cons.1 hu with rfl | hu
      · exact h1.2.1
      · rw [List.mem_singleton.1 hu]; exact h1.2.2)
  clear hv h1
  go_enter Tryz.func72, Tryz.ntmps72
  go_wp2_with first | (at_builtin; refine wpList_append_lies _ rfl _ _ 52 rfl base 29 i0 _ 3 40 Tryz.underlying52 hi hz0 hz1 hz2 rfl (by decide) (.slice (some ⟨g, 0, none⟩) len cap) len xs rfl hown ⟨vb, 0, none⟩ 1 1 [a, b, c] rfl rfl HV.out H1.out (by decide) (by unfold maxLen; omega) (by omega) hb _ rfl ?_; intro g' cap' w' hown' hgrow' hat' hlt'; have HAT := Aside0.mk hat'; clear hat')
  all_goals
    go_ret
    have hat2 : g' = g ∨ g' = w.heap.size := by
      rcases HAT.out with h | h
      · have h2 : some g = some g' := h
        injection h2 with h2
        exact .inl h2.symm
      · exact .inr h
    exact ⟨g', cap', rfl, hown', hgrow', hat2, hlt'⟩
end Go.Proofs.YtehlmkgldcfciaaGreat.Files
/- The file store as data: maps as lists, what a step may turn, a file and the store in memory. -/
set_option linter.unusedVariables false
set_option linter.unusedSimpArgs false
namespace Go.Proofs.YtehlmkgldcfciaaGreat.Files
open Go.Proofs.YtehlmkgldcfciaaGreat.Common Go.Maps Go.ChangeMaps Go.WideMaps Go.Proofs.YtehlmkgldcfciaaGreat.F
open Go.RowKit Go.Proofs.YtehlmkgldcfciaaGreatW.PrintWords Go.Proofs.YtehlmkgldcfciaaGreatW.PrintLast Go.Proofs.YtehlmkgldcfciaaGreatW.PrintMore
abbrev Key := List UInt8
def look {α : Type} (l : List (Key × α)) (k : Key) : Option α := (l.find? fun p => decide (p.1 = k)).map (·.2)
theorem look_nil {α : Type} (k : Key) : look ([] : List (Key × α)) k = none := rfl
theorem look_cons {α : Type} (p : Key × α) (l : List (Key × α)) (k : Key) : look (p :: l) k = if p.1 = k then some p.2 else look l k := by
  unfold look
  by_cases h : p.1 = k
  · rw [List.find?_cons_of_pos (by simp [h]), if_pos h]; rfl
  · rw [List.find?_cons_of_neg (by simp [h]), if_neg h]
theorem look_snoc {α : Type} (l : List (Key × α)) (p : Key × α) (k : Key) : look (l ++ [p]) k = match look l k with | some x => some x | none => if p.1 = k then some p.2 else none := by
  induction l with
  | nil => rw [List.nil_append, look_cons]; rfl
  | cons q l ih =>
    rw [List.cons_append, look_cons, look_cons]
    by_cases h : q.1 = k
    · rw [if_pos h, if_pos h]
    · rw [if_neg h, if_neg h, ih]
theorem look_none {α : Type} {l : List (Key × α)} {k : Key} : look l k = none ↔ ∀ p ∈ l, p.1 ≠ k := by
  induction l with
  | nil => simp [look_nil]
  | cons q l ih =>
    rw [look_cons]
    by_cases h : q.1 = k
    · rw [if_pos h]; simp [h]
    · rw [if_neg h, ih]; simp [h]
theorem look_mem {α : Type} {l : List (Key × α)} {k : Key} {x : α} (h : look l k = some x) : (k, x) ∈ l := by
  unfold look at h
  obtain ⟨p, hp, rfl⟩ := Option.map_eq_some_iff.1 h
  have h1 := List.find?_some hp
  have h2 := List.mem_of_find?_eq_some hp
  have h3 : p.1 = k := by simpa using h1
  rw [← h3]
  exact h2
theorem look_of_mem {α : Type} {l : List (Key × α)} (hn : (l.map (·.1)).Nodup) {p : Key × α} (hp : p ∈ l) : look l p.1 = some p.2 := by
  induction l with
  | nil => cases hp
  | cons q l ih =>
    rw [look_cons]
    simp only [List.map_cons, List.nodup_cons] at hn
    rcases List.mem_cons.1 hp with rfl | hp
    · rw [if_pos rfl]
    · rw [if_neg (fun e => hn.1 (by rw [e]; exact List.mem_map.2 ⟨p, hp, rfl⟩)), ih hn.2 hp]
def drop_ {α : Type} (l : List (Key × α)) (k : Key) : List (Key × α) := l.filter fun p => !decide (p.1 = k)
theorem look_drop {α : Type} (l : List (Key × α)) (k k' : Key) : look (drop_ l k) k' = if k' = k then none else look l k' := by
  induction l with
  | nil => simp [drop_, look_nil]
  | cons q l ih =>
    have e : drop_ (q :: l) k = if q.1 = k then drop_ l k else q :: drop_ l k := by
      unfold drop_
      rw [List.filter_cons]
      by_cases h : q.1 = k <;> simp [h]
    rw [e, look_cons]
    by_cases h : q.1 = k
    · rw [if_pos h, ih]
      by_cases h2 : k' = k
      · rw [if_pos h2, if_pos h2]
      · rw [if_neg h2, if_neg h2, if_neg (fun e => h2 (e.symm.trans h))]
    · rw [if_neg h, look_cons, ih]
      by_cases h3 : q.1 = k'
      · rw [if_pos h3, if_pos h3, if_neg (fun e => h (h3.trans e))]
      · rw [if_neg h3, if_neg h3]
theorem drop_length {α : Type} {l : List (Key × α)} (hn : (l.map (·.1)).Nodup) (k : Key) : (drop_ l k).length + (if (look l k).isSome = true then 1 else 0) = l.length := by
  induction l with
  | nil => simp [drop_, look_nil]
  | cons q l ih =>
    simp only [List.map_cons, List.nodup_cons] at hn
    have e : drop_ (q :: l) k = if q.1 = k then drop_ l k else q :: drop_ l k := by
      unfold drop_
      rw [List.filter_cons]
      by_cases h : q.1 = k <;> simp [h]
    have := ih hn.2
    rw [e, look_cons]
    by_cases h : q.1 = k
    · have h0 : look l k = none := look_none.2 fun p hp e2 => hn.1 (by rw [h, ← e2]; exact List.mem_map.2 ⟨p, hp, rfl⟩)
      rw [if_pos h, if_pos h]
      rw [h0] at this
      simp at this ⊢
      omega
    · rw [if_neg h, if_neg h, List.length_cons, List.length_cons]
      omega
structure MapIs (D : DataW Unit) (l : List (Key × DataW Unit)) : Prop where
  at_ : ∀ k z, D.atKey (.string k) z = (look l k).getD z
  has : ∀ k, Maps.has D (.string k) = (look l k).isSome
  size : Maps.size D = l.length
  tidy : Maps.Tidy D
theorem MapIs.nil : MapIs (.map []) [] := ⟨fun k z => rfl, fun k => rfl, rfl, tidy_empty⟩
theorem key_ne {k k' : Key} (h : k' ≠ k) : (Lit.string k') ≠ (Lit.string k) := fun e => h (by injection e)
theorem MapIs.put {D : DataW Unit} {l : List (Key × DataW Unit)} (h : MapIs D l) (k : Key) (d : DataW Unit) (hn : look l k = none) : MapIs (D.put (.string k) d) (l ++ [(k, d)]) := by
  have hk : WideAt.IsKeyLit (.string k) := trivial
  refine ⟨fun k' z => ?_, fun k' => ?_, ?_, h.tidy.put hk d⟩
  · rw [look_snoc]
    by_cases e : k' = k
    · subst e
      rw [atKey_put_same h.tidy.isMap hk, hn]
      simp
    · rw [atKey_put_other (key_ne e), h.at_]
      cases look l k' with
      | some x => rfl
      | none => show z = (if k = k' then some d else none).getD z; rw [if_neg (fun e2 => e (Eq.symm e2))]; rfl
  · rw [look_snoc]
    by_cases e : k' = k
    · subst e
      rw [has_put_same h.tidy.isMap hk, hn]
      simp
    · rw [has_put_other (key_ne e), h.has]
      cases look l k' with
      | some x => rfl
      | none => show false = (if k = k' then some d else none).isSome; rw [if_neg (fun e2 => e (Eq.symm e2))]; rfl
  · rw [size_put h.tidy, h.has, hn, h.size]
    simp
theorem MapIs.del {D : DataW Unit} {l : List (Key × DataW Unit)} (h : MapIs D l) (hn : (l.map (·.1)).Nodup) (k : Key) : MapIs (D.del (.string k)) (drop_ l k) := by
  refine ⟨fun k' z => ?_, fun k' => ?_, ?_, h.tidy.del _⟩
  · rw [look_drop]
    by_cases e : k' = k
    · subst e
      rw [atKey_del_same, if_pos rfl]; rfl
    · rw [atKey_del_other (key_ne e), h.at_, if_neg e]
  · rw [look_drop]
    by_cases e : k' = k
    · subst e
      rw [has_del_same, if_pos rfl]; rfl
    · rw [has_del_other (key_ne e), h.has, if_neg e]
  · have h1 := size_del (k := .string k) h.tidy
    have h2 := drop_length hn k
    rw [h.has, h.size] at h1
    omega
theorem ownsMap_tight {w : World} {k b n : Nat} {R : Value → Option (DataW Unit × List MemPlace)} {D : DataW Unit} (h : w.ownsMap Tryz.prog k R b n D) : w.ownsMap Tryz.prog k R b (Maps.size D) D := by
  obtain ⟨es, clock, hb, F, hs, rfl⟩ := h
  exact ⟨es, clock, hb, F, by simp [Maps.size, length_sorted], rfl⟩
structure Chg (W W' : World) (S : Nat → Prop) : Prop where
  os : W'.os = W.os
  tape : W'.tape = W.tape
  output : W'.output = W.output
  size : W.heap.size ≤ W'.heap.size
  block : ∀ k, k < W.heap.size → ¬ S k → W'.heap[k]? = W.heap[k]?
theorem Chg.of_below {W W' : World} (h : Below W.heap.size W W') (S : Nat → Prop) : Chg W W' S := ⟨h.os, h.tape, h.output, h.size, fun k hk _ => h.block k hk⟩
theorem Chg.below0 {W W' : World} {S : Nat → Prop} (h : Chg W W' S) (hS : ∀ k, ¬ S k) : Below W.heap.size W W' := ⟨h.os, h.tape, h.output, h.size, fun k hk => h.block k hk (hS k)⟩
theorem Chg.below {B : Nat} {W W' : World} {S : Nat → Prop} (h : Chg W W' S) (hB : B ≤ W.heap.size) (hS : ∀ k, S k → B ≤ k) : Below B W W' := ⟨h.os, h.tape, h.output, h.size, fun k hk => h.block k (by omega) (fun hs => by have := hS k hs; omega)⟩
theorem Chg.of_grown {W W' : World} {row : Option Nat} (h : W.grownBy W' row) {S : Nat → Prop} (hS : ∀ k, some k = row → S k) : Chg W W' S := ⟨h.os, h.tape, h.output, h.size, fun k hk hs => h.block k hk (fun e => hs (hS k e))⟩
theorem Chg.of_set (W : World) (p : Addr) (u : Value) {S : Nat → Prop} (hS : S p.block) : Chg W (W.setCell p u) S := ⟨rfl, rfl, rfl, by simp [World.setCell], fun k _ hs => Below.heap_setCell _ _ _ _ (fun e => hs (by rw [e]; exact hS))⟩
theorem Chg.of_turned {W W' : World} {b : Nat} (h : W.mapTurned W' b) {S : Nat → Prop} (hS : S b) : Chg W W' S := Chg.of_grown h.grown (fun k e => by injection e with e; rw [e]; exact hS)
theorem Chg.mono {W W' : World} {S T : Nat → Prop} (h : Chg W W' S) (hST : ∀ k, S k → T k) : Chg W W' T := ⟨h.os, h.tape, h.output, h.size, fun k hk ht => h.block k hk (fun hs => ht (hST k hs))⟩
theorem Chg.trans {W W1 W2 : World} {S T : Nat → Prop} (h : Chg W W1 S) (k : Chg W1 W2 T) (hT : ∀ i, T i → S i ∨ W.heap.size ≤ i) : Chg W W2 S :=
  ⟨k.os.trans h.os, k.tape.trans h.tape, k.output.trans h.output, Nat.le_trans h.size k.size, fun i hi hs =>
    (k.block i (Nat.lt_of_lt_of_le hi h.size) (fun ht => (hT i ht).elim hs (fun hle => absurd hi (Nat.not_lt.2 hle)))).trans (h.block i hi hs)⟩
theorem Chg.map {W W' : World} {S : Nat → Prop} (h : Chg W W' S) {k : Nat} {R : Value → Option (DataW Unit × List MemPlace)} {b n : Nat} {D : DataW Unit} (ho : W.ownsMap Tryz.prog k R b n D) (hs : ¬ S b) : W'.ownsMap Tryz.prog k R b n D := by
  have hlt := ho.lt
  obtain ⟨es, clock, hb, F, hs', hD⟩ := ho
  exact ⟨es, clock, (h.block b hlt hs).trans hb, F, hs', hD⟩
theorem Chg.row {α : Type} {d : Kd α} {e base : Nat} {ok : Nat → Prop} {v : Value} {xs : List α} {W W' : World} {S : Nat → Prop} (h : Chg W W' S) (hr : d.R e W base ok v xs) (hs : ∀ k, ok k → ¬ S k) : d.R e W' base ok v xs :=
  Kd.R_step hr (fun k hk hlt => h.block k hlt (hs k hk))
structure AF where
  F : FS
  rules : List S100
  units : List S29
  users : List (ByteArray × (Int × Int))
def AF.key (f : AF) : Key := f.F.name.data.toList
def openD (p : Int × Int) : DataW Unit := .agg [.lit (.int .i64 p.1), .lit (.int .i64 p.2)]
def usersL (l : List (ByteArray × (Int × Int))) : List (Key × DataW Unit) := l.map fun p => (p.1.data.toList, openD p.2)
def lookU (l : List (ByteArray × (Int × Int))) (u : ByteArray) : Option (Int × Int) := (l.find? fun p => decide (p.1 = u)).map (·.2)
theorem data_inj {a b : ByteArray} (h : a.data.toList = b.data.toList) : a = b := by
  cases a; cases b
  simpa using h
theorem look_users (l : List (ByteArray × (Int × Int))) (u : ByteArray) : look (usersL l) u.data.toList = (lookU l u).map openD := by
  induction l with
  | nil => rfl
  | cons p l ih =>
    show look ((p.1.data.toList, openD p.2) :: usersL l) _ = _
    rw [look_cons]
    unfold lookU at ih ⊢
    by_cases h : p.1 = u
    · rw [if_pos (by rw [h]), List.find?_cons_of_pos (by simp [h])]; rfl
    · rw [if_neg (fun e => h (data_inj e)), List.find?_cons_of_neg (by simp [h]), ih]
structure FileParts (W : World) (ok : Nat → Prop) (fb : Nat) (f : AF) (A : Option Addr) (rc : Nat) (uv : Value) (ub : Nat) (DU : DataW Unit) : Prop where
  okb : ok fb
  F : FileAt W fb f.F (.slice A f.rules.length rc) uv ub
  rules : Kd.R k100 100 W 0 ok (.slice A f.rules.length rc) f.rules
  units : Kd.R k29 29 W 0 ok uv f.units
  oku : ok ub
  U : W.ownsMap Tryz.prog 9 Ro ub (Maps.size DU) DU
  mU : MapIs DU (usersL f.users)
def FileRep (W : World) (ok : Nat → Prop) (fb : Nat) (f : AF) : Prop := ∃ A rc uv ub DU, FileParts W ok fb f A rc uv ub DU
theorem FileParts.step {W W' : World} {S ok : Nat → Prop} {fb rc ub : Nat} {f : AF} {A : Option Addr} {uv : Value} {DU : DataW Unit} (h : FileParts W ok fb f A rc uv ub DU) (hc : Chg W W' S) (hs : ∀ k, ok k → ¬ S k) : FileParts W' ok fb f A rc uv ub DU :=
  ⟨h.okb, (hc.block fb (blk_lt h.F) (hs fb h.okb)).trans h.F, hc.row h.rules hs, hc.row h.units hs, h.oku, hc.map h.U (hs ub h.oku), h.mU⟩
theorem FileParts.mono {W : World} {ok ok' : Nat → Prop} {fb rc ub : Nat} {f : AF} {A : Option Addr} {uv : Value} {DU : DataW Unit} (h : FileParts W ok fb f A rc uv ub DU) (hs : ∀ k, ok k → ok' k) : FileParts W ok' fb f A rc uv ub DU :=
  ⟨hs _ h.okb, h.F, Kd.R_mono h.rules hs, Kd.R_mono h.units hs, hs _ h.oku, h.U, h.mU⟩
theorem FileParts.below {W W' : World} {ok : Nat → Prop} {fb rc ub : Nat} {f : AF} {A : Option Addr} {uv : Value} {DU : DataW Unit} (h : FileParts W ok fb f A rc uv ub DU) (hb : Below W.heap.size W W') : FileParts W' ok fb f A rc uv ub DU :=
  h.step (Chg.of_below hb (fun _ => False)) (fun _ _ h => h)
theorem FileRep.step {W W' : World} {S ok : Nat → Prop} {fb : Nat} {f : AF} (h : FileRep W ok fb f) (hc : Chg W W' S) (hs : ∀ k, ok k → ¬ S k) : FileRep W' ok fb f := by
  obtain ⟨A, rc, uv, ub, DU, h⟩ := h
  exact ⟨A, rc, uv, ub, DU, h.step hc hs⟩
theorem FileRep.mono {W : World} {ok ok' : Nat → Prop} {fb : Nat} {f : AF} (h : FileRep W ok fb f) (hs : ∀ k, ok k → ok' k) : FileRep W ok' fb f := by
  obtain ⟨A, rc, uv, ub, DU, h⟩ := h
  exact ⟨A, rc, uv, ub, DU, h.mono hs⟩
structure View (W : World) (sb mb : Nat) (D : DataW Unit) (u n : ByteArray) : Prop where
  c0 : W.cell? ⟨sb, 0, none⟩ = some (.map (some mb))
  M : W.ownsMap Tryz.prog 9 Rp mb (Maps.size D) D
  hu : 1 ≤ u.size ∧ u.size ≤ 20
  hn : 1 ≤ n.size ∧ n.size ≤ 30
theorem View.below {W W' : World} {sb mb : Nat} {D : DataW Unit} {u n : ByteArray} (h : View W sb mb D u n) (hb : Below W.heap.size W W') : View W' sb mb D u n :=
  ⟨pw_cell_below hb h.c0, (Chg.of_below hb (fun _ => False)).map h.M (fun h => h), h.hu, h.hn⟩
structure StoreParts (W : World) (ok : Nat → Prop) (sb : Nat) (L : List (Nat × AF)) (mb : Nat) (D : DataW Unit) (own : Nat → Nat) : Prop where
  oks : ok sb
  okm : ok mb
  S : Boxed W sb 43 (.map (some mb))
  M : W.ownsMap Tryz.prog 9 Rp mb (Maps.size D) D
  mM : MapIs D (L.map fun p => (p.2.key, .lit (.int .i64 p.1)))
  files : ∀ p ∈ L, FileRep W (fun k => ok k ∧ own k = p.1) p.1 p.2
  ownm : ∀ p ∈ L, own mb ≠ p.1 ∧ own sb ≠ p.1
  lt : ∀ k, ok k → k < W.heap.size
  fbs : (L.map (·.1)).Nodup
  names : (L.map (·.2.key)).Nodup
def StoreRep (W : World) (ok : Nat → Prop) (sb : Nat) (L : List (Nat × AF)) : Prop := ∃ mb D own, StoreParts W ok sb L mb D own
end Go.Proofs.YtehlmkgldcfciaaGreat.Files
-- Written by this repo's wip/tools/myprint.py (the kit's print program, with contracts of our own beside). Lean checks it.
namespace Go.Proofs.YtehlmkgldcfciaaGreat.F
open Go.Proofs.YtehlmkgldcfciaaGreat.Common
open Go.RowKit Go.Proofs.YtehlmkgldcfciaaGreatW.PrintWords Go.Proofs.YtehlmkgldcfciaaGreatW.PrintLast Go.Proofs.YtehlmkgldcfciaaGreatW.PrintMore
set_option linter.unusedVariables false
set_option linter.unusedSimpArgs false
mutual
def files_children.l0 : Nat → List (S29) → Int → List Int → Int → Option (List Int)
 | 0, _, _, _, _ => none
 | k + 1, x0, x1, x5, x6 => if x6 < (x0.length : Int) then (if 0 ≤ x6 then (if 0 ≤ x1 then (if x1 < (x0.length : Int) then (files_children.j1 k x0 x1 x5 x6 (decide (((rd_T29 x0 x6).f2) > ((rd_T29 x0 x1).f2)))) else (none)) else (none)) else (none)) else (files_children.j1 k x0 x1 x5 x6 false)
def files_children.j1 : Nat → List (S29) → Int → List Int → Int → Bool → Option (List Int)
 | 0, _, _, _, _, _ => none
 | k + 1, x0, x1, x5, x6, x25 => if x25 = true then (if 0 ≤ x6 then (if x6 < (x0.length : Int) then (if 0 ≤ x1 then (if x1 < (x0.length : Int) then (if ((rd_T29 x0 x6).f2) = (wrap64 (((rd_T29 x0 x1).f2) + 1)) then (if x5.length < 17592186044416 then (files_children.l0 k x0 x1 (x5 ++ [x6]) (wrap64 (x6 + 1))) else (none)) else (files_children.l0 k x0 x1 x5 (wrap64 (x6 + 1)))) else (none)) else (none)) else (none)) else (none)) else (some x5)
end
def files_children.f (k : Nat) (l0 : List (S29)) (a1 : Int) : Option (List Int) := files_children.l0 k l0 a1 ([] : List Int) (wrap64 (a1 + 1))
set_option maxHeartbeats 8000000 in
set_option maxRecDepth 100000 in
theorem files_children.calls (k : Nat) (A0 : Option Addr) (c0 : Nat) (l0 : List (S29)) (a1 : Int) (r : List Int) (w : World) (hr0 : Kd.C k29 w A0 l0.length l0) (hc0 : l0.length ≤ c0) (h : files_children.f k l0 a1 = some r) :
  Calls Tryz.prog 64 #[.slice A0 l0.length c0, .int .i64 a1] w fun e w' => ∃ v0_ : Value, e = .returned (v0_) ∧ Kd.R (Kd.int .i64) 3 w' w.heap.size (fun _ => True) v0_ r ∧ Below w.heap.size w w' := by
 have HR0 := Aside0.mk hr0
 have HC0 := Aside0.mk hc0
 clear hr0 hc0
 have HB := Aside0.mk (Below.refl w.heap.size w)
 have H : (files_children.l0 k l0 a1 ([] : List Int) (wrap64 (a1 + 1))) = some r := h
 clear h
 have H' := Aside0.mk H
 clear H
 go_enter Tryz.func64, Tryz.ntmps64
 go_wp2
 repeat (go_quiet (fail); try go_wp2)
 go_loopg [5, 6] k (fun kq v5 v6 w' => ∃ (x5_1 : List Int) (x6_1 : Int), v6 = .int .i64 x6_1 ∧ Aside0 (files_children.l0 kq l0 a1 x5_1 x6_1 = some r) ∧ Aside0 (kq ≤ k) ∧ Aside0 (Kd.R (Kd.int .i64) 3 w' w.heap.size (fun _ => True) v5 x5_1) ∧ Aside0 (Below w.heap.size w w'))
 case atStart => exact ⟨(([] : List Int)), (wrap64 (a1 + 1)), (by first | rfl | (simp; done) | (simp [*]; done)), H', ⟨Nat.le_refl _⟩, ⟨by first | exact Kd.R_nil _ _ _ _ _ | exact Kd.N_nil _ _ _ _ _ | exact Kd.V_nil _ _ _ _ _ | exact Kd.Q_nil _ _ _ _ _ | exact Kd.S_nil _ _ _ _ _⟩, ⟨by repeat (first | (with_reducible first | exact HB.out | apply below_alloc | apply pw_below_drewN | apply below_drew1) | exact HB.out)⟩⟩
 case round =>
  clear H'
  try clear p2
  obtain ⟨x5_1, x6_1, rfl, HA, HK1, HO_5, HB⟩ := hrel
  cases gk with
  | zero => exact absurd HA.out (by simp [files_children.l0])
  | succ k1 =>
   have H := HA.out
   clear HA
   simp only [files_children.l0] at H
   have HC3 := Aside0.mk H
   clear H
   go_upto_region 3 with (fail)
   repeat (go_quiet (fail); go_upto_region 3 with (fail))
   go_cut [25] (fun v25 wc => ∃ (kq : Nat) (x25_2 : Bool), v25 = .bool x25_2 ∧ Aside0 (files_children.j1 kq l0 a1 x5_1 x6_1 x25_2 = some r) ∧ Aside0 (kq ≤ k1) ∧ Aside0 (Kd.R (Kd.int .i64) 3 wc w.heap.size (fun _ => True) u5 x5_1) ∧ Aside0 (Below w.heap.size w wc))
   case first =>
    have H := HC3.out
    clear HC3
    by_cases c4 : x6_1 < (l0.length : Int)
    ·rw [if_pos c4] at H
     have c4b0 : decide (x6_1 < (l0.length : Int)) = true := decide_eq_true c4
     clear c4
     (first | rw [c4b0] | (simp only [i64_w, i32_w]; rw [c4b0]) | skip)
     by_cases c5 : 0 ≤ x6_1
     ·rw [if_pos c5] at H
      have c5b0 : decide (0 ≤ x6_1) = true := decide_eq_true c5
      clear c5
      by_cases c6 : 0 ≤ a1
      ·rw [if_pos c6] at H
       have c6b0 : decide (0 ≤ a1) = true := decide_eq_true c6
       clear c6
       by_cases c7 : a1 < (l0.length : Int)
       ·rw [if_pos c7] at H
        have c7b0 : decide (a1 < (l0.length : Int)) = true := decide_eq_true c7
        clear c7
        have H' := Aside0.mk H
        clear H
        have p111 : 0 ≤ (x6_1 : Int) := of_decide_eq_true (by first | (with_reducible assumption) | assumption)
        have q111 : x6_1 < (l0.length : Int) := of_decide_eq_true (by first | (with_reducible assumption) | assumption)
        obtain ⟨ad111, e111, hx111_0, hx111_1, hx111_2⟩ := at_T29 HR0.out x6_1 p111 q111
        cases e111
        replace hx111_0 := (HB.out.cell (World.block_lt_of_cell? w _ hx111_0)).trans hx111_0
        replace hx111_1 := (HB.out.cell (World.block_lt_of_cell? w _ hx111_1)).trans hx111_1
        replace hx111_2 := (HB.out.cell (World.block_lt_of_cell? w _ hx111_2)).trans hx111_2
        replace p111 := eq_true p111
        replace q111 := eq_true q111
        have p112 : 0 ≤ (a1 : Int) := of_decide_eq_true (by first | (with_reducible assumption) | assumption)
        have q112 : a1 < (l0.length : Int) := of_decide_eq_true (by first | (with_reducible assumption) | assumption)
        obtain ⟨ad112, e112, hx112_0, hx112_1, hx112_2⟩ := at_T29 HR0.out a1 p112 q112
        obtain rfl : ad111 = ad112 := (by injection e112)
        replace hx112_0 := (HB.out.cell (World.block_lt_of_cell? w _ hx112_0)).trans hx112_0
        replace hx112_1 := (HB.out.cell (World.block_lt_of_cell? w _ hx112_1)).trans hx112_1
        replace hx112_2 := (HB.out.cell (World.block_lt_of_cell? w _ hx112_2)).trans hx112_2
        replace p112 := eq_true p112
        replace q112 := eq_true q112
        go_wp2
        repeat (go_quiet (fail); try go_wp2)
        go_meet
        case rel => exact ⟨_, (decide (((rd_T29 l0 x6_1).f2) > ((rd_T29 l0 a1).f2))), (by first | rfl | (simp; done) | (simp [*]; done)), H', ⟨by have := HK1.out; first | omega | exact Nat.le_refl _⟩, ⟨by (with_reducible repeat (first | apply Kd.R_alloc | apply Kd.R_drewN | apply Kd.R_drew)); exact HO_5.out⟩, ⟨by repeat (first | (with_reducible first | exact HB.out | apply below_alloc | apply pw_below_drewN | apply below_drew1) | exact HB.out)⟩⟩
       ·rw [if_neg c7] at H
        exact absurd H (by simp)
      ·rw [if_neg c6] at H
       exact absurd H (by simp)
     ·rw [if_neg c5] at H
      exact absurd H (by simp)
    ·rw [if_neg c4] at H
     have c4b0 : decide (x6_1 < (l0.length : Int)) = false := decide_eq_false c4
     clear c4
     (first | rw [c4b0] | (simp only [i64_w, i32_w]; rw [c4b0]) | skip)
     have H' := Aside0.mk H
     clear H
     go_wp2
     repeat (go_quiet (fail); try go_wp2)
     go_meet
     case rel => exact ⟨_, (false), (by first | rfl | (simp; done) | (simp [*]; done)), H', ⟨by have := HK1.out; first | omega | exact Nat.le_refl _⟩, ⟨by (with_reducible repeat (first | apply Kd.R_alloc | apply Kd.R_drewN | apply Kd.R_drew)); exact HO_5.out⟩, ⟨by repeat (first | (with_reducible first | exact HB.out | apply below_alloc | apply pw_below_drewN | apply below_drew1) | exact HB.out)⟩⟩
   case rest =>
    clear HC3
    try clear p1
    try clear q1
    try clear hx1
    try clear p2
    try clear c4
    try clear c4b0
    try clear c5
    try clear c5b0
    try clear c6
    try clear c6b0
    try clear p6
    try clear c7
    try clear c7b0
    try clear hx111_0
    try clear hx111_1
    try clear hx111_2
    try clear hx112_0
    try clear hx112_1
    try clear hx112_2
    try clear p111
    try clear p112
    try clear p2
    try clear q111
    try clear q112
    obtain ⟨kq, x25_2, rfl, HA, HJ2, HO_5, HB⟩ := hcut
    cases kq with
    | zero => exact absurd HA.out (by simp [files_children.j1])
    | succ kj2 =>
     have H := HA.out
     clear HA
     simp only [files_children.j1] at H
     by_cases c8 : x25_2 = true
     ·subst c8
      have H1 : (if 0 ≤ x6_1 then (if x6_1 < (l0.length : Int) then (if 0 ≤ a1 then (if a1 < (l0.length : Int) then (if ((rd_T29 l0 x6_1).f2) = (wrap64 (((rd_T29 l0 a1).f2) + 1)) then (if x5_1.length < 17592186044416 then (files_children.l0 kj2 l0 a1 (x5_1 ++ [x6_1]) (wrap64 (x6_1 + 1))) else (none)) else (files_children.l0 kj2 l0 a1 x5_1 (wrap64 (x6_1 + 1)))) else (none)) else (none)) else (none)) else (none)) = some r := by rw [if_pos rfl] at H; exact H
      clear H
      have H := H1
      clear H1
      by_cases c9 : 0 ≤ x6_1
      ·rw [if_pos c9] at H
       have c9b0 : decide (0 ≤ x6_1) = true := decide_eq_true c9
       clear c9
       by_cases c10 : x6_1 < (l0.length : Int)
       ·rw [if_pos c10] at H
        have c10b0 : decide (x6_1 < (l0.length : Int)) = true := decide_eq_true c10
        clear c10
        by_cases c11 : 0 ≤ a1
        ·rw [if_pos c11] at H
         have c11b0 : decide (0 ≤ a1) = true := decide_eq_true c11
         clear c11
         by_cases c12 : a1 < (l0.length : Int)
         ·rw [if_pos c12] at H
          have c12b0 : decide (a1 < (l0.length : Int)) = true := decide_eq_true c12
          clear c12
          by_cases c13 : ((rd_T29 l0 x6_1).f2) = (wrap64 (((rd_T29 l0 a1).f2) + 1))
          ·rw [if_pos c13] at H
           have c13b0 : (((rd_T29 l0 x6_1).f2) == (wrap64 (((rd_T29 l0 a1).f2) + 1))) = true := beq_iff_eq.mpr c13
           have c13b1 : (((rd_T29 l0 x6_1).f2) != (wrap64 (((rd_T29 l0 a1).f2) + 1))) = false := bne_eq_false_iff_eq.mpr c13
           clear c13
           by_cases c14 : x5_1.length < 17592186044416
           ·rw [if_pos c14] at H
            have LMc14 := Aside0.mk c14
            clear c14
            obtain ⟨y115, hy115⟩ : ∃ y_ : List Int, y_ = (x5_1 ++ [x6_1]) := ⟨_, rfl⟩
            replace H : (files_children.l0 kj2 l0 a1 y115 (wrap64 (x6_1 + 1))) = some r := by first | (rw [hy115]; with_reducible exact H) | (have H2_ := (Option.bind_some _ _).symm.trans H; rw [hy115]; with_reducible exact H2_) | (have H2_ := (Option.bind_some _ _).symm.trans H; with_reducible exact H2_) | with_reducible exact H | (rw [hy115]; exact H) | exact H
            have Ny115 := Aside0.mk hy115
            clear hy115
            have H' := Aside0.mk H
            clear H
            have p113 : 0 ≤ (x6_1 : Int) := of_decide_eq_true (by first | (with_reducible assumption) | assumption)
            have q113 : x6_1 < (l0.length : Int) := of_decide_eq_true (by first | (with_reducible assumption) | assumption)
            obtain ⟨ad113, e113, hx113_0, hx113_1, hx113_2⟩ := at_T29 HR0.out x6_1 p113 q113
            cases e113
            replace hx113_0 := (HB.out.cell (World.block_lt_of_cell? w _ hx113_0)).trans hx113_0
            replace hx113_1 := (HB.out.cell (World.block_lt_of_cell? w _ hx113_1)).trans hx113_1
            replace hx113_2 := (HB.out.cell (World.block_lt_of_cell? w _ hx113_2)).trans hx113_2
            replace p113 := eq_true p113
            replace q113 := eq_true q113
            have p114 : 0 ≤ (a1 : Int) := of_decide_eq_true (by first | (with_reducible assumption) | assumption)
            have q114 : a1 < (l0.length : Int) := of_decide_eq_true (by first | (with_reducible assumption) | assumption)
            obtain ⟨ad114, e114, hx114_0, hx114_1, hx114_2⟩ := at_T29 HR0.out a1 p114 q114
            obtain rfl : ad113 = ad114 := (by injection e114)
            replace hx114_0 := (HB.out.cell (World.block_lt_of_cell? w _ hx114_0)).trans hx114_0
            replace hx114_1 := (HB.out.cell (World.block_lt_of_cell? w _ hx114_1)).trans hx114_1
            replace hx114_2 := (HB.out.cell (World.block_lt_of_cell? w _ hx114_2)).trans hx114_2
            replace p114 := eq_true p114
            replace q114 := eq_true q114
            go_wp2_with (first | ((with_reducible refine gate_builtin (b := .append) (xs := #[.tmp 40, .tmp 42]) rfl ?_); at_builtin; refine Kd.R_append (Kd.int .i64) (w0 := w) w.heap.size rfl (.tmp 40) (.tmp 42) 113 3 (.int .i64 0) 8 rfl Tryz.underlying113 info3 rfl (by decide) (by omega) u5 x5_1 x6_1 [.int .i64 x6_1] (fun _ => True) (fun _ => False) rfl rfl ?aP (fun _ hk => hk.elim) ?aF ?aO ?aB ?aS ?aL ?_; (case aP => exact rfl); (case aB => exact (by repeat (first | (with_reducible first | exact HB.out | apply below_alloc | apply pw_below_drewN | apply below_drew1) | exact HB.out))); (case aF => exact (fun _ _ => trivial)); (case aO => exact (by (with_reducible repeat (first | apply Kd.R_alloc | apply Kd.R_drewN | apply Kd.R_drew)); exact HO_5.out)); (case aS => exact (below_size (by repeat (first | (with_reducible first | exact HB.out | apply below_alloc | apply pw_below_drewN | apply below_drew1) | exact HB.out)))); (case aL => have := LMc14.out; omega); intro v116 w15 ho hb hg hat; rw [← Ny115.out] at ho; have n0_ := Aside0.mk (hb); have n1_ := Aside0.mk (ho); clear HB; clear HO_5; have HB := n0_; have HO117 := n1_; clear n0_ n1_; clear ho hb hg hat))
            repeat (go_quiet (first | ((with_reducible refine gate_builtin (b := .append) (xs := #[.tmp 40, .tmp 42]) rfl ?_); at_builtin; refine Kd.R_append (Kd.int .i64) (w0 := w) w.heap.size rfl (.tmp 40) (.tmp 42) 113 3 (.int .i64 0) 8 rfl Tryz.underlying113 info3 rfl (by decide) (by omega) u5 x5_1 x6_1 [.int .i64 x6_1] (fun _ => True) (fun _ => False) rfl rfl ?aP (fun _ hk => hk.elim) ?aF ?aO ?aB ?aS ?aL ?_; (case aP => exact rfl); (case aB => exact (by repeat (first | (with_reducible first | exact HB.out | apply below_alloc | apply pw_below_drewN | apply below_drew1) | exact HB.out))); (case aF => exact (fun _ _ => trivial)); (case aO => exact (by (with_reducible repeat (first | apply Kd.R_alloc | apply Kd.R_drewN | apply Kd.R_drew)); exact HO_5.out)); (case aS => exact (below_size (by repeat (first | (with_reducible first | exact HB.out | apply below_alloc | apply pw_below_drewN | apply below_drew1) | exact HB.out)))); (case aL => have := LMc14.out; omega); intro v116 w15 ho hb hg hat; rw [← Ny115.out] at ho; have n0_ := Aside0.mk (hb); have n1_ := Aside0.mk (ho); clear HB; clear HO_5; have HB := n0_; have HO117 := n1_; clear n0_ n1_; clear ho hb hg hat)); try go_wp2_with (first | ((with_reducible refine gate_builtin (b := .append) (xs := #[.tmp 40, .tmp 42]) rfl ?_); at_builtin; refine Kd.R_append (Kd.int .i64) (w0 := w) w.heap.size rfl (.tmp 40) (.tmp 42) 113 3 (.int .i64 0) 8 rfl Tryz.underlying113 info3 rfl (by decide) (by omega) u5 x5_1 x6_1 [.int .i64 x6_1] (fun _ => True) (fun _ => False) rfl rfl ?aP (fun _ hk => hk.elim) ?aF ?aO ?aB ?aS ?aL ?_; (case aP => exact rfl); (case aB => exact (by repeat (first | (with_reducible first | exact HB.out | apply below_alloc | apply pw_below_drewN | apply below_drew1) | exact HB.out))); (case aF => exact (fun _ _ => trivial)); (case aO => exact (by (with_reducible repeat (first | apply Kd.R_alloc | apply Kd.R_drewN | apply Kd.R_drew)); exact HO_5.out)); (case aS => exact (below_size (by repeat (first | (with_reducible first | exact HB.out | apply below_alloc | apply pw_below_drewN | apply below_drew1) | exact HB.out)))); (case aL => have := LMc14.out; omega); intro v116 w15 ho hb hg hat; rw [← Ny115.out] at ho; have n0_ := Aside0.mk (hb); have n1_ := Aside0.mk (ho); clear HB; clear HO_5; have HB := n0_; have HO117 := n1_; clear n0_ n1_; clear ho hb hg hat)))
            go_roundg kj2
            case measure => have := HK1.out; have := HJ2.out; omega
            case rel => exact ⟨(y115), (wrap64 (x6_1 + 1)), (by first | rfl | (simp; done) | (simp [*]; done)), H', ⟨by have := HK1.out; have := HJ2.out; omega⟩, ⟨by (with_reducible repeat (first | apply Kd.R_alloc | apply Kd.R_drewN | apply Kd.R_drew)); exact HO117.out⟩, ⟨by repeat (first | (with_reducible first | exact HB.out | apply below_alloc | apply pw_below_drewN | apply below_drew1) | exact HB.out)⟩⟩
           ·rw [if_neg c14] at H
            exact absurd H (by simp)
          ·rw [if_neg c13] at H
           have c13b0 : (((rd_T29 l0 x6_1).f2) == (wrap64 (((rd_T29 l0 a1).f2) + 1))) = false := beq_eq_false_iff_ne.mpr c13
           have c13b1 : (((rd_T29 l0 x6_1).f2) != (wrap64 (((rd_T29 l0 a1).f2) + 1))) = true := bne_iff_ne.mpr c13
           have H' := Aside0.mk H
           clear H
           have p113 : 0 ≤ (x6_1 : Int) := of_decide_eq_true (by first | (with_reducible assumption) | assumption)
           have q113 : x6_1 < (l0.length : Int) := of_decide_eq_true (by first | (with_reducible assumption) | assumption)
           obtain ⟨ad113, e113, hx113_0, hx113_1, hx113_2⟩ := at_T29 HR0.out x6_1 p113 q113
           cases e113
           replace hx113_0 := (HB.out.cell (World.block_lt_of_cell? w _ hx113_0)).trans hx113_0
           replace hx113_1 := (HB.out.cell (World.block_lt_of_cell? w _ hx113_1)).trans hx113_1
           replace hx113_2 := (HB.out.cell (World.block_lt_of_cell? w _ hx113_2)).trans hx113_2
           replace p113 := eq_true p113
           replace q113 := eq_true q113
           have p114 : 0 ≤ (a1 : Int) := of_decide_eq_true (by first | (with_reducible assumption) | assumption)
           have q114 : a1 < (l0.length : Int) := of_decide_eq_true (by first | (with_reducible assumption) | assumption)
           obtain ⟨ad114, e114, hx114_0, hx114_1, hx114_2⟩ := at_T29 HR0.out a1 p114 q114
           obtain rfl : ad113 = ad114 := (by injection e114)
           replace hx114_0 := (HB.out.cell (World.block_lt_of_cell? w _ hx114_0)).trans hx114_0
           replace hx114_1 := (HB.out.cell (World.block_lt_of_cell? w _ hx114_1)).trans hx114_1
           replace hx114_2 := (HB.out.cell (World.block_lt_of_cell? w _ hx114_2)).trans hx114_2
           replace p114 := eq_true p114
           replace q114 := eq_true q114
           go_wp2
           repeat (go_quiet (fail); try go_wp2)
           go_roundg kj2
           case measure => have := HK1.out; have := HJ2.out; omega
           case rel => exact ⟨(x5_1), (wrap64 (x6_1 + 1)), (by first | rfl | (simp; done) | (simp [*]; done)), H', ⟨by have := HK1.out; have := HJ2.out; omega⟩, ⟨by (with_reducible repeat (first | apply Kd.R_alloc | apply Kd.R_drewN | apply Kd.R_drew)); exact HO_5.out⟩, ⟨by repeat (first | (with_reducible first | exact HB.out | apply below_alloc | apply pw_below_drewN | apply below_drew1) | exact HB.out)⟩⟩
         ·rw [if_neg c12] at H
          exact absurd H (by simp)
        ·rw [if_neg c11] at H
         exact absurd H (by simp)
       ·rw [if_neg c10] at H
        exact absurd H (by simp)
      ·rw [if_neg c9] at H
       exact absurd H (by simp)
     ·replace c8 := Bool.eq_false_iff.mpr c8
      subst c8
      have H1 : (some x5_1) = some r := by rw [if_neg (show ¬ (false = true) by decide)] at H; exact H
      clear H
      have H := H1
      clear H1
      obtain rfl := Option.some.inj H
      go_wp2
      repeat (go_quiet (fail); try go_wp2)
      go_ret
      exact ⟨_, by first | rfl | (simp [errW_none, errW_some] <;> rfl) | (simp [*, errW_none, errW_some] <;> rfl), by (with_reducible repeat (first | apply Kd.R_alloc | apply Kd.R_drewN | apply Kd.R_drew)); exact HO_5.out, by repeat (first | (with_reducible first | exact HB.out | apply below_alloc | apply pw_below_drewN | apply below_drew1) | exact HB.out)⟩
end Go.Proofs.YtehlmkgldcfciaaGreat.F
-- Written by this repo's wip/tools/myprint.py (the kit's print program, with contracts of our own beside). Lean checks it.
namespace Go.Proofs.YtehlmkgldcfciaaGreat.F
open Go.Proofs.YtehlmkgldcfciaaGreat.Common
open Go.RowKit Go.Proofs.YtehlmkgldcfciaaGreatW.PrintWords Go.Proofs.YtehlmkgldcfciaaGreatW.PrintLast Go.Proofs.YtehlmkgldcfciaaGreatW.PrintMore
set_option linter.unusedVariables false
set_option linter.unusedSimpArgs false
def files_beyond.l0 : Nat → List (S29) → Int → Int → Option (Int)
 | 0, _, _, _ => none
 | k + 1, x0, x1, x5 => if x5 < (x0.length : Int) then (if 0 ≤ x5 then (if 0 ≤ x1 then (if x1 < (x0.length : Int) then (if ((rd_T29 x0 x5).f2) > ((rd_T29 x0 x1).f2) then (files_beyond.l0 k x0 x1 (wrap64 (x5 + 1))) else (some x5)) else (none)) else (none)) else (none)) else (some x5)
def files_beyond.f (k : Nat) (l0 : List (S29)) (a1 : Int) : Option (Int) := files_beyond.l0 k l0 a1 (wrap64 (a1 + 1))
set_option maxHeartbeats 8000000 in
set_option maxRecDepth 100000 in
theorem files_beyond.calls (k : Nat) (A0 : Option Addr) (c0 : Nat) (l0 : List (S29)) (a1 : Int) (r : Int) (w : World) (hr0 : Kd.C k29 w A0 l0.length l0) (hc0 : l0.length ≤ c0) (h : files_beyond.f k l0 a1 = some r) :
  Calls Tryz.prog 70 #[.slice A0 l0.length c0, .int .i64 a1] w fun e w' => e = .returned (.int .i64 r) ∧ Drawn0 w w' := by
 have HR0 := Aside0.mk hr0
 have HC0 := Aside0.mk hc0
 clear hr0 hc0
 have H : (files_beyond.l0 k l0 a1 (wrap64 (a1 + 1))) = some r := h
 clear h
 have H' := Aside0.mk H
 clear H
 go_enter Tryz.func70, Tryz.ntmps70
 go_wp2
 repeat (go_quiet (fail); try go_wp2)
 go_loopg [5] k (fun kq v5 w' => ∃ (x5_1 : Int), v5 = .int .i64 x5_1 ∧ Aside0 (files_beyond.l0 kq l0 a1 x5_1 = some r) ∧ Aside0 (kq ≤ k) ∧ Drawn0 w w')
 case atStart => exact ⟨(wrap64 (a1 + 1)), (by first | rfl | (simp; done) | (simp [*]; done)), H', ⟨Nat.le_refl _⟩, by repeat (first | exact Drawn0.refl _ | apply Drawn0.step)⟩
 case round =>
  clear H'
  try clear p2
  obtain ⟨x5_1, rfl, HA, HK1, ⟨m1, rfl⟩⟩ := hrel
  cases gk with
  | zero => exact absurd HA.out (by simp [files_beyond.l0])
  | succ k1 =>
   have H := HA.out
   clear HA
   simp only [files_beyond.l0] at H
   by_cases c3 : x5_1 < (l0.length : Int)
   ·rw [if_pos c3] at H
    have c3b0 : decide (x5_1 < (l0.length : Int)) = true := decide_eq_true c3
    clear c3
    by_cases c4 : 0 ≤ x5_1
    ·rw [if_pos c4] at H
     have c4b0 : decide (0 ≤ x5_1) = true := decide_eq_true c4
     clear c4
     by_cases c5 : 0 ≤ a1
     ·rw [if_pos c5] at H
      have c5b0 : decide (0 ≤ a1) = true := decide_eq_true c5
      clear c5
      by_cases c6 : a1 < (l0.length : Int)
      ·rw [if_pos c6] at H
       have c6b0 : decide (a1 < (l0.length : Int)) = true := decide_eq_true c6
       clear c6
       by_cases c7 : ((rd_T29 l0 x5_1).f2) > ((rd_T29 l0 a1).f2)
       ·rw [if_pos c7] at H
        have c7b0 : decide (((rd_T29 l0 a1).f2) < ((rd_T29 l0 x5_1).f2)) = true := decide_eq_true c7
        clear c7
        have H' := Aside0.mk H
        clear H
        have p126 : 0 ≤ (x5_1 : Int) := of_decide_eq_true (by first | (with_reducible assumption) | assumption)
        have q126 : x5_1 < (l0.length : Int) := of_decide_eq_true (by first | (with_reducible assumption) | assumption)
        obtain ⟨ad126, e126, hx126_0, hx126_1, hx126_2⟩ := at_T29 HR0.out x5_1 p126 q126
        cases e126
        replace p126 := eq_true p126
        replace q126 := eq_true q126
        have p127 : 0 ≤ (a1 : Int) := of_decide_eq_true (by first | (with_reducible assumption) | assumption)
        have q127 : a1 < (l0.length : Int) := of_decide_eq_true (by first | (with_reducible assumption) | assumption)
        obtain ⟨ad127, e127, hx127_0, hx127_1, hx127_2⟩ := at_T29 HR0.out a1 p127 q127
        obtain rfl : ad126 = ad127 := (by injection e127)
        replace p127 := eq_true p127
        replace q127 := eq_true q127
        go_wp2
        repeat (go_quiet (fail); try go_wp2)
        go_roundg k1
        case measure => have := HK1.out; omega
        case rel => exact ⟨(wrap64 (x5_1 + 1)), (by first | rfl | (simp; done) | (simp [*]; done)), H', ⟨by have := HK1.out; omega⟩, by repeat (first | exact Drawn0.refl _ | apply Drawn0.step)⟩
       ·rw [if_neg c7] at H
        have c7b0 : decide (((rd_T29 l0 a1).f2) < ((rd_T29 l0 x5_1).f2)) = false := decide_eq_false c7
        clear c7
        obtain rfl := Option.some.inj H
        have p126 : 0 ≤ (x5_1 : Int) := of_decide_eq_true (by first | (with_reducible assumption) | assumption)
        have q126 : x5_1 < (l0.length : Int) := of_decide_eq_true (by first | (with_reducible assumption) | assumption)
        obtain ⟨ad126, e126, hx126_0, hx126_1, hx126_2⟩ := at_T29 HR0.out x5_1 p126 q126
        cases e126
        replace p126 := eq_true p126
        replace q126 := eq_true q126
        have p127 : 0 ≤ (a1 : Int) := of_decide_eq_true (by first | (with_reducible assumption) | assumption)
        have q127 : a1 < (l0.length : Int) := of_decide_eq_true (by first | (with_reducible assumption) | assumption)
        obtain ⟨ad127, e127, hx127_0, hx127_1, hx127_2⟩ := at_T29 HR0.out a1 p127 q127
        obtain rfl : ad126 = ad127 := (by injection e127)
        replace p127 := eq_true p127
        replace q127 := eq_true q127
        go_wp2
        repeat (go_quiet (fail); try go_wp2)
        go_ret
        exact ⟨by first | rfl | (simp; done) | (simp [*]; done), by repeat (first | exact Drawn0.refl _ | apply Drawn0.step)⟩
      ·rw [if_neg c6] at H
       exact absurd H (by simp)
     ·rw [if_neg c5] at H
      exact absurd H (by simp)
    ·rw [if_neg c4] at H
     exact absurd H (by simp)
   ·rw [if_neg c3] at H
    have c3b0 : decide (x5_1 < (l0.length : Int)) = false := decide_eq_false c3
    clear c3
    obtain rfl := Option.some.inj H
    go_wp2
    repeat (go_quiet (fail); try go_wp2)
    go_ret
    exact ⟨by first | rfl | (simp; done) | (simp [*]; done), by repeat (first | exact Drawn0.refl _ | apply Drawn0.step)⟩
end Go.Proofs.YtehlmkgldcfciaaGreat.F
/- The file store: units as a tree; the ways to a file, to an opened file and to a unit, and how each may fail. -/
set_option linter.unusedVariables false
set_option linter.unusedSimpArgs false
namespace Go.Proofs.YtehlmkgldcfciaaGreat.Files
open Go.Proofs.YtehlmkgldcfciaaGreat.Common Go.Maps Go.ChangeMaps Go.WideMaps Go.Proofs.YtehlmkgldcfciaaGreat.F
open Go.RowKit Go.Proofs.YtehlmkgldcfciaaGreatW.PrintWords Go.Proofs.YtehlmkgldcfciaaGreatW.PrintLast Go.Proofs.YtehlmkgldcfciaaGreatW.PrintMore
def lv (l : List S29) (i : Nat) : Int := (rd_T29 l (i : Int)).f2
def nm (l : List S29) (i : Nat) : ByteArray := (rd_T29 l (i : Int)).f0
theorem rd_get (l : List S29) (i : Nat) (h : i < l.length) : rd_T29 l (i : Int) = l[i] := by simp [rd_T29, List.getElem?_eq_getElem h]
theorem drop_at (l : List S29) (i : Nat) (h : i < l.length) : l.drop i = rd_T29 l (i : Int) :: l.drop (i + 1) := by rw [List.drop_eq_getElem_cons h, rd_get l i h]
def runLen (lev : Int) : List S29 → Nat
  | [] => 0
  | u :: r => if u.f2 > lev then runLen lev r + 1 else 0
theorem runLen_cons (lev : Int) (u : S29) (r : List S29) : runLen lev (u :: r) = if u.f2 > lev then runLen lev r + 1 else 0 := rfl
theorem runLen_le (lev : Int) : ∀ l, runLen lev l ≤ l.length
  | [] => Nat.le_refl _
  | u :: r => by
    unfold runLen
    have := runLen_le lev r
    split
    · rw [List.length_cons]; omega
    · exact Nat.zero_le _
def endOf (l : List S29) (i : Nat) : Nat := i + 1 + runLen (lv l i) (l.drop (i + 1))
theorem endOf_le {l : List S29} {i : Nat} (h : i < l.length) : i + 1 ≤ endOf l i ∧ endOf l i ≤ l.length := by
  have := runLen_le (lv l i) (l.drop (i + 1))
  rw [List.length_drop] at this
  unfold endOf
  omega
def kidsFrom (lev : Int) : Nat → List S29 → List Int
  | _, [] => []
  | i, u :: r => if u.f2 > lev then (if u.f2 = lev + 1 then (i : Int) :: kidsFrom lev (i + 1) r else kidsFrom lev (i + 1) r) else []
theorem kidsFrom_len (lev : Int) : ∀ i l, (kidsFrom lev i l).length ≤ l.length
  | _, [] => Nat.le_refl _
  | i, u :: r => by
    unfold kidsFrom
    have := kidsFrom_len lev (i + 1) r
    split
    · split <;> simp only [List.length_cons] <;> omega
    · exact Nat.zero_le _
theorem kidsFrom_in (lev : Int) : ∀ i l, ∀ x ∈ kidsFrom lev i l, (i : Int) ≤ x ∧ x < (i + l.length : Nat)
  | _, [] => by simp [kidsFrom]
  | i, u :: r => by
    unfold kidsFrom
    have ih := kidsFrom_in lev (i + 1) r
    intro x hx
    split at hx
    · split at hx
      · rcases List.mem_cons.1 hx with rfl | hx
        · simp only [List.length_cons]; omega
        · have := ih x hx; simp only [List.length_cons]; omega
      · have := ih x hx; simp only [List.length_cons]; omega
    · cases hx
def kids (l : List S29) (i : Nat) : List Int := kidsFrom (lv l i) (i + 1) (l.drop (i + 1))
theorem kids_in {l : List S29} {i : Nat} (h : i < l.length) : ∀ x ∈ kids l i, (0 : Int) ≤ x ∧ x < (l.length : Int) := fun x hx => by
  have := kidsFrom_in _ _ _ x hx
  rw [List.length_drop] at this
  omega
theorem wr (j n : Nat) (h : j < n) (hn : n ≤ 9223372036854775807) : wrap64 ((j : Int) + 1) = ((j + 1 : Nat) : Int) := by unfold wrap64; omega
theorem beyond_l0 (l : List S29) (i : Nat) (hi : i < l.length) (hl : l.length ≤ 9223372036854775807) : ∀ (d j k : Nat), l.length - j = d → j ≤ l.length → d < k → files_beyond.l0 k l (i : Int) (j : Int) = some ((j + runLen (lv l i) (l.drop j) : Nat) : Int)
  | 0, j, k, hd, hj, hk => by
    obtain ⟨k, rfl⟩ : ∃ m, k = m + 1 := ⟨k - 1, by omega⟩
    obtain rfl : j = l.length := by omega
    simp only [files_beyond.l0]
    rw [if_neg (by omega), List.drop_length]
    simp [runLen]
  | d + 1, j, k, hd, hj, hk => by
    obtain ⟨k, rfl⟩ : ∃ m, k = m + 1 := ⟨k - 1, by omega⟩
    have ih := beyond_l0 l i hi hl d (j + 1) k (by omega) (by omega) (by omega)
    simp only [files_beyond.l0]
    rw [if_pos (by omega), if_pos (by omega), if_pos (by omega), if_pos (by omega), drop_at l j (by omega), wr j l.length (by omega) hl, ih]
    rw [runLen_cons]
    show (if (rd_T29 l (j : Int)).f2 > lv l i then _ else _) = _
    by_cases c : (rd_T29 l (j : Int)).f2 > lv l i
    · rw [if_pos c, if_pos c]; congr 1; omega
    · rw [if_neg c, if_neg c]; rfl
theorem beyond_f (l : List S29) (i : Nat) (hi : i < l.length) (hl : l.length ≤ 9223372036854775807) : files_beyond.f (l.length + 1) l (i : Int) = some (endOf l i : Int) := by
  unfold files_beyond.f
  rw [wr i l.length hi hl, beyond_l0 l i hi hl _ (i + 1) _ rfl (by omega) (by omega)]
  all_goals rfl
theorem children_l0 (l : List S29) (i : Nat) (hi : i < l.length) (hl : l.length ≤ 1000000000) (hv : wrap64 (lv l i + 1) = lv l i + 1) : ∀ (d j k : Nat) (acc : List Int), l.length - j = d → j ≤ l.length → 2 * d + 1 < k → acc.length ≤ j → files_children.l0 k l (i : Int) acc (j : Int) = some (acc ++ kidsFrom (lv l i) j (l.drop j))
  | 0, j, k, acc, hd, hj, hk, ha => by
    obtain ⟨k, rfl⟩ : ∃ m, k = m + 2 := ⟨k - 2, by omega⟩
    obtain rfl : j = l.length := by omega
    simp only [files_children.l0, files_children.j1]
    rw [if_neg (by omega), if_neg (by simp), List.drop_length]
    simp [kidsFrom]
  | d + 1, j, k, acc, hd, hj, hk, ha => by
    obtain ⟨k, rfl⟩ : ∃ m, k = m + 2 := ⟨k - 2, by omega⟩
    have ih := fun acc h => children_l0 l i hi hl hv d (j + 1) k acc (by omega) (by omega) (by omega) h
    simp only [files_children.l0, files_children.j1]
    rw [if_pos (by omega), if_pos (by omega), if_pos (by omega), if_pos (by omega), drop_at l j (by omega)]
    unfold kidsFrom
    show (if decide ((rd_T29 l (j : Int)).f2 > lv l i) = true then _ else _) = _
    by_cases c : (rd_T29 l (j : Int)).f2 > lv l i
    · rw [if_pos (by simp [c]), if_pos (by omega), if_pos (by omega), if_pos (by omega), if_pos (by omega), wr j l.length (by omega) (by omega), if_pos c]
      show (if (rd_T29 l (j : Int)).f2 = wrap64 (lv l i + 1) then _ else _) = _
      rw [hv]
      by_cases c2 : (rd_T29 l (j : Int)).f2 = lv l i + 1
      · rw [if_pos c2, if_pos c2, if_pos (by omega), ih _ (by simp; omega), List.append_assoc]; rfl
      · rw [if_neg c2, if_neg c2, ih _ (by omega)]
    · rw [if_neg (by simp [c]), if_neg c]; simp
theorem children_f (l : List S29) (i : Nat) (hi : i < l.length) (hl : l.length ≤ 1000000000) (hv : wrap64 (lv l i + 1) = lv l i + 1) : files_children.f (2 * l.length + 2) l (i : Int) = some (kids l i) := by
  unfold files_children.f
  rw [wr i l.length hi (by omega), children_l0 l i hi hl hv _ (i + 1) _ [] rfl (by omega) (by omega) (by simp)]
  all_goals rfl
theorem beyond_c (A : Option Addr) (c i : Nat) (l : List S29) (W : World) (hr : Kd.C k29 W A l.length l) (hc : l.length ≤ c) (hi : i < l.length) :
    Calls Tryz.prog 70 #[.slice A l.length c, .int .i64 (i : Int)] W fun e w' => e = .returned (.int .i64 (endOf l i : Int)) ∧ Drawn0 W w' :=
  files_beyond.calls _ A c l (i : Int) _ W hr hc (beyond_f l i hi hr.2.1)
theorem children_c (A : Option Addr) (c i : Nat) (l : List S29) (W : World) (hr : Kd.C k29 W A l.length l) (hc : l.length ≤ c) (hi : i < l.length) (hl : l.length ≤ 1000000000) (hv : wrap64 (lv l i + 1) = lv l i + 1) :
    Calls Tryz.prog 64 #[.slice A l.length c, .int .i64 (i : Int)] W fun e w' => ∃ v : Value, e = .returned v ∧ Kd.R (Kd.int .i64) 3 w' W.heap.size (fun _ => True) v (kids l i) ∧ Below W.heap.size W w' :=
  files_children.calls _ A c l (i : Int) _ W hr hc (children_f l i hi hl hv)
def FoundErr (W : World) (sp : Value) (u n : ByteArray) (E : Int) : Prop := E ≠ 0 ∧ ∀ W', Below W.heap.size W W' → Calls Tryz.prog 58 #[sp, .string u, .string n] W' fun e w' => e = .returned (.tuple #[.pointer none, .int .i64 E]) ∧ W' = w'
def FoundOk (W : World) (sp : Value) (u n : ByteArray) (fb : Nat) : Prop := ∀ W', Below W.heap.size W W' → Calls Tryz.prog 58 #[sp, .string u, .string n] W' fun e w' => e = .returned (.tuple #[.pointer (some ⟨fb, 0, none⟩), .int .i64 0]) ∧ W' = w'
def OpenedErr (W : World) (sp : Value) (u n : ByteArray) (action E : Int) : Prop := E ≠ 0 ∧ ∀ W', Below W.heap.size W W' → Calls Tryz.prog 63 #[sp, .string u, .string n, .int .i64 action] W' fun e w' => e = .returned (.tuple #[.pointer none, .int .i64 E, .int .i64 E]) ∧ Below W'.heap.size W' w'
def OpenedOk (W : World) (sp : Value) (u n : ByteArray) (action : Int) (fb : Nat) (dn : Int) : Prop := ∀ W', Below W.heap.size W W' → Calls Tryz.prog 63 #[sp, .string u, .string n, .int .i64 action] W' fun e w' => e = .returned (.tuple #[.pointer (some ⟨fb, 0, none⟩), .int .i64 0, .int .i64 dn]) ∧ Below W'.heap.size W' w'
def UnitErr (W : World) (sp : Value) (u n : ByteArray) (at_ action E : Int) : Prop := E ≠ 0 ∧ ∀ W', Below W.heap.size W W' → Calls Tryz.prog 69 #[sp, .string u, .string n, .int .i64 at_, .int .i64 action] W' fun e w' => ∃ dn : Int, e = .returned (.tuple #[.pointer none, .int .i64 E, .int .i64 dn]) ∧ Below W'.heap.size W' w'
def UnitOk (W : World) (sp : Value) (u n : ByteArray) (at_ action : Int) (fb : Nat) (dn : Int) : Prop := ∀ W', Below W.heap.size W W' → Calls Tryz.prog 69 #[sp, .string u, .string n, .int .i64 at_, .int .i64 action] W' fun e w' => e = .returned (.tuple #[.pointer (some ⟨fb, 0, none⟩), .int .i64 0, .int .i64 dn]) ∧ Below W'.heap.size W' w'
def userB (u : ByteArray) : Bool := decide (1 ≤ u.size) && decide (u.size ≤ 20)
def nameB (u : ByteArray) : Bool := decide (1 ≤ u.size) && decide (u.size ≤ 30)
theorem found_user (sb mb : Nat) (u n : ByteArray) (W : World) (c0 : W.cell? ⟨sb, 0, none⟩ = some (.map (some mb))) (hu : userB u = false) :
    Calls Tryz.prog 58 #[.pointer (some ⟨sb, 0, none⟩), .string u, .string n] W fun e w' => e = .returned (.tuple #[.pointer none, .int .i64 1]) ∧ W = w' := by
  have HN := Aside0.mk (no_live sb mb W c0)
  have CU := Aside0.mk (user_c u W)
  rw [show (decide (1 ≤ u.size) && decide (u.size ≤ 20)) = false from hu] at CU
  clear c0 hu
  go_enter Tryz.func58, Tryz.ntmps58
  go_wp2_with first | (go_at_call 44; refine HN.out.mono ?_; rintro e w' ⟨rfl, rfl⟩) | (go_at_call 53; refine CU.out.mono ?_; rintro e w' ⟨rfl, rfl⟩)
  refine bodyPost_ret (v := .tuple #[.pointer none, .int .i64 1]) (by simp [results, Tryz.f58, go_sem]) rfl ?_
  exact ⟨rfl, rfl⟩
theorem found_name (sb mb : Nat) (u n : ByteArray) (W : World) (c0 : W.cell? ⟨sb, 0, none⟩ = some (.map (some mb))) (hu : userB u = true) (hn : nameB n = false) :
    Calls Tryz.prog 58 #[.pointer (some ⟨sb, 0, none⟩), .string u, .string n] W fun e w' => e = .returned (.tuple #[.pointer none, .int .i64 1]) ∧ W = w' := by
  have HN := Aside0.mk (no_live sb mb W c0)
  have CU := Aside0.mk (user_c u W)
  rw [show (decide (1 ≤ u.size) && decide (u.size ≤ 20)) = true from hu] at CU
  have CM := Aside0.mk (name_c n W)
  rw [show (decide (1 ≤ n.size) && decide (n.size ≤ 30)) = false from hn] at CM
  clear c0 hu hn
  go_enter Tryz.func58, Tryz.ntmps58
  go_wp2_with first | (go_at_call 44; refine HN.out.mono ?_; rintro e w' ⟨rfl, rfl⟩) | (go_at_call 53; refine CU.out.mono ?_; rintro e w' ⟨rfl, rfl⟩) | (go_at_call 54; refine CM.out.mono ?_; rintro e w' ⟨rfl, rfl⟩)
  refine bodyPost_ret (v := .tuple #[.pointer none, .int .i64 1]) (by simp [results, Tryz.f58, go_sem]) rfl ?_
  exact ⟨rfl, rfl⟩
theorem B_user {u : ByteArray} (h : 1 ≤ u.size ∧ u.size ≤ 20) : (decide (1 ≤ u.size) && decide (u.size ≤ 20)) = true := by simp [h.1, h.2]
theorem B_name {u : ByteArray} (h : 1 ≤ u.size ∧ u.size ≤ 30) : (decide (1 ≤ u.size) && decide (u.size ≤ 30)) = true := by simp [h.1, h.2]
theorem found_none (sb mb : Nat) (D : DataW Unit) (u n : ByteArray) (W : World) (V : View W sb mb D u n) (hD : D.atKey (.string n.data.toList) .nil = .nil) :
    Calls Tryz.prog 58 #[.pointer (some ⟨sb, 0, none⟩), .string u, .string n] W fun e w' => e = .returned (.tuple #[.pointer none, .int .i64 3]) ∧ W = w' := by
  have hkey := key_of V.hn.2
  obtain ⟨v, ps, hrun, hv⟩ := V.M.lookup law9 Tryz.underlying41 (zeroP _) (zd := .nil) (zp := []) rfl hkey
  rw [hD] at hv
  obtain rfl := Rp_nil hv
  have c0 := V.c0
  have HN := Aside0.mk (no_live sb mb W c0)
  have CU := Aside0.mk (user_c u W)
  have CN := Aside0.mk (name_c n W)
  rw [B_user V.hu] at CU
  rw [B_name V.hn] at CN
  clear hv V hD
  go_enter Tryz.func58, Tryz.ntmps58
  go_wp2_with first | (go_at_call 44; refine HN.out.mono ?_; rintro e w' ⟨rfl, rfl⟩) | (go_at_call 53; refine CU.out.mono ?_; rintro e w' ⟨rfl, rfl⟩) | (go_at_call 54; refine CN.out.mono ?_; rintro e w' ⟨rfl, rfl⟩)
  refine bodyPost_ret (v := .tuple #[.pointer none, .int .i64 3]) (by simp [results, Tryz.f58, go_sem]) rfl ?_
  exact ⟨rfl, rfl⟩
theorem View.found {sb mb fb : Nat} {D : DataW Unit} {u n : ByteArray} {W : World} (V : View W sb mb D u n) (hD : D.atKey (.string n.data.toList) .nil = .lit (.int .i64 (fb : Nat))) : FoundOk W (.pointer (some ⟨sb, 0, none⟩)) u n fb :=
  fun W' hb => have V' := V.below hb; found_c sb mb _ fb D u n W' V'.c0 V'.M V'.hu V'.hn hD
theorem opened_err (sp : Value) (u n : ByteArray) (action E : Int) (W : World) (HF : FoundErr W sp u n E) : OpenedErr W sp u n action E := by
  obtain ⟨hE, hf⟩ := HF
  refine ⟨hE, fun W' hb => ?_⟩
  have CF := Aside0.mk (hf W' hb)
  have hE' : (E == 0) = false := by simpa using hE
  have hE2 : (E != 0) = true := by simpa using hE
  clear hf hE hb
  go_enter Tryz.func63, Tryz.ntmps63
  go_wp2_with first | (go_at_call 58; refine CF.out.mono ?_; rintro e w' ⟨rfl, rfl⟩)
  go_ret3
  exact ⟨rfl, Below.refl _ _⟩
theorem opened_not (sp : Value) (u n : ByteArray) (action : Int) (W : World) (ok : Nat → Prop) (fb rc ub : Nat) (f : AF) (A : Option Addr) (uv : Value) (DU : DataW Unit) (HF : FoundOk W sp u n fb) (P : FileParts W ok fb f A rc uv ub DU) (hu : u.size ≤ 30) (hl : lookU f.users u = none) : OpenedErr W sp u n action 8 := by
  refine ⟨by decide, fun W' hb => ?_⟩
  have P' := P.below hb
  have hkey := key_of hu
  obtain ⟨v, ps, hrun, hv⟩ := P'.U.look_ok law9 Tryz.underlying88 (zeroO _) (zd := .agg [.lit (.int .i64 0), .lit (.int .i64 0)]) (zp := []) rfl hkey
  have hh : Maps.has DU (.string u.data.toList) = false := by rw [P'.mU.has, look_users, hl]; rfl
  rw [atKey_of_not_has hh] at hv
  obtain rfl := Ro_at hv
  rw [hh] at hrun
  have c9 : W'.cell? ⟨fb, 9, none⟩ = some (.map (some ub)) := (blk_cell P'.F 9).trans rfl
  have CF := Aside0.mk (HF W' hb)
  clear HF P P' hb hh hv hl
  go_enter Tryz.func63, Tryz.ntmps63
  go_wp2_with first | (go_at_call 58; refine CF.out.mono ?_; rintro e w' ⟨rfl, rfl⟩)
  go_ret3
  exact ⟨rfl, (Below.refl _ _).alloc (Nat.le_refl _) _⟩
def denied (a action : Int) : Int := if bits .and .i64 a action = 0 then 12 else 0
theorem opened_ok (sp : Value) (u n : ByteArray) (action : Int) (W : World) (ok : Nat → Prop) (fb rc ub : Nat) (f : AF) (A : Option Addr) (uv : Value) (DU : DataW Unit) (a b : Int) (HF : FoundOk W sp u n fb) (P : FileParts W ok fb f A rc uv ub DU) (hu : u.size ≤ 30) (hl : lookU f.users u = some (a, b)) : OpenedOk W sp u n action fb (denied a action) := by
  intro W' hb
  have P' := P.below hb
  have hkey := key_of hu
  obtain ⟨v, ps, hrun, hv⟩ := P'.U.look_ok law9 Tryz.underlying88 (zeroO _) (zd := .agg [.lit (.int .i64 0), .lit (.int .i64 0)]) (zp := []) rfl hkey
  have hh : Maps.has DU (.string u.data.toList) = true := by rw [P'.mU.has, look_users, hl]; rfl
  have hat : DU.atKey (.string u.data.toList) (.agg [.lit (.int .i64 0), .lit (.int .i64 0)]) = .agg [.lit (.int .i64 a), .lit (.int .i64 b)] := by rw [P'.mU.at_, look_users, hl]; rfl
  rw [hat] at hv
  obtain rfl := Ro_at hv
  rw [hh] at hrun
  have c9 : W'.cell? ⟨fb, 9, none⟩ = some (.map (some ub)) := (blk_cell P'.F 9).trans rfl
  have CF := Aside0.mk (HF W' hb)
  clear HF P P' hb hh hv hl hat
  unfold denied
  by_cases h0 : bits .and .i64 a action = 0
  · have h0' : (bits .and .i64 a action == 0) = true := by simpa using h0
    rw [if_pos h0]
    clear h0
    go_enter Tryz.func63, Tryz.ntmps63
    go_wp2_with first | (go_at_call 58; refine CF.out.mono ?_; rintro e w' ⟨rfl, rfl⟩)
    go_ret3
    exact ⟨rfl, (Below.refl _ _).alloc (Nat.le_refl _) _⟩
  · have h0' : (bits .and .i64 a action == 0) = false := by simpa using h0
    rw [if_neg h0]
    clear h0
    go_enter Tryz.func63, Tryz.ntmps63
    go_wp2_with first | (go_at_call 58; refine CF.out.mono ?_; rintro e w' ⟨rfl, rfl⟩)
    go_ret3
    exact ⟨rfl, (Below.refl _ _).alloc (Nat.le_refl _) _⟩
theorem unit_neg (sp : Value) (u n : ByteArray) (at_ action : Int) (W : World) (h : at_ < 0) : UnitErr W sp u n at_ action 1 := by
  refine ⟨by decide, fun W' hb => ?_⟩
  have h0 : decide (at_ < 0) = true := decide_eq_true h
  clear hb h
  go_enter Tryz.func69, Tryz.ntmps69
  go_wp2
  go_ret3
  exact ⟨_, rfl, Below.refl _ _⟩
theorem unit_err (sp : Value) (u n : ByteArray) (at_ action E : Int) (W : World) (h : 0 ≤ at_) (HO : OpenedErr W sp u n action E) : UnitErr W sp u n at_ action E := by
  obtain ⟨hE, ho⟩ := HO
  refine ⟨hE, fun W' hb => ?_⟩
  have h0 : decide (at_ < 0) = false := decide_eq_false (by omega)
  have hE' : (E == 0) = false := by simpa using hE
  have CO := Aside0.mk (ho W' hb)
  clear hb h ho hE
  go_enter Tryz.func69, Tryz.ntmps69
  go_wp2_with first | (go_at_call 63; refine CO.out.mono ?_; rintro e w2 ⟨rfl, hb2⟩)
  go_ret3
  exact ⟨_, rfl, hb2⟩
theorem unit_none (sp : Value) (u n : ByteArray) (at_ action dn : Int) (W : World) (ok : Nat → Prop) (fb rc ub : Nat) (f : AF) (A : Option Addr) (uv : Value) (DU : DataW Unit) (HO : OpenedOk W sp u n action fb dn) (P : FileParts W ok fb f A rc uv ub DU) (h : (f.units.length : Int) ≤ at_) : UnitErr W sp u n at_ action 3 := by
  refine ⟨by decide, fun W' hb => ?_⟩
  have P' := P.below hb
  obtain ⟨Au, cu, huv⟩ := Kd.R_slice P'.units
  have hlt := blk_lt P'.F
  have c8 : W'.cell? ⟨fb, 8, none⟩ = some (.slice Au f.units.length cu) := (blk_cell P'.F 8).trans (by rw [huv]; rfl)
  have h0 : decide (at_ < 0) = false := decide_eq_false (by omega)
  have h1 : decide ((f.units.length : Int) ≤ at_) = true := decide_eq_true h
  have CO := Aside0.mk (HO W' hb)
  clear hb h HO P P' huv
  go_enter Tryz.func69, Tryz.ntmps69
  go_wp2_with first | (go_at_call 63; refine CO.out.mono ?_; rintro e w2 ⟨rfl, hb2⟩; have d8 := (hb2.cell (p := ⟨fb, 8, none⟩) hlt).trans c8)
  go_ret3
  exact ⟨_, rfl, hb2⟩
theorem unit_ok (sp : Value) (u n : ByteArray) (at_ action dn : Int) (W : World) (ok : Nat → Prop) (fb rc ub : Nat) (f : AF) (A : Option Addr) (uv : Value) (DU : DataW Unit) (HO : OpenedOk W sp u n action fb dn) (P : FileParts W ok fb f A rc uv ub DU) (h0 : 0 ≤ at_) (h : at_ < (f.units.length : Int)) : UnitOk W sp u n at_ action fb dn := by
  intro W' hb
  have P' := P.below hb
  obtain ⟨Au, cu, huv⟩ := Kd.R_slice P'.units
  have hlt := blk_lt P'.F
  have c8 : W'.cell? ⟨fb, 8, none⟩ = some (.slice Au f.units.length cu) := (blk_cell P'.F 8).trans (by rw [huv]; rfl)
  have h0' : decide (at_ < 0) = false := decide_eq_false (by omega)
  have h1 : decide ((f.units.length : Int) ≤ at_) = false := decide_eq_false (by omega)
  have CO := Aside0.mk (HO W' hb)
  clear hb h h0 HO P P' huv
  go_enter Tryz.func69, Tryz.ntmps69
  go_wp2_with first | (go_at_call 63; refine CO.out.mono ?_; rintro e w2 ⟨rfl, hb2⟩; have d8 := (hb2.cell (p := ⟨fb, 8, none⟩) hlt).trans c8)
  go_ret3
  exact ⟨rfl, hb2⟩
end Go.Proofs.YtehlmkgldcfciaaGreat.Files
-- Written by this repo's wip/tools/myprint.py (the kit's print program, with contracts of our own beside). Lean checks it.
namespace Go.Proofs.YtehlmkgldcfciaaGreat.F
open Go.Proofs.YtehlmkgldcfciaaGreat.Common
open Go.RowKit Go.Proofs.YtehlmkgldcfciaaGreatW.PrintWords Go.Proofs.YtehlmkgldcfciaaGreatW.PrintLast Go.Proofs.YtehlmkgldcfciaaGreatW.PrintMore
set_option linter.unusedVariables false
set_option linter.unusedSimpArgs false
set_option maxHeartbeats 1000000 in
theorem files_Unit_50.raw (A0 : Option Addr) (c0 n0 : Nat) (css : List (List Value)) (w : World) (hr0 : Kd.C (Kd.raw 3) w A0 n0 css) (hl : n0 * 40 ≤ 140737488355328) :
    Calls Tryz.prog 50 #[.slice A0 n0 c0] w fun e w' => ∃ v : Value, e = .returned v ∧ Kd.R (Kd.raw 3) 29 w' w.heap.size (fun _ => True) v css ∧ Below w.heap.size w w' := by
  have HL := Aside0.mk hl
  cases A0 with
  | none =>
    have h0 : n0 = 0 := by
      rcases Nat.eq_zero_or_pos n0 with h | h
      · exact h
      · obtain ⟨ad, h2, _⟩ := hr0.2.2 h
        cases h2
    subst h0
    obtain rfl : css = [] := List.eq_nil_of_length_eq_zero hr0.1
    clear hr0 hl
    have hn : ∀ W : World, (binOp .eql 52 (.slice none 0 c0) (.slice none 0 0)).run Tryz.prog W = .ok (.bool true) W := fun W => Lib.run_eql_slice_nil W 52 29 none 0 c0 0 0 Tryz.underlying52
    go_enter Tryz.func50, Tryz.ntmps50
    go_wp2
    go_ret
    exact ⟨_, rfl, Kd.R_nil _ _ _ _ _, Below.refl _ _⟩
  | some ad =>
    have HR := Aside0.mk hr0
    clear hr0 hl
    have hn : ∀ W : World, (binOp .eql 52 (.slice (some ad) n0 c0) (.slice none 0 0)).run Tryz.prog W = .ok (.bool false) W := fun W => Lib.run_eql_slice_nil W 52 29 (some ad) n0 c0 0 0 Tryz.underlying52
    go_enter Tryz.func50, Tryz.ntmps50
    go_wp2_with (first | ((with_reducible refine gate_dst (N := 5) rfl ?_); refine Kd.R_lit (Kd.raw 3) w.heap.size 29 ?hg (N := 5) ?hd (xs := ([] : List (List Value))) (inner := []) (ok := fun _ => True) (okp := fun _ => True) ?hr ?hp (fun _ hk => hk) trivial (Below.refl _ _) (Nat.le_refl _) (by simp) ?_; (case hd => rfl); (case hg => rfl); (case hr => first | (go_simp; done) | (go_simp; rfl)); (case hp => exact (Reps.none _ _)); intro v1 w1 ho hb _ _; have HO := Aside0.mk ho; have HB := Aside0.mk hb; clear ho hb) | ((with_reducible refine gate_builtin (b := .append) (xs := #[.tmp 5, .tmp 6]) rfl ?_); at_builtin; refine Kd.R_append_rows (Kd.raw 3) (Rr := (Kd.raw 3).K w) (w0 := w) w.heap.size rfl (.tmp 5) (.tmp 6) 52 29 (.agg #[(.string ⟨#[]⟩), (.string ⟨#[]⟩), (.int .i64 0)]) 40 rfl Tryz.underlying52 info29 rfl (by decide) (by omega) v1 [] css _ _ _ (fun _ => True) (fun _ => False) rfl rfl HO.out (Kd.C_below HR.out HB.out) (fun _ _ h => h) (fun _ h => h.elim) (fun _ _ => trivial) HB.out HB.out.size (by have := HL.out; simp only [List.length_nil]; omega) ?_; intro v2 w2 ho hb _ _; have HO2 := Aside0.mk ho; have HB2 := Aside0.mk hb; clear ho hb))
    go_ret
    exact ⟨v2, rfl, HO2.out, HB2.out⟩
end Go.Proofs.YtehlmkgldcfciaaGreat.F
/- The file store: Read. -/
set_option linter.unusedVariables false
set_option linter.unusedSimpArgs false
namespace Go.Proofs.YtehlmkgldcfciaaGreat.Files
open Go.Proofs.YtehlmkgldcfciaaGreat.Common Go.Maps Go.ChangeMaps Go.WideMaps Go.Proofs.YtehlmkgldcfciaaGreat.F
open Go.RowKit Go.Proofs.YtehlmkgldcfciaaGreatW.PrintWords Go.Proofs.YtehlmkgldcfciaaGreatW.PrintLast Go.Proofs.YtehlmkgldcfciaaGreatW.PrintMore
theorem R_of_uRow' {W : World} {base : Nat} {ok : Nat → Prop} {v : Value} {l : List S29} (h : W.ownsRow base 29 3 v l.length (uRow l)) (h0 : ∀ k, v.ownBlock = some k → ok k) : Kd.R k29 29 W base ok v l := by
  refine ⟨h0, uRow l, h, h.1, fun j x hj => ?_⟩
  have e : ((uRow l).drop (j * 3)).take 3 = uCells x := flat_at (css := l.map uCells) (fun c hc => by obtain ⟨y, _, rfl⟩ := List.mem_map.1 hc; rfl) (by rw [List.getElem?_map, hj]; rfl)
  show k29.M W base _ x (((uRow l).drop (j * 3)).take 3)
  rw [e]
  exact k29_mkM _ _ _ x
theorem uRow_set : ∀ (l : List S29) (i j : Nat) (x' : S29) (u : Value), i < l.length → j < 3 → (uCells (rd_T29 l (i : Int))).set j u = uCells x' → uRow (l.set i x') = (uRow l).set (i * 3 + j) u
  | [], i, j, x', u, h, _, _ => by simp at h
  | x :: r, 0, j, x', u, h, hj, hc => by
    have hc' : (uCells x).set j u = uCells x' := hc
    show uCells x' ++ uRow r = (uCells x ++ uRow r).set (0 * 3 + j) u
    rw [Nat.zero_mul, Nat.zero_add, List.set_append_left _ _ (by exact hj), hc']
  | x :: r, i + 1, j, x', u, h, hj, hc => by
    have e : rd_T29 (x :: r) ((i + 1 : Nat) : Int) = rd_T29 r (i : Int) := by simp [rd_T29]
    rw [e] at hc
    have ih := uRow_set r i j x' u (by simpa using h) hj hc
    show uCells x ++ uRow (r.set i x') = (uCells x ++ uRow r).set ((i + 1) * 3 + j) u
    rw [ih, List.set_append_right _ _ (by show 3 ≤ _; omega)]
    congr 1
    show _ = (uRow r).set ((i + 1) * 3 + j - 3) u
    rw [show (i + 1) * 3 + j - 3 = i * 3 + j by omega]
theorem units_set {W : World} {base g n cap : Nat} {ok : Nat → Prop} {l : List S29} (h : Kd.R k29 29 W base ok (.slice (some ⟨g, 0, none⟩) n cap) l) (i j : Nat) (x' : S29) (u : Value) (hi : i < l.length) (hj : j < 3) (hc : (uCells (rd_T29 l (i : Int))).set j u = uCells x') :
    Kd.R k29 29 (W.setCell ⟨g, i * 3 + j, none⟩ u) base ok (.slice (some ⟨g, 0, none⟩) n cap) (l.set i x') ∧ W.grownBy (W.setCell ⟨g, i * 3 + j, none⟩ u) (some g) := by
  have h0 := h.1
  have ho := uRow_of_R h
  obtain ⟨hn, _⟩ := Kd.R_reads' h
  subst hn
  obtain ⟨h1, h2⟩ := ho.stored (i * 3 + j) u
  refine ⟨R_of_uRow' ?_ h0, h2⟩
  rw [List.length_set, uRow_set l i j x' u hi hj hc]
  exact h1
theorem units_slice {W : World} {base : Nat} {ok : Nat → Prop} {v : Value} {l : List S29} (h : Kd.R k29 29 W base ok v l) (hn : 0 < l.length) : ∃ g c, v = .slice (some ⟨g, 0, none⟩) l.length c ∧ l.length ≤ c ∧ c ≤ 9223372036854775807 := by
  rcases (uRow_of_R h).2 with ⟨_, h0⟩ | ⟨g, cap, cur, hv, _, _, hnc, hcm, _⟩
  · omega
  · exact ⟨g, cap, hv, hnc, hcm⟩
theorem units_sub {W : World} {g i j : Nat} {l : List S29} (h : Kd.C k29 W (some ⟨g, 0, none⟩) l.length l) (hij : i ≤ j) (hj : j ≤ l.length) : Kd.C (Kd.raw 3) W (some ⟨g, i * 3, none⟩) (j - i) (((l.take j).drop i).map uCells) := by
  have hlen : (((l.take j).drop i).map uCells).length = j - i := by simp [Nat.min_eq_left hj]
  refine ⟨hlen, by have := h.2.1; omega, fun hpos => ⟨_, rfl, fun q c hq => ?_⟩⟩
  obtain ⟨ad, he, hc⟩ := h.2.2 (by omega)
  cases he
  rw [List.getElem?_map] at hq
  obtain ⟨x, hx, rfl⟩ := Option.map_eq_some_iff.1 hq
  have hx' : l[i + q]? = some x := by
    rw [List.getElem?_drop, List.getElem?_take] at hx
    split at hx
    · exact hx
    · cases hx
  obtain ⟨c, hcl, hk, hu⟩ := hc (i + q) x hx'
  obtain rfl := k29_open hk
  refine ⟨_, rfl, ⟨rfl, rfl, fun u hu' => Kd.K_one k29 (k29_mk W x) u hu'⟩, fun t u ht => ?_⟩
  have := hu t u ht
  rw [add_plain] at this
  rw [Addr.add_lit]
  rw [show i * 3 + (q * (Kd.raw 3).sz + t) = (i + q) * k29.sz + t by show i * 3 + (q * 3 + t) = (i + q) * 3 + t; omega]
  exact this
theorem units_of_raw {W : World} {base : Nat} {ok : Nat → Prop} {v : Value} {l : List S29} (h : (Kd.raw 3).R 29 W base ok v (l.map uCells)) : Kd.R k29 29 W base ok v l := by
  obtain ⟨h0, ho, _⟩ := raw_flat h
  rw [List.length_map] at ho
  exact R_of_uRow' ho h0
theorem blk_map_ne {W : World} {fb b k n t : Nat} {cs : Array Value} {R : Value → Option (DataW Unit × List MemPlace)} {D : DataW Unit} (h : W.heap[fb]? = some (.cells cs t (0, 0))) (ho : W.ownsMap Tryz.prog k R b n D) : b ≠ fb := by
  rintro rfl
  obtain ⟨es, clock, hb, _⟩ := ho
  rw [h] at hb
  cases hb
theorem FileParts.set {W : World} {ok : Nat → Prop} {fb rc ub : Nat} {f : AF} {A : Option Addr} {uv : Value} {DU : DataW Unit} (h : FileParts W ok fb f A rc uv ub DU) (i : Nat) (v : Value) {F' : FS} (hc : (f.F.cells (.slice A f.rules.length rc) uv ub).setIfInBounds i v = F'.cells (.slice A f.rules.length rc) uv ub) :
    FileParts (W.setCell ⟨fb, i, none⟩ v) ok fb { f with F := F' } A rc uv ub DU :=
  ⟨h.okb, file_set h.F i v hc, Kd.R_set h.rules h.F (by decide) i v, Kd.R_set h.units h.F (by decide) i v, h.oku, h.U.setCell (a := ⟨fb, i, none⟩) (blk_map_ne h.F h.U) v, h.mU⟩
theorem FileParts.bound {W : World} {ok : Nat → Prop} {fb rc ub : Nat} {f : AF} {A : Option Addr} {uv : Value} {DU : DataW Unit} (h : FileParts W ok fb f A rc uv ub DU) : FileParts W (fun k => ok k ∧ k < W.heap.size) fb f A rc uv ub DU :=
  ⟨⟨h.okb, blk_lt h.F⟩, h.F, Kd.R_mono (Kd.R_bound h.rules) (fun k hk => ⟨hk.1, hk.2.2.1⟩), Kd.R_mono (Kd.R_bound h.units) (fun k hk => ⟨hk.1, hk.2.2.1⟩), ⟨h.oku, h.U.lt⟩, h.U, h.mU⟩
theorem FileParts.far {W1 w' : World} {ok : Nat → Prop} {B fb rc ub : Nat} {f : AF} {A : Option Addr} {uv : Value} {DU : DataW Unit} (h : FileParts W1 (fun k => ok k ∧ k < B) fb f A rc uv ub DU) (hb : Below B W1 w') : FileParts w' ok fb f A rc uv ub DU :=
  (h.step (S := fun k => B ≤ k) ⟨hb.os, hb.tape, hb.output, hb.size, fun k _ hs => hb.block k (by omega)⟩ (fun k hk => by omega)).mono (fun k hk => hk.1)
def lower (b : Int) (x : S29) : S29 := ⟨x.f0, x.f1, wrap64 (x.f2 - b)⟩
def readL (l : List S29) (i : Nat) (whole : Bool) : List S29 := ((l.take (if whole then endOf l i else i + 1)).drop i).map (lower (lv l i))
theorem Read_err (sp : Value) (u n : ByteArray) (at_ E : Int) (whole : Bool) (W : World) (HU : UnitErr W sp u n at_ 1 E) :
    Calls Tryz.prog 26 #[sp, .string u, .string n, .int .i64 at_, .bool whole] W fun e w' => e = .returned (.tuple #[.slice none 0 0, .int .i64 E]) ∧ Below W.heap.size W w' := by
  obtain ⟨hE, hu⟩ := HU
  have hE' : (E == 0) = false := by simpa using hE
  have CU := Aside0.mk (hu W (Below.refl _ _))
  clear hu hE
  go_enter Tryz.func26, Tryz.ntmps26
  go_wp2_with first | (go_at_call 69; refine CU.out.mono ?_; rintro e w2 ⟨dn, rfl, hb2⟩)
  refine bodyPost_ret (v := .tuple #[.slice none 0 0, .int .i64 E]) (by simp [results, Tryz.f26, go_sem]) rfl ?_
  exact ⟨rfl, hb2⟩
theorem Read_denied (sp : Value) (u n : ByteArray) (at_ : Int) (fb : Nat) (whole : Bool) (W : World) (HU : UnitOk W sp u n at_ 1 fb 12) :
    Calls Tryz.prog 26 #[sp, .string u, .string n, .int .i64 at_, .bool whole] W fun e w' => e = .returned (.tuple #[.slice none 0 0, .int .i64 12]) ∧ Below W.heap.size W w' := by
  have CU := Aside0.mk (HU W (Below.refl _ _))
  clear HU
  go_enter Tryz.func26, Tryz.ntmps26
  go_wp2_with first | (go_at_call 69; refine CU.out.mono ?_; rintro e w2 ⟨rfl, hb2⟩)
  refine bodyPost_ret (v := .tuple #[.slice none 0 0, .int .i64 12]) (by simp [results, Tryz.f26, go_sem]) rfl ?_
  exact ⟨rfl, hb2⟩
def adj (S : List S29) (b : Int) (k : Nat) : List S29 := (S.take k).map (lower b) ++ S.drop k
theorem adj_len (S : List S29) (b : Int) (k : Nat) : (adj S b k).length = S.length := by simp [adj]; omega
theorem adj_zero (S : List S29) (b : Int) : adj S b 0 = S := by simp [adj]
theorem adj_all (S : List S29) (b : Int) : adj S b S.length = S.map (lower b) := by simp [adj]
theorem adj_at (S : List S29) (b : Int) (k : Nat) (h : k < S.length) : rd_T29 (adj S b k) (k : Int) = rd_T29 S (k : Int) := by
  rw [rd_get _ _ (by rw [adj_len]; exact h), rd_get _ _ h]
  simp [adj, List.getElem_append, Nat.min_eq_left (Nat.le_of_lt h)]
theorem adj_succ (S : List S29) (b : Int) (k : Nat) (h : k < S.length) : (adj S b k).set k (lower b (rd_T29 S (k : Int))) = adj S b (k + 1) := by
  unfold adj
  have hl : ((S.take k).map (lower b)).length = k := by simp [Nat.min_eq_left (Nat.le_of_lt h)]
  rw [List.set_append_right _ _ (by omega), hl, Nat.sub_self, drop_at S k h, List.set_cons_zero, List.take_succ_eq_append_getElem h, List.map_append, List.append_assoc, ← rd_get S k h]
  all_goals rfl
def AF.read (f : AF) : AF := { f with F := { f.F with rd := wrap64 (f.F.rd + 1) } }
def ReadEnd (W : World) (ok : Nat → Prop) (fb rc ub : Nat) (f : AF) (A : Option Addr) (uv : Value) (DU : DataW Unit) (l : List S29) (e : Ending) (w' : World) : Prop :=
  ∃ v, e = .returned (.tuple #[v, .int .i64 0]) ∧ Kd.R k29 29 w' W.heap.size (fun _ => True) v l ∧ FileParts w' ok fb f.read A rc uv ub DU ∧ Chg W w' (fun k => k = fb)
set_option maxRecDepth 100000 in
set_option maxHeartbeats 2000000 in
theorem Read_ok (sp : Value) (u n : ByteArray) (i fb rc ub : Nat) (whole : Bool) (f : AF) (A : Option Addr) (uv : Value) (DU : DataW Unit) (ok : Nat → Prop) (W : World) (HU : UnitOk W sp u n (i : Int) 1 fb 0) (P : FileParts W ok fb f A rc uv ub DU)
    (hi : i < f.units.length) (hl : f.units.length ≤ 1000) :
    Calls Tryz.prog 26 #[sp, .string u, .string n, .int .i64 (i : Int), .bool whole] W (ReadEnd W ok fb rc ub f A uv DU (readL f.units i whole)) := by
  have CU := Aside0.mk (HU W (Below.refl _ _))
  have HP := Aside0.mk P
  have hfl := blk_lt P.F
  clear HU P
  go_enter Tryz.func26, Tryz.ntmps26
  go_wp2_with fail
  refine CU.out.mono ?_
  rintro e w2 ⟨rfl, hb2⟩
  have P2 := HP.out.below hb2
  obtain ⟨g, cu, huv, hlc, hcm⟩ := units_slice P2.units (by omega)
  subst huv
  have c6 : w2.cell? ⟨fb, 6, none⟩ = some (.int .i64 f.F.rd) := (blk_cell P2.F 6).trans rfl
  have f6 := blk_frozen P2.F 6
  have c8 : w2.cell? ⟨fb, 8, none⟩ = some (.slice (some ⟨g, 0, none⟩) f.units.length cu) := (blk_cell P2.F 8).trans rfl
  have P1 : FileParts (w2.setCell ⟨fb, 6, none⟩ (.int .i64 (wrap64 (f.F.rd + 1)))) ok fb f.read A rc (.slice (some ⟨g, 0, none⟩) f.units.length cu) ub DU := P2.set 6 _ rfl
  have HP1 := Aside0.mk P1
  have HB2 := Aside0.mk hb2
  have hR1 : Kd.C k29 (w2.setCell ⟨fb, 6, none⟩ (.int .i64 (wrap64 (f.F.rd + 1)))) (some ⟨g, 0, none⟩) f.units.length f.units := (Kd.R_reads' P1.units).2.2
  have CB := Aside0.mk (beyond_c (some ⟨g, 0, none⟩) cu i f.units _ hR1 hlc hi)
  have HS := Aside0.mk (fun j (h1 : i ≤ j) (h2 : j ≤ f.units.length) => units_sub hR1 h1 h2)
  obtain ⟨he1, he2⟩ := endOf_le hi
  have hne : ¬ cu = i := by omega
  have hic : i ≤ cu := by omega
  clear P1 P2 hb2 hR1
  have hgl : g < W.heap.size := own_lt (uRow_of_R HP.out.units) g rfl
  have P1b : FileParts (w2.setCell ⟨fb, 6, none⟩ (.int .i64 (wrap64 (f.F.rd + 1)))) (fun k => ok k ∧ k < W.heap.size) fb f.read A rc (.slice (some ⟨g, 0, none⟩) f.units.length cu) ub DU := (HP.out.bound.below HB2.out).set 6 _ rfl
  have HP1b := Aside0.mk P1b
  have HC8 := Aside0.mk (show (w2.setCell ⟨fb, 6, none⟩ (.int .i64 (wrap64 (f.F.rd + 1)))).cell? ⟨fb, 8, none⟩ = some (.slice (some ⟨g, 0, none⟩) f.units.length cu) from (blk_cell P1b.F 8).trans rfl)
  have HXA := Aside0.mk (show (w2.setCell ⟨fb, 6, none⟩ (.int .i64 (wrap64 (f.F.rd + 1)))).cell? ⟨g, i * 3 + 2, none⟩ = some (.int .i64 (lv f.units i)) by
    obtain ⟨_, _, hC⟩ := Kd.R_reads' P1b.units
    obtain ⟨ad, he, _, _, h3⟩ := at_T29 (xs := f.units) hC (i : Int) (by omega) (by omega)
    cases he
    rw [Int.toNat_natCast, add_plain] at h3
    exact h3)
  clear P1b HP1
  cases whole with
  | true =>
    have h1 : i ≤ endOf f.units i := by omega
    have h2 : endOf f.units i ≤ cu := by omega
    have h1z : (i : Int) ≤ (endOf f.units i : Int) := by omega
    have h2z : (endOf f.units i : Int) ≤ (cu : Int) := by omega
    go_wp2_with fail
    refine CB.out.mono ?_
    rintro e w3 ⟨rfl, ⟨m, rfl⟩⟩
    go_wp2_with fail
    refine ((files_Unit_50.raw _ _ _ _ _ (Kd.C_below (HS.out (endOf f.units i) h1 he2) (pw_below_drewN (Below.refl _ _) m)) (by omega)).mono ?_)
    rintro e w4 ⟨v, rfl, hr4, hb4⟩
    generalize hS : (f.units.take (endOf f.units i)).drop i = S at hr4
    have hSl : S.length = (endOf f.units i) - i := by rw [← hS]; simp; omega
    have hS0 : 0 < S.length := by omega
    have HSL := Lib.hid hSl
    have hSm : S.length ≤ 1000 := by omega
    clear hSl
    have hread : readL f.units i true = S.map (lower (lv f.units i)) := by unfold readL; rw [← hS]; rfl
    have HREAD := Lib.hid hread
    clear hread hS
    have hr4' := units_of_raw hr4
    obtain ⟨g2, c2, rfl, hc2, hc2m⟩ := units_slice hr4' hS0
    have hb14 := (pw_below_drewN (Below.refl _ _) m).trans hb4 |>.mono (by have := HB2.out.size; simpa using this)
    have HR4 := Aside0.mk (Kd.R_lower hr4' (by have := HB2.out.size; simpa using this))
    have HB14 := Aside0.mk hb14
    clear hr4 hr4' hb4 hb14
    go_wp2_with fail
    go_loopw [61] (fun s wr => ∃ k : Nat, k ≤ S.length ∧ s = .int .i64 k ∧ Aside0 (Kd.R k29 29 wr W.heap.size (fun _ => True) (.slice (some ⟨g2, 0, none⟩) S.length c2) (adj S (lv f.units i) k)) ∧ Aside0 (Below W.heap.size (w2.setCell ⟨fb, 6, none⟩ (.int .i64 (wrap64 (f.F.rd + 1)))) wr)) (fun s _ => S.length - (intOf s).toNat)
    case atStart => exact ⟨0, Nat.zero_le _, rfl, ⟨by rw [adj_zero]; exact HR4.out⟩, HB14⟩
    case round =>
      clear HR4 HB14
      obtain ⟨k, hk, rfl, HR, HB⟩ := hrel
      by_cases hlt : k < S.length
      · have hltz : (k : Int) < (S.length : Int) := by omega
        have d8 : wr.cell? ⟨fb, 8, none⟩ = some (.slice (some ⟨g, 0, none⟩) f.units.length cu) := (HB.out.cell (p := ⟨fb, 8, none⟩) hfl).trans HC8.out
        have xa : wr.cell? ⟨g, i * 3 + 2, none⟩ = some (.int .i64 (lv f.units i)) := (HB.out.cell (p := ⟨g, i * 3 + 2, none⟩) hgl).trans HXA.out
        have xk : wr.cell? ⟨g2, k * 3 + 2, none⟩ = some (.int .i64 (rd_T29 S (k : Int)).f2) := by
          obtain ⟨_, _, hC⟩ := Kd.R_reads' HR.out
          obtain ⟨ad, he, _, _, h3⟩ := at_T29 hC (k : Int) (by omega) (by rw [adj_len]; omega)
          cases he
          rw [adj_at S _ k hlt, Int.toNat_natCast, add_plain] at h3
          exact h3
        have fk : wr.frozen? ⟨g2, k * 3 + 2, none⟩ = false := by
          obtain ⟨cells, hc⟩ := own_typed (uRow_of_R HR.out) g2 rfl
          exact blk_frozen hc _
        have hic2 : decide ((i : Int) < 0) = false := decide_eq_false (by omega)
        have hiz : (i : Int) < (f.units.length : Int) := by omega
        have HW := Aside0.mk (units_set HR.out k 2 (lower (lv f.units i) (rd_T29 S (k : Int))) (.int .i64 (wrap64 ((rd_T29 S (k : Int)).f2 - lv f.units i))) (by rw [adj_len]; exact hlt) (by decide) (by rw [adj_at S _ k hlt]; rfl))
        have hg2 : W.heap.size ≤ g2 := (own_base (uRow_of_R HR.out) g2 rfl)
        have HN := Aside0.mk (adj_succ S (lv f.units i) k hlt)
        go_wp2_with fail
        go_region
        go_wp2_with fail
        go_roundw
        case rel => exact ⟨k + 1, by omega, by go_num, ⟨by rw [← HN.out]; exact Kd.R_drew HW.out.1⟩, ⟨(HB.out.setCell (p := ⟨g2, k * 3 + 2, none⟩) hg2 _).drew⟩⟩
        case measure => simp [intOf]; omega
      · have hltz : ¬ (k : Int) < (S.length : Int) := by omega
        obtain rfl : k = S.length := by omega
        clear hlt
        go_wp2
        refine bodyPost_ret (v := .tuple #[.slice (some ⟨g2, 0, none⟩) S.length c2, .int .i64 0]) (by simp [results, Tryz.f26, go_sem]) rfl ?_
        have hbw := HB.out
        exact ⟨_, rfl, by rw [HREAD.out, ← adj_all]; exact HR.out, HP1b.out.far hbw, ⟨hbw.os.trans HB2.out.os, hbw.tape.trans HB2.out.tape, hbw.output.trans HB2.out.output, Nat.le_trans HB2.out.size (by have := hbw.size; simpa [World.setCell] using this), fun q hq hne2 => (hbw.block q hq).trans ((Below.heap_setCell _ _ _ _ hne2).trans (HB2.out.block q hq))⟩⟩
  | false =>
    have h1 : i ≤ i + 1 := by omega
    have h2 : i + 1 ≤ cu := by omega
    have h1z : (i : Int) ≤ (i : Int) + 1 := by omega
    have h2z : (i : Int) + 1 ≤ (cu : Int) := by omega
    have HS1 := Aside0.mk (show Kd.C (Kd.raw 3) (w2.setCell ⟨fb, 6, none⟩ (.int .i64 (wrap64 (f.F.rd + 1)))) (some ⟨g, i * 3, none⟩) 1 (((f.units.take (i + 1)).drop i).map uCells) by have := HS.out (i + 1) h1 (by omega); rwa [show i + 1 - i = 1 by omega] at this)
    go_wp2_with fail
    refine ((files_Unit_50.raw _ _ _ _ _ HS1.out (by omega)).mono ?_)
    rintro e w4 ⟨v, rfl, hr4, hb4⟩
    generalize hS : (f.units.take (i + 1)).drop i = S at hr4
    have hSl : S.length = 1 := by rw [← hS]; simp; omega
    have hS0 : 0 < S.length := by omega
    have HSL := Lib.hid hSl
    have hSm : S.length ≤ 1000 := by omega
    clear hSl
    have hread : readL f.units i false = S.map (lower (lv f.units i)) := by unfold readL; rw [← hS]; rfl
    have HREAD := Lib.hid hread
    clear hread hS
    have hr4' := units_of_raw hr4
    obtain ⟨g2, c2, rfl, hc2, hc2m⟩ := units_slice hr4' hS0
    have hb14 := hb4.mono (by have := HB2.out.size; simpa using this)
    have HR4 := Aside0.mk (Kd.R_lower hr4' (by have := HB2.out.size; simpa using this))
    have HB14 := Aside0.mk hb14
    clear hr4 hr4' hb4 hb14
    go_wp2_with fail
    go_loopw [61] (fun s wr => ∃ k : Nat, k ≤ S.length ∧ s = .int .i64 k ∧ Aside0 (Kd.R k29 29 wr W.heap.size (fun _ => True) (.slice (some ⟨g2, 0, none⟩) S.length c2) (adj S (lv f.units i) k)) ∧ Aside0 (Below W.heap.size (w2.setCell ⟨fb, 6, none⟩ (.int .i64 (wrap64 (f.F.rd + 1)))) wr)) (fun s _ => S.length - (intOf s).toNat)
    case atStart => exact ⟨0, Nat.zero_le _, rfl, ⟨by rw [adj_zero]; exact HR4.out⟩, HB14⟩
    case round =>
      clear HR4 HB14
      obtain ⟨k, hk, rfl, HR, HB⟩ := hrel
      by_cases hlt : k < S.length
      · have hltz : (k : Int) < (S.length : Int) := by omega
        have d8 : wr.cell? ⟨fb, 8, none⟩ = some (.slice (some ⟨g, 0, none⟩) f.units.length cu) := (HB.out.cell (p := ⟨fb, 8, none⟩) hfl).trans HC8.out
        have xa : wr.cell? ⟨g, i * 3 + 2, none⟩ = some (.int .i64 (lv f.units i)) := (HB.out.cell (p := ⟨g, i * 3 + 2, none⟩) hgl).trans HXA.out
        have xk : wr.cell? ⟨g2, k * 3 + 2, none⟩ = some (.int .i64 (rd_T29 S (k : Int)).f2) := by
          obtain ⟨_, _, hC⟩ := Kd.R_reads' HR.out
          obtain ⟨ad, he, _, _, h3⟩ := at_T29 hC (k : Int) (by omega) (by rw [adj_len]; omega)
          cases he
          rw [adj_at S _ k hlt, Int.toNat_natCast, add_plain] at h3
          exact h3
        have fk : wr.frozen? ⟨g2, k * 3 + 2, none⟩ = false := by
          obtain ⟨cells, hc⟩ := own_typed (uRow_of_R HR.out) g2 rfl
          exact blk_frozen hc _
        have hic2 : decide ((i : Int) < 0) = false := decide_eq_false (by omega)
        have hiz : (i : Int) < (f.units.length : Int) := by omega
        have HW := Aside0.mk (units_set HR.out k 2 (lower (lv f.units i) (rd_T29 S (k : Int))) (.int .i64 (wrap64 ((rd_T29 S (k : Int)).f2 - lv f.units i))) (by rw [adj_len]; exact hlt) (by decide) (by rw [adj_at S _ k hlt]; rfl))
        have hg2 : W.heap.size ≤ g2 := (own_base (uRow_of_R HR.out) g2 rfl)
        have HN := Aside0.mk (adj_succ S (lv f.units i) k hlt)
        go_wp2_with fail
        go_region
        go_wp2_with fail
        go_roundw
        case rel => exact ⟨k + 1, by omega, by go_num, ⟨by rw [← HN.out]; exact Kd.R_drew HW.out.1⟩, ⟨(HB.out.setCell (p := ⟨g2, k * 3 + 2, none⟩) hg2 _).drew⟩⟩
        case measure => simp [intOf]; omega
      · have hltz : ¬ (k : Int) < (S.length : Int) := by omega
        obtain rfl : k = S.length := by omega
        clear hlt
        go_wp2
        refine bodyPost_ret (v := .tuple #[.slice (some ⟨g2, 0, none⟩) S.length c2, .int .i64 0]) (by simp [results, Tryz.f26, go_sem]) rfl ?_
        have hbw := HB.out
        exact ⟨_, rfl, by rw [HREAD.out, ← adj_all]; exact HR.out, HP1b.out.far hbw, ⟨hbw.os.trans HB2.out.os, hbw.tape.trans HB2.out.tape, hbw.output.trans HB2.out.output, Nat.le_trans HB2.out.size (by have := hbw.size; simpa [World.setCell] using this), fun q hq hne2 => (hbw.block q hq).trans ((Below.heap_setCell _ _ _ _ hne2).trans (HB2.out.block q hq))⟩⟩
end Go.Proofs.YtehlmkgldcfciaaGreat.Files
