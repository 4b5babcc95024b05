/- The file store of layer 28: what its functions do with memory, each walked once. -/
import Derived.Test.YtehlmkgldcfciaaCommon
import Derived.Test.YtehlmkgldcfciaaProg
import Derived.Maps.OwnSet
import Derived.Maps.RangeWalk
import Derived.RangeFuncBox
import Derived.WalkKit
import Derived.WalkSpells
set_option linter.unusedVariables false
set_option linter.unusedSimpArgs false
namespace Go.Proofs.Ytehlmkgldcfciaa.Files
open Go.Proofs.Ytehlmkgldcfciaa.Common Go.Maps Go.ChangeMaps Go.WideMaps
open Go.RowKit Go.Proofs.YtehlmkgldcfciaaW.PrintWords Go.Proofs.YtehlmkgldcfciaaW.PrintLast Go.Proofs.YtehlmkgldcfciaaW.PrintMore
/-- Names and numbers: no change of the world. -/
theorem user_c (u : ByteArray) (w : World) : Calls Try.prog 32 #[.string u] w fun e w' => e = .returned (.bool (decide (1 ≤ u.size) && decide (u.size ≤ 20))) ∧ w = w' := by
  by_cases c : 1 ≤ u.size
  · have h0 : decide (1 ≤ (u.size : Int)) = true := decide_eq_true (by omega)
    have h1 : decide (1 ≤ u.size) = true := decide_eq_true c
    have h2 : decide ((u.size : Int) ≤ 20) = decide (u.size ≤ 20) := decide_eq_decide.2 (by omega)
    go_enter Try.func32, Try.ntmps32
    go_wp2
    go_ret
    exact ⟨by simp [h1, h2], rfl⟩
  · have h0 : decide (1 ≤ (u.size : Int)) = false := decide_eq_false (by omega)
    have h1 : decide (1 ≤ u.size) = false := decide_eq_false c
    go_enter Try.func32, Try.ntmps32
    go_wp2
    go_ret
    exact ⟨by simp [h1], rfl⟩
theorem name_c (u : ByteArray) (w : World) : Calls Try.prog 33 #[.string u] w fun e w' => e = .returned (.bool (decide (1 ≤ u.size) && decide (u.size ≤ 30))) ∧ w = w' := by
  by_cases c : 1 ≤ u.size
  · have h0 : decide (1 ≤ (u.size : Int)) = true := decide_eq_true (by omega)
    have h1 : decide (1 ≤ u.size) = true := decide_eq_true c
    have h2 : decide ((u.size : Int) ≤ 30) = decide (u.size ≤ 30) := decide_eq_decide.2 (by omega)
    go_enter Try.func33, Try.ntmps33
    go_wp2
    go_ret
    exact ⟨by simp [h1, h2], rfl⟩
  · have h0 : decide (1 ≤ (u.size : Int)) = false := decide_eq_false (by omega)
    have h1 : decide (1 ≤ u.size) = false := decide_eq_false c
    go_enter Try.func33, Try.ntmps33
    go_wp2
    go_ret
    exact ⟨by simp [h1], rfl⟩
theorem set_c (n : Int) (w : World) : Calls Try.prog 34 #[.int .i64 n] w fun e w' => e = .returned (.bool (decide (0 ≤ n) && decide (n ≤ 255))) ∧ w = w' := by
  by_cases c : 0 ≤ n
  · have h0 : decide (0 ≤ n) = true := decide_eq_true c
    go_enter Try.func34, Try.ntmps34
    go_wp2
    go_ret
    exact ⟨by simp [h0], rfl⟩
  · have h0 : decide (0 ≤ n) = false := decide_eq_false c
    go_enter Try.func34, Try.ntmps34
    go_wp2
    go_ret
    exact ⟨by simp [h0], rfl⟩
theorem eqlSome (bm : Nat) (w : World) : (binOp .eql 50 (.map (some bm)) (.map none)).run Try.prog w = .ok (.bool false) w := by kernel_rfl
theorem eqlNil (w : World) : (binOp .eql 50 (.map none) (.map none)).run Try.prog w = .ok (.bool true) w := by kernel_rfl
set_option maxRecDepth 100000 in
theorem no_live (sb mb : Nat) (w : World) (c0 : w.cell? ⟨sb, 0, none⟩ = some (.map (some mb))) : Calls Try.prog 31 #[.pointer (some ⟨sb, 0, none⟩)] w fun e w' => e = .returned (.bool false) ∧ w = w' := by
  have q := eqlSome mb
  go_enter Try.func31, Try.ntmps31
  go_wp2
  go_ret
  exact ⟨rfl, rfl⟩
set_option maxRecDepth 100000 in
theorem no_nil (w : World) : Calls Try.prog 31 #[.pointer none] w fun e w' => e = .returned (.bool true) ∧ w = w' := by
  go_enter Try.func31, Try.ntmps31
  go_wp2
  go_ret
  exact ⟨rfl, rfl⟩
set_option maxRecDepth 100000 in
theorem no_zero (sb : Nat) (w : World) (c0 : w.cell? ⟨sb, 0, none⟩ = some (.map none)) : Calls Try.prog 31 #[.pointer (some ⟨sb, 0, none⟩)] w fun e w' => e = .returned (.bool true) ∧ w = w' := by
  have q := eqlNil
  go_enter Try.func31, Try.ntmps31
  go_wp2
  go_ret
  exact ⟨rfl, rfl⟩
theorem New_c (w : World) : Calls Try.prog 11 #[] w fun e w' => e = .returned (.pointer (some ⟨w.heap.size + 1, 0, none⟩)) ∧ w' = (w.alloc (.map #[] 0)).alloc (.cells #[.map (some w.heap.size)] 52) := by
  have hmm := @run_makeMap Try.prog
  go_enter Try.func11, Try.ntmps11
  go_wp2
  go_ret
  exact ⟨rfl, rfl⟩
/-! What lies where. -/
theorem law9 : Keyed Try.prog 9 := string_keyed Try.underlying9
/-- How a pointer to a file reads in the store's map; how a user's opening reads. -/
def Rp : Value → Option (DataW Unit × List MemPlace)
  | .pointer none => some (.nil, [])
  | .pointer (some ⟨b, 0, none⟩) => some (.lit (.int .i64 b), [])
  | _ => none
theorem Rp_nil {v : Value} {ps : List MemPlace} (h : Rp v = some (.nil, ps)) : v = .pointer none := by
  unfold Rp at h
  split at h
  · rfl
  · cases h
  · cases h
theorem Rp_at {v : Value} {b : Nat} {ps : List MemPlace} (h : Rp v = some (.lit (.int .i64 b), ps)) : v = .pointer (some ⟨b, 0, none⟩) := by
  unfold Rp at h
  split at h
  · cases h
  · rename_i c
    injection h with h
    injection h with h
    injection h with h
    injection h with _ h
    have : c = b := by omega
    rw [this]
  · cases h
def Ro : Value → Option (DataW Unit × List MemPlace)
  | .agg ⟨[.int .i64 a, .int .i64 b]⟩ => some (.agg [.lit (.int .i64 a), .lit (.int .i64 b)], [])
  | _ => none
theorem zeroP (w : World) : (zeroValue 71).run Try.prog w = .ok (.pointer none) w := by kernel_rfl
theorem zeroO (w : World) : (zeroValue 78).run Try.prog w = .ok (.agg #[.int .i64 0, .int .i64 0]) w := by kernel_rfl
/-- A file's own words. -/
structure FS where
  name : ByteArray
  kind : Int
  perm : Int
  owner : ByteArray
  last : ByteArray
  ch : Int
  rd : Int
def FS.cells (F : FS) (rv uv : Value) (ub : Nat) : Array Value := #[.string F.name, .int .i64 F.kind, .int .i64 F.perm, .string F.owner, .string F.last, .int .i64 F.ch, .int .i64 F.rd, rv, uv, .map (some ub)]
def FileAt (W : World) (fb : Nat) (F : FS) (rv uv : Value) (ub : Nat) : Prop := W.heap[fb]? = some (.cells (F.cells rv uv ub) 74 (0, 0))
/-- The store, its one map, and one file in it. -/
structure St (w W : World) (sb mb fb ub : Nat) (F : FS) (rv uv : Value) (D DU : DataW Unit) : Prop where
  low : Below w.heap.size w W
  bs : w.heap.size ≤ sb
  bm : w.heap.size ≤ mb
  bf : w.heap.size ≤ fb
  bu : w.heap.size ≤ ub
  ne : mb ≠ ub
  S : Boxed W sb 52 (.map (some mb))
  M : W.ownsMap Try.prog 9 Rp mb 100 D
  F : FileAt W fb F rv uv ub
  U : W.ownsMap Try.prog 9 Ro ub 100 DU
theorem key_of {s : ByteArray} (h : s.size ≤ 30) : keyOf Try.prog 9 (.string s) = some (.string s.data.toList) := keyOf_string_mk Try.underlying9 (by unfold maxLen; omega)
set_option maxRecDepth 100000 in
set_option maxHeartbeats 2000000 in
theorem Create_c (sb mb k : Nat) (D : DataW Unit) (u n : ByteArray) (kind perm : Int) (W : World) (c0 : W.cell? ⟨sb, 0, none⟩ = some (.map (some mb))) (hown : W.ownsMap Try.prog 9 Rp mb k D) (hk : k < 1000)
    (hu : 1 ≤ u.size ∧ u.size ≤ 20) (hn : 1 ≤ n.size ∧ n.size ≤ 30) (hkd : 0 ≤ kind ∧ kind ≤ 2) (hpm : 0 ≤ perm ∧ perm ≤ 255) (hD : D.atKey (.string n.data.toList) .nil = .nil) (hs : Maps.size D < 30) :
    Calls Try.prog 12 #[.pointer (some ⟨sb, 0, none⟩), .string u, .string n, .int .i64 kind, .int .i64 perm] W fun e w' => e = .returned (.int .i64 0) ∧
      ∃ W3, ((W.alloc (.cells #[.string ByteArray.empty, .string ByteArray.empty, .int .i64 0] 41)).alloc (.map #[] 0)).alloc (.cells (FS.cells ⟨n, kind, perm, u, ByteArray.empty, 0, 0⟩ (.slice none 0 0) (.slice (some ⟨W.heap.size, 0, none⟩) 1 1) (W.heap.size + 1)) 74) = W3 ∧
        w'.ownsMap Try.prog 9 Rp mb (k + 1) (D.put (.string n.data.toList) (.lit (.int .i64 (W.heap.size + 2 : Nat)))) ∧ W3.mapTurned w' mb := by
  have hkey := key_of hn.2
  obtain ⟨v, ps, hrun, hv⟩ := hown.lookup law9 Try.underlying50 (zeroP _) (zd := .nil) (zp := []) rfl hkey
  rw [hD] at hv
  obtain rfl := Rp_nil hv
  have hlen := fun ty => hown.len Try.underlying50 ty
  have hmm := @run_makeMap Try.prog
  have hu1 : (decide (1 ≤ u.size) && decide (u.size ≤ 20)) = true := by simp [hu.1, hu.2]
  have hn1 : (decide (1 ≤ n.size) && decide (n.size ≤ 30)) = true := by simp [hn.1, hn.2]
  have hp1 : (decide (0 ≤ perm) && decide (perm ≤ 255)) = true := by simp [hpm.1, hpm.2]
  have hk1 : decide (kind < 0) = false := decide_eq_false (by omega)
  have hk2 : decide (2 < kind) = false := decide_eq_false (by omega)
  have hs1 : decide (30 ≤ Maps.size D) = false := decide_eq_false (by omega)
  have hs2 : decide ((30 : Int) ≤ (Maps.size D : Int)) = false := decide_eq_false (by omega)
  have CU := Aside0.mk (user_c u W)
  have CN := Aside0.mk (name_c n W)
  have CP := Aside0.mk (set_c perm W)
  rw [hu1] at CU
  rw [hn1] at CN
  rw [hp1] at CP
  go_enter Try.func12, Try.ntmps12
  go_wp2_with first | (go_at_call 31; refine (no_live sb mb _ c0).mono ?_; rintro e w' ⟨rfl, rfl⟩) | (go_at_call 32; refine CU.out.mono ?_; rintro e w' ⟨rfl, rfl⟩) | (go_at_call 33; refine CN.out.mono ?_; rintro e w' ⟨rfl, rfl⟩) | (go_at_call 34; refine CP.out.mono ?_; rintro e w' ⟨rfl, rfl⟩) | (at_mapUpdate; refine wpList_mapUpdate_in _ rfl _ _ _ 50 rfl 9 71 law9 Try.underlying50 _ mb k D rfl (((hown.alloc _).alloc _).alloc _) (by unfold maxLen; omega) _ _ _ rfl rfl hkey (.lit (.int .i64 (W.heap.size + 2 : Nat))) [] rfl ?_; intro w1 hown1 hturn1)
  go_ret
  exact ⟨rfl, _, rfl, hown1, hturn1⟩
set_option maxRecDepth 100000 in
theorem found_c (sb mb k fb : Nat) (D : DataW Unit) (u n : ByteArray) (W : World) (c0 : W.cell? ⟨sb, 0, none⟩ = some (.map (some mb))) (hown : W.ownsMap Try.prog 9 Rp mb k D)
    (hu : 1 ≤ u.size ∧ u.size ≤ 20) (hn : 1 ≤ n.size ∧ n.size ≤ 30) (hD : D.atKey (.string n.data.toList) .nil = .lit (.int .i64 (fb : Nat))) :
    Calls Try.prog 35 #[.pointer (some ⟨sb, 0, none⟩), .string u, .string n] W fun e w' => e = .returned (.tuple #[.pointer (some ⟨fb, 0, none⟩), .int .i64 0]) ∧ W = w' := by
  have hkey := key_of hn.2
  obtain ⟨v, ps, hrun, hv⟩ := hown.lookup law9 Try.underlying50 (zeroP _) (zd := .nil) (zp := []) rfl hkey
  rw [hD] at hv
  obtain rfl := Rp_at hv
  have hu1 : (decide (1 ≤ u.size) && decide (u.size ≤ 20)) = true := by simp [hu.1, hu.2]
  have hn1 : (decide (1 ≤ n.size) && decide (n.size ≤ 30)) = true := by simp [hn.1, hn.2]
  have CU := Aside0.mk (user_c u W)
  have CN := Aside0.mk (name_c n W)
  rw [hu1] at CU
  rw [hn1] at CN
  go_enter Try.func35, Try.ntmps35
  go_wp2_with first | (go_at_call 31; refine (no_live sb mb _ c0).mono ?_; rintro e w' ⟨rfl, rfl⟩) | (go_at_call 32; refine CU.out.mono ?_; rintro e w' ⟨rfl, rfl⟩) | (go_at_call 33; refine CN.out.mono ?_; rintro e w' ⟨rfl, rfl⟩)
  refine bodyPost_ret (v := .tuple #[.pointer (some ⟨fb, 0, none⟩), .int .i64 0]) (by simp [results, Try.f35, go_sem]) rfl ?_
  exact ⟨rfl, rfl⟩
theorem Ro_at {v : Value} {a b : Int} {ps : List MemPlace} (h : Ro v = some (.agg [.lit (.int .i64 a), .lit (.int .i64 b)], ps)) : v = .agg #[.int .i64 a, .int .i64 b] := by
  unfold Ro at h
  split at h
  · rename_i c d
    simp only [Option.some.injEq, Prod.mk.injEq, DataW.agg.injEq, List.cons.injEq, DataW.lit.injEq, Lit.int.injEq, true_and, and_true] at h
    rw [h.1.1, h.1.2]
  · cases h
set_option maxRecDepth 100000 in
theorem opened_c (sb mb k fb ub k2 : Nat) (D DU : DataW Unit) (F : FS) (rv uv : Value) (u n : ByteArray) (action a b : Int) (W : World) (c0 : W.cell? ⟨sb, 0, none⟩ = some (.map (some mb))) (hown : W.ownsMap Try.prog 9 Rp mb k D)
    (hu : 1 ≤ u.size ∧ u.size ≤ 20) (hn : 1 ≤ n.size ∧ n.size ≤ 30) (hD : D.atKey (.string n.data.toList) .nil = .lit (.int .i64 (fb : Nat))) (hF : FileAt W fb F rv uv ub) (hU : W.ownsMap Try.prog 9 Ro ub k2 DU)
    (hhas : Maps.has DU (.string u.data.toList) = true) (hat : DU.atKey (.string u.data.toList) (.agg [.lit (.int .i64 0), .lit (.int .i64 0)]) = .agg [.lit (.int .i64 a), .lit (.int .i64 b)]) :
    Calls Try.prog 39 #[.pointer (some ⟨sb, 0, none⟩), .string u, .string n, .int .i64 action] W fun e w' => e = .returned (.tuple #[.pointer (some ⟨fb, 0, none⟩), .int .i64 0, .int .i64 (if bits .and .i64 a action = 0 then 12 else 0)]) ∧ Below W.heap.size W w' := by
  have hkey := key_of (s := u) (by omega)
  obtain ⟨v, ps, hrun, hv⟩ := hU.look_ok law9 Try.underlying72 (zeroO _) (zd := .agg [.lit (.int .i64 0), .lit (.int .i64 0)]) (zp := []) rfl hkey
  rw [hat] at hv
  obtain rfl := Ro_at hv
  rw [hhas] at hrun
  have c9 : W.cell? ⟨fb, 9, none⟩ = some (.map (some ub)) := (blk_cell hF 9).trans rfl
  have CF := Aside0.mk (found_c sb mb k fb D u n W c0 hown hu hn hD)
  go_enter Try.func39, Try.ntmps39
  go_wp2_with first | (go_at_call 35; refine CF.out.mono ?_; rintro e w' ⟨rfl, rfl⟩)
  all_goals
    go_ret3
    exact ⟨by first | rfl | (simp only [beq_iff_eq, beq_eq_false_iff_ne, ne_eq] at *; first | rfl | contradiction | omega), (Below.refl _ _).alloc (Nat.le_refl _) _⟩
end Go.Proofs.Ytehlmkgldcfciaa.Files
