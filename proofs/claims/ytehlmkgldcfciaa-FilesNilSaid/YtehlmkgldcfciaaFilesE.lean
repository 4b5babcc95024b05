/- The file store: units as a tree; the ways to a file, to an opened file and to a unit, and how each may fail. -/
import Derived.Test.YtehlmkgldcfciaaFilesC
import Derived.Test.YtehlmkgldcfciaaFilesD
import Derived.Test.YtehlmkgldcfciaaFx0
import Derived.Test.YtehlmkgldcfciaaFx1
import Derived.Test.YtehlmkgldcfciaaFx3
set_option linter.unusedVariables false
set_option linter.unusedSimpArgs false
namespace Go.Proofs.Ytehlmkgldcfciaa.Files
open Go.Proofs.Ytehlmkgldcfciaa.Common Go.Maps Go.ChangeMaps Go.WideMaps Go.Proofs.Ytehlmkgldcfciaa.F
open Go.RowKit Go.Proofs.YtehlmkgldcfciaaW.PrintWords Go.Proofs.YtehlmkgldcfciaaW.PrintLast Go.Proofs.YtehlmkgldcfciaaW.PrintMore
/-! Units as a tree. -/
def lv (l : List S41) (i : Nat) : Int := (rd_T41 l (i : Int)).f2
def nm (l : List S41) (i : Nat) : ByteArray := (rd_T41 l (i : Int)).f0
theorem rd_get (l : List S41) (i : Nat) (h : i < l.length) : rd_T41 l (i : Int) = l[i] := by simp [rd_T41, List.getElem?_eq_getElem h]
theorem drop_at (l : List S41) (i : Nat) (h : i < l.length) : l.drop i = rd_T41 l (i : Int) :: l.drop (i + 1) := by rw [List.drop_eq_getElem_cons h, rd_get l i h]
def runLen (lev : Int) : List S41 → Nat
  | [] => 0
  | u :: r => if u.f2 > lev then runLen lev r + 1 else 0
theorem runLen_cons (lev : Int) (u : S41) (r : List S41) : runLen lev (u :: r) = if u.f2 > lev then runLen lev r + 1 else 0 := rfl
theorem runLen_le (lev : Int) : ∀ l, runLen lev l ≤ l.length
  | [] => Nat.le_refl _
  | u :: r => by
    unfold runLen
    have := runLen_le lev r
    split
    · rw [List.length_cons]; omega
    · exact Nat.zero_le _
def endOf (l : List S41) (i : Nat) : Nat := i + 1 + runLen (lv l i) (l.drop (i + 1))
theorem endOf_le {l : List S41} {i : Nat} (h : i < l.length) : i + 1 ≤ endOf l i ∧ endOf l i ≤ l.length := by
  have := runLen_le (lv l i) (l.drop (i + 1))
  rw [List.length_drop] at this
  unfold endOf
  omega
def kidsFrom (lev : Int) : Nat → List S41 → List Int
  | _, [] => []
  | i, u :: r => if u.f2 > lev then (if u.f2 = lev + 1 then (i : Int) :: kidsFrom lev (i + 1) r else kidsFrom lev (i + 1) r) else []
theorem kidsFrom_len (lev : Int) : ∀ i l, (kidsFrom lev i l).length ≤ l.length
  | _, [] => Nat.le_refl _
  | i, u :: r => by
    unfold kidsFrom
    have := kidsFrom_len lev (i + 1) r
    split
    · split <;> simp only [List.length_cons] <;> omega
    · exact Nat.zero_le _
theorem kidsFrom_in (lev : Int) : ∀ i l, ∀ x ∈ kidsFrom lev i l, (i : Int) ≤ x ∧ x < (i + l.length : Nat)
  | _, [] => by simp [kidsFrom]
  | i, u :: r => by
    unfold kidsFrom
    have ih := kidsFrom_in lev (i + 1) r
    intro x hx
    split at hx
    · split at hx
      · rcases List.mem_cons.1 hx with rfl | hx
        · simp only [List.length_cons]; omega
        · have := ih x hx; simp only [List.length_cons]; omega
      · have := ih x hx; simp only [List.length_cons]; omega
    · cases hx
def kids (l : List S41) (i : Nat) : List Int := kidsFrom (lv l i) (i + 1) (l.drop (i + 1))
theorem kids_in {l : List S41} {i : Nat} (h : i < l.length) : ∀ x ∈ kids l i, (0 : Int) ≤ x ∧ x < (l.length : Int) := fun x hx => by
  have := kidsFrom_in _ _ _ x hx
  rw [List.length_drop] at this
  omega
theorem kids_len {l : List S41} {i : Nat} (h : i < l.length) : (kids l i).length ≤ l.length := by
  have := kidsFrom_len (lv l i) (i + 1) (l.drop (i + 1))
  rw [List.length_drop] at this
  unfold kids
  omega
theorem wr (j n : Nat) (h : j < n) (hn : n ≤ 9223372036854775807) : wrap64 ((j : Int) + 1) = ((j + 1 : Nat) : Int) := by unfold wrap64; omega
theorem beyond_l0 (l : List S41) (i : Nat) (hi : i < l.length) (hl : l.length ≤ 9223372036854775807) : ∀ (d j k : Nat), l.length - j = d → j ≤ l.length → d < k → files_beyond.l0 k l (i : Int) (j : Int) = some ((j + runLen (lv l i) (l.drop j) : Nat) : Int)
  | 0, j, k, hd, hj, hk => by
    obtain ⟨k, rfl⟩ : ∃ m, k = m + 1 := ⟨k - 1, by omega⟩
    obtain rfl : j = l.length := by omega
    simp only [files_beyond.l0]
    rw [if_neg (by omega), List.drop_length]
    simp [runLen]
  | d + 1, j, k, hd, hj, hk => by
    obtain ⟨k, rfl⟩ : ∃ m, k = m + 1 := ⟨k - 1, by omega⟩
    have ih := beyond_l0 l i hi hl d (j + 1) k (by omega) (by omega) (by omega)
    simp only [files_beyond.l0]
    rw [if_pos (by omega), if_pos (by omega), if_pos (by omega), if_pos (by omega), drop_at l j (by omega), wr j l.length (by omega) hl, ih]
    rw [runLen_cons]
    show (if (rd_T41 l (j : Int)).f2 > lv l i then _ else _) = _
    by_cases c : (rd_T41 l (j : Int)).f2 > lv l i
    · rw [if_pos c, if_pos c]; congr 1; omega
    · rw [if_neg c, if_neg c]; rfl
theorem beyond_f (l : List S41) (i : Nat) (hi : i < l.length) (hl : l.length ≤ 9223372036854775807) : files_beyond.f (l.length + 1) l (i : Int) = some (endOf l i : Int) := by
  unfold files_beyond.f
  rw [wr i l.length hi hl, beyond_l0 l i hi hl _ (i + 1) _ rfl (by omega) (by omega)]
  rfl
theorem children_l0 (l : List S41) (i : Nat) (hi : i < l.length) (hl : l.length ≤ 1000000000) (hv : wrap64 (lv l i + 1) = lv l i + 1) : ∀ (d j k : Nat) (acc : List Int), l.length - j = d → j ≤ l.length → 2 * d + 1 < k → acc.length ≤ j → files_children.l0 k l (i : Int) acc (j : Int) = some (acc ++ kidsFrom (lv l i) j (l.drop j))
  | 0, j, k, acc, hd, hj, hk, ha => by
    obtain ⟨k, rfl⟩ : ∃ m, k = m + 2 := ⟨k - 2, by omega⟩
    obtain rfl : j = l.length := by omega
    simp only [files_children.l0, files_children.j1]
    rw [if_neg (by omega), if_neg (by simp), List.drop_length]
    simp [kidsFrom]
  | d + 1, j, k, acc, hd, hj, hk, ha => by
    obtain ⟨k, rfl⟩ : ∃ m, k = m + 2 := ⟨k - 2, by omega⟩
    have ih := fun acc h => children_l0 l i hi hl hv d (j + 1) k acc (by omega) (by omega) (by omega) h
    simp only [files_children.l0, files_children.j1]
    rw [if_pos (by omega), if_pos (by omega), if_pos (by omega), if_pos (by omega), drop_at l j (by omega)]
    unfold kidsFrom
    show (if decide ((rd_T41 l (j : Int)).f2 > lv l i) = true then _ else _) = _
    by_cases c : (rd_T41 l (j : Int)).f2 > lv l i
    · rw [if_pos (by simp [c]), if_pos (by omega), if_pos (by omega), if_pos (by omega), if_pos (by omega), wr j l.length (by omega) (by omega), if_pos c]
      show (if (rd_T41 l (j : Int)).f2 = wrap64 (lv l i + 1) then _ else _) = _
      rw [hv]
      by_cases c2 : (rd_T41 l (j : Int)).f2 = lv l i + 1
      · rw [if_pos c2, if_pos c2, if_pos (by omega), ih _ (by simp; omega), List.append_assoc]; rfl
      · rw [if_neg c2, if_neg c2, ih _ (by omega)]
    · rw [if_neg (by simp [c]), if_neg c]; simp
theorem children_f (l : List S41) (i : Nat) (hi : i < l.length) (hl : l.length ≤ 1000000000) (hv : wrap64 (lv l i + 1) = lv l i + 1) : files_children.f (2 * l.length + 2) l (i : Int) = some (kids l i) := by
  unfold files_children.f
  rw [wr i l.length hi (by omega), children_l0 l i hi hl hv _ (i + 1) _ [] rfl (by omega) (by omega) (by simp)]
  rfl
theorem beyond_c (A : Option Addr) (c i : Nat) (l : List S41) (W : World) (hr : Kd.C k41 W A l.length l) (hc : l.length ≤ c) (hi : i < l.length) :
    Calls Try.prog 47 #[.slice A l.length c, .int .i64 (i : Int)] W fun e w' => e = .returned (.int .i64 (endOf l i : Int)) ∧ Drawn0 W w' :=
  files_beyond.calls _ A c l (i : Int) _ W hr hc (beyond_f l i hi hr.2.1)
theorem children_c (A : Option Addr) (c i : Nat) (l : List S41) (W : World) (hr : Kd.C k41 W A l.length l) (hc : l.length ≤ c) (hi : i < l.length) (hl : l.length ≤ 1000000000) (hv : wrap64 (lv l i + 1) = lv l i + 1) :
    Calls Try.prog 28 #[.slice A l.length c, .int .i64 (i : Int)] W fun e w' => ∃ v : Value, e = .returned v ∧ Kd.R (Kd.int .i64) 3 w' W.heap.size (fun _ => True) v (kids l i) ∧ Below W.heap.size W w' :=
  files_children.calls _ A c l (i : Int) _ W hr hc (children_f l i hi hl hv)
/-! The ways to a file. -/
def FoundErr (W : World) (sp : Value) (u n : ByteArray) (E : Int) : Prop := E ≠ 0 ∧ ∀ W', Below W.heap.size W W' → Calls Try.prog 35 #[sp, .string u, .string n] W' fun e w' => e = .returned (.tuple #[.pointer none, .int .i64 E]) ∧ W' = w'
def FoundOk (W : World) (sp : Value) (u n : ByteArray) (fb : Nat) : Prop := ∀ W', Below W.heap.size W W' → Calls Try.prog 35 #[sp, .string u, .string n] W' fun e w' => e = .returned (.tuple #[.pointer (some ⟨fb, 0, none⟩), .int .i64 0]) ∧ W' = w'
def OpenedErr (W : World) (sp : Value) (u n : ByteArray) (action E : Int) : Prop := E ≠ 0 ∧ ∀ W', Below W.heap.size W W' → Calls Try.prog 39 #[sp, .string u, .string n, .int .i64 action] W' fun e w' => e = .returned (.tuple #[.pointer none, .int .i64 E, .int .i64 E]) ∧ Below W'.heap.size W' w'
def OpenedOk (W : World) (sp : Value) (u n : ByteArray) (action : Int) (fb : Nat) (dn : Int) : Prop := ∀ W', Below W.heap.size W W' → Calls Try.prog 39 #[sp, .string u, .string n, .int .i64 action] W' fun e w' => e = .returned (.tuple #[.pointer (some ⟨fb, 0, none⟩), .int .i64 0, .int .i64 dn]) ∧ Below W'.heap.size W' w'
def UnitErr (W : World) (sp : Value) (u n : ByteArray) (at_ action E : Int) : Prop := E ≠ 0 ∧ ∀ W', Below W.heap.size W W' → Calls Try.prog 46 #[sp, .string u, .string n, .int .i64 at_, .int .i64 action] W' fun e w' => ∃ dn : Int, e = .returned (.tuple #[.pointer none, .int .i64 E, .int .i64 dn]) ∧ Below W'.heap.size W' w'
def UnitOk (W : World) (sp : Value) (u n : ByteArray) (at_ action : Int) (fb : Nat) (dn : Int) : Prop := ∀ W', Below W.heap.size W W' → Calls Try.prog 46 #[sp, .string u, .string n, .int .i64 at_, .int .i64 action] W' fun e w' => e = .returned (.tuple #[.pointer (some ⟨fb, 0, none⟩), .int .i64 0, .int .i64 dn]) ∧ Below W'.heap.size W' w'
def userB (u : ByteArray) : Bool := decide (1 ≤ u.size) && decide (u.size ≤ 20)
def nameB (u : ByteArray) : Bool := decide (1 ≤ u.size) && decide (u.size ≤ 30)
/-- found refuses at once: no store, or no user, or no name. -/
theorem found_no (sp : Value) (u n : ByteArray) (W : World) (hno : Calls Try.prog 31 #[sp] W fun e w' => e = .returned (.bool true) ∧ W = w') :
    Calls Try.prog 35 #[sp, .string u, .string n] W fun e w' => e = .returned (.tuple #[.pointer none, .int .i64 1]) ∧ W = w' := by
  have HN := Aside0.mk hno
  clear hno
  go_enter Try.func35, Try.ntmps35
  go_wp2_with first | (go_at_call 31; refine HN.out.mono ?_; rintro e w' ⟨rfl, rfl⟩)
  refine bodyPost_ret (v := .tuple #[.pointer none, .int .i64 1]) (by simp [results, Try.f35, go_sem]) rfl ?_
  exact ⟨rfl, rfl⟩
theorem found_user (sb mb : Nat) (u n : ByteArray) (W : World) (c0 : W.cell? ⟨sb, 0, none⟩ = some (.map (some mb))) (hu : userB u = false) :
    Calls Try.prog 35 #[.pointer (some ⟨sb, 0, none⟩), .string u, .string n] W fun e w' => e = .returned (.tuple #[.pointer none, .int .i64 1]) ∧ W = w' := by
  have HN := Aside0.mk (no_live sb mb W c0)
  have CU := Aside0.mk (user_c u W)
  rw [show (decide (1 ≤ u.size) && decide (u.size ≤ 20)) = false from hu] at CU
  clear c0 hu
  go_enter Try.func35, Try.ntmps35
  go_wp2_with first | (go_at_call 31; refine HN.out.mono ?_; rintro e w' ⟨rfl, rfl⟩) | (go_at_call 32; refine CU.out.mono ?_; rintro e w' ⟨rfl, rfl⟩)
  refine bodyPost_ret (v := .tuple #[.pointer none, .int .i64 1]) (by simp [results, Try.f35, go_sem]) rfl ?_
  exact ⟨rfl, rfl⟩
theorem found_name (sb mb : Nat) (u n : ByteArray) (W : World) (c0 : W.cell? ⟨sb, 0, none⟩ = some (.map (some mb))) (hu : userB u = true) (hn : nameB n = false) :
    Calls Try.prog 35 #[.pointer (some ⟨sb, 0, none⟩), .string u, .string n] W fun e w' => e = .returned (.tuple #[.pointer none, .int .i64 1]) ∧ W = w' := by
  have HN := Aside0.mk (no_live sb mb W c0)
  have CU := Aside0.mk (user_c u W)
  rw [show (decide (1 ≤ u.size) && decide (u.size ≤ 20)) = true from hu] at CU
  have CM := Aside0.mk (name_c n W)
  rw [show (decide (1 ≤ n.size) && decide (n.size ≤ 30)) = false from hn] at CM
  clear c0 hu hn
  go_enter Try.func35, Try.ntmps35
  go_wp2_with first | (go_at_call 31; refine HN.out.mono ?_; rintro e w' ⟨rfl, rfl⟩) | (go_at_call 32; refine CU.out.mono ?_; rintro e w' ⟨rfl, rfl⟩) | (go_at_call 33; refine CM.out.mono ?_; rintro e w' ⟨rfl, rfl⟩)
  refine bodyPost_ret (v := .tuple #[.pointer none, .int .i64 1]) (by simp [results, Try.f35, go_sem]) rfl ?_
  exact ⟨rfl, rfl⟩
theorem B_user {u : ByteArray} (h : 1 ≤ u.size ∧ u.size ≤ 20) : (decide (1 ≤ u.size) && decide (u.size ≤ 20)) = true := by simp [h.1, h.2]
theorem B_name {u : ByteArray} (h : 1 ≤ u.size ∧ u.size ≤ 30) : (decide (1 ≤ u.size) && decide (u.size ≤ 30)) = true := by simp [h.1, h.2]
theorem found_none (sb mb : Nat) (D : DataW Unit) (u n : ByteArray) (W : World) (V : View W sb mb D u n) (hD : D.atKey (.string n.data.toList) .nil = .nil) :
    Calls Try.prog 35 #[.pointer (some ⟨sb, 0, none⟩), .string u, .string n] W fun e w' => e = .returned (.tuple #[.pointer none, .int .i64 3]) ∧ W = w' := by
  have hkey := key_of V.hn.2
  obtain ⟨v, ps, hrun, hv⟩ := V.M.lookup law9 Try.underlying50 (zeroP _) (zd := .nil) (zp := []) rfl hkey
  rw [hD] at hv
  obtain rfl := Rp_nil hv
  have c0 := V.c0
  have HN := Aside0.mk (no_live sb mb W c0)
  have CU := Aside0.mk (user_c u W)
  have CN := Aside0.mk (name_c n W)
  rw [B_user V.hu] at CU
  rw [B_name V.hn] at CN
  clear hv V hD
  go_enter Try.func35, Try.ntmps35
  go_wp2_with first | (go_at_call 31; refine HN.out.mono ?_; rintro e w' ⟨rfl, rfl⟩) | (go_at_call 32; refine CU.out.mono ?_; rintro e w' ⟨rfl, rfl⟩) | (go_at_call 33; refine CN.out.mono ?_; rintro e w' ⟨rfl, rfl⟩)
  refine bodyPost_ret (v := .tuple #[.pointer none, .int .i64 3]) (by simp [results, Try.f35, go_sem]) rfl ?_
  exact ⟨rfl, rfl⟩
theorem View.found {sb mb fb : Nat} {D : DataW Unit} {u n : ByteArray} {W : World} (V : View W sb mb D u n) (hD : D.atKey (.string n.data.toList) .nil = .lit (.int .i64 (fb : Nat))) : FoundOk W (.pointer (some ⟨sb, 0, none⟩)) u n fb :=
  fun W' hb => have V' := V.below hb; found_c sb mb _ fb D u n W' V'.c0 V'.M V'.hu V'.hn hD
theorem opened_err (sp : Value) (u n : ByteArray) (action E : Int) (W : World) (HF : FoundErr W sp u n E) : OpenedErr W sp u n action E := by
  obtain ⟨hE, hf⟩ := HF
  refine ⟨hE, fun W' hb => ?_⟩
  have CF := Aside0.mk (hf W' hb)
  have hE' : (E == 0) = false := by simpa using hE
  have hE2 : (E != 0) = true := by simpa using hE
  clear hf hE hb
  go_enter Try.func39, Try.ntmps39
  go_wp2_with first | (go_at_call 35; refine CF.out.mono ?_; rintro e w' ⟨rfl, rfl⟩)
  go_ret3
  exact ⟨rfl, Below.refl _ _⟩
theorem opened_not (sp : Value) (u n : ByteArray) (action : Int) (W : World) (ok : Nat → Prop) (fb rc ub : Nat) (f : AF) (A : Option Addr) (uv : Value) (DU : DataW Unit) (HF : FoundOk W sp u n fb) (P : FileParts W ok fb f A rc uv ub DU) (hu : u.size ≤ 30) (hl : lookU f.users u = none) : OpenedErr W sp u n action 8 := by
  refine ⟨by decide, fun W' hb => ?_⟩
  have P' := P.below hb
  have hkey := key_of hu
  obtain ⟨v, ps, hrun, hv⟩ := P'.U.look_ok law9 Try.underlying72 (zeroO _) (zd := .agg [.lit (.int .i64 0), .lit (.int .i64 0)]) (zp := []) rfl hkey
  have hh : Maps.has DU (.string u.data.toList) = false := by rw [P'.mU.has, look_users, hl]; rfl
  rw [atKey_of_not_has hh] at hv
  obtain rfl := Ro_at hv
  rw [hh] at hrun
  have c9 : W'.cell? ⟨fb, 9, none⟩ = some (.map (some ub)) := (blk_cell P'.F 9).trans rfl
  have CF := Aside0.mk (HF W' hb)
  clear HF P P' hb hh hv hl
  go_enter Try.func39, Try.ntmps39
  go_wp2_with first | (go_at_call 35; refine CF.out.mono ?_; rintro e w' ⟨rfl, rfl⟩)
  go_ret3
  exact ⟨rfl, (Below.refl _ _).alloc (Nat.le_refl _) _⟩
/-- What is refused to a user who has the file open: an action that is not his. -/
def denied (a action : Int) : Int := if bits .and .i64 a action = 0 then 12 else 0
theorem opened_ok (sp : Value) (u n : ByteArray) (action : Int) (W : World) (ok : Nat → Prop) (fb rc ub : Nat) (f : AF) (A : Option Addr) (uv : Value) (DU : DataW Unit) (a b : Int) (HF : FoundOk W sp u n fb) (P : FileParts W ok fb f A rc uv ub DU) (hu : u.size ≤ 30) (hl : lookU f.users u = some (a, b)) : OpenedOk W sp u n action fb (denied a action) := by
  intro W' hb
  have P' := P.below hb
  have hkey := key_of hu
  obtain ⟨v, ps, hrun, hv⟩ := P'.U.look_ok law9 Try.underlying72 (zeroO _) (zd := .agg [.lit (.int .i64 0), .lit (.int .i64 0)]) (zp := []) rfl hkey
  have hh : Maps.has DU (.string u.data.toList) = true := by rw [P'.mU.has, look_users, hl]; rfl
  have hat : DU.atKey (.string u.data.toList) (.agg [.lit (.int .i64 0), .lit (.int .i64 0)]) = .agg [.lit (.int .i64 a), .lit (.int .i64 b)] := by rw [P'.mU.at_, look_users, hl]; rfl
  rw [hat] at hv
  obtain rfl := Ro_at hv
  rw [hh] at hrun
  have c9 : W'.cell? ⟨fb, 9, none⟩ = some (.map (some ub)) := (blk_cell P'.F 9).trans rfl
  have CF := Aside0.mk (HF W' hb)
  clear HF P P' hb hh hv hl hat
  unfold denied
  by_cases h0 : bits .and .i64 a action = 0
  · have h0' : (bits .and .i64 a action == 0) = true := by simpa using h0
    rw [if_pos h0]
    clear h0
    go_enter Try.func39, Try.ntmps39
    go_wp2_with first | (go_at_call 35; refine CF.out.mono ?_; rintro e w' ⟨rfl, rfl⟩)
    go_ret3
    exact ⟨rfl, (Below.refl _ _).alloc (Nat.le_refl _) _⟩
  · have h0' : (bits .and .i64 a action == 0) = false := by simpa using h0
    rw [if_neg h0]
    clear h0
    go_enter Try.func39, Try.ntmps39
    go_wp2_with first | (go_at_call 35; refine CF.out.mono ?_; rintro e w' ⟨rfl, rfl⟩)
    go_ret3
    exact ⟨rfl, (Below.refl _ _).alloc (Nat.le_refl _) _⟩
theorem unit_neg (sp : Value) (u n : ByteArray) (at_ action : Int) (W : World) (h : at_ < 0) : UnitErr W sp u n at_ action 1 := by
  refine ⟨by decide, fun W' hb => ?_⟩
  have h0 : decide (at_ < 0) = true := decide_eq_true h
  clear hb h
  go_enter Try.func46, Try.ntmps46
  go_wp2
  go_ret3
  exact ⟨_, rfl, Below.refl _ _⟩
theorem unit_err (sp : Value) (u n : ByteArray) (at_ action E : Int) (W : World) (h : 0 ≤ at_) (HO : OpenedErr W sp u n action E) : UnitErr W sp u n at_ action E := by
  obtain ⟨hE, ho⟩ := HO
  refine ⟨hE, fun W' hb => ?_⟩
  have h0 : decide (at_ < 0) = false := decide_eq_false (by omega)
  have hE' : (E == 0) = false := by simpa using hE
  have CO := Aside0.mk (ho W' hb)
  clear hb h ho hE
  go_enter Try.func46, Try.ntmps46
  go_wp2_with first | (go_at_call 39; refine CO.out.mono ?_; rintro e w2 ⟨rfl, hb2⟩)
  go_ret3
  exact ⟨_, rfl, hb2⟩
theorem unit_none (sp : Value) (u n : ByteArray) (at_ action dn : Int) (W : World) (ok : Nat → Prop) (fb rc ub : Nat) (f : AF) (A : Option Addr) (uv : Value) (DU : DataW Unit) (HO : OpenedOk W sp u n action fb dn) (P : FileParts W ok fb f A rc uv ub DU) (h : (f.units.length : Int) ≤ at_) : UnitErr W sp u n at_ action 3 := by
  refine ⟨by decide, fun W' hb => ?_⟩
  have P' := P.below hb
  obtain ⟨Au, cu, huv⟩ := Kd.R_slice P'.units
  have hlt := blk_lt P'.F
  have c8 : W'.cell? ⟨fb, 8, none⟩ = some (.slice Au f.units.length cu) := (blk_cell P'.F 8).trans (by rw [huv]; rfl)
  have h0 : decide (at_ < 0) = false := decide_eq_false (by omega)
  have h1 : decide ((f.units.length : Int) ≤ at_) = true := decide_eq_true h
  have CO := Aside0.mk (HO W' hb)
  clear hb h HO P P' huv
  go_enter Try.func46, Try.ntmps46
  go_wp2_with first | (go_at_call 39; refine CO.out.mono ?_; rintro e w2 ⟨rfl, hb2⟩; have d8 := (hb2.cell (p := ⟨fb, 8, none⟩) hlt).trans c8)
  go_ret3
  exact ⟨_, rfl, hb2⟩
theorem unit_ok (sp : Value) (u n : ByteArray) (at_ action dn : Int) (W : World) (ok : Nat → Prop) (fb rc ub : Nat) (f : AF) (A : Option Addr) (uv : Value) (DU : DataW Unit) (HO : OpenedOk W sp u n action fb dn) (P : FileParts W ok fb f A rc uv ub DU) (h0 : 0 ≤ at_) (h : at_ < (f.units.length : Int)) : UnitOk W sp u n at_ action fb dn := by
  intro W' hb
  have P' := P.below hb
  obtain ⟨Au, cu, huv⟩ := Kd.R_slice P'.units
  have hlt := blk_lt P'.F
  have c8 : W'.cell? ⟨fb, 8, none⟩ = some (.slice Au f.units.length cu) := (blk_cell P'.F 8).trans (by rw [huv]; rfl)
  have h0' : decide (at_ < 0) = false := decide_eq_false (by omega)
  have h1 : decide ((f.units.length : Int) ≤ at_) = false := decide_eq_false (by omega)
  have CO := Aside0.mk (HO W' hb)
  clear hb h h0 HO P P' huv
  go_enter Try.func46, Try.ntmps46
  go_wp2_with first | (go_at_call 39; refine CO.out.mono ?_; rintro e w2 ⟨rfl, hb2⟩; have d8 := (hb2.cell (p := ⟨fb, 8, none⟩) hlt).trans c8)
  go_ret3
  exact ⟨rfl, hb2⟩
end Go.Proofs.Ytehlmkgldcfciaa.Files
