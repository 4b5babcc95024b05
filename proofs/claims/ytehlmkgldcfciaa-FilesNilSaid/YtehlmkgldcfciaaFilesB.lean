/- The file store: who may do what; Open. -/
import Derived.Test.YtehlmkgldcfciaaFilesA
import Derived.Test.YtehlmkgldcfciaaFx0
import Derived.Test.YtehlmkgldcfciaaFx2
import Derived.BigQuiet
set_option linter.unusedVariables false
set_option linter.unusedSimpArgs false
namespace Go.Proofs.Ytehlmkgldcfciaa.Files
open Go.Proofs.Ytehlmkgldcfciaa.Common Go.Maps Go.ChangeMaps Go.WideMaps Go.Proofs.Ytehlmkgldcfciaa.F
open Go.RowKit Go.Proofs.YtehlmkgldcfciaaW.PrintWords Go.Proofs.YtehlmkgldcfciaaW.PrintLast Go.Proofs.YtehlmkgldcfciaaW.PrintMore
/-- What a rule says of a user. -/
def ruleOf (u : ByteArray) (x : S34) : Bool := decide (x.f0 = u) || decide (x.f0 = ⟨#[42]⟩)
theorem beq_yes (a : ByteArray) : (a.toList == a.toList) = true := by simp
theorem beq_no {a b : ByteArray} (h : a ≠ b) : (a.toList == b.toList) = false := by
  rw [beq_eq_false_iff_ne, ByteArray.toList_eq, ByteArray.toList_eq]
  intro e
  apply h
  cases a; cases b
  simpa using e
set_option maxRecDepth 100000 in
theorem may1_c (B : Nat) (u : ByteArray) (x : S34) (W : World) (cu : W.cell? ⟨B, 0, none⟩ = some (.string u)) :
    Calls Try.prog 56 #[.agg #[.string x.f0, .int .i64 x.f1], .pointer (some ⟨B, 0, none⟩)] W fun e w' => e = .returned (.bool (ruleOf u x)) ∧ Below W.heap.size W w' := by
  have hB : (W.alloc (.cells #[.string x.f0, .int .i64 x.f1] 34)).cell? ⟨B, 0, none⟩ = some (.string u) := Lib.cell?_alloc_some _ cu
  by_cases h1 : x.f0 = u
  · have hr : ruleOf u x = true := by simp [ruleOf, h1]
    have h1' : (x.f0.toList == u.toList) = true := by rw [h1]; exact beq_yes u
    rw [hr]
    clear cu hr h1
    go_enter Try.func56, Try.ntmps56
    go_wp2
    go_ret
    exact ⟨rfl, (Below.refl _ _).alloc (Nat.le_refl _) _⟩
  · have h1' := beq_no h1
    by_cases h2 : x.f0 = ⟨#[42]⟩
    · have hr : ruleOf u x = true := by simp [ruleOf, h2]
      have h2' : (x.f0.toList == [42]) = true := by rw [h2, ByteArray.toList_eq]; rfl
      rw [hr]
      clear cu hr h1 h2
      go_enter Try.func56, Try.ntmps56
      go_wp2
      go_ret
      exact ⟨by first | rfl | simp [*], (Below.refl _ _).alloc (Nat.le_refl _) _⟩
    · have hr : ruleOf u x = false := by simp [ruleOf, h1, h2]
      have h2' : (x.f0.toList == [42]) = false := by
        have := beq_no h2
        rw [ByteArray.toList_eq (⟨#[42]⟩ : ByteArray)] at this
        exact this
      rw [hr]
      clear cu hr h1
      go_enter Try.func56, Try.ntmps56
      go_wp2
      go_ret
      exact ⟨by first | rfl | simp [*], (Below.refl _ _).alloc (Nat.le_refl _) _⟩
/-- What a file lets a user do. -/
def mayB (F : FS) (rules : List S34) (u : ByteArray) (actions : Int) : Bool :=
  if bits .and .i64 F.perm actions = actions then
    (match rules.find? (ruleOf u) with
    | none => decide (u = F.owner)
    | some x => decide (bits .and .i64 x.f1 actions = actions))
  else false
theorem idx_find {α : Type} (p : α → Bool) : ∀ l : List α, ∃ r, idxM (fun x => some (p x)) l = some r ∧ ((r = -1 ∧ l.find? p = none) ∨ (∃ i : Nat, r = i ∧ i < l.length ∧ ∃ x, l[i]? = some x ∧ l.find? p = some x))
  | [] => ⟨-1, rfl, .inl ⟨rfl, rfl⟩⟩
  | x :: l => by
    obtain ⟨r, h1, h2⟩ := idx_find p l
    cases hp : p x with
    | true => exact ⟨0, by simp [idxM, hp], .inr ⟨0, rfl, by simp, x, rfl, by simp [List.find?, hp]⟩⟩
    | false =>
      refine ⟨if r < 0 then -1 else r + 1, by simp [idxM, hp, h1], ?_⟩
      rcases h2 with ⟨rfl, hn⟩ | ⟨i, rfl, hi, y, hy, hf⟩
      · exact .inl ⟨by simp, by simp [List.find?, hp, hn]⟩
      · exact .inr ⟨i + 1, by rw [if_neg (by omega)]; omega, by simp; omega, y, by simpa using hy, by simp [List.find?, hp, hf]⟩
set_option maxRecDepth 100000 in
set_option maxHeartbeats 2000000 in
theorem may_c (fb ub c : Nat) (F : FS) (A : Option Addr) (rules : List S34) (uv : Value) (u : ByteArray) (actions : Int) (W : World) (hF : FileAt W fb F (.slice A rules.length c) uv ub) (hr : Kd.C k34 W A rules.length rules) (hc : rules.length ≤ c) :
    Calls Try.prog 36 #[.pointer (some ⟨fb, 0, none⟩), .string u, .int .i64 actions] W fun e w' => e = .returned (.bool (mayB F rules u actions)) ∧ Below W.heap.size W w' := by
  have hlt : fb < W.heap.size := (Array.getElem?_eq_some_iff.1 hF).1
  have hcell : ∀ j v, (F.cells (.slice A rules.length c) uv ub)[j]? = some v → (W.alloc (.cells #[.string u] 9)).cell? ⟨fb, j, none⟩ = some v := fun j v h => Lib.cell?_alloc_some _ ((blk_cell hF j).trans h)
  have c2 : (W.alloc (.cells #[.string u] 9)).cell? ⟨fb, 2, none⟩ = some (.int .i64 F.perm) := hcell 2 _ rfl
  have c3 : (W.alloc (.cells #[.string u] 9)).cell? ⟨fb, 3, none⟩ = some (.string F.owner) := hcell 3 _ rfl
  have c7 : (W.alloc (.cells #[.string u] 9)).cell? ⟨fb, 7, none⟩ = some (.slice A rules.length c) := hcell 7 _ rfl
  clear hcell
  have hb0 : Below W.heap.size W (W.alloc (.cells #[.string u] 9)) := (Below.refl _ _).alloc (Nat.le_refl _) _
  have hcu : (W.alloc (.cells #[.string u] 9)).cell? ⟨W.heap.size, 0, none⟩ = some (.string u) := (Boxed.new W 9 (.string u)).cell
  have hsz : (W.alloc (.cells #[.string u] 9)).heap.size = W.heap.size + 1 := by simp
  by_cases hp : bits .and .i64 F.perm actions = actions
  · have hm : mayB F rules u actions = (match rules.find? (ruleOf u) with
      | none => decide (u = F.owner)
      | some x => decide (bits .and .i64 x.f1 actions = actions)) := if_pos hp
    obtain ⟨r, hi, hfind⟩ := idx_find (ruleOf u) rules
    have HI := Aside0.mk (files_Rule_55.calls 56 #[.pointer (some ⟨W.heap.size, 0, none⟩)] (enters_of Try.func56 (by kernel_rfl) rfl) (fun x => some (ruleOf u x)) A c rules r (W.alloc (.cells #[.string u] 9)) (Kd.C_below hr hb0) hc hi
      (fun W2 x cs b hb2 hk hx => by
        obtain rfl := Option.some.inj hx
        rw [k34_open hk]
        exact may1_c W.heap.size u x W2 ((hb2.cell (p := ⟨W.heap.size, 0, none⟩) (by rw [hsz]; exact Nat.lt_succ_self _)).trans hcu)))
    have hp' : (bits .and .i64 F.perm actions == actions) = true := by simpa using hp
    have HR := Aside0.mk (fun (w2 : World) (hb2 : Below (W.alloc (.cells #[.string u] 9)).heap.size (W.alloc (.cells #[.string u] 9)) w2) => Kd.C_below (Kd.C_below hr hb0) hb2)
    rw [hm]
    clear hm hr hF
    rcases hfind with ⟨rfl, hf⟩ | ⟨i, rfl, hil, x, hx, hf⟩
    · rw [hf]
      dsimp only
      have HX : Aside0 (∀ w2 : World, Below (W.alloc (.cells #[.string u] 9)).heap.size (W.alloc (.cells #[.string u] 9)) w2 → True) := ⟨fun _ _ => trivial⟩
      have hend : ∀ w2 : World, Below (W.alloc (.cells #[.string u] 9)).heap.size (W.alloc (.cells #[.string u] 9)) w2 → Below W.heap.size W w2.drew := fun w2 hb2 => (hb0.trans (hb2.mono (by rw [hsz]; exact Nat.le_succ _))).trans ⟨rfl, rfl, rfl, Nat.le_refl _, fun _ _ => rfl⟩
      by_cases ho : u = F.owner
      · have ho' : (u.toList == F.owner.toList) = true := by rw [ho]; exact beq_yes _
        rw [show (decide (u = F.owner)) = true from decide_eq_true ho]
        clear ho hp
        go_enter Try.func36, Try.ntmps36
        go_wp2_with (go_at_call 55; refine HI.out.mono ?_; rintro e w2 ⟨rfl, hb2⟩; have d3 := (hb2.cell (p := ⟨fb, 3, none⟩) (by rw [hsz]; exact Nat.lt_succ_of_lt hlt)).trans c3; have d7 := (hb2.cell (p := ⟨fb, 7, none⟩) (by rw [hsz]; exact Nat.lt_succ_of_lt hlt)).trans c7; have du := (hb2.cell (p := ⟨W.heap.size, 0, none⟩) (by rw [hsz]; exact Nat.lt_succ_self _)).trans hcu; have hx2 := HX.out w2 hb2)
        go_region
        go_wp2
        go_ret
        exact ⟨rfl, hend _ hb2⟩
      · have ho' := beq_no ho
        rw [show (decide (u = F.owner)) = false from decide_eq_false ho]
        clear ho hp
        go_enter Try.func36, Try.ntmps36
        go_wp2_with (go_at_call 55; refine HI.out.mono ?_; rintro e w2 ⟨rfl, hb2⟩; have d3 := (hb2.cell (p := ⟨fb, 3, none⟩) (by rw [hsz]; exact Nat.lt_succ_of_lt hlt)).trans c3; have d7 := (hb2.cell (p := ⟨fb, 7, none⟩) (by rw [hsz]; exact Nat.lt_succ_of_lt hlt)).trans c7; have du := (hb2.cell (p := ⟨W.heap.size, 0, none⟩) (by rw [hsz]; exact Nat.lt_succ_self _)).trans hcu; have hx2 := HX.out w2 hb2)
        go_region
        go_wp2
        go_ret
        exact ⟨rfl, hend _ hb2⟩
    · rw [hf]
      dsimp only
      have hilz : (i : Int) < (rules.length : Int) := by omega
      have HX : Aside0 (∀ w2 : World, Below (W.alloc (.cells #[.string u] 9)).heap.size (W.alloc (.cells #[.string u] 9)) w2 → ∃ ad, A = some ad ∧ w2.cell? ⟨(ad.add (i * 2)).block, (ad.add (i * 2)).off + 1, none⟩ = some (.int .i64 x.f1)) := ⟨fun w2 hb2 => by
        obtain ⟨ad, e1, _, h2⟩ := at_T34 (HR.out w2 hb2) (i : Int) (by omega) (by omega)
        rw [Int.toNat_natCast] at h2
        have e2 : rd_T34 rules (i : Int) = x := by simp [rd_T34, hx]
        rw [e2] at h2
        exact ⟨ad, e1, h2⟩⟩
      have hend : ∀ w2 : World, Below (W.alloc (.cells #[.string u] 9)).heap.size (W.alloc (.cells #[.string u] 9)) w2 → Below W.heap.size W w2 := fun w2 hb2 => hb0.trans (hb2.mono (by rw [hsz]; exact Nat.le_succ _))
      have hi0 : decide ((i : Int) < 0) = false := decide_eq_false (by omega)
      by_cases ho : bits .and .i64 x.f1 actions = actions
      · have ho' : (bits .and .i64 x.f1 actions == actions) = true := by simpa using ho
        rw [show decide (bits .and .i64 x.f1 actions = actions) = true from decide_eq_true ho]
        clear ho hp
        go_enter Try.func36, Try.ntmps36
        go_wp2_with (go_at_call 55; refine HI.out.mono ?_; rintro e w2 ⟨rfl, hb2⟩; have d3 := (hb2.cell (p := ⟨fb, 3, none⟩) (by rw [hsz]; exact Nat.lt_succ_of_lt hlt)).trans c3; have d7 := (hb2.cell (p := ⟨fb, 7, none⟩) (by rw [hsz]; exact Nat.lt_succ_of_lt hlt)).trans c7; have du := (hb2.cell (p := ⟨W.heap.size, 0, none⟩) (by rw [hsz]; exact Nat.lt_succ_self _)).trans hcu; obtain ⟨ad, rfl, hx2⟩ := HX.out w2 hb2)
        go_ret
        exact ⟨by first | rfl | simp [*], hend _ hb2⟩
      · have ho' : (bits .and .i64 x.f1 actions == actions) = false := by simpa using ho
        rw [show decide (bits .and .i64 x.f1 actions = actions) = false from decide_eq_false ho]
        clear ho hp
        go_enter Try.func36, Try.ntmps36
        go_wp2_with (go_at_call 55; refine HI.out.mono ?_; rintro e w2 ⟨rfl, hb2⟩; have d3 := (hb2.cell (p := ⟨fb, 3, none⟩) (by rw [hsz]; exact Nat.lt_succ_of_lt hlt)).trans c3; have d7 := (hb2.cell (p := ⟨fb, 7, none⟩) (by rw [hsz]; exact Nat.lt_succ_of_lt hlt)).trans c7; have du := (hb2.cell (p := ⟨W.heap.size, 0, none⟩) (by rw [hsz]; exact Nat.lt_succ_self _)).trans hcu; obtain ⟨ad, rfl, hx2⟩ := HX.out w2 hb2)
        go_ret
        exact ⟨by first | rfl | simp [*], hend _ hb2⟩
  · have hp' : (bits .and .i64 F.perm actions == actions) = false := by simpa using hp
    rw [show mayB F rules u actions = false from if_neg hp]
    clear hp hF hr
    go_enter Try.func36, Try.ntmps36
    go_wp2
    go_ret
    exact ⟨rfl, hb0⟩
theorem key_str {x : ByteArray} {kl : Lit} (h : keyOf Try.prog 9 (.string x) = some kl) : kl = .string x.data.toList ∧ x.size ≤ maxLen := by
  have h' := h
  simp only [keyOf, Try.underlying9, mapKey] at h'
  split at h'
  · rename_i hs
    injection h' with h'
    exact ⟨h'.symm, hs⟩
  · cases h'
theorem Ro_shape {v : Value} {y : DataW Unit × List MemPlace} (h : Ro v = some y) : ∃ p : Int × Int, v = .agg #[.int .i64 p.1, .int .i64 p.2] := by
  unfold Ro at h
  split at h
  · exact ⟨(_, _), rfl⟩
  · cases h
theorem key_shape {key : Value} {kl : Lit} (h : keyOf Try.prog 9 key = some kl) : ∃ x : ByteArray, key = .string x := by
  cases key <;> simp [keyOf, Try.underlying9, mapKey] at h
  exact ⟨_, rfl⟩
/-- Nobody's opening stands against these actions. -/
def Free (DU : DataW Unit) (actions exclusive : Int) : Prop := ∀ (l : List UInt8) (a b : Int), (∀ zd, DU.atKey (.string l) zd = .agg [.lit (.int .i64 a), .lit (.int .i64 b)]) → bits .and .i64 b actions = 0 ∧ bits .and .i64 exclusive a = 0
/-- How Open may end. -/
def OpenEnd (W : World) (ub k2 : Nat) (DU : DataW Unit) (u : ByteArray) (actions exclusive : Int) (e : Ending) (w' : World) : Prop :=
  (e = .returned (.int .i64 0) ∧ Free DU actions exclusive ∧ w'.ownsMap Try.prog 9 Ro ub (k2 + 1) (DU.put (.string u.data.toList) (.agg [.lit (.int .i64 actions), .lit (.int .i64 exclusive)])) ∧ ∃ w3, Below W.heap.size W w3 ∧ w3.mapTurned w' ub) ∨
      (e = .returned (.int .i64 12) ∧ ¬ Free DU actions exclusive ∧ Below W.heap.size W w')
set_option maxRecDepth 100000 in
set_option maxHeartbeats 4000000 in
theorem Open_c (sb mb k fb ub k2 c : Nat) (D DU : DataW Unit) (F : FS) (A : Option Addr) (rules : List S34) (uv : Value) (u n : ByteArray) (actions exclusive : Int) (W : World) (c0 : W.cell? ⟨sb, 0, none⟩ = some (.map (some mb))) (hown : W.ownsMap Try.prog 9 Rp mb k D)
    (hu : 1 ≤ u.size ∧ u.size ≤ 20) (hn : 1 ≤ n.size ∧ n.size ≤ 30) (hD : D.atKey (.string n.data.toList) .nil = .lit (.int .i64 (fb : Nat))) (hF : FileAt W fb F (.slice A rules.length c) uv ub) (hU : W.ownsMap Try.prog 9 Ro ub k2 DU) (hk2 : k2 < 1000)
    (hr : Kd.C k34 W A rules.length rules) (hc : rules.length ≤ c) (hact : 0 ≤ actions ∧ actions ≤ 255) (hexc : 0 ≤ exclusive ∧ exclusive ≤ 255) (hsub : bits .andNot .i64 exclusive actions = 0)
    (hhas : Maps.has DU (.string u.data.toList) = false) (hmay : mayB F rules u actions = true) :
    Calls Try.prog 13 #[.pointer (some ⟨sb, 0, none⟩), .string u, .string n, .int .i64 actions, .int .i64 exclusive] W (OpenEnd W ub k2 DU u actions exclusive) := by
  have hkey := key_of (s := u) (by omega)
  obtain ⟨v, ps, hrun, hv⟩ := hU.look_ok law9 Try.underlying72 (zeroO _) (zd := .agg [.lit (.int .i64 0), .lit (.int .i64 0)]) (zp := []) rfl hkey
  rw [atKey_of_not_has hhas] at hv
  obtain rfl := Ro_at hv
  rw [hhas] at hrun
  have hlt : fb < W.heap.size := (Array.getElem?_eq_some_iff.1 hF).1
  have c9 : W.cell? ⟨fb, 9, none⟩ = some (.map (some ub)) := (blk_cell hF 9).trans rfl
  have CF := Aside0.mk (found_c sb mb k fb D u n W c0 hown hu hn hD)
  have CA := Aside0.mk (set_c actions W)
  have CE := Aside0.mk (set_c exclusive W)
  rw [show (decide (0 ≤ actions) && decide (actions ≤ 255)) = true by simp [hact.1, hact.2]] at CA
  rw [show (decide (0 ≤ exclusive) && decide (exclusive ≤ 255)) = true by simp [hexc.1, hexc.2]] at CE
  have hb1 : Below W.heap.size W (W.alloc (.cells #[.int .i64 0, .int .i64 0] 78)) := (Below.refl _ _).alloc (Nat.le_refl _) _
  have CM := Aside0.mk (may_c fb ub c F A rules uv u actions (W.alloc (.cells #[.int .i64 0, .int .i64 0] 78)) ((hb1.block fb hlt).trans hF) (Kd.C_below hr hb1) hc)
  rw [hmay] at CM
  have hsz : (W.alloc (.cells #[.int .i64 0, .int .i64 0] 78)).heap.size = W.heap.size + 1 := by simp
  have HU := Aside0.mk hU
  have hul : ub < W.heap.size := hU.lt
  clear hF hr hU hown
  go_enter Try.func13, Try.ntmps13
  go_wp2_with first | (go_at_call 35; refine CF.out.mono ?_; rintro e w' ⟨rfl, rfl⟩) | (go_at_call 34; first | (refine CA.out.mono ?_; rintro e w' ⟨rfl, rfl⟩) | (refine CE.out.mono ?_; rintro e w' ⟨rfl, rfl⟩)) | (go_at_call 36; refine CM.out.mono ?_; rintro e w2 ⟨rfl, hb2⟩; have d9 := (hb2.cell (p := ⟨fb, 9, none⟩) (by rw [hsz]; exact Nat.lt_succ_of_lt hlt)).trans ((hb1.cell (p := ⟨fb, 9, none⟩) hlt).trans c9)) | (at_range; refine wpList_range_own _ rfl _ 72 rfl 9 78 law9 Try.underlying72 _ ub k2 DU rfl ((HU.out.alloc _).kept (row := none) ⟨hb2.os, hb2.tape, hb2.output, hb2.size, fun i hi _ => hb2.block i hi⟩ (by simp)) ?_; intro w3 hrg3 hg3 hs3)
  have hb3 : Below W.heap.size W w3 := (hb1.trans (hb2.mono (by rw [hsz]; exact Nat.le_succ _))).grown hg3 (by have := hb2.size; rw [hsz] at this; omega) (fun k e => by cases e)
  have hszw : W.heap.size ≤ w2.heap.size := by have := hb2.size; rw [hsz] at this; omega
  clear hrun hmay hhas CF CA CE CM hb2 hg3
  go_frame
  go_loopw [61] (fun _ wr => ∃ (left : Lit → Bool) (cnt : Nat), wr.ranges Try.prog 9 Ro ub w2.heap.size k2 DU left cnt ∧ Below W.heap.size W wr ∧
      ∀ (l : List UInt8) (a b : Int), left (.string l) = false → (∀ zd, DU.atKey (.string l) zd = .agg [.lit (.int .i64 a), .lit (.int .i64 b)]) → bits .and .i64 b actions = 0 ∧ bits .and .i64 exclusive a = 0)
    (fun _ wr => wr.rangeLeft ub w2.heap.size)
  case atStart => exact ⟨_, _, hrg3, hb3, fun l a b hl hz => absurd (has_true_of_atKey hz) (by rw [hl]; simp)⟩
  case round =>
    clear hrg3 hb3 hs3
    obtain ⟨left, cnt, hrg, hbw, hfree⟩ := hrel
    have HF := Aside0.mk hfree
    clear hfree
    go_wp2_with first | (at_next; refine wpList_next_ranges _ rfl _ rfl 9 law9 Ro Value.string (fun p : Int × Int => .agg #[.int .i64 p.1, .int .i64 p.2]) (fun key kl h => key_shape h) (fun v y h => Ro_shape h) ub w2.heap.size k2 DU left cnt rfl hrg ?_ ?_)
    · intro _ hl0
      have hfr : Free DU actions exclusive := fun l a b hz => HF.out l a b (hl0 _) hz
      have d9 : wr.cell? ⟨fb, 9, none⟩ = some (.map (some ub)) := (hbw.cell (p := ⟨fb, 9, none⟩) hlt).trans c9
      have hownr := hrg.owns
      go_wp2_with first | (at_mapUpdate; refine wpList_mapUpdate_in _ rfl _ _ _ 72 rfl 9 78 law9 Try.underlying72 _ ub k2 DU rfl hownr (by unfold maxLen; omega) _ _ _ rfl rfl hkey (.agg [.lit (.int .i64 actions), .lit (.int .i64 exclusive)]) [] rfl ?_; intro w4 hown4 hturn4)
      go_ret
      exact .inl ⟨rfl, hfr, hown4, wr, hbw, hturn4⟩
    · intro x ca cb kl y1 y2 w4 cnt4 hkx hlk hvy hat hrg4 hlt4 hgr4 hsz4 hen
      obtain ⟨rfl, hxs⟩ := key_str hkx
      have hy : (y1, y2) = (.agg [.lit (.int .i64 ca), .lit (.int .i64 cb)], []) := (Option.some.inj hvy).symm
      obtain ⟨rfl, rfl⟩ := Prod.mk.inj hy
      have hb4 : Below W.heap.size W w4 := hbw.grown hgr4 hbw.size (fun k e => by cases e; exact hszw)
      by_cases h1 : bits .and .i64 cb actions = 0
      · have h1' : (bits .and .i64 cb actions == 0) = true := by simpa using h1
        by_cases h2 : bits .and .i64 exclusive ca = 0
        · have h2' : (bits .and .i64 exclusive ca == 0) = true := by simpa using h2
          have HN := Aside0.mk (show ∀ (l : List UInt8) (a b : Int), (left (.string l) && !(Lit.string l).sameKey (.string x.data.toList)) = false → (∀ zd, DU.atKey (.string l) zd = .agg [.lit (.int .i64 a), .lit (.int .i64 b)]) → bits .and .i64 b actions = 0 ∧ bits .and .i64 exclusive a = 0 from fun l a b hl hz => by
            rcases Bool.and_eq_false_iff.1 hl with hl | hl
            · exact HF.out l a b hl hz
            · have hs : (Lit.string l).sameKey (.string x.data.toList) = true := by simpa using hl
              have := WideAt.sameKey_eq hs
              injection this with this
              subst this
              have e := (hz .nil).symm.trans (hat .nil)
              simp only [DataW.agg.injEq, List.cons.injEq, DataW.lit.injEq, Lit.int.injEq, true_and, and_true] at e
              rw [e.1, e.2]
              exact ⟨h1, h2⟩)
          clear HF hat hvy hkx
          go_wp2
          go_roundw
          case rel => exact ⟨_, cnt4, hrg4.alloc _, hb4.alloc hb4.size _, HN.out⟩
          case measure => rw [(hrg4.alloc _).left_eq, hrg.left_eq]; exact hlt4
        · have h2' : (bits .and .i64 exclusive ca == 0) = false := by simpa using h2
          have hnf : ¬ Free DU actions exclusive := fun hf => h2 (hf x.data.toList ca cb hat).2
          clear HF hat hvy hkx
          go_wp2
          go_ret
          exact .inr ⟨rfl, hnf, hb4.alloc hb4.size _⟩
      · have h1' : (bits .and .i64 cb actions == 0) = false := by simpa using h1
        have hnf : ¬ Free DU actions exclusive := fun hf => h1 (hf x.data.toList ca cb hat).1
        clear HF hat hvy hkx
        go_wp2
        go_ret
        exact .inr ⟨rfl, hnf, hb4.alloc hb4.size _⟩
end Go.Proofs.Ytehlmkgldcfciaa.Files
