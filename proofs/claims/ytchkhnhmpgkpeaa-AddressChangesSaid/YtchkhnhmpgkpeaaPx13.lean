-- Written by this repo's wip/tools/myprint.py (the kit's print program, with contracts of our own beside). Lean checks it.
import Derived.Test.YtchkhnhmpgkpeaaPx0
namespace Go.Proofs.Ytchkhnhmpgkpeaa.P
open Go.Proofs.Ytchkhnhmpgkpeaa.Common
open Go.RowKit Go.Proofs.YtchkhnhmpgkpeaaW.PrintWords Go.Proofs.YtchkhnhmpgkpeaaW.PrintLast Go.Proofs.YtchkhnhmpgkpeaaW.PrintMore
attribute [local go_sem] max2_int min2_int max_two min_two max_three min_three max_four min_four   -- for this text's walks alone
set_option linter.unusedVariables false
set_option linter.unusedSimpArgs false

open List (setIfInBounds_toArray set_cons_zero set_cons_succ)
def tb13 (n b : Nat) : Array Bool := ((List.range n).map fun i => b.testBit i).toArray
/-! ### address_Entry_41: function 41 (a contract of our own) -/
/-- The search's loop: the place between i and j; q says how an element stands to what is sought. -/
def address_Entry_41.l0 (q : S28 → Option Int) (t : List S28) : Nat → Nat → Nat → Option Nat
  | 0, _, _ => none
  | m + 1, i, j => if i < j then (q (t.getD ((i + j) / 2) z28)).bind fun c => if c < 0 then address_Entry_41.l0 q t m ((i + j) / 2 + 1) j else address_Entry_41.l0 q t m i ((i + j) / 2) else some i
def address_Entry_41.f (q : S28 → Option Int) (t : List S28) : Option (Int × Bool) := (address_Entry_41.l0 q t (t.length + 1) 0 t.length).bind fun i => if i < t.length then (q (t.getD i z28)).bind fun c => some ((i : Int), decide (c = 0)) else some ((i : Int), false)
theorem address_Entry_41.mono_l {q q' : S28 → Option Int} (h : ∀ x, LeO (q x) (q' x)) (t : List S28) : ∀ m i j, LeO (address_Entry_41.l0 q t m i j) (address_Entry_41.l0 q' t m i j)
  | 0, _, _ => LeO.refl _
  | m + 1, i, j => by
    rw [address_Entry_41.l0, address_Entry_41.l0]
    exact LeO.ite (LeO.bind (h _) (fun c => LeO.ite (address_Entry_41.mono_l h t m _ _) (address_Entry_41.mono_l h t m _ _))) (LeO.refl _)
theorem address_Entry_41.mono {q q' : S28 → Option Int} (h : ∀ x, LeO (q x) (q' x)) (t : List S28) : LeO (address_Entry_41.f q t) (address_Entry_41.f q' t) := by
  unfold address_Entry_41.f
  exact LeO.bind (address_Entry_41.mono_l h t _ _ _) (fun i => LeO.ite (LeO.bind (h _) (fun _ => LeO.refl _)) (LeO.refl _))
theorem address_Entry_41.range_l {q : S28 → Option Int} {t : List S28} {p : Nat} : ∀ m i j, address_Entry_41.l0 q t m i j = some p → i ≤ j → p ≤ j
  | 0, i, j, h, _ => by simp [address_Entry_41.l0] at h
  | m + 1, i, j, h, hij => by
    rw [address_Entry_41.l0] at h
    split at h
    · obtain ⟨c, _, h⟩ := Option.bind_eq_some_iff.1 h
      split at h
      · exact address_Entry_41.range_l m _ _ h (by omega)
      · exact Nat.le_trans (address_Entry_41.range_l m _ _ h (by omega)) (by omega)
    · injection h with h
      omega
theorem address_Entry_41.range {q : S28 → Option Int} {t : List S28} {r1 : Int} {r2 : Bool} (h : address_Entry_41.f q t = some (r1, r2)) : ∃ p : Nat, r1 = p ∧ p ≤ t.length := by
  obtain ⟨p, hp, h⟩ := Option.bind_eq_some_iff.1 h
  refine ⟨p, ?_, address_Entry_41.range_l _ _ _ hp (Nat.zero_le _)⟩
  split at h
  · obtain ⟨c, _, h⟩ := Option.bind_eq_some_iff.1 h
    injection h with h
    injection h with h _
    exact h.symm
  · injection h with h
    injection h with h _
    exact h.symm
theorem address_Entry_41.mid {i j : Nat} (h : i + j < 4611686018427387904) : wrap64 (IntKind.u64.wrap (wrap64 ((i : Int) + (j : Int))) / 2) = (((i + j) / 2 : Nat) : Int) := by
  simp [wrap64, IntKind.wrap, IntKind.bits, IntKind.signed]
  omega
theorem address_Entry_41.mid1 {i : Nat} (h : i + 1 < 4611686018427387904) : wrap64 ((i : Int) + 1) = ((i + 1 : Nat) : Int) := by
  simp [wrap64, IntKind.wrap, IntKind.bits, IntKind.signed]
  omega
def address_Entry_41.T8 : Bool × List (List Nat × List Nat) := (true, [([], []), ([], []), ([], []), ([1, 2], [1, 2]), ([3], [3]), ([4], [4]), ([4], [4]), ([4], [4]), ([6, 7, 4], [4, 6, 7]), ([8, 4], [4, 8]), ([4], [4]), ([5, 9, 10, 4, 4], [4, 5, 9, 10]), ([11, 4], [4, 11]), ([4, 12], [4, 12]), ([0, 11, 0], [0]), ([13, 14, 0, 1, 2, 3, 4, 5, 6, 7, 8, 9, 10, 11, 12, 13, 14], [13])])
def address_Entry_41.B8 : List Nat := [0, 0, 0, 6, 14, 30, 30, 30, 222, 478, 30, 2046, 4094, 8190, 4095, 32767]
theorem address_Entry_41.tab8 : rtab .any (opsOf Try.f41 8) = address_Entry_41.T8 := by kernel_rfl
theorem address_Entry_41.bits8 : waitsOk address_Entry_41.T8.2 address_Entry_41.B8 = true := by kernel_rfl
set_option maxHeartbeats 1000000 in
set_option maxRecDepth 100000 in
theorem address_Entry_41.calls (q : S28 → Option Int) (A0 : Option Addr) (c0 : Nat) (l0 : List S28) (A1 : Option Addr) (c1 : Nat) (y : S28) (r1 : Int) (r2 : Bool) (w : World) (hr0 : Kd.C k28 w A0 l0.length l0) (hc0 : l0.length ≤ c0) (hlim : l0.length * 32 ≤ 140737488355328) (h : address_Entry_41.f q l0 = some (r1, r2))
    (hp : ∀ W (x : S28) (cs : List Value) (c : Int), Below w.heap.size w W → k28.K W x cs → q x = some c → Calls Try.prog 42 #[.agg cs.toArray, .agg #[.slice A1 y.f0.length c1, .int .i64 y.f1]] W fun e w' => e = .returned (.int .i64 c) ∧ Below W.heap.size W w') :
    Calls Try.prog 41 #[.slice A0 l0.length c0, .agg #[.slice A1 y.f0.length c1, .int .i64 y.f1], .func (.func 42) #[] #[]] w fun e w' => e = .returned (.tuple #[.int .i64 r1, .bool r2]) ∧ Below w.heap.size w w' := by
  have hu28 := Try.underlying28
  obtain ⟨p, hl, h⟩ := Option.bind_eq_some_iff.1 h
  have HR0 := Aside0.mk hr0
  have HP := Aside0.mk hp
  have HL := Aside0.mk hl
  have HLIM := Aside0.mk hlim
  have H := Aside0.mk h
  have HB0 := Aside0.mk (show Below w.heap.size w (w.alloc (.cells #[Value.slice A1 y.f0.length c1, Value.int IntKind.i64 y.f1] 28)) from (Below.refl _ _).alloc (Nat.le_refl _) _)
  clear hr0 hc0 hp hl hlim h
  go_enter Try.func41, Try.ntmps41
  go_wp2
  have HX0 := Aside0.mk ((blk_cell (heap_alloc_new w (.cells #[Value.slice A1 y.f0.length c1, Value.int IntKind.i64 y.f1] 28)) 0).trans (show _ = some (Value.slice A1 y.f0.length c1) from rfl))
  have HX1 := Aside0.mk ((blk_cell (heap_alloc_new w (.cells #[Value.slice A1 y.f0.length c1, Value.int IntKind.i64 y.f1] 28)) 1).trans (show _ = some (Value.int IntKind.i64 y.f1) from rfl))
  go_loopg [9, 10, 11] (l0.length + 1) (fun gg s9 s10 _ wr => ∃ i j : Nat, Aside0 (address_Entry_41.l0 q l0 gg i j = some p) ∧ s9 = .int .i64 i ∧ s10 = .int .i64 j ∧ Aside0 (j ≤ l0.length) ∧ Aside0 (Below w.heap.size w wr) ∧ Aside0 (w.heap.size < wr.heap.size) ∧
    wr.cell? ⟨w.heap.size, 0, none⟩ = some (.slice A1 y.f0.length c1) ∧ wr.cell? ⟨w.heap.size, 1, none⟩ = some (.int .i64 y.f1))
  case atStart => exact ⟨0, l0.length, HL, rfl, rfl, ⟨Nat.le_refl _⟩, HB0, ⟨by simp⟩, HX0.out, HX1.out⟩
  case round =>
    clear HL HB0 HX0 HX1
    obtain ⟨i, j, HI, rfl, rfl, HJ, HD, HLT, hx0, hx1⟩ := hrel
    by_cases hlt : i < j
    · have hltz : (i : Int) < (j : Int) := by omega
      cases gk with
      | zero => exact absurd HI.out (by simp [address_Entry_41.l0])
      | succ m =>
        have h := HI.out
        rw [address_Entry_41.l0, if_pos hlt] at h
        obtain ⟨c, hc, h⟩ := Option.bind_eq_some_iff.1 h
        have HC := Aside0.mk hc
        have HN := Aside0.mk h
        clear h hc HI
        go_wp2
        rw [address_Entry_41.mid (by have := HJ.out; have := HLIM.out; omega)]
        have hml : (i + j) / 2 < l0.length := by have := HJ.out; omega
        have hmz : (((i + j) / 2 : Nat) : Int) < (l0.length : Int) := by omega
        have hrd : rd_T28 l0 (((i + j) / 2 : Nat) : Int) = l0.getD ((i + j) / 2) z28 := by rw [rd_T28, Int.toNat_natCast]
        obtain ⟨ad, A_0, c_0, e1, hx_0, hx_1, hl_0, hi_0⟩ := at_T28 (Kd.C_below HR0.out HD.out) (((i + j) / 2 : Nat) : Int) (by omega) hmz
        cases e1
        rw [hrd] at hx_0 hx_1 hl_0 hi_0
        rw [Int.toNat_natCast] at hx_0 hx_1
        have HC2 := HC.out
        have HMID : Aside0 (i ≤ (i + j) / 2 ∧ (i + j) / 2 < j) := ⟨by omega, by omega⟩
        generalize (i + j) / 2 = mm at HN HC2 HMID hml hmz hrd hx_0 hx_1 hl_0 hi_0 ⊢
        generalize l0.getD mm z28 = x at HC2 hx_0 hx_1 hl_0 hi_0
        have HKX := Aside0.mk (k28_mk wr x hl_0 hi_0)
        have HQ := Aside0.mk HC2
        clear hrd hl_0 hi_0 HC2 HC hlt hltz
        go_region_with (first
          | (go_at_call 42; go_loud (refine (HP.out _ x [.slice A_0 x.f0.length c_0, .int .i64 x.f1] c ?b1 ?k1 HQ.out).mono ?_; (case b1 => repeat (first | exact HD.out | apply below_drew1)); (case k1 => exact k28.K_below (show Below wr.heap.size wr wr.drew from below_drew1 (Below.refl _ _)) HKX.out); rintro e w1 ⟨rfl, hb⟩; have HB1 := Aside0.mk hb; clear hb)))
        all_goals
          have HB2 : Aside0 (Below w.heap.size w w1) := ⟨(below_drew1 HD.out).trans (HB1.out.mono (by have := HLT.out; show w.heap.size ≤ wr.drew.heap.size; simp; omega))⟩
          have hz0 : w1.cell? ⟨w.heap.size, 0, none⟩ = some (.slice A1 y.f0.length c1) := (HB1.out.cell (p := ⟨w.heap.size, 0, none⟩) (by simpa using HLT.out)).trans hx0
          have hz1 : w1.cell? ⟨w.heap.size, 1, none⟩ = some (.int .i64 y.f1) := (HB1.out.cell (p := ⟨w.heap.size, 1, none⟩) (by simpa using HLT.out)).trans hx1
          have HLT2 : Aside0 (w.heap.size < w1.heap.size) := ⟨by have h1 := HB1.out.size; have h2 := HLT.out; simp at h1; omega⟩
          clear HB1 HKX HQ hx_0 hx_1 hx0 hx1 HLT HD hml hmz
          by_cases hneg : c < 0
          · have hnd : decide (c < 0) = true := decide_eq_true hneg
            have HN2 : Aside0 (address_Entry_41.l0 q l0 m (mm + 1) j = some p) := ⟨by have := HN.out; rwa [if_pos hneg] at this⟩
            have hw1 : wrap64 ((mm : Int) + 1) = ((mm + 1 : Nat) : Int) := address_Entry_41.mid1 (by have h1 := HMID.out; have h2 := HJ.out; have h3 := HLIM.out; omega)
            clear HN
            go_wp2
            go_roundg m
            case measure => exact Nat.lt_succ_self _
            case rel => exact ⟨mm + 1, j, HN2, by rw [hw1], rfl, HJ, HB2, HLT2, hz0, hz1⟩
          · have hnd : decide (c < 0) = false := decide_eq_false hneg
            have HN2 : Aside0 (address_Entry_41.l0 q l0 m i mm = some p) := ⟨by have := HN.out; rwa [if_neg hneg] at this⟩
            clear HN
            go_wp2
            go_roundg m
            case measure => exact Nat.lt_succ_self _
            case rel => exact ⟨i, mm, HN2, rfl, rfl, ⟨by have := HJ.out; have := HMID.out; omega⟩, HB2, HLT2, hz0, hz1⟩
    · have hltz : ¬ (i : Int) < (j : Int) := by omega
      have HP2 : Aside0 (p = i) := ⟨by
        have h := HI.out
        cases gk with
        | zero => simp [address_Entry_41.l0] at h
        | succ m => rw [address_Entry_41.l0, if_neg hlt] at h; exact (Option.some.inj h).symm⟩
      clear HI hlt
      obtain rfl : p = i := HP2.out
      clear HP2
      go_wp2
      by_cases hend : p < l0.length
      · have hendz : (p : Int) < (l0.length : Int) := by omega
        have h := H.out
        rw [if_pos hend] at h
        obtain ⟨c, hc, h⟩ := Option.bind_eq_some_iff.1 h
        injection h with h
        injection h with h1 h2
        subst h1 h2
        clear H
        have hrd : rd_T28 l0 (p : Int) = l0.getD p z28 := by rw [rd_T28, Int.toNat_natCast]
        obtain ⟨ad, A_0, c_0, e1, hx_0, hx_1, hl_0, hi_0⟩ := at_T28 (Kd.C_below HR0.out HD.out) (p : Int) (by omega) hendz
        cases e1
        rw [hrd] at hx_0 hx_1 hl_0 hi_0
        rw [Int.toNat_natCast] at hx_0 hx_1
        generalize l0.getD p z28 = x at hc hx_0 hx_1 hl_0 hi_0
        have HKX := Aside0.mk (k28_mk wr x hl_0 hi_0)
        have HQ := Aside0.mk hc
        clear hrd hl_0 hi_0 hc
        have HWD := Aside0.mk (show Below w.heap.size w wr.drew from below_drew1 HD.out)
        replace HKX := Aside0.mk (k28.K_below (show Below wr.heap.size wr wr.drew from below_drew1 (Below.refl _ _)) HKX.out)
        refine start_ (n := 16) (S := fun w' => w'.cell? (ad.add (p * 2)) = some (.slice A_0 x.f0.length c_0) ∧ w'.cell? ⟨(ad.add (p * 2)).block, (ad.add (p * 2)).off + 1, none⟩ = some (.int .i64 x.f1) ∧ w'.cell? ⟨w.heap.size, 0, none⟩ = some (.slice A1 y.f0.length c1) ∧ w'.cell? ⟨w.heap.size, 1, none⟩ = some (.int .i64 y.f1)) (ds := []) #[false, false, false, false, false, false, false, false, false, false, false, false, false, false, false, false] (by kernel_rfl) rfl rfl ⟨hx_0, hx_1, hx0, hx1⟩ (fun hHeld => ?_)
        refine with_tabW address_Entry_41.tab8 address_Entry_41.bits8 (fun HT_ HW_ => ?_)
        generalize wr.drew = wd at HWD HKX hHeld ⊢
        refine pure_ (i := 0) (N := some 35) (v := ?_) (a' := ?_) (tb13 16 1) rfl rfl (any_of HT_.out (by kernel_rfl)) (fun _ _ _ h => h) (Or.inl ⟨by rfl, ?_⟩) ?_ ?_
        rotate_left
        · intro w'
          go_simp
          with_reducible rfl
        rotate_left
        · simp only [Act.put, setIfInBounds_toArray, set_cons_zero, set_cons_succ, i64_w, i32_w]
          rfl
        refine pure_ (i := 1) (N := some 36) (v := ?_) (a' := ?_) (tb13 16 3) rfl rfl (any_of HT_.out (by kernel_rfl)) (fun _ _ _ h => h) (Or.inl ⟨by rfl, ?_⟩) ?_ ?_
        rotate_left
        · intro w'
          go_simp
          with_reducible rfl
        rotate_left
        · simp only [Act.put, setIfInBounds_toArray, set_cons_zero, set_cons_succ, i64_w, i32_w]
          rfl
        refine pure_ (i := 2) (N := some 37) (v := ?_) (a' := ?_) (tb13 16 7) rfl rfl (any_of HT_.out (by kernel_rfl)) (fun _ _ _ h => h) (Or.inl ⟨by rfl, ?_⟩) ?_ ?_
        rotate_left
        · intro w'
          go_simp
          with_reducible rfl
        rotate_left
        · simp only [Act.put, setIfInBounds_toArray, set_cons_zero, set_cons_succ, i64_w, i32_w]
          rfl
        refine pure_ (i := 3) (N := some 38) (v := ?_) (a' := ?_) (tb13 16 15) rfl rfl (any_of HT_.out (by kernel_rfl)) (fun _ _ _ h => h) (Or.inl ⟨by rfl, ?_⟩) ?_ ?_
        rotate_left
        · intro w'
          go_simp
          with_reducible rfl
        rotate_left
        · simp only [Act.put, setIfInBounds_toArray, set_cons_zero, set_cons_succ, i64_w, i32_w]
          rfl
        refine pure_ (i := 4) (N := some 39) (v := ?_) (a' := ?_) (tb13 16 31) rfl rfl (any_of HT_.out (by kernel_rfl)) (fun _ _ _ h => h) (Or.inl ⟨by rfl, ?_⟩) ?_ ?_
        rotate_left
        · intro w'
          go_simp
          with_reducible rfl
        rotate_left
        · simp only [Act.put, setIfInBounds_toArray, set_cons_zero, set_cons_succ, i64_w, i32_w]
          rfl
        refine pure_ (i := 5) (N := some 40) (v := ?_) (a' := ?_) (tb13 16 63) rfl rfl (any_of HT_.out (by kernel_rfl)) (fun _ _ _ h => h) (Or.inl ⟨by rfl, ?_⟩) ?_ ?_
        rotate_left
        · intro w'
          go_simp
          with_reducible rfl
        rotate_left
        · simp only [Act.put, setIfInBounds_toArray, set_cons_zero, set_cons_succ, i64_w, i32_w]
          rfl
        refine pure_ (i := 6) (N := some 41) (v := ?_) (a' := ?_) (tb13 16 127) rfl rfl (any_of HT_.out (by kernel_rfl)) (fun _ _ _ h => h) (Or.inl ⟨by rfl, ?_⟩) ?_ ?_
        rotate_left
        · intro w'
          go_simp
          with_reducible rfl
        rotate_left
        · simp only [Act.put, setIfInBounds_toArray, set_cons_zero, set_cons_succ, i64_w, i32_w]
          rfl
        refine pure_ (i := 7) (N := some 42) (v := ?_) (a' := ?_) (tb13 16 255) rfl rfl (any_of HT_.out (by kernel_rfl)) (fun _ _ _ h => h) (Or.inl ⟨by rfl, ?_⟩) ?_ ?_
        rotate_left
        · intro w'
          go_simp
          with_reducible rfl
        rotate_left
        · simp only [Act.put, setIfInBounds_toArray, set_cons_zero, set_cons_succ, i64_w, i32_w]
          rfl
        refine pure_ (i := 8) (N := some 43) (v := ?_) (a' := ?_) (tb13 16 511) rfl rfl (any_of HT_.out (by kernel_rfl)) (fun _ _ _ h => h) (Or.inl ⟨by rfl, ?_⟩) ?_ ?_
        rotate_left
        · intro w'
          go_simp
          with_reducible rfl
        rotate_left
        · simp only [Act.put, setIfInBounds_toArray, set_cons_zero, set_cons_succ, i64_w, i32_w]
          rfl
        refine take_ (i := 9) (N := some 44) (v := ?_) (a' := ?_) (tb13 16 1023) rfl rfl (take_ofW HT_.out HW_.out (by kernel_rfl)) (fun _ _ _ h => h) (Or.inl ⟨by rfl, ?_⟩) hHeld ?_ ?_
        rotate_left
        · rintro w' ⟨s0, s1, s2, s3⟩
          go_simp
          with_reducible rfl
        rotate_left
        · simp only [Act.put, setIfInBounds_toArray, set_cons_zero, set_cons_succ, i64_w, i32_w]
          rfl
        refine take_ (i := 10) (N := some 45) (v := ?_) (a' := ?_) (tb13 16 2047) rfl rfl (take_ofW HT_.out HW_.out (by kernel_rfl)) (fun _ _ _ h => h) (Or.inl ⟨by rfl, ?_⟩) hHeld ?_ ?_
        rotate_left
        · rintro w' ⟨s0, s1, s2, s3⟩
          go_simp
          with_reducible rfl
        rotate_left
        · simp only [Act.put, setIfInBounds_toArray, set_cons_zero, set_cons_succ, i64_w, i32_w]
          rfl
        refine one_ (i := 11) (N := some 46) (tb13 16 4095) rfl rfl (one_of HT_.out (by kernel_rfl)) (by decide) (fun K hK => ?_)
        refine call_ 42 #[.agg #[.slice A_0 x.f0.length c_0, .int .i64 x.f1], .agg #[.slice A1 y.f0.length c1, .int .i64 y.f1]] (by rfl) rfl ?_ ?_
        · have he := enters_ Try.func42 (by kernel_rfl) rfl #[Value.agg #[Value.slice A_0 x.f0.length c_0, .int .i64 x.f1], .agg #[Value.slice A1 y.f0.length c1, .int .i64 y.f1]] wd
          unfold execOp
          simp [resolve, Deferred.ofValue, invoke, Act.eval, he]
        refine (HP.out _ x [.slice A_0 x.f0.length c_0, .int .i64 x.f1] c HWD.out HKX.out HQ.out).mono ?_
        rintro e w1 ⟨rfl, hb⟩
        have HB1 := Aside0.mk hb
        clear hb
        refine ⟨_, rfl, ?_⟩
        refine hK.out _ _ ⟨(HB1.out.cell (World.block_lt_of_cell? wd _ hHeld.1)).trans hHeld.1, (HB1.out.cell (World.block_lt_of_cell? wd _ hHeld.2.1)).trans hHeld.2.1, (HB1.out.cell (World.block_lt_of_cell? wd _ hHeld.2.2.1)).trans hHeld.2.2.1, (HB1.out.cell (World.block_lt_of_cell? wd _ hHeld.2.2.2)).trans hHeld.2.2.2⟩ (fun hHeld => ?_)
        clear hK K
        refine norm_ (a' := ?_) ?_ ?_
        rotate_left
        · show Act.put _ (some 46) _ = _
          simp only [Act.put, setIfInBounds_toArray, set_cons_zero, set_cons_succ, i64_w, i32_w]
          rfl
        refine pure_ (i := 12) (N := some 47) (v := ?_) (a' := ?_) (tb13 16 8191) rfl rfl (any_of HT_.out (by kernel_rfl)) (fun _ _ _ h => h) (Or.inl ⟨by rfl, ?_⟩) ?_ ?_
        rotate_left
        · intro w'
          go_simp
          with_reducible rfl
        rotate_left
        · simp only [Act.put, setIfInBounds_toArray, set_cons_zero, set_cons_succ, i64_w, i32_w]
          rfl
        refine pure_ (i := 13) (N := some 48) (v := ?_) (a' := ?_) (tb13 16 16383) rfl rfl (any_of HT_.out (by kernel_rfl)) (fun _ _ _ h => h) (Or.inl ⟨by rfl, ?_⟩) ?_ ?_
        rotate_left
        · intro w'
          go_simp
          with_reducible rfl
        rotate_left
        · simp only [Act.put, setIfInBounds_toArray, set_cons_zero, set_cons_succ, i64_w, i32_w]
          rfl
        refine pure_ (i := 14) (N := some 6) (v := ?_) (a' := ?_) (tb13 16 32767) rfl rfl (any_of HT_.out (by kernel_rfl)) (fun _ _ _ h => h) (Or.inl ⟨by rfl, ?_⟩) ?_ ?_
        rotate_left
        · intro w'
          go_simp
          with_reducible rfl
        rotate_left
        · simp only [Act.put, setIfInBounds_toArray, set_cons_zero, set_cons_succ, i64_w, i32_w]
          rfl
        refine pure_ (i := 15) (N := some 7) (v := ?_) (a' := ?_) (tb13 16 65535) rfl rfl (any_of HT_.out (by kernel_rfl)) (fun _ _ _ h => h) (Or.inl ⟨by rfl, ?_⟩) ?_ ?_
        rotate_left
        · intro w'
          go_simp
          with_reducible rfl
        rotate_left
        · simp only [Act.put, setIfInBounds_toArray, set_cons_zero, set_cons_succ, i64_w, i32_w]
          rfl
        refine done_ (done_of HT_.out (by kernel_rfl)) ?_
        go_wp2
        go_ret2
        exact ⟨by rw [show (c == 0) = decide (c = 0) from by by_cases h0 : c = 0 <;> simp [h0]]; rfl, HWD.out.trans (HB1.out.mono HWD.out.size)⟩
      · have hendz : ¬ (p : Int) < (l0.length : Int) := by omega
        have h := H.out
        rw [if_neg hend] at h
        injection h with h
        injection h with h1 h2
        subst h1 h2
        clear H
        refine start_ (n := 16) (S := fun w' => True) (ds := []) #[false, false, false, false, false, false, false, false, false, false, false, false, false, false, false, false] (by kernel_rfl) rfl rfl trivial (fun hHeld => ?_)
        refine with_tabW address_Entry_41.tab8 address_Entry_41.bits8 (fun HT_ HW_ => ?_)
        refine pure_ (i := 0) (N := some 35) (v := ?_) (a' := ?_) (tb13 16 1) rfl rfl (any_of HT_.out (by kernel_rfl)) (fun _ _ _ h => h) (Or.inl ⟨by rfl, ?_⟩) ?_ ?_
        rotate_left
        · intro w'
          go_simp
          with_reducible rfl
        rotate_left
        · simp only [Act.put, setIfInBounds_toArray, set_cons_zero, set_cons_succ, i64_w, i32_w]
          rfl
        refine pure_ (i := 1) (N := some 36) (v := ?_) (a' := ?_) (tb13 16 3) rfl rfl (any_of HT_.out (by kernel_rfl)) (fun _ _ _ h => h) (Or.inl ⟨by rfl, ?_⟩) ?_ ?_
        rotate_left
        · intro w'
          go_simp
          with_reducible rfl
        rotate_left
        · simp only [Act.put, setIfInBounds_toArray, set_cons_zero, set_cons_succ, i64_w, i32_w]
          rfl
        refine pure_ (i := 2) (N := some 37) (v := ?_) (a' := ?_) (tb13 16 7) rfl rfl (any_of HT_.out (by kernel_rfl)) (fun _ _ _ h => h) (Or.inl ⟨by rfl, ?_⟩) ?_ ?_
        rotate_left
        · intro w'
          go_simp
          with_reducible rfl
        rotate_left
        · simp only [Act.put, setIfInBounds_toArray, set_cons_zero, set_cons_succ, i64_w, i32_w]
          rfl
        refine pure_ (i := 3) (N := some 38) (v := ?_) (a' := ?_) (tb13 16 15) rfl rfl (any_of HT_.out (by kernel_rfl)) (fun _ _ _ h => h) (Or.inl ⟨by rfl, ?_⟩) ?_ ?_
        rotate_left
        · intro w'
          go_simp
          with_reducible rfl
        rotate_left
        · simp only [Act.put, setIfInBounds_toArray, set_cons_zero, set_cons_succ, i64_w, i32_w]
          rfl
        refine pure_ (i := 4) (N := some 39) (v := ?_) (a' := ?_) (tb13 16 31) rfl rfl (any_of HT_.out (by kernel_rfl)) (fun _ _ _ h => h) (Or.inl ⟨by rfl, ?_⟩) ?_ ?_
        rotate_left
        · intro w'
          go_simp
          with_reducible rfl
        rotate_left
        · simp only [Act.put, setIfInBounds_toArray, set_cons_zero, set_cons_succ, i64_w, i32_w]
          rfl
        refine pure_ (i := 5) (N := some 40) (v := undef) (a' := ?_) (tb13 16 63) rfl rfl (any_of HT_.out (by kernel_rfl)) (fun _ _ _ h => h) (Or.inr ⟨by rfl, rfl⟩) ?_ ?_
        rotate_left
        · simp only [Act.put, setIfInBounds_toArray, set_cons_zero, set_cons_succ, i64_w, i32_w]
          rfl
        refine pure_ (i := 6) (N := some 41) (v := undef) (a' := ?_) (tb13 16 127) rfl rfl (any_of HT_.out (by kernel_rfl)) (fun _ _ _ h => h) (Or.inr ⟨by rfl, rfl⟩) ?_ ?_
        rotate_left
        · simp only [Act.put, setIfInBounds_toArray, set_cons_zero, set_cons_succ, i64_w, i32_w]
          rfl
        refine pure_ (i := 7) (N := some 42) (v := undef) (a' := ?_) (tb13 16 255) rfl rfl (any_of HT_.out (by kernel_rfl)) (fun _ _ _ h => h) (Or.inr ⟨by rfl, rfl⟩) ?_ ?_
        rotate_left
        · simp only [Act.put, setIfInBounds_toArray, set_cons_zero, set_cons_succ, i64_w, i32_w]
          rfl
        refine pure_ (i := 8) (N := some 43) (v := undef) (a' := ?_) (tb13 16 511) rfl rfl (any_of HT_.out (by kernel_rfl)) (fun _ _ _ h => h) (Or.inr ⟨by rfl, rfl⟩) ?_ ?_
        rotate_left
        · simp only [Act.put, setIfInBounds_toArray, set_cons_zero, set_cons_succ, i64_w, i32_w]
          rfl
        refine pure_ (i := 9) (N := some 44) (v := undef) (a' := ?_) (tb13 16 1023) rfl rfl (any_of HT_.out (by kernel_rfl)) (fun _ _ _ h => h) (Or.inr ⟨by rfl, rfl⟩) ?_ ?_
        rotate_left
        · simp only [Act.put, setIfInBounds_toArray, set_cons_zero, set_cons_succ, i64_w, i32_w]
          rfl
        refine pure_ (i := 10) (N := some 45) (v := undef) (a' := ?_) (tb13 16 2047) rfl rfl (any_of HT_.out (by kernel_rfl)) (fun _ _ _ h => h) (Or.inr ⟨by rfl, rfl⟩) ?_ ?_
        rotate_left
        · simp only [Act.put, setIfInBounds_toArray, set_cons_zero, set_cons_succ, i64_w, i32_w]
          rfl
        refine pure_ (i := 11) (N := some 46) (v := undef) (a' := ?_) (tb13 16 4095) rfl rfl (any_of HT_.out (by kernel_rfl)) (fun _ _ _ h => h) (Or.inr ⟨by rfl, rfl⟩) ?_ ?_
        rotate_left
        · simp only [Act.put, setIfInBounds_toArray, set_cons_zero, set_cons_succ, i64_w, i32_w]
          rfl
        refine pure_ (i := 12) (N := some 47) (v := undef) (a' := ?_) (tb13 16 8191) rfl rfl (any_of HT_.out (by kernel_rfl)) (fun _ _ _ h => h) (Or.inr ⟨by rfl, rfl⟩) ?_ ?_
        rotate_left
        · simp only [Act.put, setIfInBounds_toArray, set_cons_zero, set_cons_succ, i64_w, i32_w]
          rfl
        refine pure_ (i := 13) (N := some 48) (v := ?_) (a' := ?_) (tb13 16 16383) rfl rfl (any_of HT_.out (by kernel_rfl)) (fun _ _ _ h => h) (Or.inl ⟨by rfl, ?_⟩) ?_ ?_
        rotate_left
        · intro w'
          go_simp
          with_reducible rfl
        rotate_left
        · simp only [Act.put, setIfInBounds_toArray, set_cons_zero, set_cons_succ, i64_w, i32_w]
          rfl
        refine pure_ (i := 14) (N := some 6) (v := ?_) (a' := ?_) (tb13 16 32767) rfl rfl (any_of HT_.out (by kernel_rfl)) (fun _ _ _ h => h) (Or.inl ⟨by rfl, ?_⟩) ?_ ?_
        rotate_left
        · intro w'
          go_simp
          with_reducible rfl
        rotate_left
        · simp only [Act.put, setIfInBounds_toArray, set_cons_zero, set_cons_succ, i64_w, i32_w]
          rfl
        refine pure_ (i := 15) (N := some 7) (v := ?_) (a' := ?_) (tb13 16 65535) rfl rfl (any_of HT_.out (by kernel_rfl)) (fun _ _ _ h => h) (Or.inl ⟨by rfl, ?_⟩) ?_ ?_
        rotate_left
        · intro w'
          go_simp
          with_reducible rfl
        rotate_left
        · simp only [Act.put, setIfInBounds_toArray, set_cons_zero, set_cons_succ, i64_w, i32_w]
          rfl
        refine done_ (done_of HT_.out (by kernel_rfl)) ?_
        go_wp2
        go_ret2
        exact ⟨rfl, below_drew1 HD.out⟩


end Go.Proofs.Ytchkhnhmpgkpeaa.P
