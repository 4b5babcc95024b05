-- Written by this repo's wip/tools/myprint.py (the kit's print program, with contracts of our own beside). Lean checks it.
import Derived.Test.YtchkhnhmpgkpeaaPx0
import Derived.Test.YtchkhnhmpgkpeaaPx5
namespace Go.Proofs.Ytchkhnhmpgkpeaa.P
open Go.Proofs.Ytchkhnhmpgkpeaa.Common
open Go.RowKit Go.Proofs.YtchkhnhmpgkpeaaW.PrintWords Go.Proofs.YtchkhnhmpgkpeaaW.PrintLast Go.Proofs.YtchkhnhmpgkpeaaW.PrintMore
attribute [local go_sem] max2_int min2_int max_two min_two max_three min_three max_four min_four   -- for this text's walks alone
set_option linter.unusedVariables false
set_option linter.unusedSimpArgs false

/-! ### address_Entry_49: function 49 (a contract of our own) -/
def address_Entry_49.l0 (q : S28 → S28 → Option Bool) : List S28 → List S28 → Option Bool
  | x :: xs, y :: ys => (q x y).bind fun b => if b = true then address_Entry_49.l0 q xs ys else some false
  | _, _ => some true
def address_Entry_49.f (q : S28 → S28 → Option Bool) (s t : List S28) : Option Bool := if s.length = t.length then address_Entry_49.l0 q s t else some false
theorem address_Entry_49.step {q : S28 → S28 → Option Bool} {s t : List S28} {i : Nat} {r : Bool} (h : address_Entry_49.l0 q (s.drop i) (t.drop i) = some r) (hs : i < s.length) (ht : i < t.length) :
    ∃ b, q (s.getD i z28) (t.getD i z28) = some b ∧ (b = false → r = false) ∧ (b = true → address_Entry_49.l0 q (s.drop (i + 1)) (t.drop (i + 1)) = some r) := by
  rw [List.drop_eq_getElem_cons hs, List.drop_eq_getElem_cons ht, address_Entry_49.l0] at h
  obtain ⟨b, hb, h⟩ := Option.bind_eq_some_iff.1 h
  refine ⟨b, by rw [List.getD_eq_getElem?_getD, List.getD_eq_getElem?_getD, List.getElem?_eq_getElem hs, List.getElem?_eq_getElem ht]; exact hb, fun e => ?_, fun e => ?_⟩
  · rw [if_neg (by simp [e])] at h; exact (Option.some.inj h).symm
  · rwa [if_pos e] at h
theorem address_Entry_49.ends {q : S28 → S28 → Option Bool} {s t : List S28} {i : Nat} {r : Bool} (h : address_Entry_49.l0 q (s.drop i) (t.drop i) = some r) (hs : s.length ≤ i) : r = true := by
  rw [List.drop_eq_nil_of_le hs, address_Entry_49.l0] at h
  · exact (Option.some.inj h).symm
  · intro x xs y ys h1; cases h1
theorem address_Entry_49.mono_l {q q' : S28 → S28 → Option Bool} (h : ∀ x y, LeO (q x y) (q' x y)) : ∀ s t : List S28, LeO (address_Entry_49.l0 q s t) (address_Entry_49.l0 q' s t)
  | x :: xs, y :: ys => by
    rw [address_Entry_49.l0, address_Entry_49.l0]
    exact LeO.bind (h x y) (fun b => LeO.ite (address_Entry_49.mono_l h xs ys) (LeO.refl _))
  | [], t => by
    rw [address_Entry_49.l0, address_Entry_49.l0]
    · exact LeO.refl _
    · intro x xs y ys h1; cases h1
    · intro x xs y ys h1; cases h1
  | x :: xs, [] => by
    rw [address_Entry_49.l0, address_Entry_49.l0]
    · exact LeO.refl _
    · intro x xs y ys _ h1; cases h1
    · intro x xs y ys _ h1; cases h1
theorem address_Entry_49.mono {q q' : S28 → S28 → Option Bool} (h : ∀ x y, LeO (q x y) (q' x y)) (s t : List S28) : LeO (address_Entry_49.f q s t) (address_Entry_49.f q' s t) := by
  unfold address_Entry_49.f
  exact LeO.ite (address_Entry_49.mono_l h s t) (LeO.refl _)
set_option maxHeartbeats 1000000 in
set_option maxRecDepth 100000 in
theorem address_Entry_49.calls (q : S28 → S28 → Option Bool) (A0 : Option Addr) (c0 : Nat) (l0 : List S28) (A1 : Option Addr) (c1 : Nat) (l1 : List S28) (r : Bool) (w : World) (hr0 : Kd.C k28 w A0 l0.length l0) (hc0 : l0.length ≤ c0) (hr1 : Kd.C k28 w A1 l1.length l1) (hc1 : l1.length ≤ c1) (h : address_Entry_49.f q l0 l1 = some r)
    (hp : ∀ W (x y : S28) (cs ds : List Value) (b : Bool), Below w.heap.size w W → k28.K W x cs → k28.K W y ds → q x y = some b → Calls Try.prog 50 #[.agg cs.toArray, .agg ds.toArray] W fun e w' => e = .returned (.bool b) ∧ Below W.heap.size W w') :
    Calls Try.prog 49 #[.slice A0 l0.length c0, .slice A1 l1.length c1, .func (.func 50) #[] #[]] w fun e w' => e = .returned (.bool r) ∧ Below w.heap.size w w' := by
  have HR0 := Aside0.mk hr0
  have HR1 := Aside0.mk hr1
  have HP := Aside0.mk hp
  have hbig : l0.length ≤ 9223372036854775807 := hr0.2.1
  clear hr0 hc0 hr1 hc1 hp
  by_cases heq : l0.length = l1.length
  · have HI := Aside0.mk (show address_Entry_49.l0 q (l0.drop 0) (l1.drop 0) = some r by rw [address_Entry_49.f, if_pos heq] at h; simpa using h)
    have hez : (l0.length : Int) = (l1.length : Int) := by omega
    have HQ := Aside0.mk heq
    clear h
    go_enter Try.func49, Try.ntmps49
    rw [← heq]
    clear heq hez
    go_wp2
    go_loopg [7, 8, 9, 17] l0.length (fun gg _ _ _ s17 wr => ∃ kk : Nat, Aside0 (kk + gg = l0.length) ∧ s17 = .int .i64 kk ∧ Aside0 (Below w.heap.size w wr) ∧ Aside0 (address_Entry_49.l0 q (l0.drop kk) (l1.drop kk) = some r))
    case atStart => exact ⟨0, ⟨by omega⟩, rfl, ⟨Below.refl _ _⟩, HI⟩
    case round =>
      clear HI
      obtain ⟨kk, HG, rfl, HD, HI⟩ := hrel
      by_cases hlt : kk < l0.length
      · have hltz : (kk : Int) < (l0.length : Int) := by omega
        obtain ⟨b, hb, hno, hyes⟩ := address_Entry_49.step HI.out hlt (by have := HQ.out; omega)
        have hrd0 : rd_T28 l0 (kk : Int) = l0.getD kk z28 := by simp [rd_T28]
        have hrd1 : rd_T28 l1 (kk : Int) = l1.getD kk z28 := by simp [rd_T28]
        obtain ⟨ad, A_0, c_0, e1, hx_0, hx_1, hl_0, hi_0⟩ := at_T28 (Kd.C_below HR0.out HD.out) (kk : Int) (by omega) (by omega)
        obtain ⟨bd, B_0, d_0, e2, hy_0, hy_1, hm_0, hj_0⟩ := at_T28 (Kd.C_below HR1.out HD.out) (kk : Int) (by omega) (by have := HQ.out; omega)
        cases e1
        cases e2
        rw [hrd0] at hx_0 hx_1 hl_0 hi_0
        rw [hrd1] at hy_0 hy_1 hm_0 hj_0
        rw [Int.toNat_natCast] at hx_0 hx_1 hy_0 hy_1
        generalize l0.getD kk z28 = x at hb hx_0 hx_1 hl_0 hi_0
        generalize l1.getD kk z28 = y at hb hy_0 hy_1 hm_0 hj_0
        have HKX := Aside0.mk (k28_mk wr x hl_0 hi_0)
        have HKY := Aside0.mk (k28_mk wr y hm_0 hj_0)
        have HB := Aside0.mk hb
        have HN := Aside0.mk hno
        have HY := Aside0.mk hyes
        have hya0 : ∀ o, (wr.alloc o).cell? (bd.add (kk * 2)) = some (.slice B_0 y.f0.length d_0) := fun o => Lib.cell?_alloc_some o hy_0
        have hya1 : ∀ o, (wr.alloc o).cell? _ = some (.int .i64 y.f1) := fun o => Lib.cell?_alloc_some o hy_1
        have HA := Aside0.mk (((Below.refl wr.heap.size wr).alloc (Nat.le_refl _) (Obj.cells #[Value.slice A_0 x.f0.length c_0, Value.int IntKind.i64 x.f1] 28)).alloc (by simp) (Obj.cells #[Value.slice B_0 y.f0.length d_0, Value.int IntKind.i64 y.f1] 28))
        have HDS := Aside0.mk HD.out.size
        clear hrd0 hrd1 hl_0 hi_0 hm_0 hj_0 hb hno hyes 
        cases b with
        | true =>
          have HI2 := Aside0.mk (HY.out rfl)
          clear HY HN HI
          go_wp2_with fail
          refine (HP.out _ x y [.slice A_0 x.f0.length c_0, .int .i64 x.f1] [.slice B_0 y.f0.length d_0, .int .i64 y.f1] true (HD.out.trans (HA.out.mono HDS.out)) (k28.K_below HA.out HKX.out) (k28.K_below HA.out HKY.out) HB.out).mono ?_
          rintro e w' ⟨rfl, hb2⟩
          have HB2 := Aside0.mk (HD.out.trans ((HA.out.trans (hb2.mono HA.out.size)).mono HDS.out))
          clear hb2 hx_0 hx_1 hy_0 hy_1 hya0 hya1 HKX HKY HA HB HD
          go_wp2
          go_roundg (l0.length - (kk + 1))
          case measure => have := HG.out; omega
          case rel => exact ⟨kk + 1, ⟨by omega⟩, by go_num, HB2, HI2⟩
        | false =>
          have HE : Aside0 (r = false) := ⟨HN.out rfl⟩
          clear HY HN HI
          go_wp2_with fail
          refine (HP.out _ x y [.slice A_0 x.f0.length c_0, .int .i64 x.f1] [.slice B_0 y.f0.length d_0, .int .i64 y.f1] false (HD.out.trans (HA.out.mono HDS.out)) (k28.K_below HA.out HKX.out) (k28.K_below HA.out HKY.out) HB.out).mono ?_
          rintro e w' ⟨rfl, hb2⟩
          have HB2 := Aside0.mk (HD.out.trans ((HA.out.trans (hb2.mono HA.out.size)).mono HDS.out))
          clear hb2 hx_0 hx_1 hy_0 hy_1 hya0 hya1 HKX HKY HA HB HD
          go_wp2
          go_ret
          exact ⟨by rw [HE.out]; rfl, HB2.out⟩
      · have hltz : ¬ (kk : Int) < (l0.length : Int) := by omega
        have HE : Aside0 (r = true) := ⟨address_Entry_49.ends HI.out (by omega)⟩
        clear hlt
        go_wp2
        go_ret
        exact ⟨by rw [HE.out]; rfl, HD.out⟩
  · have hez : ¬ (l0.length : Int) = (l1.length : Int) := by omega
    obtain rfl : false = r := by rw [address_Entry_49.f, if_neg heq] at h; exact Option.some.inj h
    clear h HP heq
    go_enter Try.func49, Try.ntmps49
    go_wp2
    go_ret
    exact ⟨rfl, Below.refl _ _⟩


/-! ### address_Same_1: function 50 (a contract of our own) -/
def address_Same_1.f (k : Nat) (l0_0 : List Int) (a0_1 : Int) (l1_0 : List Int) (a1_1 : Int) : Option Bool := if a0_1 = a1_1 then slices_Equal_int_int.f k l0_0 l1_0 else some false
theorem address_Same_1.mono : ∀ a0 a1 a2 a3 k, LeO (address_Same_1.f k a0 a1 a2 a3) (address_Same_1.f (k + 1) a0 a1 a2 a3) := by
  intro a0 a1 a2 a3 k
  unfold address_Same_1.f
  exact LeO.ite (slices_Equal_int_int.mono _ _ _) (LeO.refl _)
set_option maxHeartbeats 1000000 in
set_option maxRecDepth 100000 in
theorem address_Same_1.calls (k : Nat) (A0 : Option Addr) (c0 : Nat) (x : S28) (A1 : Option Addr) (c1 : Nat) (y : S28) (b : Bool) (w : World) (hr0 : (Kd.int .i64).C w A0 x.f0.length x.f0) (hc0 : x.f0.length ≤ c0) (hr1 : (Kd.int .i64).C w A1 y.f0.length y.f0) (hc1 : y.f0.length ≤ c1) (h : address_Same_1.f k x.f0 x.f1 y.f0 y.f1 = some b) :
    Calls Try.prog 50 #[.agg #[.slice A0 x.f0.length c0, .int .i64 x.f1], .agg #[.slice A1 y.f0.length c1, .int .i64 y.f1]] w fun e w' => e = .returned (.bool b) ∧ Below w.heap.size w w' := by
  have hu28 := Try.underlying28
  have HR0 := Aside0.mk hr0
  have HC0 := Aside0.mk hc0
  have HR1 := Aside0.mk hr1
  have HC1 := Aside0.mk hc1
  have HB0 := Aside0.mk (((Below.refl w.heap.size w).alloc (Nat.le_refl _) (Obj.cells #[Value.slice A0 x.f0.length c0, Value.int IntKind.i64 x.f1] 28)).alloc (by simp) (Obj.cells #[Value.slice A1 y.f0.length c1, Value.int IntKind.i64 y.f1] 28))
  have HSZ := Aside0.mk (show ((w.alloc (Obj.cells #[Value.slice A0 x.f0.length c0, Value.int IntKind.i64 x.f1] 28)).alloc (Obj.cells #[Value.slice A1 y.f0.length c1, Value.int IntKind.i64 y.f1] 28)).heap.size = w.heap.size + 2 by simp)
  by_cases he : x.f1 = y.f1
  · have H := Aside0.mk (show slices_Equal_int_int.f k x.f0 y.f0 = some b by rw [address_Same_1.f, if_pos he] at h; exact h)
    have he2 : (x.f1 == y.f1) = true := by simpa using he
    have he3 : decide (x.f1 = y.f1) = true := decide_eq_true he
    clear h hr0 hc0 hr1 hc1 he
    go_enter Try.func50, Try.ntmps50
    go_wp2_with fail
    refine (slices_Equal_int_int.calls k _ _ x.f0 _ _ y.f0 b _ (Kd.C_below HR0.out HB0.out) HC0.out (Kd.C_below HR1.out HB0.out) HC1.out H.out).mono ?_
    rintro e w2 ⟨rfl, hb2⟩
    have HBW := Aside0.mk (HB0.out.trans (hb2.below.mono (by rw [HSZ.out]; omega)))
    clear hb2
    go_wp2
    go_ret
    exact ⟨rfl, HBW.out⟩
  · obtain rfl : false = b := by rw [address_Same_1.f, if_neg he] at h; exact Option.some.inj h
    have he2 : (x.f1 == y.f1) = false := by simpa using he
    have he3 : decide (x.f1 = y.f1) = false := decide_eq_false he
    clear h hr0 hc0 hr1 hc1 he
    go_enter Try.func50, Try.ntmps50
    go_wp2
    go_ret
    exact ⟨rfl, HB0.out⟩


/-! ### address_Same: function 24 (a contract of our own) -/
def address_Same.f (k : Nat) (l0 l1 : List S28) : Option Bool := address_Entry_49.f (fun x y => address_Same_1.f k x.f0 x.f1 y.f0 y.f1) l0 l1
theorem address_Same.mono : ∀ a0 a1 k, LeO (address_Same.f k a0 a1) (address_Same.f (k + 1) a0 a1) := by
  intro a0 a1 k
  unfold address_Same.f
  exact address_Entry_49.mono (fun x y => address_Same_1.mono _ _ _ _ _) a0 a1
set_option maxHeartbeats 1000000 in
theorem address_Same.calls (k : Nat) (A0 : Option Addr) (c0 : Nat) (l0 : List S28) (A1 : Option Addr) (c1 : Nat) (l1 : List S28) (r : Bool) (w : World) (hr0 : Kd.C k28 w A0 l0.length l0) (hc0 : l0.length ≤ c0) (hr1 : Kd.C k28 w A1 l1.length l1) (hc1 : l1.length ≤ c1) (h : address_Same.f k l0 l1 = some r) :
    Calls Try.prog 24 #[.slice A0 l0.length c0, .slice A1 l1.length c1] w fun e w' => e = .returned (.bool r) ∧ Below w.heap.size w w' := by
  have HI := Aside0.mk (address_Entry_49.calls (fun x y => address_Same_1.f k x.f0 x.f1 y.f0 y.f1) A0 c0 l0 A1 c1 l1 r w hr0 hc0 hr1 hc1 h (fun W x y cs ds b _ hx hy hb => by
    obtain ⟨A', c', rfl, h1, h2⟩ := k28_open hx
    obtain ⟨B', d', rfl, g1, g2⟩ := k28_open hy
    exact address_Same_1.calls k A' c' x B' d' y b W h2 h1 g2 g1 hb))
  clear hr0 hc0 hr1 hc1 h
  go_enter Try.func24, Try.ntmps24
  go_wp2_with fail
  refine HI.out.mono ?_
  rintro e w2 ⟨rfl, hb2⟩
  have HB := Aside0.mk hb2
  clear hb2 HI
  go_wp2
  go_ret
  exact ⟨rfl, HB.out⟩


end Go.Proofs.Ytchkhnhmpgkpeaa.P
