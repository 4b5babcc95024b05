-- Written by this repo's wip/tools/myprint.py (the kit's print program, with contracts of our own beside). Lean checks it.
import Derived.Test.YtchkhnhmpgkpeaaPx0
import Derived.Test.YtchkhnhmpgkpeaaPx8
import Derived.Test.YtchkhnhmpgkpeaaPx17
namespace Go.Proofs.Ytchkhnhmpgkpeaa.P
open Go.Proofs.Ytchkhnhmpgkpeaa.Common
open Go.RowKit Go.Proofs.YtchkhnhmpgkpeaaW.PrintWords Go.Proofs.YtchkhnhmpgkpeaaW.PrintLast Go.Proofs.YtchkhnhmpgkpeaaW.PrintMore
attribute [local go_sem] max2_int min2_int max_two min_two max_three min_three max_four min_four   -- for this text's walks alone
set_option linter.unusedVariables false
set_option linter.unusedSimpArgs false

/-! ### heptadlaw11_sameEntry: function 15 (a contract of our own) -/
theorem heptadlaw11_sameEntry.alloc_some {W : World} {a : Addr} {v : Value} (o : Obj) (h : W.cell? a = some v) : (W.alloc o).cell? a = some v := by
  have hlt : a.block < W.heap.size := block_lt_of_cell h
  rw [← h]
  simp only [World.cell?, World.alloc, Array.getElem?_push, Nat.ne_of_lt hlt, if_false]
set_option maxHeartbeats 1000000 in
theorem heptadlaw11_sameEntry.one (A0 : Option Addr) (n0 c0 : Nat) (m : Int) (w : World) : Calls Try.prog 35 #[.agg #[.slice A0 n0 c0, .int .i64 m]] w fun e w' => e = .returned (.agg #[.slice A0 n0 c0, .int .i64 m]) ∧ Below w.heap.size w w' := by
  have hu28 := Try.underlying28
  have hu35 := Try.underlying35
  go_enter Try.func35, Try.ntmps35
  go_wp2
  exact bodyPost_ret (v := .agg #[.slice A0 n0 c0, .int .i64 m]) (by simp [results, Try.results35, go_sem]) rfl ⟨rfl, ((Below.refl _ _).alloc (Nat.le_refl _) _).alloc (by simp) _⟩
theorem heptadlaw11_sameEntry.hv {p q : Prop} (h : p) (k : p → q) : q := k h
def heptadlaw11_sameEntry.f (k : Nat) (l0_0 : List Int) (a0_1 : Int) (l1_0 : List Int) (a1_1 : Int) : Option Bool := heptadref11_Same.f k [⟨l0_0, a0_1⟩] [⟨l1_0, a1_1⟩]
theorem heptadlaw11_sameEntry.mono : ∀ a0 a1 a2 a3 k, LeO (heptadlaw11_sameEntry.f k a0 a1 a2 a3) (heptadlaw11_sameEntry.f (k + 1) a0 a1 a2 a3) := by
  intro a0 a1 a2 a3 k
  unfold heptadlaw11_sameEntry.f
  exact heptadref11_Same.mono _ _ _
theorem heptadlaw11_sameEntry.row {w w' : World} {A : Option Addr} {p : List Int} {c g : Nat} {n : Int} (hc : p.length ≤ c) (hr : (Kd.int .i64).C w A p.length p) (hb : Below w.heap.size w w') (h0 : w'.cell? ⟨g, 0, none⟩ = some (.slice A p.length c)) (h1 : w'.cell? ⟨g, 1, none⟩ = some (.int .i64 n)) :
    Kd.C k35 w' (some ⟨g, 0, none⟩) 1 [⟨p, n⟩] :=
  ⟨rfl, by omega, fun _ => ⟨_, rfl, fun j x hj => by
    cases j with
    | zero =>
      obtain rfl : (⟨p, n⟩ : S35) = x := by simpa using hj
      refine ⟨_, rfl, k35_mk w' ⟨p, n⟩ hc (Kd.C_below hr hb), fun i u hu => ?_⟩
      rw [add_plain]
      cases i with
      | zero => simp at hu; subst hu; simpa using h0
      | succ i =>
        cases i with
        | zero => simp at hu; subst hu; simpa using h1
        | succ i => simp at hu
    | succ j => simp at hj⟩⟩
set_option maxHeartbeats 2000000 in
set_option maxRecDepth 100000 in
theorem heptadlaw11_sameEntry.calls (k : Nat) (A0_0 : Option Addr) (c0_0 : Nat) (l0_0 : List Int) (a0_1 : Int) (A1_0 : Option Addr) (c1_0 : Nat) (l1_0 : List Int) (a1_1 : Int) (r : Bool) (w : World)
    (hr0_0 : Kd.C (Kd.int .i64) w A0_0 l0_0.length l0_0) (hc0_0 : l0_0.length ≤ c0_0) (hr1_0 : Kd.C (Kd.int .i64) w A1_0 l1_0.length l1_0) (hc1_0 : l1_0.length ≤ c1_0) (h : heptadlaw11_sameEntry.f k l0_0 a0_1 l1_0 a1_1 = some r) :
    Calls Try.prog 15 #[.agg #[.slice A0_0 l0_0.length c0_0, .int .i64 a0_1], .agg #[.slice A1_0 l1_0.length c1_0, .int .i64 a1_1]] w fun e w' => e = .returned (.bool r) ∧ Below w.heap.size w w' := by
  have hu28 := Try.underlying28
  have hu35 := Try.underlying35
  have HR0 := Aside0.mk hr0_0
  have HC0 := Aside0.mk hc0_0
  have HR1 := Aside0.mk hr1_0
  have HC1 := Aside0.mk hc1_0
  have H := Aside0.mk (show heptadref11_Same.f k [⟨l0_0, a0_1⟩] [⟨l1_0, a1_1⟩] = some r from h)
  clear hr0_0 hc0_0 hr1_0 hc1_0 h
  go_enter Try.func15, Try.ntmps15
  go_wp2
  have HB := Aside0.mk (((Below.refl w.heap.size w).alloc (Nat.le_refl _) (Obj.cells #[Value.slice A0_0 l0_0.length c0_0, Value.int IntKind.i64 a0_1] 28)).alloc (by simp) (Obj.cells #[Value.slice A1_0 l1_0.length c1_0, Value.int IntKind.i64 a1_1] 35))
  have hS : ((w.alloc (Obj.cells #[Value.slice A0_0 l0_0.length c0_0, Value.int IntKind.i64 a0_1] 28)).alloc (Obj.cells #[Value.slice A1_0 l1_0.length c1_0, Value.int IntKind.i64 a1_1] 35)).heap.size = w.heap.size + 2 := by simp
  have hx0 := blk_cell (heap_alloc2_old w (Obj.cells #[Value.slice A0_0 l0_0.length c0_0, Value.int IntKind.i64 a0_1] 28) (Obj.cells #[Value.slice A1_0 l1_0.length c1_0, Value.int IntKind.i64 a1_1] 35)) 0
  have hx1 := blk_cell (heap_alloc2_old w (Obj.cells #[Value.slice A0_0 l0_0.length c0_0, Value.int IntKind.i64 a0_1] 28) (Obj.cells #[Value.slice A1_0 l1_0.length c1_0, Value.int IntKind.i64 a1_1] 35)) 1
  have hy0 := blk_cell (heap_alloc2_new w (Obj.cells #[Value.slice A0_0 l0_0.length c0_0, Value.int IntKind.i64 a0_1] 28) (Obj.cells #[Value.slice A1_0 l1_0.length c1_0, Value.int IntKind.i64 a1_1] 35)) 0
  have hy1 := blk_cell (heap_alloc2_new w (Obj.cells #[Value.slice A0_0 l0_0.length c0_0, Value.int IntKind.i64 a0_1] 28) (Obj.cells #[Value.slice A1_0 l1_0.length c1_0, Value.int IntKind.i64 a1_1] 35)) 1
  generalize (w.alloc (Obj.cells #[Value.slice A0_0 l0_0.length c0_0, Value.int IntKind.i64 a0_1] 28)).alloc (Obj.cells #[Value.slice A1_0 l1_0.length c1_0, Value.int IntKind.i64 a1_1] 35) = W at HB hS hx0 hx1 hy0 hy1 ⊢
  replace hx0 : W.cell? ⟨w.heap.size, 0, none⟩ = some (.slice A0_0 l0_0.length c0_0) := hx0
  replace hx1 : W.cell? ⟨w.heap.size, 1, none⟩ = some (.int .i64 a0_1) := hx1
  replace hy0 : W.cell? ⟨w.heap.size + 1, 0, none⟩ = some (.slice A1_0 l1_0.length c1_0) := hy0
  replace hy1 : W.cell? ⟨w.heap.size + 1, 1, none⟩ = some (.int .i64 a1_1) := hy1
  have hx0a : ∀ o, (W.alloc o).cell? ⟨w.heap.size, 0, none⟩ = some (.slice A0_0 l0_0.length c0_0) := fun o => heptadlaw11_sameEntry.alloc_some o hx0
  have hx1a : ∀ o, (W.alloc o).cell? ⟨w.heap.size, 1, none⟩ = some (.int .i64 a0_1) := fun o => heptadlaw11_sameEntry.alloc_some o hx1
  have YS := Aside0.mk hS
  have Y0 := Aside0.mk hy0
  have Y1 := Aside0.mk hy1
  clear hS
  go_region_with (first
    | (go_at_call 35; go_loud (refine (heptadlaw11_sameEntry.one _ _ _ _ _).mono ?_; rintro e w1 ⟨rfl, hb⟩; have n0_ := Aside0.mk (below_step (by repeat (first | (with_reducible first | exact HB.out | apply below_alloc | apply pw_below_drewN | apply below_drew1) | exact HB.out)) hb); have hy0' : w1.cell? ⟨w.heap.size + 1, 0, none⟩ = some (.slice A1_0 l1_0.length c1_0) := (hb.cell (p := ⟨w.heap.size + 1, 0, none⟩) (by have := YS.out; simp; omega)).trans (by first | exact Y0.out | exact heptadlaw11_sameEntry.alloc_some (W := W) _ Y0.out); have hy1' : w1.cell? ⟨w.heap.size + 1, 1, none⟩ = some (.int .i64 a1_1) := (hb.cell (p := ⟨w.heap.size + 1, 1, none⟩) (by have := YS.out; simp; omega)).trans (by first | exact Y1.out | exact heptadlaw11_sameEntry.alloc_some (W := W) _ Y1.out); have hy0a : ∀ o, (w1.alloc o).cell? ⟨w.heap.size + 1, 0, none⟩ = some (.slice A1_0 l1_0.length c1_0) := fun o => heptadlaw11_sameEntry.alloc_some o hy0'; have hy1a : ∀ o, (w1.alloc o).cell? ⟨w.heap.size + 1, 1, none⟩ = some (.int .i64 a1_1) := fun o => heptadlaw11_sameEntry.alloc_some o hy1'; (try (refine heptadlaw11_sameEntry.hv (p := w1.cell? ⟨W.heap.size, 0, none⟩ = some (.slice A1_0 l1_0.length c1_0)) ?pf ?_; (case pf => (refine (hb.cell (p := ⟨W.heap.size, 0, none⟩) ?q1).trans ?q2; (case q1 => (simp; done)); (case q2 => (refine blk_cell (heap_alloc_new W _) 0)))); intro hz0)); (try (refine heptadlaw11_sameEntry.hv (p := w1.cell? ⟨W.heap.size, 1, none⟩ = some (.int .i64 a1_1)) ?pf ?_; (case pf => (refine (hb.cell (p := ⟨W.heap.size, 1, none⟩) ?q1).trans ?q2; (case q1 => (simp; done)); (case q2 => (refine blk_cell (heap_alloc_new W _) 1)))); intro hz1)); clear HB hb; have HB := n0_; clear n0_))
    | (go_at_call 18; go_loud ((refine (heptadref11_Same.calls k _ _ [⟨l0_0, a0_1⟩] _ _ [⟨l1_0, a1_1⟩] r _ ?s1 (by simp) ?s3 (by simp) H.out).mono ?_); (case s1 => exact heptadlaw11_sameEntry.row HC0.out HR0.out (by repeat (first | (with_reducible first | exact HB.out | apply below_alloc | apply pw_below_drewN | apply below_drew1) | exact HB.out)) (by (first | exact blk_cell (heap_alloc2_old _ _ _) 0 | exact blk_cell (heap_alloc2_new _ _ _) 0 | exact blk_cell (heap_alloc_new _ _) 0 | exact heptadlaw11_sameEntry.alloc_some _ hz0)) (by (first | exact blk_cell (heap_alloc2_old _ _ _) 1 | exact blk_cell (heap_alloc2_new _ _ _) 1 | exact blk_cell (heap_alloc_new _ _) 1 | exact heptadlaw11_sameEntry.alloc_some _ hz1))); (case s3 => exact heptadlaw11_sameEntry.row HC1.out HR1.out (by repeat (first | (with_reducible first | exact HB.out | apply below_alloc | apply pw_below_drewN | apply below_drew1) | exact HB.out)) (by (first | exact blk_cell (heap_alloc2_old _ _ _) 0 | exact blk_cell (heap_alloc2_new _ _ _) 0 | exact blk_cell (heap_alloc_new _ _) 0 | exact heptadlaw11_sameEntry.alloc_some _ hz0)) (by (first | exact blk_cell (heap_alloc2_old _ _ _) 1 | exact blk_cell (heap_alloc2_new _ _ _) 1 | exact blk_cell (heap_alloc_new _ _) 1 | exact heptadlaw11_sameEntry.alloc_some _ hz1))); rintro e w2 ⟨rfl, hb⟩; have n0_ := Aside0.mk (below_step (by repeat (first | (with_reducible first | exact HB.out | apply below_alloc | apply pw_below_drewN | apply below_drew1) | exact HB.out)) hb.below); clear HB hb; have HB := n0_; clear n0_)))
  all_goals
    go_wp2
    go_ret
    exact ⟨rfl, HB.out⟩


/-! ### address_Entry_36: function 36 (a contract of our own) -/
set_option maxHeartbeats 1000000 in
set_option maxRecDepth 100000 in
theorem address_Entry_36.calls (g : Nat) (lb : Array Value) (eg : ∀ args w, (callFunc g args).run Try.prog w = .ok (.enter g args) w) (p : S28 → Option Bool)
    (A0 : Option Addr) (c0 : Nat) (l0 : List S28) (r : Int) (w : World) (hr0 : Kd.C k28 w A0 l0.length l0) (hc0 : l0.length ≤ c0) (h : idxM p l0 = some r)
    (hp : ∀ W (x : S28) (cs : List Value) (b : Bool), Below w.heap.size w W → k28.K W x cs → p x = some b → Calls Try.prog g (#[.agg cs.toArray] ++ lb) W fun e w' => e = .returned (.bool b) ∧ Below W.heap.size W w') :
    Calls Try.prog 36 #[.slice A0 l0.length c0, .func (.func g) #[] lb] w fun e w' => e = .returned (.int .i64 r) ∧ Below w.heap.size w w' := by
  have HR0 := Aside0.mk hr0
  have HC0 := Aside0.mk hc0
  have HP := Aside0.mk hp
  have HI := Aside0.mk (idxAt_start h)
  have hbig : l0.length ≤ 9223372036854775807 := hr0.2.1
  clear hr0 hc0 hp h
  go_enter Try.func36, Try.ntmps36
  go_wp2
  go_loopg [5, 8] l0.length (fun gg _ s8 wr => ∃ kk : Nat, Aside0 (kk + gg = l0.length) ∧ s8 = .int .i64 kk ∧ Aside0 (Below w.heap.size w wr) ∧ Aside0 (idxAt p l0 kk r))
  case atStart => exact ⟨0, ⟨by omega⟩, rfl, ⟨Below.refl _ _⟩, HI⟩
  case round =>
    clear HI
    obtain ⟨kk, HG, rfl, HD, HI⟩ := hrel
    by_cases hlt : kk < l0.length
    · have hltz : (kk : Int) < (l0.length : Int) := by omega
      obtain ⟨b, hb, hyes, hno⟩ := idxAt_step (d := z28) HI.out hlt
      have hrd : rd_T28 l0 (kk : Int) = l0.getD kk z28 := by simp [rd_T28]
      obtain ⟨ad, A_0, c_0, e1, hx_0, hx_1, hl_0, hi_0⟩ := at_T28 (Kd.C_below HR0.out HD.out) (kk : Int) (by omega) (by omega)
      cases e1
      rw [hrd] at hx_0 hx_1 hl_0 hi_0
      rw [Int.toNat_natCast] at hx_0 hx_1
      generalize l0.getD kk z28 = x at hb hx_0 hx_1 hl_0 hi_0
      have hcall := HP.out wr x [.slice A_0 x.f0.length c_0, .int .i64 x.f1] b HD.out (k28_mk wr x hl_0 hi_0) hb
      have HCL := Aside0.mk (show Calls Try.prog g (#[.agg #[.slice A_0 x.f0.length c_0, .int .i64 x.f1]] ++ lb) wr (fun e w' => e = .returned (.bool b) ∧ Below wr.heap.size wr w') from hcall)
      have HY := Aside0.mk hyes
      have HN := Aside0.mk hno
      have HDS := Aside0.mk HD.out.size
      clear hcall hb hyes hno hrd hl_0 hi_0
      cases b with
      | true =>
        have HE : Aside0 (r = (kk : Int)) := ⟨HY.out rfl⟩
        clear hlt HY HN HI
        go_wp2_with fail
        refine HCL.out.mono ?_
        rintro e w' ⟨rfl, hb2⟩
        have HB2 := Aside0.mk hb2
        clear hb2 hx_0 hx_1
        go_wp2
        go_ret
        exact ⟨by rw [HE.out]; rfl, HD.out.trans (HB2.out.mono HD.out.size)⟩
      | false =>
        have HI2 := Aside0.mk (HN.out rfl)
        clear HY HN HI
        go_wp2_with fail
        refine HCL.out.mono ?_
        rintro e w' ⟨rfl, hb2⟩
        have HB2 := Aside0.mk hb2
        clear hb2 hx_0 hx_1
        go_wp2
        go_roundg (l0.length - (kk + 1))
        case measure => have := HG.out; omega
        case rel => exact ⟨kk + 1, ⟨by omega⟩, by go_num, ⟨HD.out.trans (HB2.out.mono HD.out.size)⟩, HI2⟩
    · have hltz : ¬ (kk : Int) < (l0.length : Int) := by omega
      have HE : Aside0 (r = -1) := ⟨idxAt_end HI.out (by omega)⟩
      clear hlt
      go_wp2
      go_ret
      exact ⟨by rw [HE.out]; rfl, HD.out⟩


/-! ### address_Brief_1: function 37 (a contract of our own) -/
def address_Brief_1.f (k : Nat) (t : List S28) (l0_0 : List Int) (a0_1 : Int) : Option Bool := (address_find.f k t l0_0 ((l0_0.length : Int) - 1)).bind fun j => if 0 ≤ j then (if j < (t.length : Int) then some ((rd_T28 t j).f1 == a0_1) else none) else some false
set_option maxHeartbeats 1000000 in
set_option maxRecDepth 100000 in
theorem address_Brief_1.calls (k B : Nat) (A1 : Option Addr) (c1 : Nat) (t : List S28) (A0 : Option Addr) (c0 : Nat) (x : S28) (b : Bool) (w : World) (hbx : w.cell? ⟨B, 0, none⟩ = some (.slice A1 t.length c1)) (hrt : Kd.C k28 w A1 t.length t) (hct : t.length ≤ c1)
    (hr0 : (Kd.int .i64).C w A0 x.f0.length x.f0) (hc0 : x.f0.length ≤ c0) (h : address_Brief_1.f k t x.f0 x.f1 = some b) :
    Calls Try.prog 37 #[.agg #[.slice A0 x.f0.length c0, .int .i64 x.f1], .pointer (some ⟨B, 0, none⟩)] w fun e w' => e = .returned (.bool b) ∧ Below w.heap.size w w' := by
  have hu28 := Try.underlying28
  obtain ⟨j, hj, hjb⟩ := Option.bind_eq_some_iff.1 h
  have hlt : B < w.heap.size := World.block_lt_of_cell? w _ hbx
  have HR0 := Aside0.mk hr0
  have HRT := Aside0.mk hrt
  have HJ := Aside0.mk hj
  have HJB := Aside0.mk hjb
  have HCT := Aside0.mk hct
  have HC0 := Aside0.mk hc0
  have hbig : x.f0.length ≤ 9223372036854775807 := hr0.2.1
  have hB' : (w.alloc (.cells #[.slice A0 x.f0.length c0, .int .i64 x.f1] 28)).cell? ⟨B, 0, none⟩ = some (.slice A1 t.length c1) := Lib.cell?_alloc_some _ hbx
  clear h hr0 hrt hj hjb hct hc0
  go_enter Try.func37, Try.ntmps37
  go_wp2_with fail
  have hb0 : Below w.heap.size w (w.alloc (.cells #[.slice A0 x.f0.length c0, .int .i64 x.f1] 28)) := (Below.refl _ _).alloc (Nat.le_refl _) _
  refine (address_find.calls k _ _ t _ _ x.f0 _ j _ (Kd.C_below HRT.out hb0) HCT.out (Kd.C_below HR0.out hb0) HC0.out HJ.out).mono ?_
  rintro e w2 ⟨rfl, hb2⟩
  have hsz : (w.alloc (.cells #[.slice A0 x.f0.length c0, .int .i64 x.f1] 28)).heap.size = w.heap.size + 1 := by simp
  have hbx2 : w2.cell? ⟨B, 0, none⟩ = some (.slice A1 t.length c1) := (hb2.cell (p := ⟨B, 0, none⟩) (by rw [hsz]; exact Nat.lt_succ_of_lt hlt)).trans hB'
  have hx1 : w2.cell? ⟨w.heap.size, 1, none⟩ = some (.int .i64 x.f1) := (hb2.cell (p := ⟨w.heap.size, 1, none⟩) (by rw [hsz]; exact Nat.lt_succ_self _)).trans ((blk_cell (heap_alloc_new w _) 1).trans rfl)
  have hbw : Below w.heap.size w w2 := hb0.trans (hb2.mono (by rw [hsz]; exact Nat.le_succ _))
  have HBW := Aside0.mk hbw
  have HRT2 := Aside0.mk (Kd.C_below HRT.out hbw)
  clear hb0 hb2 hsz hB' hbx hlt hbw HJ
  by_cases hj0 : 0 ≤ j
  · have hj1 := HJB.out
    rw [if_pos hj0] at hj1
    have hj2 : j < (t.length : Int) := by
      rcases Int.lt_or_le j t.length with h | h
      · exact h
      · rw [if_neg (by omega)] at hj1
        cases hj1
    rw [if_pos hj2] at hj1
    obtain rfl := Option.some.inj hj1
    obtain ⟨ad, A_0, c_0, e1, hx_0, hx_1, hl_0, hi_0⟩ := at_T28 HRT2.out j hj0 hj2
    cases e1
    have hd0 : decide (0 ≤ j) = true := decide_eq_true hj0
    have hd1 : decide (j < (t.length : Int)) = true := decide_eq_true hj2
    clear hj1 hl_0 hi_0 HRT2 HRT HJB
    go_wp2
    go_quiet (fail)
    go_wp2
    go_ret
    exact ⟨rfl, pw_below_drewN HBW.out _⟩
  · have hj1 := HJB.out
    rw [if_neg hj0] at hj1
    obtain rfl := Option.some.inj hj1
    have hd0 : decide (0 ≤ j) = false := decide_eq_false hj0
    clear hj1 HRT2 HRT HJB
    go_wp2
    go_quiet (fail)
    go_wp2
    go_ret
    exact ⟨rfl, pw_below_drewN HBW.out _⟩


/-! ### address_Entry_38: function 38 (a contract of our own) -/
set_option maxHeartbeats 4000000 in
set_option maxRecDepth 100000 in
/-- slices.Delete(s, i, i + 1) of a row of the call's own. -/
theorem address_Entry_38.one (g n cap i base : Nat) (ok : Nat → Prop) (css : List (List Value)) (w : World) (hr0 : (Kd.raw 2).R 28 w base ok (.slice (some ⟨g, 0, none⟩) n cap) css) (hi : i < n) :
    Calls Try.prog 38 #[.slice (some ⟨g, 0, none⟩) n cap, .int .i64 (i : Int), .int .i64 ((i : Int) + 1)] w fun e w' => e = .returned (.slice (some ⟨g, 0, none⟩) (n - 1) cap) ∧
      (Kd.raw 2).R 28 w' base ok (.slice (some ⟨g, 0, none⟩) (n - 1) cap) (css.eraseIdx i) ∧ w.grownBy w' (some g) := by
  obtain ⟨hn, hnc, _⟩ := Kd.R_reads' hr0
  obtain ⟨h0, ho, hcs⟩ := raw_flat hr0
  subst hn
  have hlen : ∀ c ∈ css, c.length = 2 := fun c hc => (hcs c hc).1
  obtain ⟨i0, hi0, hz0⟩ := Option.map_eq_some_iff.1 info28
  simp only [Prod.mk.injEq] at hz0
  obtain ⟨_, hz1, _⟩ := hz0
  have hcapm : cap ≤ 9223372036854775807 := by
    rcases ho.2 with ⟨h', _⟩ | ⟨g', cap', cur, hv, _, _, _, hcm, _⟩
    · cases h'
    · injection hv with _ _ hv3
      rw [hv3]
      exact hcm
  -- what is moved to the left
  obtain ⟨news, hnews⟩ : ∃ news, news = (css.drop (i + 1)).flatten := ⟨_, rfl⟩
  have hnl : news.length = (css.length - (i + 1)) * 2 := by rw [hnews, flat_length (fun c hc => hlen c (List.mem_of_mem_drop hc)), List.length_drop]
  have hone : ∀ u ∈ news, u.oneCell' = true := fun u hu => by
    rw [hnews] at hu
    obtain ⟨c, hc, hu⟩ := List.mem_flatten.1 hu
    exact (hcs c (List.mem_of_mem_drop hc)).2 u hu
  obtain ⟨_, hod, _⟩ := raw_flat (Kd.R_drew hr0)
  have hfl := flat_length hlen
  have hcell : ∀ j u, css.flatten[j]? = some u → w.drew.cell? ⟨g, j, none⟩ = some u := fun j u hu => by
    have := hod.cells (g := g) rfl j u hu
    rwa [add_plain] at this
  have hfz : ∀ j, w.drew.frozen? ⟨g, j, none⟩ = false := fun j => by
    rcases hod.2 with ⟨h', _⟩ | ⟨g', cap', cur, hv, _, hh, _⟩
    · cases h'
    · injection hv with hv1 _ _
      injection hv1 with hv1
      injection hv1 with hv1
      subst hv1
      simp [World.frozen?, hh]
  have hsome : ∀ j, j < css.length * 2 → (w.drew.cell? ⟨g, j, none⟩).isSome = true := fun j hj => by
    rw [hcell j _ (List.getElem?_eq_getElem (by rw [hfl]; exact hj))]
    rfl
  obtain ⟨A, hA, hsrc⟩ : ∃ A : Addr, (if cap = i + 1 then some (⟨g, 0, none⟩ : Addr) else some ⟨g, (i + 1) * 2, none⟩) = some A ∧ Hid (∀ t u, news[t]? = some u → w.drew.cell? (A.add t) = some u) := by
    by_cases h : cap = i + 1
    · refine ⟨⟨g, 0, none⟩, by simp [h], fun t u hu => ?_⟩
      have h0 : news.length = 0 := by rw [hnl, show css.length - (i + 1) = 0 by omega, Nat.zero_mul]
      rw [List.length_eq_zero_iff.1 h0] at hu
      simp at hu
    · refine ⟨⟨g, (i + 1) * 2, none⟩, by simp [h], fun t u hu => ?_⟩
      rw [Addr.add_lit]
      refine hcell _ u ?_
      have hsp : css.flatten = (css.take (i + 1)).flatten ++ news := by rw [hnews, ← List.flatten_append, List.take_append_drop]
      have hT : (css.take (i + 1)).flatten.length = (i + 1) * 2 := by rw [flat_length (fun c hc => hlen c (List.mem_of_mem_take hc)), List.length_take, Nat.min_eq_left (by omega)]
      rw [hsp, List.getElem?_append_right (by omega), hT, Nat.add_sub_cancel_left]
      exact hu
  have s1 : Hid (news.length = (css.length - (i + 1)) * 2) := hnl
  have s2 : Hid (∀ u ∈ news, u.oneCell' = true) := hone
  have hmul : i * 2 + news.length ≤ css.length * 2 := by
    rw [hnl, ← Nat.add_mul]
    exact Nat.mul_le_mul_right _ (by omega)
  have s3 : Hid (∀ t, t < news.length → (w.drew.cell? ⟨g, 0 + i * 2 + t, none⟩).isSome = true ∧ w.drew.frozen? ⟨g, 0 + i * 2 + t, none⟩ = false) := fun t ht => by
    rw [Nat.zero_add]
    exact ⟨hsome _ (by omega), hfz _⟩
  obtain ⟨ho1, hg1⟩ := own_setCells news (i * 2) w.drew _ hod
  obtain ⟨W1, hW1⟩ : ∃ W1, W1 = w.drew.setCells g (0 + i * 2) news := ⟨_, rfl⟩
  have hW1' : w.drew.setCells g (i * 2) news = W1 := by rw [hW1, Nat.zero_add]
  rw [hW1'] at ho1 hg1
  have hlay : (layV css.flatten (i * 2) news).length = css.length * 2 := by
    rw [layV_eq _ _ _ (by rw [hfl]; exact hmul)]
    simp only [List.length_append, List.length_take, List.length_drop, hfl]
    omega
  have hZ : ((.agg #[(.slice none 0 0), (.int .i64 0)]) : Value).cells.size = 2 := rfl
  have hlast : (css.length - 1) * 2 + 2 = css.length * 2 := by
    rw [← Nat.succ_mul]
    congr 1
    omega
  have hcl : ∀ ty, (Builtin.clear_ #[32] ty #[.slice (some ⟨g, (css.length - 1) * 2, none⟩) 1 (cap - (css.length - 1))]).run Try.prog W1 = .ok (.tuple #[]) (W1.setCells g ((css.length - 1) * 2) ((.agg #[(.slice none 0 0), (.int .i64 0)]) : Value).cells.toList) := fun ty =>
    run_clear_one W1 32 28 ty (.agg #[(.slice none 0 0), (.int .i64 0)]) Try.underlying32 Try.zeroValue28 (by intro u hu; revert u; decide) g _ _ (by decide)
      (fun j hj => by
        rw [hZ] at hj
        have := ho1.cells (g := g) rfl ((css.length - 1) * 2 + j) _ (List.getElem?_eq_getElem (by rw [hlay]; omega))
        rw [add_plain] at this
        rw [this]
        rfl)
      (fun j hj => by
        rcases ho1.2 with ⟨h', _⟩ | ⟨g', cap', cur, hv, _, hh, _⟩
        · cases h'
        · injection hv with hv1 _ _
          injection hv1 with hv1
          injection hv1 with hv1
          subst hv1
          simp [World.frozen?, hh])
  obtain ⟨ho2, hg2⟩ := own_setCells ((.agg #[(.slice none 0 0), (.int .i64 0)]) : Value).cells.toList ((css.length - 1) * 2) W1 _ ho1
  have hfin : (Kd.raw 2).R 28 (W1.setCells g ((css.length - 1) * 2) ((.agg #[(.slice none 0 0), (.int .i64 0)]) : Value).cells.toList) base ok (.slice (some ⟨g, 0, none⟩) (css.length - 1) cap) (css.eraseIdx i) := by
    have hle : (css.eraseIdx i).length = css.length - 1 := List.length_eraseIdx_of_lt hi
    have hcut := own_cut ho2 (show css.length - 1 ≤ css.length by omega)
    rw [hnews, delete_flat hlen hi _ rfl] at hcut
    exact flat_raw (fun k hk => h0 k (by simpa [Value.ownBlock] using hk)) (by rw [hle]; exact hcut) (fun c hc => hcs c (List.mem_of_mem_eraseIdx hc))
  have hgr : w.grownBy (W1.setCells g ((css.length - 1) * 2) ((.agg #[(.slice none 0 0), (.int .i64 0)]) : Value).cells.toList) (some g) := (grown_of_below (below_drew (Below.refl _ _)) _).trans (hg1.trans hg2)
  have e1 : i + (css.length - (i + 1)) = css.length - 1 := by omega
  have hcl2 : ∀ ty, (Builtin.clear_ #[32] ty #[.slice (some ⟨g, (i + (css.length - (i + 1))) * 2, none⟩) (css.length - (i + (css.length - (i + 1)))) (cap - (i + (css.length - (i + 1))))]).run Try.prog W1 = .ok (.tuple #[]) (W1.setCells g ((css.length - 1) * 2) ((.agg #[(.slice none 0 0), (.int .i64 0)]) : Value).cells.toList) := fun ty => by
    rw [e1, show css.length - (css.length - 1) = 1 by omega]
    exact hcl ty
  have hm1 : i + (css.length - (i + 1)) ≤ css.length := by omega
  have hm2 : i + (css.length - (i + 1)) ≤ cap := by omega
  have hm3 : ((i + (css.length - (i + 1)) : Nat) : Int) ≤ (css.length : Int) := by omega
  have hm4 : ¬ cap = i + (css.length - (i + 1)) := by omega
  have E1 := Lib.hid e1
  generalize hWE : W1.setCells g ((css.length - 1) * 2) ((.agg #[(.slice none 0 0), (.int .i64 0)]) : Value).cells.toList = WE at hcl2 hfin hgr
  have HFIN := Aside0.mk hfin
  have HGR := Aside0.mk hgr
  have hW : Hid (W1 = w.drew.setCells g (0 + i * 2) news) := hW1
  have hij : ((i : Int) == (i : Int) + 1) = false := by simp; omega
  have hb1 : (i : Int) + 1 ≤ (css.length : Int) := by omega
  have hb0 : 0 ≤ (i : Int) + 1 := by omega
  have hic : i ≤ cap := by omega
  have hjc : i + 1 ≤ cap := by omega
  have hsub : css.length - (i + 1) + i = css.length - 1 := by omega
  clear e1 hcl hWE hZ hW1 hW1' hcell hfz hsome hnews hnl hone hod hfl hmul ho1 hg1 hlay hlast ho2 hg2 hfin hgr hr0 ho hcs hlen h0
  go_enter Try.func38, Try.ntmps38
  go_wp2_with fail
  go_region_law (refine step_append_room rfl (.tmp 22) (.tmp 25) 32 rfl 28 i0 2 Try.underlying32 hi0 hz1 g 0 i cap (by simp [Act.eval, Act.put]) A (css.length - (i + 1)) (cap - (i + 1)) news (by simp [Act.eval, Act.put, hA]) s1.out hsrc.out s2.out (by omega) s3.out ?_; rw [← hW.out])
  go_wp2
  go_ret
  exact ⟨by rw [← E1.out]; rfl, HFIN.out, HGR.out⟩


end Go.Proofs.Ytchkhnhmpgkpeaa.P
