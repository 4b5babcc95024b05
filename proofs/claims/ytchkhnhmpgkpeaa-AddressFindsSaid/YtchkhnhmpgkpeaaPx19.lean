-- Written by this repo's wip/tools/myprint.py (the kit's print program, with contracts of our own beside). Lean checks it.
import Derived.Test.YtchkhnhmpgkpeaaPx0
import Derived.Test.YtchkhnhmpgkpeaaPx6
import Derived.Test.YtchkhnhmpgkpeaaPx8
import Derived.Test.YtchkhnhmpgkpeaaPx9
import Derived.Test.YtchkhnhmpgkpeaaPx15
import Derived.Test.YtchkhnhmpgkpeaaPx18
namespace Go.Proofs.Ytchkhnhmpgkpeaa.P
open Go.Proofs.Ytchkhnhmpgkpeaa.Common
open Go.RowKit Go.Proofs.YtchkhnhmpgkpeaaW.PrintWords Go.Proofs.YtchkhnhmpgkpeaaW.PrintLast Go.Proofs.YtchkhnhmpgkpeaaW.PrintMore
attribute [local go_sem] max2_int min2_int max_two min_two max_three min_three max_four min_four   -- for this text's walks alone
set_option linter.unusedVariables false
set_option linter.unusedSimpArgs false

/-! ### address_Brief: function 16 (a contract of our own) -/
theorem address_Brief_1.mono : ∀ t p n k, LeO (address_Brief_1.f k t p n) (address_Brief_1.f (k + 1) t p n) := by
  intro t p n k
  unfold address_Brief_1.f
  exact LeO.bind (address_find.mono _ _ _ _) (fun _ => LeO.refl _)
/-- Again and again the first entry that changes nothing is taken out. -/
def address_Brief.l0 : Nat → List S28 → Option (List S28)
  | 0, _ => none
  | k + 1, t => (idxM (fun x => address_Brief_1.f k t x.f0 x.f1) t).bind fun i => if i < 0 then some t else address_Brief.l0 k (t.eraseIdx i.toNat)
def address_Brief.f (k : Nat) (l0 : List S28) : Option (List S28 × Int) := (address_entries.f k l0).bind fun e => if e = 0 then ((address_own.f l0).bind fun t => (address_Brief.l0 k t).bind fun r => some (r, 0)) else some ([], e)
theorem address_Brief.mono_l : ∀ k t, LeO (address_Brief.l0 k t) (address_Brief.l0 (k + 1) t)
  | 0, t => fun r h => by simp [address_Brief.l0] at h
  | k + 1, t => by
    rw [address_Brief.l0, address_Brief.l0]
    exact LeO.bind (idxM_mono (fun x => address_Brief_1.mono _ _ _ _) t) (fun i => LeO.ite (LeO.refl _) (address_Brief.mono_l k _))
theorem address_Brief.mono : ∀ a0 k, LeO (address_Brief.f k a0) (address_Brief.f (k + 1) a0) := by
  intro a0 k
  unfold address_Brief.f
  exact LeO.bind (address_entries.mono _ _) (fun e => LeO.ite (LeO.bind (LeO.refl _) (fun t => LeO.bind (address_Brief.mono_l k t) (fun _ => LeO.refl _))) (LeO.refl _))
set_option maxHeartbeats 2000000 in
set_option maxRecDepth 100000 in
theorem address_Brief.calls (k : Nat) (A0 : Option Addr) (c0 : Nat) (l0 : List S28) (r1 : List S28) (r2 : Int) (w : World) (hr0 : Kd.C k28 w A0 l0.length l0) (hc0 : l0.length ≤ c0) (h : address_Brief.f k l0 = some (r1, r2)) :
    Calls Try.prog 16 #[.slice A0 l0.length c0] w fun e w' => ∃ v0_ : Value, e = .returned (.tuple #[v0_, .int .i64 r2]) ∧ Kd.S k28 28 w' w.heap.size (fun _ => True) v0_ r1 ∧ Below w.heap.size w w' := by
  obtain ⟨e, he, h⟩ := Option.bind_eq_some_iff.1 h
  have hb0 : Below w.heap.size w (w.alloc (.cells #[.slice A0 l0.length c0] 32)) := (Below.refl _ _).alloc (Nat.le_refl _) _
  have hsz : (w.alloc (.cells #[.slice A0 l0.length c0] 32)).heap.size = w.heap.size + 1 := by simp
  have HE := Aside0.mk (address_entries.calls k A0 c0 l0 e _ (Kd.C_below hr0 hb0) hc0 he)
  by_cases he0 : e = 0
  · subst he0
    rw [if_pos rfl] at h
    obtain ⟨t0, ht0, h⟩ := Option.bind_eq_some_iff.1 h
    obtain ⟨r, hr, h⟩ := Option.bind_eq_some_iff.1 h
    injection h with h
    injection h with h1 h2
    subst h1 h2
    have HB0 := Aside0.mk hb0
    have HR0 := Aside0.mk hr0
    have HC0 := Aside0.mk hc0
    have HT0 := Aside0.mk ht0
    have HR := Aside0.mk hr
    have HSZ := Aside0.mk hsz
    have hcell := (blk_cell (heap_alloc_new w (.cells #[.slice A0 l0.length c0] 32)) 0).trans (show _ = some (Value.slice A0 l0.length c0) from rfl)
    have HCELL := Aside0.mk hcell
    have HFZ := Aside0.mk (blk_frozen (heap_alloc_new w (.cells #[.slice A0 l0.length c0] 32)) 0)
    clear hr0 hc0 he hb0 hsz ht0 hr hcell
    go_enter Try.func16, Try.ntmps16
    go_wp2_with fail
    refine HE.out.mono ?_
    rintro e' w2 ⟨rfl, hb2⟩
    have hc2 : w2.cell? ⟨w.heap.size, 0, none⟩ = some (.slice A0 l0.length c0) := (hb2.cell (p := ⟨w.heap.size, 0, none⟩) (by rw [HSZ.out]; exact Nat.lt_succ_self _)).trans HCELL.out
    have hf2 : w2.frozen? ⟨w.heap.size, 0, none⟩ = false := (hb2.frozen (p := ⟨w.heap.size, 0, none⟩) (by rw [HSZ.out]; exact Nat.lt_succ_self _)).trans HFZ.out
    have HB2 := Aside0.mk (HB0.out.trans (hb2.mono (by rw [HSZ.out]; exact Nat.le_succ _)))
    have HLT2 : Aside0 (w.heap.size < w2.heap.size) := ⟨by have := hb2.size; rw [HSZ.out] at this; omega⟩
    clear hb2 HE HCELL HFZ HSZ HB0
    go_wp2_with fail
    refine (address_own.calls A0 c0 l0 t0 w2 (Kd.C_below HR0.out HB2.out) HC0.out HT0.out).mono ?_
    rintro e' w3 ⟨v, rfl, hS, hb3⟩
    have hc3 : w3.cell? ⟨w.heap.size, 0, none⟩ = some (.slice A0 l0.length c0) := (hb3.cell (p := ⟨w.heap.size, 0, none⟩) HLT2.out).trans hc2
    have hf3 : w3.frozen? ⟨w.heap.size, 0, none⟩ = false := (hb3.frozen (p := ⟨w.heap.size, 0, none⟩) HLT2.out).trans hf2
    obtain ⟨A3, c3, rfl⟩ := Kd.S_slice hS
    have HS : Aside0 (Kd.S k28 28 w3 w2.heap.size (fun q => q ≠ w.heap.size) (.slice A3 t0.length c3) t0) := ⟨Kd.S_mono (Kd.S_bound hS) (fun q hq => by have := hq.2.1; have := HLT2.out; omega)⟩
    have HB3 := Aside0.mk (HB2.out.trans (hb3.mono HB2.out.size))
    have HLT3 : Aside0 (w.heap.size < w3.heap.size) := ⟨by have := hb3.size; have := HLT2.out; omega⟩
    clear hc2 hf2 hb3 hS HB2 HR0 HC0 HT0
    go_wp2
    go_loopg [5] k (fun kq _ wr => ∃ (t : List S28) (A : Option Addr) (c : Nat), Aside0 (address_Brief.l0 kq t = some r) ∧ Aside0 (kq ≤ k) ∧ Aside0 (Kd.S k28 28 wr w2.heap.size (fun q => q ≠ w.heap.size) (.slice A t.length c) t) ∧
      wr.cell? ⟨w.heap.size, 0, none⟩ = some (.slice A t.length c) ∧ wr.frozen? ⟨w.heap.size, 0, none⟩ = false ∧ Aside0 (Below w.heap.size w wr) ∧ Aside0 (w.heap.size < wr.heap.size))
    case atStart =>
      exact ⟨t0, A3, c3, HR, ⟨Nat.le_refl _⟩, ⟨Kd.S_far (p := ⟨w.heap.size, 0, none⟩) HS.out (fun _ h => h) _⟩, World.cell?_setCell_same' _ _ _ (by rw [hc3]; rfl), by rw [World.frozen?_setCell]; exact hf3, ⟨HB3.out.setCell (Nat.le_refl _) _⟩, ⟨by rw [World.size_setCell]; exact HLT3.out⟩⟩
    case round =>
      clear hc3 hf3 HS HB3 HLT3 HR
      obtain ⟨t, A, c, HR, HK, HS, hcb, hfb, HB, HLT⟩ := hrel
      cases gk with
      | zero => exact absurd HR.out (by simp [address_Brief.l0])
      | succ k1 =>
        have hR := HR.out
        rw [address_Brief.l0] at hR
        obtain ⟨i, hi, hR⟩ := Option.bind_eq_some_iff.1 hR
        obtain ⟨_, hcl, hC⟩ := Kd.S_reads' HS.out
        have HI := Aside0.mk (address_Entry_36.calls 37 #[.pointer (some ⟨w.heap.size, 0, none⟩)] (enters_of Try.func37 (by kernel_rfl) rfl) (fun x => address_Brief_1.f k1 t x.f0 x.f1) A c t i wr hC hcl hi (fun W x cs b hW hK hb => by
          obtain ⟨A', c', rfl, h1, h2⟩ := k28_open hK
          exact address_Brief_1.calls k1 w.heap.size A c t A' c' x b W ((hW.cell (p := ⟨w.heap.size, 0, none⟩) HLT.out).trans hcb) (Kd.C_below hC hW) hcl h2 h1 hb))
        have hrange := idxM_range hi
        clear HR hi hcl hC
        by_cases hneg : i < 0
        · rw [if_pos hneg] at hR
          obtain rfl := Option.some.inj hR
          have hneg2 : decide (i < 0) = true := decide_eq_true hneg
          clear hR hrange hneg
          go_wp2_with fail
          refine HI.out.mono ?_
          rintro e' w4 ⟨rfl, hb4⟩
          have hc4 : w4.cell? ⟨w.heap.size, 0, none⟩ = some (.slice A t.length c) := (hb4.cell (p := ⟨w.heap.size, 0, none⟩) HLT.out).trans hcb
          have HS4 := Aside0.mk (Kd.S_below HS.out hb4)
          have HB4 := Aside0.mk (HB.out.trans (hb4.mono HB.out.size))
          clear hb4 HI HS HB hcb hfb
          go_wp2
          go_ret2
          exact ⟨_, rfl, Kd.S_mono (Kd.S_lower HS4.out (by have := HLT2.out; omega)) (fun _ _ => trivial), HB4.out⟩
        · rw [if_neg hneg] at hR
          obtain ⟨m, rfl⟩ : ∃ m : Nat, i = m := ⟨i.toNat, by omega⟩
          rw [Int.toNat_natCast] at hR
          have hml : m < t.length := by omega
          have HR1 := Aside0.mk hR
          have HML := Aside0.mk hml
          have hneg2 : decide ((m : Int) < 0) = false := decide_eq_false hneg
          obtain ⟨ff, hT⟩ := HS.out
          have hbig : (m : Int) + 1 ≤ 9223372036854775807 := by
            have := (Kd.S_reads' HS.out).2.2.2.1
            omega
          obtain ⟨g, hgA, hgb⟩ : ∃ g, A = some ⟨g, 0, none⟩ ∧ w2.heap.size ≤ g := by
            obtain ⟨g, cap, hv, hgb, _⟩ := Kd.S_form HS.out (by omega)
            injection hv with hv _ _
            exact ⟨g, hv, hgb⟩
          subst hgA
          have HGB := Aside0.mk hgb
          clear hR hrange hneg hT ff hml hgb
          go_wp2_with fail
          refine HI.out.mono ?_
          rintro e' w4 ⟨rfl, hb4⟩
          have hc4 : w4.cell? ⟨w.heap.size, 0, none⟩ = some (.slice (some ⟨g, 0, none⟩) t.length c) := (hb4.cell (p := ⟨w.heap.size, 0, none⟩) HLT.out).trans hcb
          have hf4 : w4.frozen? ⟨w.heap.size, 0, none⟩ = false := (hb4.frozen (p := ⟨w.heap.size, 0, none⟩) HLT.out).trans hfb
          have HS4 := Aside0.mk (Kd.S_below HS.out hb4)
          have HB4 := Aside0.mk (HB.out.trans (hb4.mono HB.out.size))
          have HLT4 : Aside0 (w.heap.size < w4.heap.size) := ⟨by have := hb4.size; have := HLT.out; omega⟩
          clear hb4 HI HS HB hcb hfb HLT
          go_wp2_with fail
          obtain ⟨ff, hT⟩ := HS4.out
          obtain ⟨css, hl, hraw, hM⟩ := raw_of_R hT
          have HM := Aside0.mk hM
          have HL := Aside0.mk hl
          refine (address_Entry_38.one g t.length c m w2.heap.size _ css w4 hraw HML.out).mono ?_
          rintro e' w5 ⟨rfl, hr5, hg5⟩
          have hS5 := Kd.S_erase (R_erased HL.out HM.out hr5 hg5)
          have hlen : (t.eraseIdx m).length = t.length - 1 := List.length_eraseIdx_of_lt HML.out
          have hne : some w.heap.size ≠ some g := fun e => by
            injection e with e
            have := HLT2.out
            have := HGB.out
            omega
          have hc5 : w5.cell? ⟨w.heap.size, 0, none⟩ = some (.slice (some ⟨g, 0, none⟩) t.length c) := hg5.cell hc4 hne
          have hf5 : w5.frozen? ⟨w.heap.size, 0, none⟩ = false := (hg5.frozen_far ⟨w.heap.size, 0, none⟩ HLT4.out hne).trans hf4
          rw [← hlen] at hS5 ⊢
          have HS5 := Aside0.mk hS5
          have HB5 := Aside0.mk (HB4.out.grown hg5 HB4.out.size (fun k hk => by injection hk with hk; have := HLT2.out; have := HGB.out; omega))
          have HLT5 : Aside0 (w.heap.size < w5.heap.size) := ⟨by have := hg5.size; have := HLT4.out; omega⟩
          clear hT hraw hM hl hr5 hg5 hS5 hlen hne hc4 hf4 HM HL HS4 HB4 HLT4
          go_wp2
          go_roundg k1
          case measure => omega
          case rel =>
            exact ⟨t.eraseIdx m, _, _, HR1, ⟨by have := HK.out; omega⟩, ⟨Kd.S_far (p := ⟨w.heap.size, 0, none⟩) HS5.out (fun _ h => h) _⟩, World.cell?_setCell_same' _ _ _ (by rw [hc5]; rfl), by rw [World.frozen?_setCell]; exact hf5, ⟨HB5.out.setCell (Nat.le_refl _) _⟩, ⟨by rw [World.size_setCell]; exact HLT5.out⟩⟩
  · rw [if_neg he0] at h
    injection h with h
    injection h with h1 h2
    subst h1 h2
    have hbe : (e == 0) = false := by simpa using he0
    have hbn : (e != 0) = true := by simpa using he0
    have HB0 := Aside0.mk hb0
    have HSZ := Aside0.mk hsz
    clear hr0 hc0 he hb0 hsz he0
    go_enter Try.func16, Try.ntmps16
    go_wp2_with fail
    refine HE.out.mono ?_
    rintro e' w2 ⟨rfl, hb2⟩
    have HB2 := Aside0.mk (HB0.out.trans (hb2.mono (by rw [HSZ.out]; exact Nat.le_succ _)))
    clear hb2 HE HB0 HSZ
    go_wp2
    go_ret2
    exact ⟨_, rfl, Kd.S_nil _ _ _ _ _, HB2.out⟩


/-! ### heptadref11_without: function 39 -/
def heptadref11_without.l0 : Nat → List (S35) → Int → List (S35) → Int → Option ((List (S35)))
 | 0, _, _, _, _ => none
 | k + 1, x0, x1, x5, x6 => if x6 < (x0.length : Int) then (if x6 = x1 then (heptadref11_without.l0 k x0 x1 x5 (wrap64 (x6 + 1))) else (if 0 ≤ x6 then ((heptadref11_own.f ((rd_T35 x0 x6).f0) ((rd_T35 x0 x6).f1)).bind fun bt237 => (if x5.length < 4398046511104 then (heptadref11_without.l0 k x0 x1 (x5 ++ [(⟨bt237.1, bt237.2⟩ : S35)]) (wrap64 (x6 + 1))) else (none))) else (none))) else (some x5)
def heptadref11_without.f (k : Nat) (l0 : List (S35)) (a1 : Int) : Option ((List (S35))) := heptadref11_without.l0 k l0 a1 ([] : List (S35)) 0
theorem heptadref11_without.mono_l : ∀ k, (∀ y0 y1 y2 y3, LeO (heptadref11_without.l0 k y0 y1 y2 y3) (heptadref11_without.l0 (k + 1) y0 y1 y2 y3))
 | 0 => fun _ _ _ _ r h => by simp [heptadref11_without.l0] at h
 | k + 1 => by
  have ih0 := heptadref11_without.mono_l k
  ·intro y0 y1 y2 y3
   unfold heptadref11_without.l0
   repeat' first
   | (with_reducible exact ih0 _ _ _ _)
   | (with_reducible exact LeO.refl _)
   | (with_reducible exact LeO.none _)
   | (with_reducible refine LeO.ite ?_ ?_)
   | (with_reducible refine LeO.bind ?_ (fun _ => ?_))
   | exact ih0 _ _ _ _
   | exact LeO.none _
   | refine LeO.ite ?_ ?_
   | refine LeO.bind ?_ (fun _ => ?_)
theorem heptadref11_without.mono : ∀ a0 a1 k, LeO (heptadref11_without.f k a0 a1) (heptadref11_without.f (k + 1) a0 a1) := by
 intro a0 a1 k
 have ih0 := heptadref11_without.mono_l k
 unfold heptadref11_without.f
 repeat' first
   | (with_reducible exact ih0 _ _ _ _)
   | (with_reducible exact LeO.refl _)
   | (with_reducible exact LeO.none _)
   | (with_reducible refine LeO.ite ?_ ?_)
   | (with_reducible refine LeO.bind ?_ (fun _ => ?_))
   | exact ih0 _ _ _ _
   | exact LeO.none _
   | refine LeO.ite ?_ ?_
   | refine LeO.bind ?_ (fun _ => ?_)
set_option maxHeartbeats 8000000 in
set_option maxRecDepth 100000 in
theorem heptadref11_without.calls (k : Nat) (A0 : Option Addr) (c0 : Nat) (l0 : List (S35)) (a1 : Int) (r : List (S35)) (w : World) (hr0 : Kd.C k35 w A0 l0.length l0) (hc0 : l0.length ≤ c0) (h : heptadref11_without.f k l0 a1 = some r) :
  Calls Try.prog 39 #[.slice A0 l0.length c0, .int .i64 a1] w fun e w' => ∃ v0_ : Value, e = .returned (v0_) ∧ Kd.S k35 35 w' w.heap.size (fun _ => True) v0_ r ∧ Below w.heap.size w w' := by
 have hu35 := Try.underlying35
 have HR0 := Aside0.mk hr0
 have HC0 := Aside0.mk hc0
 clear hr0 hc0
 have HB := Aside0.mk (Below.refl w.heap.size w)
 have H : (heptadref11_without.l0 k l0 a1 ([] : List (S35)) 0) = some r := h
 clear h
 have H' := Aside0.mk H
 clear H
 go_enter Try.func39, Try.ntmps39
 go_wp2
 go_loopg [5, 6] k (fun kq v5 v6 w' => ∃ (x5_1 : List (S35)) (x6_1 : Int), v6 = .int .i64 x6_1 ∧ Aside0 (heptadref11_without.l0 kq l0 a1 x5_1 x6_1 = some r) ∧ Aside0 (kq ≤ k) ∧ Aside0 (Kd.S k35 35 w' w.heap.size (fun _ => True) v5 x5_1) ∧ Aside0 (Below w.heap.size w w'))
 case atStart => exact ⟨(([] : List (S35))), (0), (by first | rfl | (simp; done) | (simp [*]; done)), H', ⟨Nat.le_refl _⟩, ⟨by first | exact Kd.S_nil _ _ _ _ _ | exact Kd.N_nil _ _ _ _ _ | exact Kd.V_nil _ _ _ _ _ | exact Kd.Q_nil _ _ _ _ _ | exact Kd.R_nil _ _ _ _ _⟩, ⟨by repeat (first | (with_reducible first | exact HB.out | apply below_alloc | apply pw_below_drewN | apply below_drew1) | exact HB.out)⟩⟩
 case round =>
  clear H'
  try clear p2
  obtain ⟨x5_1, x6_1, rfl, HA, HK1, HO_5, HB⟩ := hrel
  cases gk with
  | zero => exact absurd HA.out (by simp [heptadref11_without.l0])
  | succ k1 =>
   have H := HA.out
   clear HA
   simp only [heptadref11_without.l0] at H
   by_cases c3 : x6_1 < (l0.length : Int)
   ·rw [if_pos c3] at H
    have c3b0 : decide (x6_1 < (l0.length : Int)) = true := decide_eq_true c3
    clear c3
    by_cases c4 : x6_1 = a1
    ·rw [if_pos c4] at H
     have c4b0 : (x6_1 == a1) = true := beq_iff_eq.mpr c4
     have c4b1 : (x6_1 != a1) = false := bne_eq_false_iff_eq.mpr c4
     clear c4
     have H' := Aside0.mk H
     clear H
     go_wp2
     go_roundg k1
     case measure => have := HK1.out; omega
     case rel => exact ⟨(x5_1), (wrap64 (x6_1 + 1)), (by first | rfl | (simp; done) | (simp [*]; done)), H', ⟨by have := HK1.out; omega⟩, ⟨by (with_reducible repeat (first | apply Kd.S_alloc | apply Kd.S_drewN | apply Kd.S_drew)); exact HO_5.out⟩, ⟨by repeat (first | (with_reducible first | exact HB.out | apply below_alloc | apply pw_below_drewN | apply below_drew1) | exact HB.out)⟩⟩
    ·rw [if_neg c4] at H
     have c4b0 : (x6_1 == a1) = false := beq_eq_false_iff_ne.mpr c4
     have c4b1 : (x6_1 != a1) = true := bne_iff_ne.mpr c4
     by_cases c5 : 0 ≤ x6_1
     ·rw [if_pos c5] at H
      have c5b0 : decide (0 ≤ x6_1) = true := decide_eq_true c5
      clear c5
      replace H := Option.bind_eq_some_iff.mp H
      obtain ⟨⟨t237, t240⟩, A60, H⟩ := H
      replace H : (if x5_1.length < 4398046511104 then (heptadref11_without.l0 k1 l0 a1 (x5_1 ++ [(⟨t237, t240⟩ : S35)]) (wrap64 (x6_1 + 1))) else (none)) = some r := H
      have A6 := Aside0.mk A60
      clear A60
      by_cases c7 : x5_1.length < 4398046511104
      ·rw [if_pos c7] at H
       have LMc7 := Aside0.mk c7
       clear c7
       obtain ⟨y241, hy241⟩ : ∃ y_ : List (S35), y_ = (x5_1 ++ [(⟨t237, t240⟩ : S35)]) := ⟨_, rfl⟩
       replace H : (heptadref11_without.l0 k1 l0 a1 y241 (wrap64 (x6_1 + 1))) = some r := by first | (rw [hy241]; with_reducible exact H) | (have H2_ := (Option.bind_some _ _).symm.trans H; rw [hy241]; with_reducible exact H2_) | (have H2_ := (Option.bind_some _ _).symm.trans H; with_reducible exact H2_) | with_reducible exact H | (rw [hy241]; exact H) | exact H
       have Ny241 := Aside0.mk hy241
       clear hy241
       have H' := Aside0.mk H
       clear H
       have p236 : 0 ≤ (x6_1 : Int) := of_decide_eq_true (by first | (with_reducible assumption) | assumption)
       have q236 : x6_1 < (l0.length : Int) := of_decide_eq_true (by first | (with_reducible assumption) | assumption)
       obtain ⟨ad236, A236_0, c236_0, e236, hx236_0, hx236_1, hl236_0, hi236_0⟩ := at_T35 HR0.out x6_1 p236 q236
       cases e236
       replace hx236_0 := (HB.out.cell (World.block_lt_of_cell? w _ hx236_0)).trans hx236_0
       replace hx236_1 := (HB.out.cell (World.block_lt_of_cell? w _ hx236_1)).trans hx236_1
       have HR236_0 := Aside0.mk hi236_0
       have HC236_0 := Aside0.mk hl236_0
       clear hi236_0 hl236_0
       replace p236 := eq_true p236
       replace q236 := eq_true q236
       go_wp2_with (first | ((with_reducible refine gate_callee (f := 34) rfl ?_); refine goesL_ (some 21) rfl rfl Try.func34 (by kernel_rfl) rfl #[.agg #[.slice A236_0 ((rd_T35 l0 x6_1).f0).length c236_0, .int .i64 ((rd_T35 l0 x6_1).f1)]] rfl (by (try simp only [List.map_toArray, List.map_cons, List.map_nil]); first | done | rfl | (simp only [List.length_drop, List.length_take]; rfl)) ?_; (with_reducible refine (heptadref11_own.calls _ _ ((rd_T35 l0 x6_1).f0) ((rd_T35 l0 x6_1).f1) t237 t240 _ ?side1 ?side2 A6.out).mono ?_); (case side1 => repeat (first | exact (Kd.C_below HR236_0.out HB.out) | (with_reducible first | refine Kd.C_alloc ?_ _ | refine Kd.C_drewN ?_ _ | refine Kd.C_drew ?_))); (case side2 => exact HC236_0.out); rintro e w8 ⟨v238, rfl, ho0, hb⟩; refine ⟨_, rfl, ?_⟩; have n0_ := Aside0.mk (Kd.S_elder' (by (with_reducible repeat (first | apply Kd.S_alloc | apply Kd.S_drewN | apply Kd.S_drew)); exact HO_5.out) (Kd.R_base ho0) hb); have n1_ := Aside0.mk (Kd.R_lower ho0 (below_size (by repeat (first | (with_reducible first | exact HB.out | apply below_alloc | apply pw_below_drewN | apply below_drew1) | exact HB.out)))); have n2_ := Aside0.mk (below_step (by repeat (first | (with_reducible first | exact HB.out | apply below_alloc | apply pw_below_drewN | apply below_drew1) | exact HB.out)) hb); clear HO_5; clear HB; have HO_5 := n0_; have HO239 := n1_; have HB := n2_; clear n0_ n1_ n2_; (try clear hb); (try clear hb2); (try clear hk); (try clear hi); (try clear ho0); obtain ⟨Ao10, co10, eo10⟩ := Kd.R_slice HO239.out; subst eo10) | ((with_reducible refine gate_builtin (b := .append) (xs := #[.tmp 16, .tmp 22]) rfl ?_); at_builtin; refine Kd.S_append k35 (w0 := w) w.heap.size rfl (.tmp 16) (.tmp 22) 22 35 (.agg #[(.slice none 0 0), (.int .i64 0)]) 32 rfl Try.underlying22 info35 rfl (by decide) (by omega) u5 x5_1 (⟨t237, t240⟩ : S35) [.slice Ao10 t237.length co10, .int .i64 t240] (fun _ => True) (fun k_ => some k_ = (.slice Ao10 t237.length co10 : Value).ownBlock) rfl rfl ?aP (fun k_ hk_ => ((Kd.R_mono (ok' := fun k_ => ((fun _ => True)) k_ ∧ some k_ ≠ (u5 : Value).ownBlock) (Kd.R_apart' (HO239.out) (Kd.S_typed HO_5.out) (by decide)) (fun k_ hk => ⟨trivial, hk.2⟩))).1 k_ hk_.symm) ?aF ?aO ?aB ?aS ?aL ?_; (case aP => exact k35_mkM _ _ _ (⟨t237, t240⟩ : S35) (Kd.R_mono (Kd.R_tight rfl (Kd.R_mono (ok' := fun k_ => ((fun _ => True)) k_ ∧ some k_ ≠ (u5 : Value).ownBlock) (Kd.R_apart' (HO239.out) (Kd.S_typed HO_5.out) (by decide)) (fun k_ hk => ⟨trivial, hk.2⟩))) (fun _ h_ => h_))); (case aB => exact (by repeat (first | (with_reducible first | exact HB.out | apply below_alloc | apply pw_below_drewN | apply below_drew1) | exact HB.out))); (case aF => exact (fun _ _ => trivial)); (case aO => exact (by (with_reducible repeat (first | apply Kd.S_alloc | apply Kd.S_drewN | apply Kd.S_drew)); exact Kd.S_mono HO_5.out (fun k_ hk => ⟨trivial, fun e_ => hk.2 e_⟩))); (case aS => exact (below_size (by repeat (first | (with_reducible first | exact HB.out | apply below_alloc | apply pw_below_drewN | apply below_drew1) | exact HB.out)))); (case aL => have := LMc7.out; omega); intro v242 w9 ho hb hg hat; rw [← Ny241.out] at ho; have n0_ := Aside0.mk (hb); have n1_ := Aside0.mk (ho); clear HB; clear HO_5; clear HO239; have HB := n0_; have HO243 := n1_; clear n0_ n1_; clear ho hb hg hat))
       go_roundg k1
       case measure => have := HK1.out; omega
       case rel => exact ⟨(y241), (wrap64 (x6_1 + 1)), (by first | rfl | (simp; done) | (simp [*]; done)), H', ⟨by have := HK1.out; omega⟩, ⟨by (with_reducible repeat (first | apply Kd.S_alloc | apply Kd.S_drewN | apply Kd.S_drew)); exact HO243.out⟩, ⟨by repeat (first | (with_reducible first | exact HB.out | apply below_alloc | apply pw_below_drewN | apply below_drew1) | exact HB.out)⟩⟩
      ·rw [if_neg c7] at H
       exact absurd H (by simp)
     ·rw [if_neg c5] at H
      exact absurd H (by simp)
   ·rw [if_neg c3] at H
    have c3b0 : decide (x6_1 < (l0.length : Int)) = false := decide_eq_false c3
    clear c3
    obtain rfl := Option.some.inj H
    go_wp2
    go_ret
    exact ⟨_, by first | rfl | (simp [errW_none, errW_some] <;> rfl) | (simp [*, errW_none, errW_some] <;> rfl), by (with_reducible repeat (first | apply Kd.S_alloc | apply Kd.S_drewN | apply Kd.S_drew)); exact HO_5.out, by repeat (first | (with_reducible first | exact HB.out | apply below_alloc | apply pw_below_drewN | apply below_drew1) | exact HB.out)⟩

end Go.Proofs.Ytchkhnhmpgkpeaa.P
