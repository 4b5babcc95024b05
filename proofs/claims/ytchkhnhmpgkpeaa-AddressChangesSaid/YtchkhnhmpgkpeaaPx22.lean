-- Written by this repo's wip/tools/myprint.py (the kit's print program, with contracts of our own beside). Lean checks it.
import Derived.Test.YtchkhnhmpgkpeaaPx0
import Derived.Test.YtchkhnhmpgkpeaaPx1
import Derived.Test.YtchkhnhmpgkpeaaPx4
import Derived.Test.YtchkhnhmpgkpeaaPx6
import Derived.Test.YtchkhnhmpgkpeaaPx7
import Derived.Test.YtchkhnhmpgkpeaaPx19
import Derived.Test.YtchkhnhmpgkpeaaPx21
namespace Go.Proofs.Ytchkhnhmpgkpeaa.P
open Go.Proofs.Ytchkhnhmpgkpeaa.Common
open Go.RowKit Go.Proofs.YtchkhnhmpgkpeaaW.PrintWords Go.Proofs.YtchkhnhmpgkpeaaW.PrintLast Go.Proofs.YtchkhnhmpgkpeaaW.PrintMore
attribute [local go_sem] max2_int min2_int max_two min_two max_three min_three max_four min_four   -- for this text's walks alone
set_option linter.unusedVariables false
set_option linter.unusedSimpArgs false

/-! ### address_Remove: function 22 (a contract of our own) -/
theorem address_Remove.C_of_raw {α : Type} {d : Kd α} {w : World} {A : Option Addr} {n : Nat} {xs : List α} {css : List (List Value)} (h : (Kd.raw d.sz).C w A n css) (hl : css.length = xs.length)
    (hk : ∀ (j : Nat) (x : α), xs[j]? = some x → ∃ c, css[j]? = some c ∧ d.K w x c) : d.C w A n xs := by
  obtain ⟨h1, h2, h3⟩ := h
  refine ⟨by rw [← hl]; exact h1, h2, fun hn => ?_⟩
  obtain ⟨ad, rfl, hc⟩ := h3 hn
  refine ⟨ad, rfl, fun j x hj => ?_⟩
  obtain ⟨c, hcj, hK⟩ := hk j x hj
  obtain ⟨c', hcl, hM, hu⟩ := hc j c hcj
  obtain ⟨e, _, _⟩ := hM
  subst e
  exact ⟨c', hcl, hK, hu⟩
theorem address_Remove.fresh {sz e : Nat} {w : World} {base n c : Nat} {ok : Nat → Prop} {A : Option Addr} {css : List (List Value)} (h : (Kd.raw sz).R e w base ok (.slice A n c) css) (hn : 0 < css.length) : ∃ g, A = some ⟨g, 0, none⟩ ∧ base ≤ g := by
  obtain ⟨g, cap, hv, hgb, _⟩ := Kd.R_form h hn
  injection hv with hv _ _
  exact ⟨g, hv, hgb⟩
def address_Remove.f (k : Nat) (l0 : List S28) (l1 : List Int) : Option (List S28 × Int) := (address_prefix.f l1).bind fun b => if b = true then ((address_entries.f k l0).bind fun e => if e = 0 then ((idxM (fun x => address_Remove_1.f k l1 x.f0 x.f1) l0).bind fun i => if i < 0 then some ([], 3) else if l0.length * 32 ≤ 140737488355328 then ((address_own.f (l0.eraseIdx i.toNat)).bind fun r => some (r, 0)) else none) else some ([], e)) else some ([], 1)
theorem address_Remove.mono : ∀ a0 a1 k, LeO (address_Remove.f k a0 a1) (address_Remove.f (k + 1) a0 a1) := by
  intro a0 a1 k
  unfold address_Remove.f
  exact LeO.bind (LeO.refl _) (fun b => LeO.ite (LeO.bind (address_entries.mono _ _) (fun e => LeO.ite (LeO.bind (idxM_mono (fun x => address_Remove_1.mono _ _ _ _) a0) (fun _ => LeO.refl _)) (LeO.refl _))) (LeO.refl _))
set_option maxHeartbeats 2000000 in
set_option maxRecDepth 100000 in
theorem address_Remove.calls (k : Nat) (A0 : Option Addr) (c0 : Nat) (l0 : List S28) (A1 : Option Addr) (c1 : Nat) (l1 : List Int) (r1 : List S28) (r2 : Int) (w : World) (hr0 : Kd.C k28 w A0 l0.length l0) (hc0 : l0.length ≤ c0) (hr1 : Kd.C (Kd.int .i64) w A1 l1.length l1) (hc1 : l1.length ≤ c1) (h : address_Remove.f k l0 l1 = some (r1, r2)) :
    Calls Try.prog 22 #[.slice A0 l0.length c0, .slice A1 l1.length c1] w fun e w' => ∃ v0_ : Value, e = .returned (.tuple #[v0_, .int .i64 r2]) ∧ Kd.S k28 28 w' w.heap.size (fun _ => True) v0_ r1 ∧ Below w.heap.size w w' := by
  obtain ⟨b, hpre, h⟩ := Option.bind_eq_some_iff.1 h
  have HB0 := Aside0.mk (show Below w.heap.size w (w.alloc (.cells #[.slice A1 l1.length c1] 23)) from (Below.refl _ _).alloc (Nat.le_refl _) _)
  have HSZ := Aside0.mk (show (w.alloc (.cells #[.slice A1 l1.length c1] 23)).heap.size = w.heap.size + 1 by simp)
  have HCELL := Aside0.mk ((blk_cell (heap_alloc_new w (.cells #[.slice A1 l1.length c1] 23)) 0).trans (show _ = some (Value.slice A1 l1.length c1) from rfl))
  have HR0 := Aside0.mk hr0
  have HC0 := Aside0.mk hc0
  have HR1 := Aside0.mk hr1
  have HC1 := Aside0.mk hc1
  have HPRE := Aside0.mk hpre
  have H := Aside0.mk h
  clear hr0 hc0 hr1 hc1 hpre h
  go_enter Try.func22, Try.ntmps22
  go_wp2_with fail
  refine (address_prefix.calls A1 c1 l1 b _ (Kd.C_below HR1.out HB0.out) HC1.out HPRE.out).mono ?_
  rintro e w1 ⟨rfl, hd1⟩
  have hb1 := hd1.below
  have hp1 : w1.cell? ⟨w.heap.size, 0, none⟩ = some (.slice A1 l1.length c1) := (hb1.cell (p := ⟨w.heap.size, 0, none⟩) (by rw [HSZ.out]; exact Nat.lt_succ_self _)).trans HCELL.out
  have HB1 := Aside0.mk (HB0.out.trans (hb1.mono (by rw [HSZ.out]; exact Nat.le_succ _)))
  have HLT1 : Aside0 (w.heap.size < w1.heap.size) := ⟨by have := hb1.size; rw [HSZ.out] at this; omega⟩
  clear hd1 hb1 HPRE HCELL HSZ HB0
  cases b with
  | false =>
    have h := H.out
    rw [if_neg (by simp)] at h
    injection h with h
    injection h with h1 h2
    subst h1 h2
    clear H
    go_wp2
    go_ret2
    exact ⟨_, rfl, Kd.S_nil _ _ _ _ _, HB1.out⟩
  | true =>
    have h := H.out
    rw [if_pos rfl] at h
    obtain ⟨e, he, h⟩ := Option.bind_eq_some_iff.1 h
    have HE := Aside0.mk he
    have H2 := Aside0.mk h
    clear H he h
    go_wp2_with fail
    refine (address_entries.calls k A0 c0 l0 e w1 (Kd.C_below HR0.out HB1.out) HC0.out HE.out).mono ?_
    rintro e' w2 ⟨rfl, hb2⟩
    have hp2 : w2.cell? ⟨w.heap.size, 0, none⟩ = some (.slice A1 l1.length c1) := (hb2.cell (p := ⟨w.heap.size, 0, none⟩) HLT1.out).trans hp1
    have HB2 := Aside0.mk (HB1.out.trans (hb2.mono HB1.out.size))
    have HLT2 : Aside0 (w.heap.size < w2.heap.size) := ⟨by have := hb2.size; have := HLT1.out; omega⟩
    clear hb2 HE HB1 hp1 HLT1
    by_cases he0 : e = 0
    · subst he0
      have h := H2.out
      rw [if_pos rfl] at h
      obtain ⟨i, hi, h⟩ := Option.bind_eq_some_iff.1 h
      have HI := Aside0.mk (address_Entry_36.calls 47 #[.pointer (some ⟨w.heap.size, 0, none⟩)] (enters_of Try.func47 (by kernel_rfl) rfl) (fun x => address_Remove_1.f k l1 x.f0 x.f1) A0 c0 l0 i w2 (Kd.C_below HR0.out HB2.out) HC0.out hi (fun W x cs b hW hK hb => by
        obtain ⟨A', c', rfl, h1, h2⟩ := k28_open hK
        exact address_Remove_1.calls k w.heap.size A1 c1 l1 A' c' x b W ((hW.cell (p := ⟨w.heap.size, 0, none⟩) HLT2.out).trans hp2) (Kd.C_below (Kd.C_below HR1.out HB2.out) hW) HC1.out h2 h1 hb))
      have hrange := idxM_range hi
      by_cases hneg : i < 0
      · rw [if_pos hneg] at h
        injection h with h
        injection h with h1 h2
        subst h1 h2
        have hneg2 : decide (i < 0) = true := decide_eq_true hneg
        clear hrange hneg hi H2
        go_wp2_with fail
        refine HI.out.mono ?_
        rintro e' w3 ⟨rfl, hb3⟩
        have HB3 := Aside0.mk (HB2.out.trans (hb3.mono HB2.out.size))
        clear hb3 HI HB2 hp2
        go_wp2
        go_ret2
        exact ⟨_, rfl, Kd.S_nil _ _ _ _ _, HB3.out⟩
      · rw [if_neg hneg] at h
        obtain ⟨m, rfl⟩ : ∃ m : Nat, i = m := ⟨i.toNat, by omega⟩
        rw [Int.toNat_natCast] at h
        by_cases hlim : l0.length * 32 ≤ 140737488355328
        case neg => rw [if_neg hlim] at h; cases h
        rw [if_pos hlim] at h
        obtain ⟨r, ho, h⟩ := Option.bind_eq_some_iff.1 h
        injection h with h
        injection h with h1 h2
        subst h1 h2
        have HML : Aside0 (m < l0.length) := ⟨by omega⟩
        have HO := Aside0.mk ho
        have HLIM := Aside0.mk hlim
        have hbig : (m : Int) + 1 ≤ 9223372036854775807 := by have := HML.out; omega
        have hneg2 : decide ((m : Int) < 0) = false := decide_eq_false hneg
        clear hrange hneg hi H2 ho hlim
        go_wp2_with fail
        refine HI.out.mono ?_
        rintro e' w3 ⟨rfl, hb3⟩
        have HB3 := Aside0.mk (HB2.out.trans (hb3.mono HB2.out.size))
        clear hb3 HI HB2 hp2 HLT2
        go_wp2_with fail
        obtain ⟨css, hcl, hraw, hcs⟩ := C_raw (Kd.C_below HR0.out HB3.out)
        refine (address_Entry_45.raw A0 c0 l0.length css w3 hraw HLIM.out).mono ?_
        rintro e' w4 ⟨v, rfl, hr4, hb4⟩
        obtain ⟨A4, c4, hv⟩ := Kd.R_slice hr4
        rw [hcl] at hv
        subst hv
        obtain ⟨g, rfl, hgb⟩ : ∃ g, A4 = some ⟨g, 0, none⟩ ∧ w3.heap.size ≤ g := address_Remove.fresh hr4 (by rw [hcl]; have := HML.out; omega)
        have HR4 := Aside0.mk hr4
        have HB4 := Aside0.mk hb4
        have HG := Aside0.mk hgb
        have HCL := Aside0.mk hcl
        have HCS := Aside0.mk hcs
        clear hr4 hb4 hgb hraw hcl hcs
        go_wp2_with fail
        refine (address_Entry_38.one g l0.length c4 m w3.heap.size _ css w4 HR4.out HML.out).mono ?_
        rintro e' w5 ⟨rfl, hr5, hg5⟩
        have hlen : (l0.eraseIdx m).length = l0.length - 1 := List.length_eraseIdx_of_lt HML.out
        have HB5 : Aside0 (Below w3.heap.size w3 w5) := ⟨HB4.out.grown hg5 HB4.out.size (fun k hk => by injection hk with hk; have := HG.out; omega)⟩
        obtain ⟨_, hnc, hC5⟩ := Kd.R_reads' hr5
        have e5 : (css.eraseIdx m).length = l0.length - 1 := by rw [List.length_eraseIdx_of_lt (by rw [HCL.out]; exact HML.out), HCL.out]
        rw [e5] at hC5
        clear e5
        have HC5 : Aside0 (Kd.C k28 w5 (some ⟨g, 0, none⟩) (l0.eraseIdx m).length (l0.eraseIdx m)) := ⟨address_Remove.C_of_raw (d := k28) (by rw [hlen]; exact hC5) (by rw [hlen, List.length_eraseIdx_of_lt (by rw [HCL.out]; exact HML.out), HCL.out]) (fun j x hj => by
          rw [List.getElem?_eraseIdx] at hj ⊢
          split at hj
          · obtain ⟨c, h1, h2⟩ := HCS.out j x hj
            exact ⟨c, by rw [if_pos (by assumption)]; exact h1, k28.K_below HB5.out h2⟩
          · obtain ⟨c, h1, h2⟩ := HCS.out (j + 1) x hj
            exact ⟨c, by rw [if_neg (by assumption)]; exact h1, k28.K_below HB5.out h2⟩)⟩
        have HNC : Aside0 ((l0.eraseIdx m).length ≤ c4) := ⟨by rw [hlen]; exact hnc⟩
        have HB6 := Aside0.mk (HB3.out.trans (HB5.out.mono HB3.out.size))
        rw [← hlen]
        clear hr5 hg5 hC5 hnc hlen HR4 HB4 HCS HCL
        go_wp2_with fail
        refine (address_own.calls _ _ (l0.eraseIdx m) r w5 HC5.out HNC.out HO.out).mono ?_
        rintro e' w6 ⟨v, rfl, hS, hb6⟩
        have HS := Aside0.mk (Kd.S_lower hS HB6.out.size)
        have HB7 := Aside0.mk (HB6.out.trans (hb6.mono HB6.out.size))
        clear hS hb6
        go_wp2
        go_ret2
        exact ⟨_, rfl, Kd.S_mono HS.out (fun _ _ => trivial), HB7.out⟩
    · have h := H2.out
      rw [if_neg he0] at h
      injection h with h
      injection h with h1 h2
      subst h1 h2
      have hbe : (e == 0) = false := by simpa using he0
      have hbn : (e != 0) = true := by simpa using he0
      clear H2 he0
      go_wp2
      go_ret2
      exact ⟨_, rfl, Kd.S_nil _ _ _ _ _, HB2.out⟩


/-! ### heptadref11_without: function 39 -/
def heptadref11_without.l0 : Nat → List (S35) → Int → List (S35) → Int → Option ((List (S35)))
 | 0, _, _, _, _ => none
 | k + 1, x0, x1, x5, x6 => if x6 < (x0.length : Int) then (if x6 = x1 then (heptadref11_without.l0 k x0 x1 x5 (wrap64 (x6 + 1))) else (if 0 ≤ x6 then ((heptadref11_own.f ((rd_T35 x0 x6).f0) ((rd_T35 x0 x6).f1)).bind fun bt246 => (if x5.length < 4398046511104 then (heptadref11_without.l0 k x0 x1 (x5 ++ [(⟨bt246.1, bt246.2⟩ : S35)]) (wrap64 (x6 + 1))) else (none))) else (none))) else (some x5)
def heptadref11_without.f (k : Nat) (l0 : List (S35)) (a1 : Int) : Option ((List (S35))) := heptadref11_without.l0 k l0 a1 ([] : List (S35)) 0
theorem heptadref11_without.mono_l : ∀ k, (∀ y0 y1 y2 y3, LeO (heptadref11_without.l0 k y0 y1 y2 y3) (heptadref11_without.l0 (k + 1) y0 y1 y2 y3))
 | 0 => fun _ _ _ _ r h => by simp [heptadref11_without.l0] at h
 | k + 1 => by
  have ih0 := heptadref11_without.mono_l k
  ·intro y0 y1 y2 y3
   unfold heptadref11_without.l0
   repeat' first
   | (with_reducible exact ih0 _ _ _ _)
   | (with_reducible exact LeO.refl _)
   | (with_reducible exact LeO.none _)
   | (with_reducible refine LeO.ite ?_ ?_)
   | (with_reducible refine LeO.bind ?_ (fun _ => ?_))
   | exact ih0 _ _ _ _
   | exact LeO.none _
   | refine LeO.ite ?_ ?_
   | refine LeO.bind ?_ (fun _ => ?_)
theorem heptadref11_without.mono : ∀ a0 a1 k, LeO (heptadref11_without.f k a0 a1) (heptadref11_without.f (k + 1) a0 a1) := by
 intro a0 a1 k
 have ih0 := heptadref11_without.mono_l k
 unfold heptadref11_without.f
 repeat' first
   | (with_reducible exact ih0 _ _ _ _)
   | (with_reducible exact LeO.refl _)
   | (with_reducible exact LeO.none _)
   | (with_reducible refine LeO.ite ?_ ?_)
   | (with_reducible refine LeO.bind ?_ (fun _ => ?_))
   | exact ih0 _ _ _ _
   | exact LeO.none _
   | refine LeO.ite ?_ ?_
   | refine LeO.bind ?_ (fun _ => ?_)
set_option maxHeartbeats 8000000 in
set_option maxRecDepth 100000 in
theorem heptadref11_without.calls (k : Nat) (A0 : Option Addr) (c0 : Nat) (l0 : List (S35)) (a1 : Int) (r : List (S35)) (w : World) (hr0 : Kd.C k35 w A0 l0.length l0) (hc0 : l0.length ≤ c0) (h : heptadref11_without.f k l0 a1 = some r) :
  Calls Try.prog 39 #[.slice A0 l0.length c0, .int .i64 a1] w fun e w' => ∃ v0_ : Value, e = .returned (v0_) ∧ Kd.S k35 35 w' w.heap.size (fun _ => True) v0_ r ∧ Below w.heap.size w w' := by
 have hu35 := Try.underlying35
 have HR0 := Aside0.mk hr0
 have HC0 := Aside0.mk hc0
 clear hr0 hc0
 have HB := Aside0.mk (Below.refl w.heap.size w)
 have H : (heptadref11_without.l0 k l0 a1 ([] : List (S35)) 0) = some r := h
 clear h
 have H' := Aside0.mk H
 clear H
 go_enter Try.func39, Try.ntmps39
 go_wp2
 go_loopg [5, 6] k (fun kq v5 v6 w' => ∃ (x5_1 : List (S35)) (x6_1 : Int), v6 = .int .i64 x6_1 ∧ Aside0 (heptadref11_without.l0 kq l0 a1 x5_1 x6_1 = some r) ∧ Aside0 (kq ≤ k) ∧ Aside0 (Kd.S k35 35 w' w.heap.size (fun _ => True) v5 x5_1) ∧ Aside0 (Below w.heap.size w w'))
 case atStart => exact ⟨(([] : List (S35))), (0), (by first | rfl | (simp; done) | (simp [*]; done)), H', ⟨Nat.le_refl _⟩, ⟨by first | exact Kd.S_nil _ _ _ _ _ | exact Kd.N_nil _ _ _ _ _ | exact Kd.V_nil _ _ _ _ _ | exact Kd.Q_nil _ _ _ _ _ | exact Kd.R_nil _ _ _ _ _⟩, ⟨by repeat (first | (with_reducible first | exact HB.out | apply below_alloc | apply pw_below_drewN | apply below_drew1) | exact HB.out)⟩⟩
 case round =>
  clear H'
  try clear p2
  obtain ⟨x5_1, x6_1, rfl, HA, HK1, HO_5, HB⟩ := hrel
  cases gk with
  | zero => exact absurd HA.out (by simp [heptadref11_without.l0])
  | succ k1 =>
   have H := HA.out
   clear HA
   simp only [heptadref11_without.l0] at H
   by_cases c3 : x6_1 < (l0.length : Int)
   ·rw [if_pos c3] at H
    have c3b0 : decide (x6_1 < (l0.length : Int)) = true := decide_eq_true c3
    clear c3
    by_cases c4 : x6_1 = a1
    ·rw [if_pos c4] at H
     have c4b0 : (x6_1 == a1) = true := beq_iff_eq.mpr c4
     have c4b1 : (x6_1 != a1) = false := bne_eq_false_iff_eq.mpr c4
     clear c4
     have H' := Aside0.mk H
     clear H
     go_wp2
     go_roundg k1
     case measure => have := HK1.out; omega
     case rel => exact ⟨(x5_1), (wrap64 (x6_1 + 1)), (by first | rfl | (simp; done) | (simp [*]; done)), H', ⟨by have := HK1.out; omega⟩, ⟨by (with_reducible repeat (first | apply Kd.S_alloc | apply Kd.S_drewN | apply Kd.S_drew)); exact HO_5.out⟩, ⟨by repeat (first | (with_reducible first | exact HB.out | apply below_alloc | apply pw_below_drewN | apply below_drew1) | exact HB.out)⟩⟩
    ·rw [if_neg c4] at H
     have c4b0 : (x6_1 == a1) = false := beq_eq_false_iff_ne.mpr c4
     have c4b1 : (x6_1 != a1) = true := bne_iff_ne.mpr c4
     by_cases c5 : 0 ≤ x6_1
     ·rw [if_pos c5] at H
      have c5b0 : decide (0 ≤ x6_1) = true := decide_eq_true c5
      clear c5
      replace H := Option.bind_eq_some_iff.mp H
      obtain ⟨⟨t246, t249⟩, A60, H⟩ := H
      replace H : (if x5_1.length < 4398046511104 then (heptadref11_without.l0 k1 l0 a1 (x5_1 ++ [(⟨t246, t249⟩ : S35)]) (wrap64 (x6_1 + 1))) else (none)) = some r := H
      have A6 := Aside0.mk A60
      clear A60
      by_cases c7 : x5_1.length < 4398046511104
      ·rw [if_pos c7] at H
       have LMc7 := Aside0.mk c7
       clear c7
       obtain ⟨y250, hy250⟩ : ∃ y_ : List (S35), y_ = (x5_1 ++ [(⟨t246, t249⟩ : S35)]) := ⟨_, rfl⟩
       replace H : (heptadref11_without.l0 k1 l0 a1 y250 (wrap64 (x6_1 + 1))) = some r := by first | (rw [hy250]; with_reducible exact H) | (have H2_ := (Option.bind_some _ _).symm.trans H; rw [hy250]; with_reducible exact H2_) | (have H2_ := (Option.bind_some _ _).symm.trans H; with_reducible exact H2_) | with_reducible exact H | (rw [hy250]; exact H) | exact H
       have Ny250 := Aside0.mk hy250
       clear hy250
       have H' := Aside0.mk H
       clear H
       have p245 : 0 ≤ (x6_1 : Int) := of_decide_eq_true (by first | (with_reducible assumption) | assumption)
       have q245 : x6_1 < (l0.length : Int) := of_decide_eq_true (by first | (with_reducible assumption) | assumption)
       obtain ⟨ad245, A245_0, c245_0, e245, hx245_0, hx245_1, hl245_0, hi245_0⟩ := at_T35 HR0.out x6_1 p245 q245
       cases e245
       replace hx245_0 := (HB.out.cell (World.block_lt_of_cell? w _ hx245_0)).trans hx245_0
       replace hx245_1 := (HB.out.cell (World.block_lt_of_cell? w _ hx245_1)).trans hx245_1
       have HR245_0 := Aside0.mk hi245_0
       have HC245_0 := Aside0.mk hl245_0
       clear hi245_0 hl245_0
       replace p245 := eq_true p245
       replace q245 := eq_true q245
       go_wp2_with (first | ((with_reducible refine gate_callee (f := 34) rfl ?_); refine goesL_ (some 21) rfl rfl Try.func34 (by kernel_rfl) rfl #[.agg #[.slice A245_0 ((rd_T35 l0 x6_1).f0).length c245_0, .int .i64 ((rd_T35 l0 x6_1).f1)]] rfl (by (try simp only [List.map_toArray, List.map_cons, List.map_nil]); first | done | rfl | (simp only [List.length_drop, List.length_take]; rfl)) ?_; (with_reducible refine (heptadref11_own.calls _ _ ((rd_T35 l0 x6_1).f0) ((rd_T35 l0 x6_1).f1) t246 t249 _ ?side1 ?side2 A6.out).mono ?_); (case side1 => repeat (first | exact (Kd.C_below HR245_0.out HB.out) | (with_reducible first | refine Kd.C_alloc ?_ _ | refine Kd.C_drewN ?_ _ | refine Kd.C_drew ?_))); (case side2 => exact HC245_0.out); rintro e w8 ⟨v247, rfl, ho0, hb⟩; refine ⟨_, rfl, ?_⟩; have n0_ := Aside0.mk (Kd.S_elder' (by (with_reducible repeat (first | apply Kd.S_alloc | apply Kd.S_drewN | apply Kd.S_drew)); exact HO_5.out) (Kd.R_base ho0) hb); have n1_ := Aside0.mk (Kd.R_lower ho0 (below_size (by repeat (first | (with_reducible first | exact HB.out | apply below_alloc | apply pw_below_drewN | apply below_drew1) | exact HB.out)))); have n2_ := Aside0.mk (below_step (by repeat (first | (with_reducible first | exact HB.out | apply below_alloc | apply pw_below_drewN | apply below_drew1) | exact HB.out)) hb); clear HO_5; clear HB; have HO_5 := n0_; have HO248 := n1_; have HB := n2_; clear n0_ n1_ n2_; (try clear hb); (try clear hb2); (try clear hk); (try clear hi); (try clear ho0); obtain ⟨Ao10, co10, eo10⟩ := Kd.R_slice HO248.out; subst eo10) | ((with_reducible refine gate_builtin (b := .append) (xs := #[.tmp 16, .tmp 22]) rfl ?_); at_builtin; refine Kd.S_append k35 (w0 := w) w.heap.size rfl (.tmp 16) (.tmp 22) 22 35 (.agg #[(.slice none 0 0), (.int .i64 0)]) 32 rfl Try.underlying22 info35 rfl (by decide) (by omega) u5 x5_1 (⟨t246, t249⟩ : S35) [.slice Ao10 t246.length co10, .int .i64 t249] (fun _ => True) (fun k_ => some k_ = (.slice Ao10 t246.length co10 : Value).ownBlock) rfl rfl ?aP (fun k_ hk_ => ((Kd.R_mono (ok' := fun k_ => ((fun _ => True)) k_ ∧ some k_ ≠ (u5 : Value).ownBlock) (Kd.R_apart' (HO248.out) (Kd.S_typed HO_5.out) (by decide)) (fun k_ hk => ⟨trivial, hk.2⟩))).1 k_ hk_.symm) ?aF ?aO ?aB ?aS ?aL ?_; (case aP => exact k35_mkM _ _ _ (⟨t246, t249⟩ : S35) (Kd.R_mono (Kd.R_tight rfl (Kd.R_mono (ok' := fun k_ => ((fun _ => True)) k_ ∧ some k_ ≠ (u5 : Value).ownBlock) (Kd.R_apart' (HO248.out) (Kd.S_typed HO_5.out) (by decide)) (fun k_ hk => ⟨trivial, hk.2⟩))) (fun _ h_ => h_))); (case aB => exact (by repeat (first | (with_reducible first | exact HB.out | apply below_alloc | apply pw_below_drewN | apply below_drew1) | exact HB.out))); (case aF => exact (fun _ _ => trivial)); (case aO => exact (by (with_reducible repeat (first | apply Kd.S_alloc | apply Kd.S_drewN | apply Kd.S_drew)); exact Kd.S_mono HO_5.out (fun k_ hk => ⟨trivial, fun e_ => hk.2 e_⟩))); (case aS => exact (below_size (by repeat (first | (with_reducible first | exact HB.out | apply below_alloc | apply pw_below_drewN | apply below_drew1) | exact HB.out)))); (case aL => have := LMc7.out; omega); intro v251 w9 ho hb hg hat; rw [← Ny250.out] at ho; have n0_ := Aside0.mk (hb); have n1_ := Aside0.mk (ho); clear HB; clear HO_5; clear HO248; have HB := n0_; have HO252 := n1_; clear n0_ n1_; clear ho hb hg hat))
       go_roundg k1
       case measure => have := HK1.out; omega
       case rel => exact ⟨(y250), (wrap64 (x6_1 + 1)), (by first | rfl | (simp; done) | (simp [*]; done)), H', ⟨by have := HK1.out; omega⟩, ⟨by (with_reducible repeat (first | apply Kd.S_alloc | apply Kd.S_drewN | apply Kd.S_drew)); exact HO252.out⟩, ⟨by repeat (first | (with_reducible first | exact HB.out | apply below_alloc | apply pw_below_drewN | apply below_drew1) | exact HB.out)⟩⟩
      ·rw [if_neg c7] at H
       exact absurd H (by simp)
     ·rw [if_neg c5] at H
      exact absurd H (by simp)
   ·rw [if_neg c3] at H
    have c3b0 : decide (x6_1 < (l0.length : Int)) = false := decide_eq_false c3
    clear c3
    obtain rfl := Option.some.inj H
    go_wp2
    go_ret
    exact ⟨_, by first | rfl | (simp [errW_none, errW_some] <;> rfl) | (simp [*, errW_none, errW_some] <;> rfl), by (with_reducible repeat (first | apply Kd.S_alloc | apply Kd.S_drewN | apply Kd.S_drew)); exact HO_5.out, by repeat (first | (with_reducible first | exact HB.out | apply below_alloc | apply pw_below_drewN | apply below_drew1) | exact HB.out)⟩

end Go.Proofs.Ytchkhnhmpgkpeaa.P
