-- Written by this repo's wip/tools/myprint.py (the kit's print program, with contracts of our own beside). Lean checks it.
import Derived.Test.YtchkhnhmpgkpeaaPx0
import Derived.Test.YtchkhnhmpgkpeaaPx1
import Derived.Test.YtchkhnhmpgkpeaaPx3
import Derived.Test.YtchkhnhmpgkpeaaPx4
import Derived.Test.YtchkhnhmpgkpeaaPx9
import Derived.Test.YtchkhnhmpgkpeaaPx10
import Derived.Test.YtchkhnhmpgkpeaaPx11
import Derived.Test.YtchkhnhmpgkpeaaPx12
import Derived.Test.YtchkhnhmpgkpeaaPx19
import Derived.Test.YtchkhnhmpgkpeaaPx21
namespace Go.Proofs.Ytchkhnhmpgkpeaa.P
open Go.Proofs.Ytchkhnhmpgkpeaa.Common
open Go.RowKit Go.Proofs.YtchkhnhmpgkpeaaW.PrintWords Go.Proofs.YtchkhnhmpgkpeaaW.PrintLast Go.Proofs.YtchkhnhmpgkpeaaW.PrintMore
attribute [local go_sem] max2_int min2_int max_two min_two max_three min_three max_four min_four   -- for this text's walks alone
set_option linter.unusedVariables false
set_option linter.unusedSimpArgs false

/-! ### heptadlaw11_AddressBrief: function 5 -/
mutual
def heptadlaw11_AddressBrief.j0 : Nat → List (S35) → List Int → Bool → Option (Bool)
 | 0, _, _, _ => none
 | k + 1, x0, x1, x30 => if x30 = true then ((heptadlaw11_sane.f k).bind fun t281 => (some t281)) else ((heptadlaw11_table.f k x0).bind fun t282 => ((address_Brief.f k t282).bind fun bt285 => (if bt285.2 = 0 then ((heptadlaw11_back.f k bt285.1).bind fun t289 => ((heptadref11_IsTable.f k t289).bind fun t292 => (if t292 = true then (heptadlaw11_AddressBrief.j1 k x0 x1 bt285.1 (decide ((bt285.1.length : Int) > (x0.length : Int)))) else (heptadlaw11_AddressBrief.j1 k x0 x1 bt285.1 true)))) else (heptadlaw11_AddressBrief.j1 k x0 x1 bt285.1 true))))
def heptadlaw11_AddressBrief.j1 : Nat → List (S35) → List Int → List (S28) → Bool → Option (Bool)
 | 0, _, _, _, _ => none
 | k + 1, x0, x1, x5, x52 => if x52 = true then (some false) else ((heptadlaw11_table.f k x0).bind fun t293 => ((address_Find.f k t293 x1).bind fun bt296 => ((address_Find.f k x5 x1).bind fun bt302 => (if bt296.2.2 = bt302.2.2 then (heptadlaw11_AddressBrief.j2 k x5 (bt296.2.1 != bt302.2.1)) else (heptadlaw11_AddressBrief.j2 k x5 true)))))
def heptadlaw11_AddressBrief.j2 : Nat → List (S28) → Bool → Option (Bool)
 | 0, _, _ => none
 | k + 1, x5, x75 => if x75 = true then (some false) else (heptadlaw11_AddressBrief.l0 k x5 0)
def heptadlaw11_AddressBrief.l0 : Nat → List (S28) → Int → Option (Bool)
 | 0, _, _ => none
 | k + 1, x5, x10 => if x10 < (x5.length : Int) then (heptadlaw11_AddressBrief.l1 k x5 x10 (-1) 0) else ((heptadlaw11_sane.f k).bind fun t308 => (some t308))
def heptadlaw11_AddressBrief.l1 : Nat → List (S28) → Int → Int → Int → Option (Bool)
 | 0, _, _, _, _ => none
 | k + 1, x5, x10, x11, x12 => if x12 < (x5.length : Int) then (if 0 ≤ x12 then (if 0 ≤ x10 then (if x10 < (x5.length : Int) then (if (((rd_T28 x5 x12).f0).length : Int) < (((rd_T28 x5 x10).f0).length : Int) then ((heptadref11_Begins.f k ((rd_T28 x5 x12).f0) ((rd_T28 x5 x10).f0)).bind fun t313 => (if t313 = true then (if x11 < 0 then (heptadlaw11_AddressBrief.l1 k x5 x10 x12 (wrap64 (x12 + 1))) else (if 0 ≤ x11 then (if x11 < (x5.length : Int) then (if (((rd_T28 x5 x12).f0).length : Int) > (((rd_T28 x5 x11).f0).length : Int) then (heptadlaw11_AddressBrief.l1 k x5 x10 x12 (wrap64 (x12 + 1))) else (heptadlaw11_AddressBrief.l1 k x5 x10 x11 (wrap64 (x12 + 1)))) else (none)) else (none))) else (heptadlaw11_AddressBrief.l1 k x5 x10 x11 (wrap64 (x12 + 1))))) else (heptadlaw11_AddressBrief.l1 k x5 x10 x11 (wrap64 (x12 + 1)))) else (none)) else (none)) else (none)) else (if x11 ≥ 0 then (if 0 ≤ x11 then (if x11 < (x5.length : Int) then (if 0 ≤ x10 then (if x10 < (x5.length : Int) then (if ((rd_T28 x5 x11).f1) = ((rd_T28 x5 x10).f1) then (some false) else (heptadlaw11_AddressBrief.l0 k x5 (wrap64 (x10 + 1)))) else (none)) else (none)) else (none)) else (none)) else (heptadlaw11_AddressBrief.l0 k x5 (wrap64 (x10 + 1))))
end
def heptadlaw11_AddressBrief.f (k : Nat) (l0 : List (S35)) (l1 : List Int) : Option (Bool) := (heptadlaw11_large.f k l0).bind fun t278 => (if t278 = true then (heptadlaw11_AddressBrief.j0 k l0 l1 true) else (if (l1.length : Int) > 1000 then (heptadlaw11_AddressBrief.j0 k l0 l1 true) else ((heptadref11_IsTable.f k l0).bind fun t279 => (if t279 = true then ((heptadref11_Valid.f k l1).bind fun t280 => (heptadlaw11_AddressBrief.j0 k l0 l1 (!t280))) else (heptadlaw11_AddressBrief.j0 k l0 l1 true)))))
theorem heptadlaw11_AddressBrief.mono_l : ∀ k, (∀ y0 y1 y2, LeO (heptadlaw11_AddressBrief.j0 k y0 y1 y2) (heptadlaw11_AddressBrief.j0 (k + 1) y0 y1 y2)) ∧ (∀ y0 y1 y2 y3, LeO (heptadlaw11_AddressBrief.j1 k y0 y1 y2 y3) (heptadlaw11_AddressBrief.j1 (k + 1) y0 y1 y2 y3)) ∧ (∀ y0 y1, LeO (heptadlaw11_AddressBrief.j2 k y0 y1) (heptadlaw11_AddressBrief.j2 (k + 1) y0 y1)) ∧ (∀ y0 y1, LeO (heptadlaw11_AddressBrief.l0 k y0 y1) (heptadlaw11_AddressBrief.l0 (k + 1) y0 y1)) ∧ (∀ y0 y1 y2 y3, LeO (heptadlaw11_AddressBrief.l1 k y0 y1 y2 y3) (heptadlaw11_AddressBrief.l1 (k + 1) y0 y1 y2 y3))
 | 0 => ⟨fun _ _ _ r h => by simp [heptadlaw11_AddressBrief.j0] at h, fun _ _ _ _ r h => by simp [heptadlaw11_AddressBrief.j1] at h, fun _ _ r h => by simp [heptadlaw11_AddressBrief.j2] at h, fun _ _ r h => by simp [heptadlaw11_AddressBrief.l0] at h, fun _ _ _ _ r h => by simp [heptadlaw11_AddressBrief.l1] at h⟩
 | k + 1 => by
  obtain ⟨ih0, ih1, ih2, ih3, ih4⟩ := heptadlaw11_AddressBrief.mono_l k
  refine ⟨?_, ?_, ?_, ?_, ?_⟩
  ·intro y0 y1 y2
   unfold heptadlaw11_AddressBrief.j0
   repeat' first
   | (with_reducible exact ih0 _ _ _)
   | (with_reducible exact ih1 _ _ _ _)
   | (with_reducible exact ih2 _ _)
   | (with_reducible exact ih3 _ _)
   | (with_reducible exact ih4 _ _ _ _)
   | (with_reducible exact address_Brief.mono _ _)
   | (with_reducible exact address_Find.mono _ _ _)
   | (with_reducible exact heptadlaw11_back.mono _ _)
   | (with_reducible exact heptadlaw11_large.mono _ _)
   | (with_reducible exact heptadlaw11_sane.mono _)
   | (with_reducible exact heptadlaw11_table.mono _ _)
   | (with_reducible exact heptadref11_Begins.mono _ _ _)
   | (with_reducible exact heptadref11_IsTable.mono _ _)
   | (with_reducible exact heptadref11_Valid.mono _ _)
   | (with_reducible exact LeO.refl _)
   | (with_reducible exact LeO.none _)
   | (with_reducible refine LeO.ite ?_ ?_)
   | (with_reducible refine LeO.bind ?_ (fun _ => ?_))
   | exact ih0 _ _ _
   | exact ih1 _ _ _ _
   | exact ih2 _ _
   | exact ih3 _ _
   | exact ih4 _ _ _ _
   | exact address_Brief.mono _ _
   | exact address_Find.mono _ _ _
   | exact heptadlaw11_back.mono _ _
   | exact heptadlaw11_large.mono _ _
   | exact heptadlaw11_sane.mono _
   | exact heptadlaw11_table.mono _ _
   | exact heptadref11_Begins.mono _ _ _
   | exact heptadref11_IsTable.mono _ _
   | exact heptadref11_Valid.mono _ _
   | exact LeO.none _
   | refine LeO.ite ?_ ?_
   | refine LeO.bind ?_ (fun _ => ?_)
  ·intro y0 y1 y2 y3
   unfold heptadlaw11_AddressBrief.j1
   repeat' first
   | (with_reducible exact ih0 _ _ _)
   | (with_reducible exact ih1 _ _ _ _)
   | (with_reducible exact ih2 _ _)
   | (with_reducible exact ih3 _ _)
   | (with_reducible exact ih4 _ _ _ _)
   | (with_reducible exact address_Brief.mono _ _)
   | (with_reducible exact address_Find.mono _ _ _)
   | (with_reducible exact heptadlaw11_back.mono _ _)
   | (with_reducible exact heptadlaw11_large.mono _ _)
   | (with_reducible exact heptadlaw11_sane.mono _)
   | (with_reducible exact heptadlaw11_table.mono _ _)
   | (with_reducible exact heptadref11_Begins.mono _ _ _)
   | (with_reducible exact heptadref11_IsTable.mono _ _)
   | (with_reducible exact heptadref11_Valid.mono _ _)
   | (with_reducible exact LeO.refl _)
   | (with_reducible exact LeO.none _)
   | (with_reducible refine LeO.ite ?_ ?_)
   | (with_reducible refine LeO.bind ?_ (fun _ => ?_))
   | exact ih0 _ _ _
   | exact ih1 _ _ _ _
   | exact ih2 _ _
   | exact ih3 _ _
   | exact ih4 _ _ _ _
   | exact address_Brief.mono _ _
   | exact address_Find.mono _ _ _
   | exact heptadlaw11_back.mono _ _
   | exact heptadlaw11_large.mono _ _
   | exact heptadlaw11_sane.mono _
   | exact heptadlaw11_table.mono _ _
   | exact heptadref11_Begins.mono _ _ _
   | exact heptadref11_IsTable.mono _ _
   | exact heptadref11_Valid.mono _ _
   | exact LeO.none _
   | refine LeO.ite ?_ ?_
   | refine LeO.bind ?_ (fun _ => ?_)
  ·intro y0 y1
   unfold heptadlaw11_AddressBrief.j2
   repeat' first
   | (with_reducible exact ih0 _ _ _)
   | (with_reducible exact ih1 _ _ _ _)
   | (with_reducible exact ih2 _ _)
   | (with_reducible exact ih3 _ _)
   | (with_reducible exact ih4 _ _ _ _)
   | (with_reducible exact address_Brief.mono _ _)
   | (with_reducible exact address_Find.mono _ _ _)
   | (with_reducible exact heptadlaw11_back.mono _ _)
   | (with_reducible exact heptadlaw11_large.mono _ _)
   | (with_reducible exact heptadlaw11_sane.mono _)
   | (with_reducible exact heptadlaw11_table.mono _ _)
   | (with_reducible exact heptadref11_Begins.mono _ _ _)
   | (with_reducible exact heptadref11_IsTable.mono _ _)
   | (with_reducible exact heptadref11_Valid.mono _ _)
   | (with_reducible exact LeO.refl _)
   | (with_reducible exact LeO.none _)
   | (with_reducible refine LeO.ite ?_ ?_)
   | (with_reducible refine LeO.bind ?_ (fun _ => ?_))
   | exact ih0 _ _ _
   | exact ih1 _ _ _ _
   | exact ih2 _ _
   | exact ih3 _ _
   | exact ih4 _ _ _ _
   | exact address_Brief.mono _ _
   | exact address_Find.mono _ _ _
   | exact heptadlaw11_back.mono _ _
   | exact heptadlaw11_large.mono _ _
   | exact heptadlaw11_sane.mono _
   | exact heptadlaw11_table.mono _ _
   | exact heptadref11_Begins.mono _ _ _
   | exact heptadref11_IsTable.mono _ _
   | exact heptadref11_Valid.mono _ _
   | exact LeO.none _
   | refine LeO.ite ?_ ?_
   | refine LeO.bind ?_ (fun _ => ?_)
  ·intro y0 y1
   unfold heptadlaw11_AddressBrief.l0
   repeat' first
   | (with_reducible exact ih0 _ _ _)
   | (with_reducible exact ih1 _ _ _ _)
   | (with_reducible exact ih2 _ _)
   | (with_reducible exact ih3 _ _)
   | (with_reducible exact ih4 _ _ _ _)
   | (with_reducible exact address_Brief.mono _ _)
   | (with_reducible exact address_Find.mono _ _ _)
   | (with_reducible exact heptadlaw11_back.mono _ _)
   | (with_reducible exact heptadlaw11_large.mono _ _)
   | (with_reducible exact heptadlaw11_sane.mono _)
   | (with_reducible exact heptadlaw11_table.mono _ _)
   | (with_reducible exact heptadref11_Begins.mono _ _ _)
   | (with_reducible exact heptadref11_IsTable.mono _ _)
   | (with_reducible exact heptadref11_Valid.mono _ _)
   | (with_reducible exact LeO.refl _)
   | (with_reducible exact LeO.none _)
   | (with_reducible refine LeO.ite ?_ ?_)
   | (with_reducible refine LeO.bind ?_ (fun _ => ?_))
   | exact ih0 _ _ _
   | exact ih1 _ _ _ _
   | exact ih2 _ _
   | exact ih3 _ _
   | exact ih4 _ _ _ _
   | exact address_Brief.mono _ _
   | exact address_Find.mono _ _ _
   | exact heptadlaw11_back.mono _ _
   | exact heptadlaw11_large.mono _ _
   | exact heptadlaw11_sane.mono _
   | exact heptadlaw11_table.mono _ _
   | exact heptadref11_Begins.mono _ _ _
   | exact heptadref11_IsTable.mono _ _
   | exact heptadref11_Valid.mono _ _
   | exact LeO.none _
   | refine LeO.ite ?_ ?_
   | refine LeO.bind ?_ (fun _ => ?_)
  ·intro y0 y1 y2 y3
   unfold heptadlaw11_AddressBrief.l1
   repeat' first
   | (with_reducible exact ih0 _ _ _)
   | (with_reducible exact ih1 _ _ _ _)
   | (with_reducible exact ih2 _ _)
   | (with_reducible exact ih3 _ _)
   | (with_reducible exact ih4 _ _ _ _)
   | (with_reducible exact address_Brief.mono _ _)
   | (with_reducible exact address_Find.mono _ _ _)
   | (with_reducible exact heptadlaw11_back.mono _ _)
   | (with_reducible exact heptadlaw11_large.mono _ _)
   | (with_reducible exact heptadlaw11_sane.mono _)
   | (with_reducible exact heptadlaw11_table.mono _ _)
   | (with_reducible exact heptadref11_Begins.mono _ _ _)
   | (with_reducible exact heptadref11_IsTable.mono _ _)
   | (with_reducible exact heptadref11_Valid.mono _ _)
   | (with_reducible exact LeO.refl _)
   | (with_reducible exact LeO.none _)
   | (with_reducible refine LeO.ite ?_ ?_)
   | (with_reducible refine LeO.bind ?_ (fun _ => ?_))
   | exact ih0 _ _ _
   | exact ih1 _ _ _ _
   | exact ih2 _ _
   | exact ih3 _ _
   | exact ih4 _ _ _ _
   | exact address_Brief.mono _ _
   | exact address_Find.mono _ _ _
   | exact heptadlaw11_back.mono _ _
   | exact heptadlaw11_large.mono _ _
   | exact heptadlaw11_sane.mono _
   | exact heptadlaw11_table.mono _ _
   | exact heptadref11_Begins.mono _ _ _
   | exact heptadref11_IsTable.mono _ _
   | exact heptadref11_Valid.mono _ _
   | exact LeO.none _
   | refine LeO.ite ?_ ?_
   | refine LeO.bind ?_ (fun _ => ?_)
theorem heptadlaw11_AddressBrief.mono : ∀ a0 a1 k, LeO (heptadlaw11_AddressBrief.f k a0 a1) (heptadlaw11_AddressBrief.f (k + 1) a0 a1) := by
 intro a0 a1 k
 obtain ⟨ih0, ih1, ih2, ih3, ih4⟩ := heptadlaw11_AddressBrief.mono_l k
 unfold heptadlaw11_AddressBrief.f
 repeat' first
   | (with_reducible exact ih0 _ _ _)
   | (with_reducible exact ih1 _ _ _ _)
   | (with_reducible exact ih2 _ _)
   | (with_reducible exact ih3 _ _)
   | (with_reducible exact ih4 _ _ _ _)
   | (with_reducible exact address_Brief.mono _ _)
   | (with_reducible exact address_Find.mono _ _ _)
   | (with_reducible exact heptadlaw11_back.mono _ _)
   | (with_reducible exact heptadlaw11_large.mono _ _)
   | (with_reducible exact heptadlaw11_sane.mono _)
   | (with_reducible exact heptadlaw11_table.mono _ _)
   | (with_reducible exact heptadref11_Begins.mono _ _ _)
   | (with_reducible exact heptadref11_IsTable.mono _ _)
   | (with_reducible exact heptadref11_Valid.mono _ _)
   | (with_reducible exact LeO.refl _)
   | (with_reducible exact LeO.none _)
   | (with_reducible refine LeO.ite ?_ ?_)
   | (with_reducible refine LeO.bind ?_ (fun _ => ?_))
   | exact ih0 _ _ _
   | exact ih1 _ _ _ _
   | exact ih2 _ _
   | exact ih3 _ _
   | exact ih4 _ _ _ _
   | exact address_Brief.mono _ _
   | exact address_Find.mono _ _ _
   | exact heptadlaw11_back.mono _ _
   | exact heptadlaw11_large.mono _ _
   | exact heptadlaw11_sane.mono _
   | exact heptadlaw11_table.mono _ _
   | exact heptadref11_Begins.mono _ _ _
   | exact heptadref11_IsTable.mono _ _
   | exact heptadref11_Valid.mono _ _
   | exact LeO.none _
   | refine LeO.ite ?_ ?_
   | refine LeO.bind ?_ (fun _ => ?_)
set_option maxHeartbeats 8000000 in
set_option maxRecDepth 100000 in
theorem heptadlaw11_AddressBrief.calls (k : Nat) (A0 : Option Addr) (c0 : Nat) (l0 : List (S35)) (A1 : Option Addr) (c1 : Nat) (l1 : List Int) (r : Bool) (w : World) (hr0 : Kd.C k35 w A0 l0.length l0) (hc0 : l0.length ≤ c0) (hr1 : Kd.C (Kd.int .i64) w A1 l1.length l1) (hc1 : l1.length ≤ c1) (h : heptadlaw11_AddressBrief.f k l0 l1 = some r) :
  Calls Try.prog 5 #[.slice A0 l0.length c0, .slice A1 l1.length c1] w fun e w' => e = .returned (.bool r) ∧ Below w.heap.size w w' := by
 have hu28 := Try.underlying28
 have HR0 := Aside0.mk hr0
 have HC0 := Aside0.mk hc0
 clear hr0 hc0
 have HR1 := Aside0.mk hr1
 have HC1 := Aside0.mk hc1
 clear hr1 hc1
 have HB := Aside0.mk (Below.refl w.heap.size w)
 have H : ((heptadlaw11_large.f k l0).bind fun t278 => (if t278 = true then (heptadlaw11_AddressBrief.j0 k l0 l1 true) else (if (l1.length : Int) > 1000 then (heptadlaw11_AddressBrief.j0 k l0 l1 true) else ((heptadref11_IsTable.f k l0).bind fun t279 => (if t279 = true then ((heptadref11_Valid.f k l1).bind fun t280 => (heptadlaw11_AddressBrief.j0 k l0 l1 (!t280))) else (heptadlaw11_AddressBrief.j0 k l0 l1 true)))))) = some r := h
 clear h
 have HC3 := Aside0.mk H
 clear H
 go_enter Try.func5, Try.ntmps5
 go_upto_region 1 with (fail)
 repeat (go_quiet (fail); go_upto_region 1 with (fail))
 go_cut [30] (fun v30 wc => ∃ (kq : Nat) (x30_2 : Bool), v30 = .bool x30_2 ∧ Aside0 (heptadlaw11_AddressBrief.j0 kq l0 l1 x30_2 = some r) ∧ Aside0 (kq ≤ k) ∧ Aside0 (Below w.heap.size w wc))
 case first =>
  have H := HC3.out
  clear HC3
  replace H := Option.bind_eq_some_iff.mp H
  obtain ⟨t278, A40, H⟩ := H
  replace H : (if t278 = true then (heptadlaw11_AddressBrief.j0 k l0 l1 true) else (if (l1.length : Int) > 1000 then (heptadlaw11_AddressBrief.j0 k l0 l1 true) else ((heptadref11_IsTable.f k l0).bind fun t279 => (if t279 = true then ((heptadref11_Valid.f k l1).bind fun t280 => (heptadlaw11_AddressBrief.j0 k l0 l1 (!t280))) else (heptadlaw11_AddressBrief.j0 k l0 l1 true))))) = some r := H
  have A4 := Aside0.mk A40
  clear A40
  by_cases c5 : t278 = true
  ·subst c5
   have H1 : (heptadlaw11_AddressBrief.j0 k l0 l1 true) = some r := by rw [if_pos rfl] at H; exact H
   clear H
   have H := H1
   clear H1
   have H' := Aside0.mk H
   clear H
   go_wp2_with (first | (go_at_call 7; (with_reducible refine (heptadlaw11_large.calls k _ _ l0 true _ ?side1 ?side2 A4.out).mono ?_); (case side1 => repeat (first | exact (Kd.C_below HR0.out HB.out) | (with_reducible refine Kd.C_alloc ?_ _) | (with_reducible refine Kd.C_drewN ?_ _) | (with_reducible refine Kd.C_drew ?_))); (case side2 => exact HC0.out); rintro e w' ⟨rfl, ⟨nd, rfl⟩⟩; (try first | exact ⟨rfl, _, World.drewN_drewN _ _ _⟩ | exact ⟨rfl, _, Eq.trans (World.drewN_drewN _ _ _) (congrArg (World.drewN _) (Nat.add_assoc _ _ _))⟩)))
   repeat (go_quiet (first | (go_at_call 7; (with_reducible refine (heptadlaw11_large.calls k _ _ l0 true _ ?side1 ?side2 A4.out).mono ?_); (case side1 => repeat (first | exact (Kd.C_below HR0.out HB.out) | (with_reducible refine Kd.C_alloc ?_ _) | (with_reducible refine Kd.C_drewN ?_ _) | (with_reducible refine Kd.C_drew ?_))); (case side2 => exact HC0.out); rintro e w' ⟨rfl, ⟨nd, rfl⟩⟩; (try first | exact ⟨rfl, _, World.drewN_drewN _ _ _⟩ | exact ⟨rfl, _, Eq.trans (World.drewN_drewN _ _ _) (congrArg (World.drewN _) (Nat.add_assoc _ _ _))⟩))); try go_wp2_with (first | (go_at_call 7; (with_reducible refine (heptadlaw11_large.calls k _ _ l0 true _ ?side1 ?side2 A4.out).mono ?_); (case side1 => repeat (first | exact (Kd.C_below HR0.out HB.out) | (with_reducible refine Kd.C_alloc ?_ _) | (with_reducible refine Kd.C_drewN ?_ _) | (with_reducible refine Kd.C_drew ?_))); (case side2 => exact HC0.out); rintro e w' ⟨rfl, ⟨nd, rfl⟩⟩; (try first | exact ⟨rfl, _, World.drewN_drewN _ _ _⟩ | exact ⟨rfl, _, Eq.trans (World.drewN_drewN _ _ _) (congrArg (World.drewN _) (Nat.add_assoc _ _ _))⟩))))
   go_meet
   case rel => exact ⟨_, (true), (by first | rfl | (simp; done) | (simp [*]; done)), H', ⟨by first | omega | exact Nat.le_refl _⟩, ⟨by repeat (first | (with_reducible first | exact HB.out | apply below_alloc | apply pw_below_drewN | apply below_drew1) | exact HB.out)⟩⟩
  ·replace c5 := Bool.eq_false_iff.mpr c5
   subst c5
   have H1 : (if (l1.length : Int) > 1000 then (heptadlaw11_AddressBrief.j0 k l0 l1 true) else ((heptadref11_IsTable.f k l0).bind fun t279 => (if t279 = true then ((heptadref11_Valid.f k l1).bind fun t280 => (heptadlaw11_AddressBrief.j0 k l0 l1 (!t280))) else (heptadlaw11_AddressBrief.j0 k l0 l1 true)))) = some r := by rw [if_neg (show ¬ (false = true) by decide)] at H; exact H
   clear H
   have H := H1
   clear H1
   by_cases c6 : (l1.length : Int) > 1000
   ·rw [if_pos c6] at H
    have c6b0 : decide (1000 < (l1.length : Int)) = true := decide_eq_true c6
    have c6b1 : decide (1000 < l1.length) = true := decide_eq_true (by omega)
    clear c6
    (first | rw [c6b0] | (simp only [i64_w, i32_w]; rw [c6b0]) | skip)
    have H' := Aside0.mk H
    clear H
    go_wp2_with (first | (go_at_call 7; (with_reducible refine (heptadlaw11_large.calls k _ _ l0 false _ ?side1 ?side2 A4.out).mono ?_); (case side1 => repeat (first | exact (Kd.C_below HR0.out HB.out) | (with_reducible refine Kd.C_alloc ?_ _) | (with_reducible refine Kd.C_drewN ?_ _) | (with_reducible refine Kd.C_drew ?_))); (case side2 => exact HC0.out); rintro e w' ⟨rfl, ⟨nd, rfl⟩⟩; (try first | exact ⟨rfl, _, World.drewN_drewN _ _ _⟩ | exact ⟨rfl, _, Eq.trans (World.drewN_drewN _ _ _) (congrArg (World.drewN _) (Nat.add_assoc _ _ _))⟩)))
    repeat (go_quiet (first | (go_at_call 7; (with_reducible refine (heptadlaw11_large.calls k _ _ l0 false _ ?side1 ?side2 A4.out).mono ?_); (case side1 => repeat (first | exact (Kd.C_below HR0.out HB.out) | (with_reducible refine Kd.C_alloc ?_ _) | (with_reducible refine Kd.C_drewN ?_ _) | (with_reducible refine Kd.C_drew ?_))); (case side2 => exact HC0.out); rintro e w' ⟨rfl, ⟨nd, rfl⟩⟩; (try first | exact ⟨rfl, _, World.drewN_drewN _ _ _⟩ | exact ⟨rfl, _, Eq.trans (World.drewN_drewN _ _ _) (congrArg (World.drewN _) (Nat.add_assoc _ _ _))⟩))); try go_wp2_with (first | (go_at_call 7; (with_reducible refine (heptadlaw11_large.calls k _ _ l0 false _ ?side1 ?side2 A4.out).mono ?_); (case side1 => repeat (first | exact (Kd.C_below HR0.out HB.out) | (with_reducible refine Kd.C_alloc ?_ _) | (with_reducible refine Kd.C_drewN ?_ _) | (with_reducible refine Kd.C_drew ?_))); (case side2 => exact HC0.out); rintro e w' ⟨rfl, ⟨nd, rfl⟩⟩; (try first | exact ⟨rfl, _, World.drewN_drewN _ _ _⟩ | exact ⟨rfl, _, Eq.trans (World.drewN_drewN _ _ _) (congrArg (World.drewN _) (Nat.add_assoc _ _ _))⟩))))
    go_meet
    case rel => exact ⟨_, (true), (by first | rfl | (simp; done) | (simp [*]; done)), H', ⟨by first | omega | exact Nat.le_refl _⟩, ⟨by repeat (first | (with_reducible first | exact HB.out | apply below_alloc | apply pw_below_drewN | apply below_drew1) | exact HB.out)⟩⟩
   ·rw [if_neg c6] at H
    have c6b0 : decide (1000 < (l1.length : Int)) = false := decide_eq_false c6
    have c6b1 : decide (1000 < l1.length) = false := decide_eq_false (by omega)
    clear c6
    (first | rw [c6b0] | (simp only [i64_w, i32_w]; rw [c6b0]) | skip)
    replace H := Option.bind_eq_some_iff.mp H
    obtain ⟨t279, A70, H⟩ := H
    replace H : (if t279 = true then ((heptadref11_Valid.f k l1).bind fun t280 => (heptadlaw11_AddressBrief.j0 k l0 l1 (!t280))) else (heptadlaw11_AddressBrief.j0 k l0 l1 true)) = some r := H
    have A7 := Aside0.mk A70
    clear A70
    by_cases c8 : t279 = true
    ·subst c8
     have H1 : ((heptadref11_Valid.f k l1).bind fun t280 => (heptadlaw11_AddressBrief.j0 k l0 l1 (!t280))) = some r := by rw [if_pos rfl] at H; exact H
     clear H
     have H := H1
     clear H1
     replace H := Option.bind_eq_some_iff.mp H
     obtain ⟨t280, A90, H⟩ := H
     replace H : (heptadlaw11_AddressBrief.j0 k l0 l1 (!t280)) = some r := H
     have A9 := Aside0.mk A90
     clear A90
     have H' := Aside0.mk H
     clear H
     go_wp2_with (first | (go_at_call 7; (with_reducible refine (heptadlaw11_large.calls k _ _ l0 false _ ?side1 ?side2 A4.out).mono ?_); (case side1 => repeat (first | exact (Kd.C_below HR0.out HB.out) | (with_reducible refine Kd.C_alloc ?_ _) | (with_reducible refine Kd.C_drewN ?_ _) | (with_reducible refine Kd.C_drew ?_))); (case side2 => exact HC0.out); rintro e w' ⟨rfl, ⟨nd, rfl⟩⟩; (try first | exact ⟨rfl, _, World.drewN_drewN _ _ _⟩ | exact ⟨rfl, _, Eq.trans (World.drewN_drewN _ _ _) (congrArg (World.drewN _) (Nat.add_assoc _ _ _))⟩)) | (go_at_call 8; (with_reducible refine (heptadref11_IsTable.calls k _ _ l0 true _ ?side1 ?side2 A7.out).mono ?_); (case side1 => repeat (first | exact (Kd.C_below HR0.out (by repeat (first | (with_reducible first | exact HB.out | apply below_alloc | apply pw_below_drewN | apply below_drew1) | exact HB.out))) | (with_reducible refine Kd.C_alloc ?_ _) | (with_reducible refine Kd.C_drewN ?_ _) | (with_reducible refine Kd.C_drew ?_))); (case side2 => exact HC0.out); rintro e w10 ⟨rfl, hb⟩; have n0_ := Aside0.mk (below_step (by repeat (first | (with_reducible first | exact HB.out | apply below_alloc | apply pw_below_drewN | apply below_drew1) | exact HB.out)) hb); clear HB; have HB := n0_; clear n0_; (try clear hb); (try clear hb2); (try clear hk); (try clear hi)) | (go_at_call 9; (with_reducible refine (heptadref11_Valid.calls k _ _ l1 t280 _ ?side1 ?side2 A9.out).mono ?_); (case side1 => repeat (first | exact (Kd.C_below HR1.out HB.out) | (with_reducible refine Kd.C_alloc ?_ _) | (with_reducible refine Kd.C_drewN ?_ _) | (with_reducible refine Kd.C_drew ?_))); (case side2 => exact HC1.out); rintro e w' ⟨rfl, ⟨nd, rfl⟩⟩; (try first | exact ⟨rfl, _, World.drewN_drewN _ _ _⟩ | exact ⟨rfl, _, Eq.trans (World.drewN_drewN _ _ _) (congrArg (World.drewN _) (Nat.add_assoc _ _ _))⟩)))
     repeat (go_quiet (first | (go_at_call 7; (with_reducible refine (heptadlaw11_large.calls k _ _ l0 false _ ?side1 ?side2 A4.out).mono ?_); (case side1 => repeat (first | exact (Kd.C_below HR0.out HB.out) | (with_reducible refine Kd.C_alloc ?_ _) | (with_reducible refine Kd.C_drewN ?_ _) | (with_reducible refine Kd.C_drew ?_))); (case side2 => exact HC0.out); rintro e w' ⟨rfl, ⟨nd, rfl⟩⟩; (try first | exact ⟨rfl, _, World.drewN_drewN _ _ _⟩ | exact ⟨rfl, _, Eq.trans (World.drewN_drewN _ _ _) (congrArg (World.drewN _) (Nat.add_assoc _ _ _))⟩)) | (go_at_call 8; (with_reducible refine (heptadref11_IsTable.calls k _ _ l0 true _ ?side1 ?side2 A7.out).mono ?_); (case side1 => repeat (first | exact (Kd.C_below HR0.out (by repeat (first | (with_reducible first | exact HB.out | apply below_alloc | apply pw_below_drewN | apply below_drew1) | exact HB.out))) | (with_reducible refine Kd.C_alloc ?_ _) | (with_reducible refine Kd.C_drewN ?_ _) | (with_reducible refine Kd.C_drew ?_))); (case side2 => exact HC0.out); rintro e w10 ⟨rfl, hb⟩; have n0_ := Aside0.mk (below_step (by repeat (first | (with_reducible first | exact HB.out | apply below_alloc | apply pw_below_drewN | apply below_drew1) | exact HB.out)) hb); clear HB; have HB := n0_; clear n0_; (try clear hb); (try clear hb2); (try clear hk); (try clear hi)) | (go_at_call 9; (with_reducible refine (heptadref11_Valid.calls k _ _ l1 t280 _ ?side1 ?side2 A9.out).mono ?_); (case side1 => repeat (first | exact (Kd.C_below HR1.out HB.out) | (with_reducible refine Kd.C_alloc ?_ _) | (with_reducible refine Kd.C_drewN ?_ _) | (with_reducible refine Kd.C_drew ?_))); (case side2 => exact HC1.out); rintro e w' ⟨rfl, ⟨nd, rfl⟩⟩; (try first | exact ⟨rfl, _, World.drewN_drewN _ _ _⟩ | exact ⟨rfl, _, Eq.trans (World.drewN_drewN _ _ _) (congrArg (World.drewN _) (Nat.add_assoc _ _ _))⟩))); try go_wp2_with (first | (go_at_call 7; (with_reducible refine (heptadlaw11_large.calls k _ _ l0 false _ ?side1 ?side2 A4.out).mono ?_); (case side1 => repeat (first | exact (Kd.C_below HR0.out HB.out) | (with_reducible refine Kd.C_alloc ?_ _) | (with_reducible refine Kd.C_drewN ?_ _) | (with_reducible refine Kd.C_drew ?_))); (case side2 => exact HC0.out); rintro e w' ⟨rfl, ⟨nd, rfl⟩⟩; (try first | exact ⟨rfl, _, World.drewN_drewN _ _ _⟩ | exact ⟨rfl, _, Eq.trans (World.drewN_drewN _ _ _) (congrArg (World.drewN _) (Nat.add_assoc _ _ _))⟩)) | (go_at_call 8; (with_reducible refine (heptadref11_IsTable.calls k _ _ l0 true _ ?side1 ?side2 A7.out).mono ?_); (case side1 => repeat (first | exact (Kd.C_below HR0.out (by repeat (first | (with_reducible first | exact HB.out | apply below_alloc | apply pw_below_drewN | apply below_drew1) | exact HB.out))) | (with_reducible refine Kd.C_alloc ?_ _) | (with_reducible refine Kd.C_drewN ?_ _) | (with_reducible refine Kd.C_drew ?_))); (case side2 => exact HC0.out); rintro e w10 ⟨rfl, hb⟩; have n0_ := Aside0.mk (below_step (by repeat (first | (with_reducible first | exact HB.out | apply below_alloc | apply pw_below_drewN | apply below_drew1) | exact HB.out)) hb); clear HB; have HB := n0_; clear n0_; (try clear hb); (try clear hb2); (try clear hk); (try clear hi)) | (go_at_call 9; (with_reducible refine (heptadref11_Valid.calls k _ _ l1 t280 _ ?side1 ?side2 A9.out).mono ?_); (case side1 => repeat (first | exact (Kd.C_below HR1.out HB.out) | (with_reducible refine Kd.C_alloc ?_ _) | (with_reducible refine Kd.C_drewN ?_ _) | (with_reducible refine Kd.C_drew ?_))); (case side2 => exact HC1.out); rintro e w' ⟨rfl, ⟨nd, rfl⟩⟩; (try first | exact ⟨rfl, _, World.drewN_drewN _ _ _⟩ | exact ⟨rfl, _, Eq.trans (World.drewN_drewN _ _ _) (congrArg (World.drewN _) (Nat.add_assoc _ _ _))⟩))))
     go_meet
     case rel => exact ⟨_, (!t280), (by first | rfl | (simp; done) | (simp [*]; done)), H', ⟨by first | omega | exact Nat.le_refl _⟩, ⟨by repeat (first | (with_reducible first | exact HB.out | apply below_alloc | apply pw_below_drewN | apply below_drew1) | exact HB.out)⟩⟩
    ·replace c8 := Bool.eq_false_iff.mpr c8
     subst c8
     have H1 : (heptadlaw11_AddressBrief.j0 k l0 l1 true) = some r := by rw [if_neg (show ¬ (false = true) by decide)] at H; exact H
     clear H
     have H := H1
     clear H1
     have H' := Aside0.mk H
     clear H
     go_wp2_with (first | (go_at_call 7; (with_reducible refine (heptadlaw11_large.calls k _ _ l0 false _ ?side1 ?side2 A4.out).mono ?_); (case side1 => repeat (first | exact (Kd.C_below HR0.out HB.out) | (with_reducible refine Kd.C_alloc ?_ _) | (with_reducible refine Kd.C_drewN ?_ _) | (with_reducible refine Kd.C_drew ?_))); (case side2 => exact HC0.out); rintro e w' ⟨rfl, ⟨nd, rfl⟩⟩; (try first | exact ⟨rfl, _, World.drewN_drewN _ _ _⟩ | exact ⟨rfl, _, Eq.trans (World.drewN_drewN _ _ _) (congrArg (World.drewN _) (Nat.add_assoc _ _ _))⟩)) | (go_at_call 8; (with_reducible refine (heptadref11_IsTable.calls k _ _ l0 false _ ?side1 ?side2 A7.out).mono ?_); (case side1 => repeat (first | exact (Kd.C_below HR0.out (by repeat (first | (with_reducible first | exact HB.out | apply below_alloc | apply pw_below_drewN | apply below_drew1) | exact HB.out))) | (with_reducible refine Kd.C_alloc ?_ _) | (with_reducible refine Kd.C_drewN ?_ _) | (with_reducible refine Kd.C_drew ?_))); (case side2 => exact HC0.out); rintro e w11 ⟨rfl, hb⟩; have n0_ := Aside0.mk (below_step (by repeat (first | (with_reducible first | exact HB.out | apply below_alloc | apply pw_below_drewN | apply below_drew1) | exact HB.out)) hb); clear HB; have HB := n0_; clear n0_; (try clear hb); (try clear hb2); (try clear hk); (try clear hi)))
     repeat (go_quiet (first | (go_at_call 7; (with_reducible refine (heptadlaw11_large.calls k _ _ l0 false _ ?side1 ?side2 A4.out).mono ?_); (case side1 => repeat (first | exact (Kd.C_below HR0.out HB.out) | (with_reducible refine Kd.C_alloc ?_ _) | (with_reducible refine Kd.C_drewN ?_ _) | (with_reducible refine Kd.C_drew ?_))); (case side2 => exact HC0.out); rintro e w' ⟨rfl, ⟨nd, rfl⟩⟩; (try first | exact ⟨rfl, _, World.drewN_drewN _ _ _⟩ | exact ⟨rfl, _, Eq.trans (World.drewN_drewN _ _ _) (congrArg (World.drewN _) (Nat.add_assoc _ _ _))⟩)) | (go_at_call 8; (with_reducible refine (heptadref11_IsTable.calls k _ _ l0 false _ ?side1 ?side2 A7.out).mono ?_); (case side1 => repeat (first | exact (Kd.C_below HR0.out (by repeat (first | (with_reducible first | exact HB.out | apply below_alloc | apply pw_below_drewN | apply below_drew1) | exact HB.out))) | (with_reducible refine Kd.C_alloc ?_ _) | (with_reducible refine Kd.C_drewN ?_ _) | (with_reducible refine Kd.C_drew ?_))); (case side2 => exact HC0.out); rintro e w11 ⟨rfl, hb⟩; have n0_ := Aside0.mk (below_step (by repeat (first | (with_reducible first | exact HB.out | apply below_alloc | apply pw_below_drewN | apply below_drew1) | exact HB.out)) hb); clear HB; have HB := n0_; clear n0_; (try clear hb); (try clear hb2); (try clear hk); (try clear hi))); try go_wp2_with (first | (go_at_call 7; (with_reducible refine (heptadlaw11_large.calls k _ _ l0 false _ ?side1 ?side2 A4.out).mono ?_); (case side1 => repeat (first | exact (Kd.C_below HR0.out HB.out) | (with_reducible refine Kd.C_alloc ?_ _) | (with_reducible refine Kd.C_drewN ?_ _) | (with_reducible refine Kd.C_drew ?_))); (case side2 => exact HC0.out); rintro e w' ⟨rfl, ⟨nd, rfl⟩⟩; (try first | exact ⟨rfl, _, World.drewN_drewN _ _ _⟩ | exact ⟨rfl, _, Eq.trans (World.drewN_drewN _ _ _) (congrArg (World.drewN _) (Nat.add_assoc _ _ _))⟩)) | (go_at_call 8; (with_reducible refine (heptadref11_IsTable.calls k _ _ l0 false _ ?side1 ?side2 A7.out).mono ?_); (case side1 => repeat (first | exact (Kd.C_below HR0.out (by repeat (first | (with_reducible first | exact HB.out | apply below_alloc | apply pw_below_drewN | apply below_drew1) | exact HB.out))) | (with_reducible refine Kd.C_alloc ?_ _) | (with_reducible refine Kd.C_drewN ?_ _) | (with_reducible refine Kd.C_drew ?_))); (case side2 => exact HC0.out); rintro e w11 ⟨rfl, hb⟩; have n0_ := Aside0.mk (below_step (by repeat (first | (with_reducible first | exact HB.out | apply below_alloc | apply pw_below_drewN | apply below_drew1) | exact HB.out)) hb); clear HB; have HB := n0_; clear n0_; (try clear hb); (try clear hb2); (try clear hk); (try clear hi))))
     go_meet
     case rel => exact ⟨_, (true), (by first | rfl | (simp; done) | (simp [*]; done)), H', ⟨by first | omega | exact Nat.le_refl _⟩, ⟨by repeat (first | (with_reducible first | exact HB.out | apply below_alloc | apply pw_below_drewN | apply below_drew1) | exact HB.out)⟩⟩
 case rest =>
  clear HC3
  try clear c1
  try clear p2
  try clear c5
  try clear c6
  try clear c6b0
  try clear c6b1
  try clear c8
  obtain ⟨kq, x30_2, rfl, HA, HJ2, HB⟩ := hcut
  cases kq with
  | zero => exact absurd HA.out (by simp [heptadlaw11_AddressBrief.j0])
  | succ kj2 =>
   have H := HA.out
   clear HA
   simp only [heptadlaw11_AddressBrief.j0] at H
   by_cases c12 : x30_2 = true
   ·subst c12
    have H1 : ((heptadlaw11_sane.f kj2).bind fun t281 => (some t281)) = some r := by rw [if_pos rfl] at H; exact H
    clear H
    have H := H1
    clear H1
    replace H := Option.bind_eq_some_iff.mp H
    obtain ⟨t281, A130, H⟩ := H
    replace H : (some t281) = some r := H
    have A13 := Aside0.mk A130
    clear A130
    obtain rfl := Option.some.inj H
    go_wp2_with (first | (go_at_call 10; (with_reducible refine (heptadlaw11_sane.calls kj2  t281 _ A13.out).mono ?_); rintro e w14 ⟨rfl, hb⟩; have n0_ := Aside0.mk (below_step (by repeat (first | (with_reducible first | exact HB.out | apply below_alloc | apply pw_below_drewN | apply below_drew1) | exact HB.out)) hb); clear HB; have HB := n0_; clear n0_; (try clear hb); (try clear hb2); (try clear hk); (try clear hi)))
    repeat (go_quiet (first | (go_at_call 10; (with_reducible refine (heptadlaw11_sane.calls kj2  t281 _ A13.out).mono ?_); rintro e w14 ⟨rfl, hb⟩; have n0_ := Aside0.mk (below_step (by repeat (first | (with_reducible first | exact HB.out | apply below_alloc | apply pw_below_drewN | apply below_drew1) | exact HB.out)) hb); clear HB; have HB := n0_; clear n0_; (try clear hb); (try clear hb2); (try clear hk); (try clear hi))); try go_wp2_with (first | (go_at_call 10; (with_reducible refine (heptadlaw11_sane.calls kj2  t281 _ A13.out).mono ?_); rintro e w14 ⟨rfl, hb⟩; have n0_ := Aside0.mk (below_step (by repeat (first | (with_reducible first | exact HB.out | apply below_alloc | apply pw_below_drewN | apply below_drew1) | exact HB.out)) hb); clear HB; have HB := n0_; clear n0_; (try clear hb); (try clear hb2); (try clear hk); (try clear hi))))
    go_ret
    exact ⟨by first | rfl | (simp [errW_none, errW_some] <;> rfl) | (simp [*, errW_none, errW_some] <;> rfl), by repeat (first | (with_reducible first | exact HB.out | apply below_alloc | apply pw_below_drewN | apply below_drew1) | exact HB.out)⟩
   ·replace c12 := Bool.eq_false_iff.mpr c12
    subst c12
    have H1 : ((heptadlaw11_table.f kj2 l0).bind fun t282 => ((address_Brief.f kj2 t282).bind fun bt285 => (if bt285.2 = 0 then ((heptadlaw11_back.f kj2 bt285.1).bind fun t289 => ((heptadref11_IsTable.f kj2 t289).bind fun t292 => (if t292 = true then (heptadlaw11_AddressBrief.j1 kj2 l0 l1 bt285.1 (decide ((bt285.1.length : Int) > (l0.length : Int)))) else (heptadlaw11_AddressBrief.j1 kj2 l0 l1 bt285.1 true)))) else (heptadlaw11_AddressBrief.j1 kj2 l0 l1 bt285.1 true)))) = some r := by rw [if_neg (show ¬ (false = true) by decide)] at H; exact H
    clear H
    have H := H1
    clear H1
    replace H := Option.bind_eq_some_iff.mp H
    obtain ⟨t282, A150, H⟩ := H
    replace H : ((address_Brief.f kj2 t282).bind fun bt285 => (if bt285.2 = 0 then ((heptadlaw11_back.f kj2 bt285.1).bind fun t289 => ((heptadref11_IsTable.f kj2 t289).bind fun t292 => (if t292 = true then (heptadlaw11_AddressBrief.j1 kj2 l0 l1 bt285.1 (decide ((bt285.1.length : Int) > (l0.length : Int)))) else (heptadlaw11_AddressBrief.j1 kj2 l0 l1 bt285.1 true)))) else (heptadlaw11_AddressBrief.j1 kj2 l0 l1 bt285.1 true))) = some r := H
    have A15 := Aside0.mk A150
    clear A150
    replace H := Option.bind_eq_some_iff.mp H
    obtain ⟨⟨t285, t286⟩, A160, H⟩ := H
    replace H : (if t286 = 0 then ((heptadlaw11_back.f kj2 t285).bind fun t289 => ((heptadref11_IsTable.f kj2 t289).bind fun t292 => (if t292 = true then (heptadlaw11_AddressBrief.j1 kj2 l0 l1 t285 (decide ((t285.length : Int) > (l0.length : Int)))) else (heptadlaw11_AddressBrief.j1 kj2 l0 l1 t285 true)))) else (heptadlaw11_AddressBrief.j1 kj2 l0 l1 t285 true)) = some r := H
    have A16 := Aside0.mk A160
    clear A160
    have HC17 := Aside0.mk H
    clear H
    go_upto_region 4 with (first | (go_at_call 12; (with_reducible refine (heptadlaw11_table.calls kj2 _ _ l0 t282 _ ?side1 ?side2 A15.out).mono ?_); (case side1 => repeat (first | exact (Kd.C_below HR0.out HB.out) | (with_reducible refine Kd.C_alloc ?_ _) | (with_reducible refine Kd.C_drewN ?_ _) | (with_reducible refine Kd.C_drew ?_))); (case side2 => exact HC0.out); rintro e w18 ⟨v283, rfl, ho0, hb⟩; have n0_ := Aside0.mk (Kd.N_lower (Kd.N_mono (ok' := fun k_ => True) (Kd.S_N (Kd.S_bound ho0)) (fun k_ hk_ => trivial)) (below_size (by repeat (first | (with_reducible first | exact HB.out | apply below_alloc | apply pw_below_drewN | apply below_drew1) | exact HB.out)))); have n1_ := Aside0.mk (below_step (by repeat (first | (with_reducible first | exact HB.out | apply below_alloc | apply pw_below_drewN | apply below_drew1) | exact HB.out)) hb); clear HB; have HO284 := n0_; have HB := n1_; clear n0_ n1_; (try clear hb); (try clear hb2); (try clear hk); (try clear hi); (try clear ho0); obtain ⟨Ao19, co19, eo19⟩ := Kd.N_slice HO284.out; subst eo19) | (go_at_call 16; (with_reducible refine (address_Brief.calls kj2 _ _ t282 t285 t286 _ ?side1 ?side2 A16.out).mono ?_); (case side1 => repeat (first | exact (Kd.N_reads' HO284.out).2.2 | (with_reducible refine Kd.C_alloc ?_ _) | (with_reducible refine Kd.C_drewN ?_ _) | (with_reducible refine Kd.C_drew ?_))); (case side2 => exact (Kd.N_reads' HO284.out).2.1); rintro e w20 ⟨v287, rfl, ho0, hb⟩; have n0_ := Aside0.mk (Kd.N_elder' (by (with_reducible repeat (first | apply Kd.N_alloc | apply Kd.N_drewN | apply Kd.N_drew)); exact HO284.out) (Kd.S_base ho0) hb); have n1_ := Aside0.mk (Kd.N_lower (Kd.N_mono (ok' := fun k_ => some k_ ≠ (.slice Ao19 t282.length co19 : Value).ownBlock) (Kd.S_N (Kd.S_bound ho0)) (fun k_ hk_ => (Kd.fresh' (Kd.N_lt (by (with_reducible repeat (first | apply Kd.N_alloc | apply Kd.N_drewN | apply Kd.N_drew)); exact HO284.out)) k_ hk_.2.1))) (below_size (by repeat (first | (with_reducible first | exact HB.out | apply below_alloc | apply pw_below_drewN | apply below_drew1) | exact HB.out)))); have n2_ := Aside0.mk (below_step (by repeat (first | (with_reducible first | exact HB.out | apply below_alloc | apply pw_below_drewN | apply below_drew1) | exact HB.out)) hb); clear HO284; clear HB; have HO284 := n0_; have HO288 := n1_; have HB := n2_; clear n0_ n1_ n2_; (try clear hb); (try clear hb2); (try clear hk); (try clear hi); (try clear ho0)))
    repeat (go_quiet (first | (go_at_call 12; (with_reducible refine (heptadlaw11_table.calls kj2 _ _ l0 t282 _ ?side1 ?side2 A15.out).mono ?_); (case side1 => repeat (first | exact (Kd.C_below HR0.out HB.out) | (with_reducible refine Kd.C_alloc ?_ _) | (with_reducible refine Kd.C_drewN ?_ _) | (with_reducible refine Kd.C_drew ?_))); (case side2 => exact HC0.out); rintro e w18 ⟨v283, rfl, ho0, hb⟩; have n0_ := Aside0.mk (Kd.N_lower (Kd.N_mono (ok' := fun k_ => True) (Kd.S_N (Kd.S_bound ho0)) (fun k_ hk_ => trivial)) (below_size (by repeat (first | (with_reducible first | exact HB.out | apply below_alloc | apply pw_below_drewN | apply below_drew1) | exact HB.out)))); have n1_ := Aside0.mk (below_step (by repeat (first | (with_reducible first | exact HB.out | apply below_alloc | apply pw_below_drewN | apply below_drew1) | exact HB.out)) hb); clear HB; have HO284 := n0_; have HB := n1_; clear n0_ n1_; (try clear hb); (try clear hb2); (try clear hk); (try clear hi); (try clear ho0); obtain ⟨Ao19, co19, eo19⟩ := Kd.N_slice HO284.out; subst eo19) | (go_at_call 16; (with_reducible refine (address_Brief.calls kj2 _ _ t282 t285 t286 _ ?side1 ?side2 A16.out).mono ?_); (case side1 => repeat (first | exact (Kd.N_reads' HO284.out).2.2 | (with_reducible refine Kd.C_alloc ?_ _) | (with_reducible refine Kd.C_drewN ?_ _) | (with_reducible refine Kd.C_drew ?_))); (case side2 => exact (Kd.N_reads' HO284.out).2.1); rintro e w20 ⟨v287, rfl, ho0, hb⟩; have n0_ := Aside0.mk (Kd.N_elder' (by (with_reducible repeat (first | apply Kd.N_alloc | apply Kd.N_drewN | apply Kd.N_drew)); exact HO284.out) (Kd.S_base ho0) hb); have n1_ := Aside0.mk (Kd.N_lower (Kd.N_mono (ok' := fun k_ => some k_ ≠ (.slice Ao19 t282.length co19 : Value).ownBlock) (Kd.S_N (Kd.S_bound ho0)) (fun k_ hk_ => (Kd.fresh' (Kd.N_lt (by (with_reducible repeat (first | apply Kd.N_alloc | apply Kd.N_drewN | apply Kd.N_drew)); exact HO284.out)) k_ hk_.2.1))) (below_size (by repeat (first | (with_reducible first | exact HB.out | apply below_alloc | apply pw_below_drewN | apply below_drew1) | exact HB.out)))); have n2_ := Aside0.mk (below_step (by repeat (first | (with_reducible first | exact HB.out | apply below_alloc | apply pw_below_drewN | apply below_drew1) | exact HB.out)) hb); clear HO284; clear HB; have HO284 := n0_; have HO288 := n1_; have HB := n2_; clear n0_ n1_ n2_; (try clear hb); (try clear hb2); (try clear hk); (try clear hi); (try clear ho0))); go_upto_region 4 with (first | (go_at_call 12; (with_reducible refine (heptadlaw11_table.calls kj2 _ _ l0 t282 _ ?side1 ?side2 A15.out).mono ?_); (case side1 => repeat (first | exact (Kd.C_below HR0.out HB.out) | (with_reducible refine Kd.C_alloc ?_ _) | (with_reducible refine Kd.C_drewN ?_ _) | (with_reducible refine Kd.C_drew ?_))); (case side2 => exact HC0.out); rintro e w18 ⟨v283, rfl, ho0, hb⟩; have n0_ := Aside0.mk (Kd.N_lower (Kd.N_mono (ok' := fun k_ => True) (Kd.S_N (Kd.S_bound ho0)) (fun k_ hk_ => trivial)) (below_size (by repeat (first | (with_reducible first | exact HB.out | apply below_alloc | apply pw_below_drewN | apply below_drew1) | exact HB.out)))); have n1_ := Aside0.mk (below_step (by repeat (first | (with_reducible first | exact HB.out | apply below_alloc | apply pw_below_drewN | apply below_drew1) | exact HB.out)) hb); clear HB; have HO284 := n0_; have HB := n1_; clear n0_ n1_; (try clear hb); (try clear hb2); (try clear hk); (try clear hi); (try clear ho0); obtain ⟨Ao19, co19, eo19⟩ := Kd.N_slice HO284.out; subst eo19) | (go_at_call 16; (with_reducible refine (address_Brief.calls kj2 _ _ t282 t285 t286 _ ?side1 ?side2 A16.out).mono ?_); (case side1 => repeat (first | exact (Kd.N_reads' HO284.out).2.2 | (with_reducible refine Kd.C_alloc ?_ _) | (with_reducible refine Kd.C_drewN ?_ _) | (with_reducible refine Kd.C_drew ?_))); (case side2 => exact (Kd.N_reads' HO284.out).2.1); rintro e w20 ⟨v287, rfl, ho0, hb⟩; have n0_ := Aside0.mk (Kd.N_elder' (by (with_reducible repeat (first | apply Kd.N_alloc | apply Kd.N_drewN | apply Kd.N_drew)); exact HO284.out) (Kd.S_base ho0) hb); have n1_ := Aside0.mk (Kd.N_lower (Kd.N_mono (ok' := fun k_ => some k_ ≠ (.slice Ao19 t282.length co19 : Value).ownBlock) (Kd.S_N (Kd.S_bound ho0)) (fun k_ hk_ => (Kd.fresh' (Kd.N_lt (by (with_reducible repeat (first | apply Kd.N_alloc | apply Kd.N_drewN | apply Kd.N_drew)); exact HO284.out)) k_ hk_.2.1))) (below_size (by repeat (first | (with_reducible first | exact HB.out | apply below_alloc | apply pw_below_drewN | apply below_drew1) | exact HB.out)))); have n2_ := Aside0.mk (below_step (by repeat (first | (with_reducible first | exact HB.out | apply below_alloc | apply pw_below_drewN | apply below_drew1) | exact HB.out)) hb); clear HO284; clear HB; have HO284 := n0_; have HO288 := n1_; have HB := n2_; clear n0_ n1_ n2_; (try clear hb); (try clear hb2); (try clear hk); (try clear hi); (try clear ho0))))
    (try simp only [Act.put, List.setIfInBounds_toArray, List.set_cons_zero, List.set_cons_succ])
    go_cut [52] (fun v52 wc => ∃ (kq : Nat) (x52_16 : Bool), v52 = .bool x52_16 ∧ Aside0 (heptadlaw11_AddressBrief.j1 kq l0 l1 t285 x52_16 = some r) ∧ Aside0 (kq ≤ kj2) ∧ Aside0 (Kd.N k28 28 wc w.heap.size (fun _ => True) v287 t285) ∧ Aside0 (Below w.heap.size w wc))
    case first =>
     have H := HC17.out
     clear HC17
     by_cases c21 : t286 = 0
     ·rw [if_pos c21] at H
      have c21b0 : (t286 == 0) = true := beq_iff_eq.mpr c21
      have c21b1 : (t286 != 0) = false := bne_eq_false_iff_eq.mpr c21
      clear c21
      (first | rw [c21b0] | (simp only [i64_w, i32_w]; rw [c21b0]) | skip)
      replace H := Option.bind_eq_some_iff.mp H
      obtain ⟨t289, A220, H⟩ := H
      replace H : ((heptadref11_IsTable.f kj2 t289).bind fun t292 => (if t292 = true then (heptadlaw11_AddressBrief.j1 kj2 l0 l1 t285 (decide ((t285.length : Int) > (l0.length : Int)))) else (heptadlaw11_AddressBrief.j1 kj2 l0 l1 t285 true))) = some r := H
      have A22 := Aside0.mk A220
      clear A220
      replace H := Option.bind_eq_some_iff.mp H
      obtain ⟨t292, A230, H⟩ := H
      replace H : (if t292 = true then (heptadlaw11_AddressBrief.j1 kj2 l0 l1 t285 (decide ((t285.length : Int) > (l0.length : Int)))) else (heptadlaw11_AddressBrief.j1 kj2 l0 l1 t285 true)) = some r := H
      have A23 := Aside0.mk A230
      clear A230
      by_cases c24 : t292 = true
      ·subst c24
       have H1 : (heptadlaw11_AddressBrief.j1 kj2 l0 l1 t285 (decide ((t285.length : Int) > (l0.length : Int)))) = some r := by rw [if_pos rfl] at H; exact H
       clear H
       have H := H1
       clear H1
       have H' := Aside0.mk H
       clear H
       obtain ⟨Ao25, co25, eo25⟩ := Kd.N_slice HO288.out
       subst eo25
       go_wp2_with (first | (go_at_call 19; (with_reducible refine (heptadlaw11_back.calls kj2 (fun k_ => some k_ ≠ (.slice Ao19 t282.length co19 : Value).ownBlock) _ _ t285 t289 _ ?side1 A22.out).mono ?_); (case side1 => exact Kd.N_V (HO288.out)); rintro e w26 ⟨v290, rfl, ho0, hb⟩; have n0_ := Aside0.mk (Kd.N_elder' (by (with_reducible repeat (first | apply Kd.N_alloc | apply Kd.N_drewN | apply Kd.N_drew)); exact HO284.out) (Kd.N_base ho0) hb); have n1_ := Aside0.mk (Kd.N_elder' (by (with_reducible repeat (first | apply Kd.N_alloc | apply Kd.N_drewN | apply Kd.N_drew)); exact HO288.out) (Kd.N_base ho0) hb); have n2_ := Aside0.mk (Kd.N_lower (Kd.N_mono (ok' := fun k_ => some k_ ≠ (.slice Ao19 t282.length co19 : Value).ownBlock) ho0 (fun k_ hk_ => Or.elim hk_ (fun hs_ => hs_) (fun hn_ => (Kd.fresh' (Kd.N_lt (by (with_reducible repeat (first | apply Kd.N_alloc | apply Kd.N_drewN | apply Kd.N_drew)); exact HO284.out)) k_ hn_)))) (below_size (by repeat (first | (with_reducible first | exact HB.out | apply below_alloc | apply pw_below_drewN | apply below_drew1) | exact HB.out)))); have n3_ := Aside0.mk (below_step (by repeat (first | (with_reducible first | exact HB.out | apply below_alloc | apply pw_below_drewN | apply below_drew1) | exact HB.out)) hb); clear HO284; clear HO288; clear HB; have HO284 := n0_; have HO288 := n1_; have HO291 := n2_; have HB := n3_; clear n0_ n1_ n2_ n3_; (try clear hb); (try clear hb2); (try clear hk); (try clear hi); (try clear ho0); obtain ⟨Ao27, co27, eo27⟩ := Kd.N_slice HO291.out; subst eo27) | (go_at_call 8; (with_reducible refine (heptadref11_IsTable.calls kj2 _ _ t289 true _ ?side1 ?side2 A23.out).mono ?_); (case side1 => repeat (first | exact (Kd.N_reads' HO291.out).2.2 | (with_reducible refine Kd.C_alloc ?_ _) | (with_reducible refine Kd.C_drewN ?_ _) | (with_reducible refine Kd.C_drew ?_))); (case side2 => exact (Kd.N_reads' HO291.out).2.1); rintro e w28 ⟨rfl, hb⟩; have n0_ := Aside0.mk (Kd.N_below (by (with_reducible repeat (first | apply Kd.N_alloc | apply Kd.N_drewN | apply Kd.N_drew)); exact HO284.out) hb); have n1_ := Aside0.mk (Kd.N_below (by (with_reducible repeat (first | apply Kd.N_alloc | apply Kd.N_drewN | apply Kd.N_drew)); exact HO288.out) hb); have n2_ := Aside0.mk (Kd.N_below (by (with_reducible repeat (first | apply Kd.N_alloc | apply Kd.N_drewN | apply Kd.N_drew)); exact HO291.out) hb); have n3_ := Aside0.mk (below_step (by repeat (first | (with_reducible first | exact HB.out | apply below_alloc | apply pw_below_drewN | apply below_drew1) | exact HB.out)) hb); clear HO284; clear HO288; clear HO291; clear HB; have HO284 := n0_; have HO288 := n1_; have HO291 := n2_; have HB := n3_; clear n0_ n1_ n2_ n3_; (try clear hb); (try clear hb2); (try clear hk); (try clear hi)))
       repeat (go_quiet (first | (go_at_call 19; (with_reducible refine (heptadlaw11_back.calls kj2 (fun k_ => some k_ ≠ (.slice Ao19 t282.length co19 : Value).ownBlock) _ _ t285 t289 _ ?side1 A22.out).mono ?_); (case side1 => exact Kd.N_V (HO288.out)); rintro e w26 ⟨v290, rfl, ho0, hb⟩; have n0_ := Aside0.mk (Kd.N_elder' (by (with_reducible repeat (first | apply Kd.N_alloc | apply Kd.N_drewN | apply Kd.N_drew)); exact HO284.out) (Kd.N_base ho0) hb); have n1_ := Aside0.mk (Kd.N_elder' (by (with_reducible repeat (first | apply Kd.N_alloc | apply Kd.N_drewN | apply Kd.N_drew)); exact HO288.out) (Kd.N_base ho0) hb); have n2_ := Aside0.mk (Kd.N_lower (Kd.N_mono (ok' := fun k_ => some k_ ≠ (.slice Ao19 t282.length co19 : Value).ownBlock) ho0 (fun k_ hk_ => Or.elim hk_ (fun hs_ => hs_) (fun hn_ => (Kd.fresh' (Kd.N_lt (by (with_reducible repeat (first | apply Kd.N_alloc | apply Kd.N_drewN | apply Kd.N_drew)); exact HO284.out)) k_ hn_)))) (below_size (by repeat (first | (with_reducible first | exact HB.out | apply below_alloc | apply pw_below_drewN | apply below_drew1) | exact HB.out)))); have n3_ := Aside0.mk (below_step (by repeat (first | (with_reducible first | exact HB.out | apply below_alloc | apply pw_below_drewN | apply below_drew1) | exact HB.out)) hb); clear HO284; clear HO288; clear HB; have HO284 := n0_; have HO288 := n1_; have HO291 := n2_; have HB := n3_; clear n0_ n1_ n2_ n3_; (try clear hb); (try clear hb2); (try clear hk); (try clear hi); (try clear ho0); obtain ⟨Ao27, co27, eo27⟩ := Kd.N_slice HO291.out; subst eo27) | (go_at_call 8; (with_reducible refine (heptadref11_IsTable.calls kj2 _ _ t289 true _ ?side1 ?side2 A23.out).mono ?_); (case side1 => repeat (first | exact (Kd.N_reads' HO291.out).2.2 | (with_reducible refine Kd.C_alloc ?_ _) | (with_reducible refine Kd.C_drewN ?_ _) | (with_reducible refine Kd.C_drew ?_))); (case side2 => exact (Kd.N_reads' HO291.out).2.1); rintro e w28 ⟨rfl, hb⟩; have n0_ := Aside0.mk (Kd.N_below (by (with_reducible repeat (first | apply Kd.N_alloc | apply Kd.N_drewN | apply Kd.N_drew)); exact HO284.out) hb); have n1_ := Aside0.mk (Kd.N_below (by (with_reducible repeat (first | apply Kd.N_alloc | apply Kd.N_drewN | apply Kd.N_drew)); exact HO288.out) hb); have n2_ := Aside0.mk (Kd.N_below (by (with_reducible repeat (first | apply Kd.N_alloc | apply Kd.N_drewN | apply Kd.N_drew)); exact HO291.out) hb); have n3_ := Aside0.mk (below_step (by repeat (first | (with_reducible first | exact HB.out | apply below_alloc | apply pw_below_drewN | apply below_drew1) | exact HB.out)) hb); clear HO284; clear HO288; clear HO291; clear HB; have HO284 := n0_; have HO288 := n1_; have HO291 := n2_; have HB := n3_; clear n0_ n1_ n2_ n3_; (try clear hb); (try clear hb2); (try clear hk); (try clear hi))); try go_wp2_with (first | (go_at_call 19; (with_reducible refine (heptadlaw11_back.calls kj2 (fun k_ => some k_ ≠ (.slice Ao19 t282.length co19 : Value).ownBlock) _ _ t285 t289 _ ?side1 A22.out).mono ?_); (case side1 => exact Kd.N_V (HO288.out)); rintro e w26 ⟨v290, rfl, ho0, hb⟩; have n0_ := Aside0.mk (Kd.N_elder' (by (with_reducible repeat (first | apply Kd.N_alloc | apply Kd.N_drewN | apply Kd.N_drew)); exact HO284.out) (Kd.N_base ho0) hb); have n1_ := Aside0.mk (Kd.N_elder' (by (with_reducible repeat (first | apply Kd.N_alloc | apply Kd.N_drewN | apply Kd.N_drew)); exact HO288.out) (Kd.N_base ho0) hb); have n2_ := Aside0.mk (Kd.N_lower (Kd.N_mono (ok' := fun k_ => some k_ ≠ (.slice Ao19 t282.length co19 : Value).ownBlock) ho0 (fun k_ hk_ => Or.elim hk_ (fun hs_ => hs_) (fun hn_ => (Kd.fresh' (Kd.N_lt (by (with_reducible repeat (first | apply Kd.N_alloc | apply Kd.N_drewN | apply Kd.N_drew)); exact HO284.out)) k_ hn_)))) (below_size (by repeat (first | (with_reducible first | exact HB.out | apply below_alloc | apply pw_below_drewN | apply below_drew1) | exact HB.out)))); have n3_ := Aside0.mk (below_step (by repeat (first | (with_reducible first | exact HB.out | apply below_alloc | apply pw_below_drewN | apply below_drew1) | exact HB.out)) hb); clear HO284; clear HO288; clear HB; have HO284 := n0_; have HO288 := n1_; have HO291 := n2_; have HB := n3_; clear n0_ n1_ n2_ n3_; (try clear hb); (try clear hb2); (try clear hk); (try clear hi); (try clear ho0); obtain ⟨Ao27, co27, eo27⟩ := Kd.N_slice HO291.out; subst eo27) | (go_at_call 8; (with_reducible refine (heptadref11_IsTable.calls kj2 _ _ t289 true _ ?side1 ?side2 A23.out).mono ?_); (case side1 => repeat (first | exact (Kd.N_reads' HO291.out).2.2 | (with_reducible refine Kd.C_alloc ?_ _) | (with_reducible refine Kd.C_drewN ?_ _) | (with_reducible refine Kd.C_drew ?_))); (case side2 => exact (Kd.N_reads' HO291.out).2.1); rintro e w28 ⟨rfl, hb⟩; have n0_ := Aside0.mk (Kd.N_below (by (with_reducible repeat (first | apply Kd.N_alloc | apply Kd.N_drewN | apply Kd.N_drew)); exact HO284.out) hb); have n1_ := Aside0.mk (Kd.N_below (by (with_reducible repeat (first | apply Kd.N_alloc | apply Kd.N_drewN | apply Kd.N_drew)); exact HO288.out) hb); have n2_ := Aside0.mk (Kd.N_below (by (with_reducible repeat (first | apply Kd.N_alloc | apply Kd.N_drewN | apply Kd.N_drew)); exact HO291.out) hb); have n3_ := Aside0.mk (below_step (by repeat (first | (with_reducible first | exact HB.out | apply below_alloc | apply pw_below_drewN | apply below_drew1) | exact HB.out)) hb); clear HO284; clear HO288; clear HO291; clear HB; have HO284 := n0_; have HO288 := n1_; have HO291 := n2_; have HB := n3_; clear n0_ n1_ n2_ n3_; (try clear hb); (try clear hb2); (try clear hk); (try clear hi))))
       go_meet
       case rel => exact ⟨_, (decide ((t285.length : Int) > (l0.length : Int))), (by first | rfl | (simp; done) | (simp [*]; done)), H', ⟨by have := HJ2.out; first | omega | exact Nat.le_refl _⟩, ⟨by (with_reducible repeat (first | apply Kd.N_alloc | apply Kd.N_drewN | apply Kd.N_drew)); exact Kd.N_mono HO288.out (fun _ hk => trivial)⟩, ⟨by repeat (first | (with_reducible first | exact HB.out | apply below_alloc | apply pw_below_drewN | apply below_drew1) | exact HB.out)⟩⟩
      ·replace c24 := Bool.eq_false_iff.mpr c24
       subst c24
       have H1 : (heptadlaw11_AddressBrief.j1 kj2 l0 l1 t285 true) = some r := by rw [if_neg (show ¬ (false = true) by decide)] at H; exact H
       clear H
       have H := H1
       clear H1
       have H' := Aside0.mk H
       clear H
       obtain ⟨Ao29, co29, eo29⟩ := Kd.N_slice HO288.out
       subst eo29
       go_wp2_with (first | (go_at_call 19; (with_reducible refine (heptadlaw11_back.calls kj2 (fun k_ => some k_ ≠ (.slice Ao19 t282.length co19 : Value).ownBlock) _ _ t285 t289 _ ?side1 A22.out).mono ?_); (case side1 => exact Kd.N_V (HO288.out)); rintro e w30 ⟨v290, rfl, ho0, hb⟩; have n0_ := Aside0.mk (Kd.N_elder' (by (with_reducible repeat (first | apply Kd.N_alloc | apply Kd.N_drewN | apply Kd.N_drew)); exact HO284.out) (Kd.N_base ho0) hb); have n1_ := Aside0.mk (Kd.N_elder' (by (with_reducible repeat (first | apply Kd.N_alloc | apply Kd.N_drewN | apply Kd.N_drew)); exact HO288.out) (Kd.N_base ho0) hb); have n2_ := Aside0.mk (Kd.N_lower (Kd.N_mono (ok' := fun k_ => some k_ ≠ (.slice Ao19 t282.length co19 : Value).ownBlock) ho0 (fun k_ hk_ => Or.elim hk_ (fun hs_ => hs_) (fun hn_ => (Kd.fresh' (Kd.N_lt (by (with_reducible repeat (first | apply Kd.N_alloc | apply Kd.N_drewN | apply Kd.N_drew)); exact HO284.out)) k_ hn_)))) (below_size (by repeat (first | (with_reducible first | exact HB.out | apply below_alloc | apply pw_below_drewN | apply below_drew1) | exact HB.out)))); have n3_ := Aside0.mk (below_step (by repeat (first | (with_reducible first | exact HB.out | apply below_alloc | apply pw_below_drewN | apply below_drew1) | exact HB.out)) hb); clear HO284; clear HO288; clear HB; have HO284 := n0_; have HO288 := n1_; have HO291 := n2_; have HB := n3_; clear n0_ n1_ n2_ n3_; (try clear hb); (try clear hb2); (try clear hk); (try clear hi); (try clear ho0); obtain ⟨Ao31, co31, eo31⟩ := Kd.N_slice HO291.out; subst eo31) | (go_at_call 8; (with_reducible refine (heptadref11_IsTable.calls kj2 _ _ t289 false _ ?side1 ?side2 A23.out).mono ?_); (case side1 => repeat (first | exact (Kd.N_reads' HO291.out).2.2 | (with_reducible refine Kd.C_alloc ?_ _) | (with_reducible refine Kd.C_drewN ?_ _) | (with_reducible refine Kd.C_drew ?_))); (case side2 => exact (Kd.N_reads' HO291.out).2.1); rintro e w32 ⟨rfl, hb⟩; have n0_ := Aside0.mk (Kd.N_below (by (with_reducible repeat (first | apply Kd.N_alloc | apply Kd.N_drewN | apply Kd.N_drew)); exact HO284.out) hb); have n1_ := Aside0.mk (Kd.N_below (by (with_reducible repeat (first | apply Kd.N_alloc | apply Kd.N_drewN | apply Kd.N_drew)); exact HO288.out) hb); have n2_ := Aside0.mk (Kd.N_below (by (with_reducible repeat (first | apply Kd.N_alloc | apply Kd.N_drewN | apply Kd.N_drew)); exact HO291.out) hb); have n3_ := Aside0.mk (below_step (by repeat (first | (with_reducible first | exact HB.out | apply below_alloc | apply pw_below_drewN | apply below_drew1) | exact HB.out)) hb); clear HO284; clear HO288; clear HO291; clear HB; have HO284 := n0_; have HO288 := n1_; have HO291 := n2_; have HB := n3_; clear n0_ n1_ n2_ n3_; (try clear hb); (try clear hb2); (try clear hk); (try clear hi)))
       repeat (go_quiet (first | (go_at_call 19; (with_reducible refine (heptadlaw11_back.calls kj2 (fun k_ => some k_ ≠ (.slice Ao19 t282.length co19 : Value).ownBlock) _ _ t285 t289 _ ?side1 A22.out).mono ?_); (case side1 => exact Kd.N_V (HO288.out)); rintro e w30 ⟨v290, rfl, ho0, hb⟩; have n0_ := Aside0.mk (Kd.N_elder' (by (with_reducible repeat (first | apply Kd.N_alloc | apply Kd.N_drewN | apply Kd.N_drew)); exact HO284.out) (Kd.N_base ho0) hb); have n1_ := Aside0.mk (Kd.N_elder' (by (with_reducible repeat (first | apply Kd.N_alloc | apply Kd.N_drewN | apply Kd.N_drew)); exact HO288.out) (Kd.N_base ho0) hb); have n2_ := Aside0.mk (Kd.N_lower (Kd.N_mono (ok' := fun k_ => some k_ ≠ (.slice Ao19 t282.length co19 : Value).ownBlock) ho0 (fun k_ hk_ => Or.elim hk_ (fun hs_ => hs_) (fun hn_ => (Kd.fresh' (Kd.N_lt (by (with_reducible repeat (first | apply Kd.N_alloc | apply Kd.N_drewN | apply Kd.N_drew)); exact HO284.out)) k_ hn_)))) (below_size (by repeat (first | (with_reducible first | exact HB.out | apply below_alloc | apply pw_below_drewN | apply below_drew1) | exact HB.out)))); have n3_ := Aside0.mk (below_step (by repeat (first | (with_reducible first | exact HB.out | apply below_alloc | apply pw_below_drewN | apply below_drew1) | exact HB.out)) hb); clear HO284; clear HO288; clear HB; have HO284 := n0_; have HO288 := n1_; have HO291 := n2_; have HB := n3_; clear n0_ n1_ n2_ n3_; (try clear hb); (try clear hb2); (try clear hk); (try clear hi); (try clear ho0); obtain ⟨Ao31, co31, eo31⟩ := Kd.N_slice HO291.out; subst eo31) | (go_at_call 8; (with_reducible refine (heptadref11_IsTable.calls kj2 _ _ t289 false _ ?side1 ?side2 A23.out).mono ?_); (case side1 => repeat (first | exact (Kd.N_reads' HO291.out).2.2 | (with_reducible refine Kd.C_alloc ?_ _) | (with_reducible refine Kd.C_drewN ?_ _) | (with_reducible refine Kd.C_drew ?_))); (case side2 => exact (Kd.N_reads' HO291.out).2.1); rintro e w32 ⟨rfl, hb⟩; have n0_ := Aside0.mk (Kd.N_below (by (with_reducible repeat (first | apply Kd.N_alloc | apply Kd.N_drewN | apply Kd.N_drew)); exact HO284.out) hb); have n1_ := Aside0.mk (Kd.N_below (by (with_reducible repeat (first | apply Kd.N_alloc | apply Kd.N_drewN | apply Kd.N_drew)); exact HO288.out) hb); have n2_ := Aside0.mk (Kd.N_below (by (with_reducible repeat (first | apply Kd.N_alloc | apply Kd.N_drewN | apply Kd.N_drew)); exact HO291.out) hb); have n3_ := Aside0.mk (below_step (by repeat (first | (with_reducible first | exact HB.out | apply below_alloc | apply pw_below_drewN | apply below_drew1) | exact HB.out)) hb); clear HO284; clear HO288; clear HO291; clear HB; have HO284 := n0_; have HO288 := n1_; have HO291 := n2_; have HB := n3_; clear n0_ n1_ n2_ n3_; (try clear hb); (try clear hb2); (try clear hk); (try clear hi))); try go_wp2_with (first | (go_at_call 19; (with_reducible refine (heptadlaw11_back.calls kj2 (fun k_ => some k_ ≠ (.slice Ao19 t282.length co19 : Value).ownBlock) _ _ t285 t289 _ ?side1 A22.out).mono ?_); (case side1 => exact Kd.N_V (HO288.out)); rintro e w30 ⟨v290, rfl, ho0, hb⟩; have n0_ := Aside0.mk (Kd.N_elder' (by (with_reducible repeat (first | apply Kd.N_alloc | apply Kd.N_drewN | apply Kd.N_drew)); exact HO284.out) (Kd.N_base ho0) hb); have n1_ := Aside0.mk (Kd.N_elder' (by (with_reducible repeat (first | apply Kd.N_alloc | apply Kd.N_drewN | apply Kd.N_drew)); exact HO288.out) (Kd.N_base ho0) hb); have n2_ := Aside0.mk (Kd.N_lower (Kd.N_mono (ok' := fun k_ => some k_ ≠ (.slice Ao19 t282.length co19 : Value).ownBlock) ho0 (fun k_ hk_ => Or.elim hk_ (fun hs_ => hs_) (fun hn_ => (Kd.fresh' (Kd.N_lt (by (with_reducible repeat (first | apply Kd.N_alloc | apply Kd.N_drewN | apply Kd.N_drew)); exact HO284.out)) k_ hn_)))) (below_size (by repeat (first | (with_reducible first | exact HB.out | apply below_alloc | apply pw_below_drewN | apply below_drew1) | exact HB.out)))); have n3_ := Aside0.mk (below_step (by repeat (first | (with_reducible first | exact HB.out | apply below_alloc | apply pw_below_drewN | apply below_drew1) | exact HB.out)) hb); clear HO284; clear HO288; clear HB; have HO284 := n0_; have HO288 := n1_; have HO291 := n2_; have HB := n3_; clear n0_ n1_ n2_ n3_; (try clear hb); (try clear hb2); (try clear hk); (try clear hi); (try clear ho0); obtain ⟨Ao31, co31, eo31⟩ := Kd.N_slice HO291.out; subst eo31) | (go_at_call 8; (with_reducible refine (heptadref11_IsTable.calls kj2 _ _ t289 false _ ?side1 ?side2 A23.out).mono ?_); (case side1 => repeat (first | exact (Kd.N_reads' HO291.out).2.2 | (with_reducible refine Kd.C_alloc ?_ _) | (with_reducible refine Kd.C_drewN ?_ _) | (with_reducible refine Kd.C_drew ?_))); (case side2 => exact (Kd.N_reads' HO291.out).2.1); rintro e w32 ⟨rfl, hb⟩; have n0_ := Aside0.mk (Kd.N_below (by (with_reducible repeat (first | apply Kd.N_alloc | apply Kd.N_drewN | apply Kd.N_drew)); exact HO284.out) hb); have n1_ := Aside0.mk (Kd.N_below (by (with_reducible repeat (first | apply Kd.N_alloc | apply Kd.N_drewN | apply Kd.N_drew)); exact HO288.out) hb); have n2_ := Aside0.mk (Kd.N_below (by (with_reducible repeat (first | apply Kd.N_alloc | apply Kd.N_drewN | apply Kd.N_drew)); exact HO291.out) hb); have n3_ := Aside0.mk (below_step (by repeat (first | (with_reducible first | exact HB.out | apply below_alloc | apply pw_below_drewN | apply below_drew1) | exact HB.out)) hb); clear HO284; clear HO288; clear HO291; clear HB; have HO284 := n0_; have HO288 := n1_; have HO291 := n2_; have HB := n3_; clear n0_ n1_ n2_ n3_; (try clear hb); (try clear hb2); (try clear hk); (try clear hi))))
       go_meet
       case rel => exact ⟨_, (true), (by first | rfl | (simp; done) | (simp [*]; done)), H', ⟨by have := HJ2.out; first | omega | exact Nat.le_refl _⟩, ⟨by (with_reducible repeat (first | apply Kd.N_alloc | apply Kd.N_drewN | apply Kd.N_drew)); exact Kd.N_mono HO288.out (fun _ hk => trivial)⟩, ⟨by repeat (first | (with_reducible first | exact HB.out | apply below_alloc | apply pw_below_drewN | apply below_drew1) | exact HB.out)⟩⟩
     ·rw [if_neg c21] at H
      have c21b0 : (t286 == 0) = false := beq_eq_false_iff_ne.mpr c21
      have c21b1 : (t286 != 0) = true := bne_iff_ne.mpr c21
      (first | rw [c21b0] | (simp only [i64_w, i32_w]; rw [c21b0]) | skip)
      have H' := Aside0.mk H
      clear H
      go_wp2
      repeat (go_quiet (fail); try go_wp2)
      go_meet
      case rel => exact ⟨_, (true), (by first | rfl | (simp; done) | (simp [*]; done)), H', ⟨by have := HJ2.out; first | omega | exact Nat.le_refl _⟩, ⟨by (with_reducible repeat (first | apply Kd.N_alloc | apply Kd.N_drewN | apply Kd.N_drew)); exact Kd.N_mono HO288.out (fun _ hk => trivial)⟩, ⟨by repeat (first | (with_reducible first | exact HB.out | apply below_alloc | apply pw_below_drewN | apply below_drew1) | exact HB.out)⟩⟩
    case rest =>
     clear HC17
     try clear c1
     try clear c2
     try clear p2
     try clear c5
     try clear c6
     try clear c6b0
     try clear c6b1
     try clear c8
     try clear c12
     try clear c21
     try clear c21b0
     try clear c21b1
     try clear c24
     try clear p2
     obtain ⟨kq, x52_16, rfl, HA, HJ16, HO_5, HB⟩ := hcut
     cases kq with
     | zero => exact absurd HA.out (by simp [heptadlaw11_AddressBrief.j1])
     | succ kj16 =>
      have H := HA.out
      clear HA
      simp only [heptadlaw11_AddressBrief.j1] at H
      by_cases c33 : x52_16 = true
      ·subst c33
       have H1 : (some false) = some r := by rw [if_pos rfl] at H; exact H
       clear H
       have H := H1
       clear H1
       obtain rfl := Option.some.inj H
       go_wp2
       repeat (go_quiet (fail); try go_wp2)
       go_ret
       exact ⟨by first | rfl | (simp [errW_none, errW_some] <;> rfl) | (simp [*, errW_none, errW_some] <;> rfl), by repeat (first | (with_reducible first | exact HB.out | apply below_alloc | apply pw_below_drewN | apply below_drew1) | exact HB.out)⟩
      ·replace c33 := Bool.eq_false_iff.mpr c33
       subst c33
       have H1 : ((heptadlaw11_table.f kj16 l0).bind fun t293 => ((address_Find.f kj16 t293 l1).bind fun bt296 => ((address_Find.f kj16 t285 l1).bind fun bt302 => (if bt296.2.2 = bt302.2.2 then (heptadlaw11_AddressBrief.j2 kj16 t285 (bt296.2.1 != bt302.2.1)) else (heptadlaw11_AddressBrief.j2 kj16 t285 true))))) = some r := by rw [if_neg (show ¬ (false = true) by decide)] at H; exact H
       clear H
       have H := H1
       clear H1
       replace H := Option.bind_eq_some_iff.mp H
       obtain ⟨t293, A340, H⟩ := H
       replace H : ((address_Find.f kj16 t293 l1).bind fun bt296 => ((address_Find.f kj16 t285 l1).bind fun bt302 => (if bt296.2.2 = bt302.2.2 then (heptadlaw11_AddressBrief.j2 kj16 t285 (bt296.2.1 != bt302.2.1)) else (heptadlaw11_AddressBrief.j2 kj16 t285 true)))) = some r := H
       have A34 := Aside0.mk A340
       clear A340
       replace H := Option.bind_eq_some_iff.mp H
       obtain ⟨⟨t296, t299, t300⟩, A350, H⟩ := H
       replace H : ((address_Find.f kj16 t285 l1).bind fun bt302 => (if t300 = bt302.2.2 then (heptadlaw11_AddressBrief.j2 kj16 t285 (t299 != bt302.2.1)) else (heptadlaw11_AddressBrief.j2 kj16 t285 true))) = some r := H
       have A35 := Aside0.mk A350
       clear A350
       replace H := Option.bind_eq_some_iff.mp H
       obtain ⟨⟨t302, t305, t306⟩, A360, H⟩ := H
       replace H : (if t300 = t306 then (heptadlaw11_AddressBrief.j2 kj16 t285 (t299 != t305)) else (heptadlaw11_AddressBrief.j2 kj16 t285 true)) = some r := H
       have A36 := Aside0.mk A360
       clear A360
       have HC37 := Aside0.mk H
       clear H
       go_upto_region 8 with (first | (go_at_call 12; (with_reducible refine (heptadlaw11_table.calls kj16 _ _ l0 t293 _ ?side1 ?side2 A34.out).mono ?_); (case side1 => repeat (first | exact (Kd.C_below HR0.out HB.out) | (with_reducible refine Kd.C_alloc ?_ _) | (with_reducible refine Kd.C_drewN ?_ _) | (with_reducible refine Kd.C_drew ?_))); (case side2 => exact HC0.out); rintro e w38 ⟨v294, rfl, ho0, hb⟩; have n0_ := Aside0.mk (Kd.N_elder' (by (with_reducible repeat (first | apply Kd.N_alloc | apply Kd.N_drewN | apply Kd.N_drew)); exact HO_5.out) (Kd.S_base ho0) hb); have n1_ := Aside0.mk (Kd.N_lower (Kd.N_mono (ok' := fun k_ => some k_ ≠ (v287 : Value).ownBlock) (Kd.S_N (Kd.S_bound ho0)) (fun k_ hk_ => (Kd.fresh' (Kd.N_lt (by (with_reducible repeat (first | apply Kd.N_alloc | apply Kd.N_drewN | apply Kd.N_drew)); exact HO_5.out)) k_ hk_.2.1))) (below_size (by repeat (first | (with_reducible first | exact HB.out | apply below_alloc | apply pw_below_drewN | apply below_drew1) | exact HB.out)))); have n2_ := Aside0.mk (below_step (by repeat (first | (with_reducible first | exact HB.out | apply below_alloc | apply pw_below_drewN | apply below_drew1) | exact HB.out)) hb); clear HO_5; clear HB; have HO_5 := n0_; have HO295 := n1_; have HB := n2_; clear n0_ n1_ n2_; (try clear hb); (try clear hb2); (try clear hk); (try clear hi); (try clear ho0); obtain ⟨Ao39, co39, eo39⟩ := Kd.N_slice HO295.out; subst eo39) | (go_at_call 11; (with_reducible refine (address_Find.calls kj16 _ _ t293 _ _ l1 t296 t299 t300 _ ?side1 ?side2 ?side3 ?side4 A35.out).mono ?_); (case side1 => repeat (first | exact (Kd.N_reads' HO295.out).2.2 | (with_reducible refine Kd.C_alloc ?_ _) | (with_reducible refine Kd.C_drewN ?_ _) | (with_reducible refine Kd.C_drew ?_))); (case side2 => exact (Kd.N_reads' HO295.out).2.1); (case side3 => repeat (first | exact (Kd.C_below HR1.out HB.out) | (with_reducible refine Kd.C_alloc ?_ _) | (with_reducible refine Kd.C_drewN ?_ _) | (with_reducible refine Kd.C_drew ?_))); (case side4 => exact HC1.out); rintro e w40 ⟨v297, rfl, ho0, hb⟩; have n0_ := Aside0.mk (Kd.N_elder' (by (with_reducible repeat (first | apply Kd.N_alloc | apply Kd.N_drewN | apply Kd.N_drew)); exact HO_5.out) (Kd.R_base ho0) hb); have n1_ := Aside0.mk (Kd.N_elder' (by (with_reducible repeat (first | apply Kd.N_alloc | apply Kd.N_drewN | apply Kd.N_drew)); exact HO295.out) (Kd.R_base ho0) hb); have n2_ := Aside0.mk (Kd.R_lower ho0 (below_size (by repeat (first | (with_reducible first | exact HB.out | apply below_alloc | apply pw_below_drewN | apply below_drew1) | exact HB.out)))); have n3_ := Aside0.mk (below_step (by repeat (first | (with_reducible first | exact HB.out | apply below_alloc | apply pw_below_drewN | apply below_drew1) | exact HB.out)) hb); clear HO_5; clear HO295; clear HB; have HO_5 := n0_; have HO295 := n1_; have HO298 := n2_; have HB := n3_; clear n0_ n1_ n2_ n3_; (try clear hb); (try clear hb2); (try clear hk); (try clear hi); (try clear ho0)) | ((with_reducible refine gate_dst (N := 7) rfl ?_); (try (refine gate_guard (by rfl) ?_; dsimp only)); refine box_event ?hg (N := 7) ?hd (cs := #[.slice none 0 0, .int .i64 0]) (t := 28) ?hr ?_; (case hd => rfl); (case hg => rfl); (case hr => first | (go_simp; done) | (go_simp; rfl)); intro gb301 hg w41 hbox hb; have n0_ := Aside0.mk (Kd.N_below (Kd.N_elderB (by (with_reducible repeat (first | apply Kd.N_alloc | apply Kd.N_drewN | apply Kd.N_drew)); exact HO_5.out) gb301 (Nat.le_of_eq hg.symm)) hb); have n1_ := Aside0.mk (Kd.N_below (Kd.N_elderB (by (with_reducible repeat (first | apply Kd.N_alloc | apply Kd.N_drewN | apply Kd.N_drew)); exact HO295.out) gb301 (Nat.le_of_eq hg.symm)) hb); have n2_ := Aside0.mk (Kd.R_below (by (with_reducible repeat (first | apply Kd.R_alloc | apply Kd.R_drewN | apply Kd.R_drew)); exact HO298.out) hb); have n3_ := Aside0.mk (below_step (by repeat (first | (with_reducible first | exact HB.out | apply below_alloc | apply pw_below_drewN | apply below_drew1) | exact HB.out)) hb); have n4_ := Aside0.mk (hbox); have n5_ := Aside0.mk ((by rw [hg]; exact (below_size (by repeat (first | (with_reducible first | exact HB.out | apply below_alloc | apply pw_below_drewN | apply below_drew1) | exact HB.out))) : w.heap.size ≤ gb301)); have n6_ := Aside0.mk ((by rw [hg]; exact (below_size (by repeat (first | (with_reducible first | exact HB.out | apply below_alloc | apply pw_below_drewN | apply below_drew1) | exact HB.out))) : w.heap.size ≤ gb301)); clear HO_5; clear HO295; clear HO298; clear HB; have HO_5 := n0_; have HO295 := n1_; have HO298 := n2_; have HB := n3_; have BK301 := n4_; have GW301 := n5_; have GE301 := n6_; clear n0_ n1_ n2_ n3_ n4_ n5_ n6_; clear hb hbox hg; obtain ⟨Ao42, co42, eo42⟩ := Kd.R_slice HO298.out; subst eo42; have hcz43_0 : w41.cell? ⟨gb301, 0, none⟩ = some (.slice none 0 0) := (blk_cell BK301.out 0).trans rfl; have hcz43_1 : w41.cell? ⟨gb301, 1, none⟩ = some (.int .i64 0) := (blk_cell BK301.out 1).trans rfl; have hfz43_0 := blk_frozen BK301.out 0; have hfz43_1 := blk_frozen BK301.out 1; obtain ⟨Ao44, co44, eo44⟩ := Kd.N_slice HO_5.out; subst eo44) | (go_at_call 11; (with_reducible refine (address_Find.calls kj16 _ _ t285 _ _ l1 t302 t305 t306 _ ?side1 ?side2 ?side3 ?side4 A36.out).mono ?_); (case side1 => refine (Kd.N_reads' (e := 28) (base := w.heap.size) (ok := fun k_ => (((True ∧ some k_ ≠ (.slice Ao39 t293.length co39 : Value).ownBlock) ∧ some k_ ≠ (.slice Ao42 t296.length co42 : Value).ownBlock) ∧ k_ ≠ gb301)) (n := t285.length) (c := co44) ?_).2.2; exact (by (with_reducible repeat (first | apply Kd.N_alloc | apply Kd.N_drewN | apply Kd.N_drew)); exact (Kd.N_mono (Kd.N_far (p := ⟨gb301, 1, none⟩) (Kd.N_far (p := ⟨gb301, 0, none⟩) (Kd.N_mono HO_5.out (fun k_ hk => (⟨hk, hk.2⟩ : _ ∧ k_ ≠ gb301))) (fun _ hk => hk.2) (.slice Ao42 t296.length co42)) (fun _ hk => hk.2) (.int .i64 t299)) (fun _ h_ => h_.1)))); (case side2 => exact (Kd.N_reads' HO_5.out).2.1); (case side3 => exact Kd.C_below HR1.out (by repeat (first | (with_reducible first | exact HB.out | apply below_alloc | apply pw_below_drewN | apply below_drew1 | refine below_set ?_ GE301.out) | exact HB.out))); (case side4 => exact HC1.out); rintro e w45 ⟨v303, rfl, ho0, hb⟩; have n0_ := Aside0.mk (Kd.N_elder' (by (with_reducible repeat (first | apply Kd.N_alloc | apply Kd.N_drewN | apply Kd.N_drew)); exact (Kd.N_mono (Kd.N_far (p := ⟨gb301, 1, none⟩) (Kd.N_far (p := ⟨gb301, 0, none⟩) (Kd.N_mono HO_5.out (fun k_ hk => (⟨hk, hk.2⟩ : _ ∧ k_ ≠ gb301))) (fun _ hk => hk.2) (.slice Ao42 t296.length co42)) (fun _ hk => hk.2) (.int .i64 t299)) (fun _ h_ => h_.1))) (Kd.R_base ho0) hb); have n1_ := Aside0.mk (Kd.N_elder' (by (with_reducible repeat (first | apply Kd.N_alloc | apply Kd.N_drewN | apply Kd.N_drew)); exact (Kd.N_mono (Kd.N_far (p := ⟨gb301, 1, none⟩) (Kd.N_far (p := ⟨gb301, 0, none⟩) (Kd.N_mono HO295.out (fun k_ hk => (⟨hk, hk.2⟩ : _ ∧ k_ ≠ gb301))) (fun _ hk => hk.2) (.slice Ao42 t296.length co42)) (fun _ hk => hk.2) (.int .i64 t299)) (fun _ h_ => h_.1))) (Kd.R_base ho0) hb); have n2_ := Aside0.mk (Kd.R_elder' (by (with_reducible repeat (first | apply Kd.R_alloc | apply Kd.R_drewN | apply Kd.R_drew)); exact (Kd.R_mono (Kd.R_far (p := ⟨gb301, 1, none⟩) (Kd.R_far (p := ⟨gb301, 0, none⟩) (Kd.R_types HO298.out BK301.out (by decide)) (fun _ hk => hk.2) (.slice Ao42 t296.length co42)) (fun _ hk => hk.2) (.int .i64 t299)) (fun _ h_ => h_.1))) (Kd.R_base ho0) hb); have n3_ := Aside0.mk (Kd.R_lower (Kd.R_new' ho0 (Kd.R_lt (by (with_reducible repeat (first | apply Kd.R_alloc | apply Kd.R_drewN | apply Kd.R_drew)); exact (Kd.R_mono (Kd.R_far (p := ⟨gb301, 1, none⟩) (Kd.R_far (p := ⟨gb301, 0, none⟩) (Kd.R_types HO298.out BK301.out (by decide)) (fun _ hk => hk.2) (.slice Ao42 t296.length co42)) (fun _ hk => hk.2) (.int .i64 t299)) (fun _ h_ => h_.1))))) (below_size (by repeat (first | (with_reducible first | exact HB.out | apply below_alloc | apply pw_below_drewN | apply below_drew1 | refine below_set ?_ GE301.out) | exact HB.out)))); have n4_ := Aside0.mk (blk_below (g := gb301) (o := .cells #[.slice Ao42 t296.length co42, .int .i64 t299] 28 (0, 0)) (by (with_reducible repeat (first | refine blk_drewN ?_ _ | refine blk_drew ?_ | refine blk_alloc ?_ _)); refine blk_put (cs := #[.slice Ao42 t296.length co42, .int .i64 0]) ?_ 1 _ rfl; (with_reducible repeat (first | refine blk_drewN ?_ _ | refine blk_drew ?_ | refine blk_alloc ?_ _)); refine blk_put (cs := #[.slice none 0 0, .int .i64 0]) ?_ 0 _ rfl; (with_reducible repeat (first | refine blk_drewN ?_ _ | refine blk_drew ?_ | refine blk_alloc ?_ _)); exact BK301.out) hb); have n5_ := Aside0.mk (below_step (by repeat (first | (with_reducible first | exact HB.out | apply below_alloc | apply pw_below_drewN | apply below_drew1 | refine below_set ?_ GE301.out) | exact HB.out)) hb); clear HO_5; clear HO295; clear HO298; clear BK301; clear HB; have HO_5 := n0_; have HO295 := n1_; have HO298 := n2_; have HO304 := n3_; have BK301 := n4_; have HB := n5_; clear n0_ n1_ n2_ n3_ n4_ n5_; (try clear hb); (try clear hb2); (try clear hk); (try clear hi); (try clear ho0)) | ((with_reducible refine gate_dst (N := 8) rfl ?_); (try (refine gate_guard (by rfl) ?_; dsimp only)); refine box_event ?hg (N := 8) ?hd (cs := #[.slice none 0 0, .int .i64 0]) (t := 28) ?hr ?_; (case hd => rfl); (case hg => rfl); (case hr => first | (go_simp; done) | (go_simp; rfl)); intro gb307 hg w46 hbox hb; have n0_ := Aside0.mk (Kd.N_below (Kd.N_elderB (by (with_reducible repeat (first | apply Kd.N_alloc | apply Kd.N_drewN | apply Kd.N_drew)); exact HO_5.out) gb307 (Nat.le_of_eq hg.symm)) hb); have n1_ := Aside0.mk (Kd.N_below (Kd.N_elderB (by (with_reducible repeat (first | apply Kd.N_alloc | apply Kd.N_drewN | apply Kd.N_drew)); exact HO295.out) gb307 (Nat.le_of_eq hg.symm)) hb); have n2_ := Aside0.mk (Kd.R_below (by (with_reducible repeat (first | apply Kd.R_alloc | apply Kd.R_drewN | apply Kd.R_drew)); exact HO298.out) hb); have n3_ := Aside0.mk (Kd.R_below (by (with_reducible repeat (first | apply Kd.R_alloc | apply Kd.R_drewN | apply Kd.R_drew)); exact HO304.out) hb); have n4_ := Aside0.mk (blk_below (g := gb301) (o := .cells #[.slice Ao42 t296.length co42, .int .i64 t299] 28 (0, 0)) (by (with_reducible repeat (first | refine blk_drewN ?_ _ | refine blk_drew ?_ | refine blk_alloc ?_ _)); exact BK301.out) hb); have n5_ := Aside0.mk (below_step (by repeat (first | (with_reducible first | exact HB.out | apply below_alloc | apply pw_below_drewN | apply below_drew1 | refine below_set ?_ GE301.out) | exact HB.out)) hb); have n6_ := Aside0.mk (hbox); have n7_ := Aside0.mk ((by rw [hg]; exact (below_size (by repeat (first | (with_reducible first | exact HB.out | apply below_alloc | apply pw_below_drewN | apply below_drew1 | refine below_set ?_ GE301.out) | exact HB.out))) : w.heap.size ≤ gb307)); have n8_ := Aside0.mk ((by rw [hg]; exact (below_size (by repeat (first | (with_reducible first | exact HB.out | apply below_alloc | apply pw_below_drewN | apply below_drew1 | refine below_set ?_ GE301.out) | exact HB.out))) : w.heap.size ≤ gb307)); have n9_ := Aside0.mk ((by rw [hg]; exact Nat.ne_of_lt (blk_lt (g := gb301) (o := .cells #[.slice Ao42 t296.length co42, .int .i64 t299] 28 (0, 0)) (by (with_reducible repeat (first | refine blk_drewN ?_ _ | refine blk_drew ?_ | refine blk_alloc ?_ _)); exact BK301.out)) : gb301 ≠ gb307)); have n10_ := Aside0.mk ((by rw [hg]; exact Nat.ne_of_gt (blk_lt (g := gb301) (o := .cells #[.slice Ao42 t296.length co42, .int .i64 t299] 28 (0, 0)) (by (with_reducible repeat (first | refine blk_drewN ?_ _ | refine blk_drew ?_ | refine blk_alloc ?_ _)); exact BK301.out)) : gb307 ≠ gb301)); clear HO_5; clear HO295; clear HO298; clear HO304; clear BK301; clear HB; have HO_5 := n0_; have HO295 := n1_; have HO298 := n2_; have HO304 := n3_; have BK301 := n4_; have HB := n5_; have BK307 := n6_; have GW307 := n7_; have GE307 := n8_; have NB301_307 := n9_; have NB307_301 := n10_; clear n0_ n1_ n2_ n3_ n4_ n5_ n6_ n7_ n8_ n9_ n10_; clear hb hbox hg; obtain ⟨Ao47, co47, eo47⟩ := Kd.R_slice HO304.out; subst eo47; have hnb48 := NB307_301.out; have hnc48 := NB301_307.out; have hcz49_0 : w46.cell? ⟨gb307, 0, none⟩ = some (.slice none 0 0) := (blk_cell BK307.out 0).trans rfl; have hcz49_1 : w46.cell? ⟨gb307, 1, none⟩ = some (.int .i64 0) := (blk_cell BK307.out 1).trans rfl; have hfz49_0 := blk_frozen BK307.out 0; have hfz49_1 := blk_frozen BK307.out 1))
       repeat (go_quiet (first | (go_at_call 12; (with_reducible refine (heptadlaw11_table.calls kj16 _ _ l0 t293 _ ?side1 ?side2 A34.out).mono ?_); (case side1 => repeat (first | exact (Kd.C_below HR0.out HB.out) | (with_reducible refine Kd.C_alloc ?_ _) | (with_reducible refine Kd.C_drewN ?_ _) | (with_reducible refine Kd.C_drew ?_))); (case side2 => exact HC0.out); rintro e w38 ⟨v294, rfl, ho0, hb⟩; have n0_ := Aside0.mk (Kd.N_elder' (by (with_reducible repeat (first | apply Kd.N_alloc | apply Kd.N_drewN | apply Kd.N_drew)); exact HO_5.out) (Kd.S_base ho0) hb); have n1_ := Aside0.mk (Kd.N_lower (Kd.N_mono (ok' := fun k_ => some k_ ≠ (v287 : Value).ownBlock) (Kd.S_N (Kd.S_bound ho0)) (fun k_ hk_ => (Kd.fresh' (Kd.N_lt (by (with_reducible repeat (first | apply Kd.N_alloc | apply Kd.N_drewN | apply Kd.N_drew)); exact HO_5.out)) k_ hk_.2.1))) (below_size (by repeat (first | (with_reducible first | exact HB.out | apply below_alloc | apply pw_below_drewN | apply below_drew1) | exact HB.out)))); have n2_ := Aside0.mk (below_step (by repeat (first | (with_reducible first | exact HB.out | apply below_alloc | apply pw_below_drewN | apply below_drew1) | exact HB.out)) hb); clear HO_5; clear HB; have HO_5 := n0_; have HO295 := n1_; have HB := n2_; clear n0_ n1_ n2_; (try clear hb); (try clear hb2); (try clear hk); (try clear hi); (try clear ho0); obtain ⟨Ao39, co39, eo39⟩ := Kd.N_slice HO295.out; subst eo39) | (go_at_call 11; (with_reducible refine (address_Find.calls kj16 _ _ t293 _ _ l1 t296 t299 t300 _ ?side1 ?side2 ?side3 ?side4 A35.out).mono ?_); (case side1 => repeat (first | exact (Kd.N_reads' HO295.out).2.2 | (with_reducible refine Kd.C_alloc ?_ _) | (with_reducible refine Kd.C_drewN ?_ _) | (with_reducible refine Kd.C_drew ?_))); (case side2 => exact (Kd.N_reads' HO295.out).2.1); (case side3 => repeat (first | exact (Kd.C_below HR1.out HB.out) | (with_reducible refine Kd.C_alloc ?_ _) | (with_reducible refine Kd.C_drewN ?_ _) | (with_reducible refine Kd.C_drew ?_))); (case side4 => exact HC1.out); rintro e w40 ⟨v297, rfl, ho0, hb⟩; have n0_ := Aside0.mk (Kd.N_elder' (by (with_reducible repeat (first | apply Kd.N_alloc | apply Kd.N_drewN | apply Kd.N_drew)); exact HO_5.out) (Kd.R_base ho0) hb); have n1_ := Aside0.mk (Kd.N_elder' (by (with_reducible repeat (first | apply Kd.N_alloc | apply Kd.N_drewN | apply Kd.N_drew)); exact HO295.out) (Kd.R_base ho0) hb); have n2_ := Aside0.mk (Kd.R_lower ho0 (below_size (by repeat (first | (with_reducible first | exact HB.out | apply below_alloc | apply pw_below_drewN | apply below_drew1) | exact HB.out)))); have n3_ := Aside0.mk (below_step (by repeat (first | (with_reducible first | exact HB.out | apply below_alloc | apply pw_below_drewN | apply below_drew1) | exact HB.out)) hb); clear HO_5; clear HO295; clear HB; have HO_5 := n0_; have HO295 := n1_; have HO298 := n2_; have HB := n3_; clear n0_ n1_ n2_ n3_; (try clear hb); (try clear hb2); (try clear hk); (try clear hi); (try clear ho0)) | ((with_reducible refine gate_dst (N := 7) rfl ?_); (try (refine gate_guard (by rfl) ?_; dsimp only)); refine box_event ?hg (N := 7) ?hd (cs := #[.slice none 0 0, .int .i64 0]) (t := 28) ?hr ?_; (case hd => rfl); (case hg => rfl); (case hr => first | (go_simp; done) | (go_simp; rfl)); intro gb301 hg w41 hbox hb; have n0_ := Aside0.mk (Kd.N_below (Kd.N_elderB (by (with_reducible repeat (first | apply Kd.N_alloc | apply Kd.N_drewN | apply Kd.N_drew)); exact HO_5.out) gb301 (Nat.le_of_eq hg.symm)) hb); have n1_ := Aside0.mk (Kd.N_below (Kd.N_elderB (by (with_reducible repeat (first | apply Kd.N_alloc | apply Kd.N_drewN | apply Kd.N_drew)); exact HO295.out) gb301 (Nat.le_of_eq hg.symm)) hb); have n2_ := Aside0.mk (Kd.R_below (by (with_reducible repeat (first | apply Kd.R_alloc | apply Kd.R_drewN | apply Kd.R_drew)); exact HO298.out) hb); have n3_ := Aside0.mk (below_step (by repeat (first | (with_reducible first | exact HB.out | apply below_alloc | apply pw_below_drewN | apply below_drew1) | exact HB.out)) hb); have n4_ := Aside0.mk (hbox); have n5_ := Aside0.mk ((by rw [hg]; exact (below_size (by repeat (first | (with_reducible first | exact HB.out | apply below_alloc | apply pw_below_drewN | apply below_drew1) | exact HB.out))) : w.heap.size ≤ gb301)); have n6_ := Aside0.mk ((by rw [hg]; exact (below_size (by repeat (first | (with_reducible first | exact HB.out | apply below_alloc | apply pw_below_drewN | apply below_drew1) | exact HB.out))) : w.heap.size ≤ gb301)); clear HO_5; clear HO295; clear HO298; clear HB; have HO_5 := n0_; have HO295 := n1_; have HO298 := n2_; have HB := n3_; have BK301 := n4_; have GW301 := n5_; have GE301 := n6_; clear n0_ n1_ n2_ n3_ n4_ n5_ n6_; clear hb hbox hg; obtain ⟨Ao42, co42, eo42⟩ := Kd.R_slice HO298.out; subst eo42; have hcz43_0 : w41.cell? ⟨gb301, 0, none⟩ = some (.slice none 0 0) := (blk_cell BK301.out 0).trans rfl; have hcz43_1 : w41.cell? ⟨gb301, 1, none⟩ = some (.int .i64 0) := (blk_cell BK301.out 1).trans rfl; have hfz43_0 := blk_frozen BK301.out 0; have hfz43_1 := blk_frozen BK301.out 1; obtain ⟨Ao44, co44, eo44⟩ := Kd.N_slice HO_5.out; subst eo44) | (go_at_call 11; (with_reducible refine (address_Find.calls kj16 _ _ t285 _ _ l1 t302 t305 t306 _ ?side1 ?side2 ?side3 ?side4 A36.out).mono ?_); (case side1 => refine (Kd.N_reads' (e := 28) (base := w.heap.size) (ok := fun k_ => (((True ∧ some k_ ≠ (.slice Ao39 t293.length co39 : Value).ownBlock) ∧ some k_ ≠ (.slice Ao42 t296.length co42 : Value).ownBlock) ∧ k_ ≠ gb301)) (n := t285.length) (c := co44) ?_).2.2; exact (by (with_reducible repeat (first | apply Kd.N_alloc | apply Kd.N_drewN | apply Kd.N_drew)); exact (Kd.N_mono (Kd.N_far (p := ⟨gb301, 1, none⟩) (Kd.N_far (p := ⟨gb301, 0, none⟩) (Kd.N_mono HO_5.out (fun k_ hk => (⟨hk, hk.2⟩ : _ ∧ k_ ≠ gb301))) (fun _ hk => hk.2) (.slice Ao42 t296.length co42)) (fun _ hk => hk.2) (.int .i64 t299)) (fun _ h_ => h_.1)))); (case side2 => exact (Kd.N_reads' HO_5.out).2.1); (case side3 => exact Kd.C_below HR1.out (by repeat (first | (with_reducible first | exact HB.out | apply below_alloc | apply pw_below_drewN | apply below_drew1 | refine below_set ?_ GE301.out) | exact HB.out))); (case side4 => exact HC1.out); rintro e w45 ⟨v303, rfl, ho0, hb⟩; have n0_ := Aside0.mk (Kd.N_elder' (by (with_reducible repeat (first | apply Kd.N_alloc | apply Kd.N_drewN | apply Kd.N_drew)); exact (Kd.N_mono (Kd.N_far (p := ⟨gb301, 1, none⟩) (Kd.N_far (p := ⟨gb301, 0, none⟩) (Kd.N_mono HO_5.out (fun k_ hk => (⟨hk, hk.2⟩ : _ ∧ k_ ≠ gb301))) (fun _ hk => hk.2) (.slice Ao42 t296.length co42)) (fun _ hk => hk.2) (.int .i64 t299)) (fun _ h_ => h_.1))) (Kd.R_base ho0) hb); have n1_ := Aside0.mk (Kd.N_elder' (by (with_reducible repeat (first | apply Kd.N_alloc | apply Kd.N_drewN | apply Kd.N_drew)); exact (Kd.N_mono (Kd.N_far (p := ⟨gb301, 1, none⟩) (Kd.N_far (p := ⟨gb301, 0, none⟩) (Kd.N_mono HO295.out (fun k_ hk => (⟨hk, hk.2⟩ : _ ∧ k_ ≠ gb301))) (fun _ hk => hk.2) (.slice Ao42 t296.length co42)) (fun _ hk => hk.2) (.int .i64 t299)) (fun _ h_ => h_.1))) (Kd.R_base ho0) hb); have n2_ := Aside0.mk (Kd.R_elder' (by (with_reducible repeat (first | apply Kd.R_alloc | apply Kd.R_drewN | apply Kd.R_drew)); exact (Kd.R_mono (Kd.R_far (p := ⟨gb301, 1, none⟩) (Kd.R_far (p := ⟨gb301, 0, none⟩) (Kd.R_types HO298.out BK301.out (by decide)) (fun _ hk => hk.2) (.slice Ao42 t296.length co42)) (fun _ hk => hk.2) (.int .i64 t299)) (fun _ h_ => h_.1))) (Kd.R_base ho0) hb); have n3_ := Aside0.mk (Kd.R_lower (Kd.R_new' ho0 (Kd.R_lt (by (with_reducible repeat (first | apply Kd.R_alloc | apply Kd.R_drewN | apply Kd.R_drew)); exact (Kd.R_mono (Kd.R_far (p := ⟨gb301, 1, none⟩) (Kd.R_far (p := ⟨gb301, 0, none⟩) (Kd.R_types HO298.out BK301.out (by decide)) (fun _ hk => hk.2) (.slice Ao42 t296.length co42)) (fun _ hk => hk.2) (.int .i64 t299)) (fun _ h_ => h_.1))))) (below_size (by repeat (first | (with_reducible first | exact HB.out | apply below_alloc | apply pw_below_drewN | apply below_drew1 | refine below_set ?_ GE301.out) | exact HB.out)))); have n4_ := Aside0.mk (blk_below (g := gb301) (o := .cells #[.slice Ao42 t296.length co42, .int .i64 t299] 28 (0, 0)) (by (with_reducible repeat (first | refine blk_drewN ?_ _ | refine blk_drew ?_ | refine blk_alloc ?_ _)); refine blk_put (cs := #[.slice Ao42 t296.length co42, .int .i64 0]) ?_ 1 _ rfl; (with_reducible repeat (first | refine blk_drewN ?_ _ | refine blk_drew ?_ | refine blk_alloc ?_ _)); refine blk_put (cs := #[.slice none 0 0, .int .i64 0]) ?_ 0 _ rfl; (with_reducible repeat (first | refine blk_drewN ?_ _ | refine blk_drew ?_ | refine blk_alloc ?_ _)); exact BK301.out) hb); have n5_ := Aside0.mk (below_step (by repeat (first | (with_reducible first | exact HB.out | apply below_alloc | apply pw_below_drewN | apply below_drew1 | refine below_set ?_ GE301.out) | exact HB.out)) hb); clear HO_5; clear HO295; clear HO298; clear BK301; clear HB; have HO_5 := n0_; have HO295 := n1_; have HO298 := n2_; have HO304 := n3_; have BK301 := n4_; have HB := n5_; clear n0_ n1_ n2_ n3_ n4_ n5_; (try clear hb); (try clear hb2); (try clear hk); (try clear hi); (try clear ho0)) | ((with_reducible refine gate_dst (N := 8) rfl ?_); (try (refine gate_guard (by rfl) ?_; dsimp only)); refine box_event ?hg (N := 8) ?hd (cs := #[.slice none 0 0, .int .i64 0]) (t := 28) ?hr ?_; (case hd => rfl); (case hg => rfl); (case hr => first | (go_simp; done) | (go_simp; rfl)); intro gb307 hg w46 hbox hb; have n0_ := Aside0.mk (Kd.N_below (Kd.N_elderB (by (with_reducible repeat (first | apply Kd.N_alloc | apply Kd.N_drewN | apply Kd.N_drew)); exact HO_5.out) gb307 (Nat.le_of_eq hg.symm)) hb); have n1_ := Aside0.mk (Kd.N_below (Kd.N_elderB (by (with_reducible repeat (first | apply Kd.N_alloc | apply Kd.N_drewN | apply Kd.N_drew)); exact HO295.out) gb307 (Nat.le_of_eq hg.symm)) hb); have n2_ := Aside0.mk (Kd.R_below (by (with_reducible repeat (first | apply Kd.R_alloc | apply Kd.R_drewN | apply Kd.R_drew)); exact HO298.out) hb); have n3_ := Aside0.mk (Kd.R_below (by (with_reducible repeat (first | apply Kd.R_alloc | apply Kd.R_drewN | apply Kd.R_drew)); exact HO304.out) hb); have n4_ := Aside0.mk (blk_below (g := gb301) (o := .cells #[.slice Ao42 t296.length co42, .int .i64 t299] 28 (0, 0)) (by (with_reducible repeat (first | refine blk_drewN ?_ _ | refine blk_drew ?_ | refine blk_alloc ?_ _)); exact BK301.out) hb); have n5_ := Aside0.mk (below_step (by repeat (first | (with_reducible first | exact HB.out | apply below_alloc | apply pw_below_drewN | apply below_drew1 | refine below_set ?_ GE301.out) | exact HB.out)) hb); have n6_ := Aside0.mk (hbox); have n7_ := Aside0.mk ((by rw [hg]; exact (below_size (by repeat (first | (with_reducible first | exact HB.out | apply below_alloc | apply pw_below_drewN | apply below_drew1 | refine below_set ?_ GE301.out) | exact HB.out))) : w.heap.size ≤ gb307)); have n8_ := Aside0.mk ((by rw [hg]; exact (below_size (by repeat (first | (with_reducible first | exact HB.out | apply below_alloc | apply pw_below_drewN | apply below_drew1 | refine below_set ?_ GE301.out) | exact HB.out))) : w.heap.size ≤ gb307)); have n9_ := Aside0.mk ((by rw [hg]; exact Nat.ne_of_lt (blk_lt (g := gb301) (o := .cells #[.slice Ao42 t296.length co42, .int .i64 t299] 28 (0, 0)) (by (with_reducible repeat (first | refine blk_drewN ?_ _ | refine blk_drew ?_ | refine blk_alloc ?_ _)); exact BK301.out)) : gb301 ≠ gb307)); have n10_ := Aside0.mk ((by rw [hg]; exact Nat.ne_of_gt (blk_lt (g := gb301) (o := .cells #[.slice Ao42 t296.length co42, .int .i64 t299] 28 (0, 0)) (by (with_reducible repeat (first | refine blk_drewN ?_ _ | refine blk_drew ?_ | refine blk_alloc ?_ _)); exact BK301.out)) : gb307 ≠ gb301)); clear HO_5; clear HO295; clear HO298; clear HO304; clear BK301; clear HB; have HO_5 := n0_; have HO295 := n1_; have HO298 := n2_; have HO304 := n3_; have BK301 := n4_; have HB := n5_; have BK307 := n6_; have GW307 := n7_; have GE307 := n8_; have NB301_307 := n9_; have NB307_301 := n10_; clear n0_ n1_ n2_ n3_ n4_ n5_ n6_ n7_ n8_ n9_ n10_; clear hb hbox hg; obtain ⟨Ao47, co47, eo47⟩ := Kd.R_slice HO304.out; subst eo47; have hnb48 := NB307_301.out; have hnc48 := NB301_307.out; have hcz49_0 : w46.cell? ⟨gb307, 0, none⟩ = some (.slice none 0 0) := (blk_cell BK307.out 0).trans rfl; have hcz49_1 : w46.cell? ⟨gb307, 1, none⟩ = some (.int .i64 0) := (blk_cell BK307.out 1).trans rfl; have hfz49_0 := blk_frozen BK307.out 0; have hfz49_1 := blk_frozen BK307.out 1)); go_upto_region 8 with (first | (go_at_call 12; (with_reducible refine (heptadlaw11_table.calls kj16 _ _ l0 t293 _ ?side1 ?side2 A34.out).mono ?_); (case side1 => repeat (first | exact (Kd.C_below HR0.out HB.out) | (with_reducible refine Kd.C_alloc ?_ _) | (with_reducible refine Kd.C_drewN ?_ _) | (with_reducible refine Kd.C_drew ?_))); (case side2 => exact HC0.out); rintro e w38 ⟨v294, rfl, ho0, hb⟩; have n0_ := Aside0.mk (Kd.N_elder' (by (with_reducible repeat (first | apply Kd.N_alloc | apply Kd.N_drewN | apply Kd.N_drew)); exact HO_5.out) (Kd.S_base ho0) hb); have n1_ := Aside0.mk (Kd.N_lower (Kd.N_mono (ok' := fun k_ => some k_ ≠ (v287 : Value).ownBlock) (Kd.S_N (Kd.S_bound ho0)) (fun k_ hk_ => (Kd.fresh' (Kd.N_lt (by (with_reducible repeat (first | apply Kd.N_alloc | apply Kd.N_drewN | apply Kd.N_drew)); exact HO_5.out)) k_ hk_.2.1))) (below_size (by repeat (first | (with_reducible first | exact HB.out | apply below_alloc | apply pw_below_drewN | apply below_drew1) | exact HB.out)))); have n2_ := Aside0.mk (below_step (by repeat (first | (with_reducible first | exact HB.out | apply below_alloc | apply pw_below_drewN | apply below_drew1) | exact HB.out)) hb); clear HO_5; clear HB; have HO_5 := n0_; have HO295 := n1_; have HB := n2_; clear n0_ n1_ n2_; (try clear hb); (try clear hb2); (try clear hk); (try clear hi); (try clear ho0); obtain ⟨Ao39, co39, eo39⟩ := Kd.N_slice HO295.out; subst eo39) | (go_at_call 11; (with_reducible refine (address_Find.calls kj16 _ _ t293 _ _ l1 t296 t299 t300 _ ?side1 ?side2 ?side3 ?side4 A35.out).mono ?_); (case side1 => repeat (first | exact (Kd.N_reads' HO295.out).2.2 | (with_reducible refine Kd.C_alloc ?_ _) | (with_reducible refine Kd.C_drewN ?_ _) | (with_reducible refine Kd.C_drew ?_))); (case side2 => exact (Kd.N_reads' HO295.out).2.1); (case side3 => repeat (first | exact (Kd.C_below HR1.out HB.out) | (with_reducible refine Kd.C_alloc ?_ _) | (with_reducible refine Kd.C_drewN ?_ _) | (with_reducible refine Kd.C_drew ?_))); (case side4 => exact HC1.out); rintro e w40 ⟨v297, rfl, ho0, hb⟩; have n0_ := Aside0.mk (Kd.N_elder' (by (with_reducible repeat (first | apply Kd.N_alloc | apply Kd.N_drewN | apply Kd.N_drew)); exact HO_5.out) (Kd.R_base ho0) hb); have n1_ := Aside0.mk (Kd.N_elder' (by (with_reducible repeat (first | apply Kd.N_alloc | apply Kd.N_drewN | apply Kd.N_drew)); exact HO295.out) (Kd.R_base ho0) hb); have n2_ := Aside0.mk (Kd.R_lower ho0 (below_size (by repeat (first | (with_reducible first | exact HB.out | apply below_alloc | apply pw_below_drewN | apply below_drew1) | exact HB.out)))); have n3_ := Aside0.mk (below_step (by repeat (first | (with_reducible first | exact HB.out | apply below_alloc | apply pw_below_drewN | apply below_drew1) | exact HB.out)) hb); clear HO_5; clear HO295; clear HB; have HO_5 := n0_; have HO295 := n1_; have HO298 := n2_; have HB := n3_; clear n0_ n1_ n2_ n3_; (try clear hb); (try clear hb2); (try clear hk); (try clear hi); (try clear ho0)) | ((with_reducible refine gate_dst (N := 7) rfl ?_); (try (refine gate_guard (by rfl) ?_; dsimp only)); refine box_event ?hg (N := 7) ?hd (cs := #[.slice none 0 0, .int .i64 0]) (t := 28) ?hr ?_; (case hd => rfl); (case hg => rfl); (case hr => first | (go_simp; done) | (go_simp; rfl)); intro gb301 hg w41 hbox hb; have n0_ := Aside0.mk (Kd.N_below (Kd.N_elderB (by (with_reducible repeat (first | apply Kd.N_alloc | apply Kd.N_drewN | apply Kd.N_drew)); exact HO_5.out) gb301 (Nat.le_of_eq hg.symm)) hb); have n1_ := Aside0.mk (Kd.N_below (Kd.N_elderB (by (with_reducible repeat (first | apply Kd.N_alloc | apply Kd.N_drewN | apply Kd.N_drew)); exact HO295.out) gb301 (Nat.le_of_eq hg.symm)) hb); have n2_ := Aside0.mk (Kd.R_below (by (with_reducible repeat (first | apply Kd.R_alloc | apply Kd.R_drewN | apply Kd.R_drew)); exact HO298.out) hb); have n3_ := Aside0.mk (below_step (by repeat (first | (with_reducible first | exact HB.out | apply below_alloc | apply pw_below_drewN | apply below_drew1) | exact HB.out)) hb); have n4_ := Aside0.mk (hbox); have n5_ := Aside0.mk ((by rw [hg]; exact (below_size (by repeat (first | (with_reducible first | exact HB.out | apply below_alloc | apply pw_below_drewN | apply below_drew1) | exact HB.out))) : w.heap.size ≤ gb301)); have n6_ := Aside0.mk ((by rw [hg]; exact (below_size (by repeat (first | (with_reducible first | exact HB.out | apply below_alloc | apply pw_below_drewN | apply below_drew1) | exact HB.out))) : w.heap.size ≤ gb301)); clear HO_5; clear HO295; clear HO298; clear HB; have HO_5 := n0_; have HO295 := n1_; have HO298 := n2_; have HB := n3_; have BK301 := n4_; have GW301 := n5_; have GE301 := n6_; clear n0_ n1_ n2_ n3_ n4_ n5_ n6_; clear hb hbox hg; obtain ⟨Ao42, co42, eo42⟩ := Kd.R_slice HO298.out; subst eo42; have hcz43_0 : w41.cell? ⟨gb301, 0, none⟩ = some (.slice none 0 0) := (blk_cell BK301.out 0).trans rfl; have hcz43_1 : w41.cell? ⟨gb301, 1, none⟩ = some (.int .i64 0) := (blk_cell BK301.out 1).trans rfl; have hfz43_0 := blk_frozen BK301.out 0; have hfz43_1 := blk_frozen BK301.out 1; obtain ⟨Ao44, co44, eo44⟩ := Kd.N_slice HO_5.out; subst eo44) | (go_at_call 11; (with_reducible refine (address_Find.calls kj16 _ _ t285 _ _ l1 t302 t305 t306 _ ?side1 ?side2 ?side3 ?side4 A36.out).mono ?_); (case side1 => refine (Kd.N_reads' (e := 28) (base := w.heap.size) (ok := fun k_ => (((True ∧ some k_ ≠ (.slice Ao39 t293.length co39 : Value).ownBlock) ∧ some k_ ≠ (.slice Ao42 t296.length co42 : Value).ownBlock) ∧ k_ ≠ gb301)) (n := t285.length) (c := co44) ?_).2.2; exact (by (with_reducible repeat (first | apply Kd.N_alloc | apply Kd.N_drewN | apply Kd.N_drew)); exact (Kd.N_mono (Kd.N_far (p := ⟨gb301, 1, none⟩) (Kd.N_far (p := ⟨gb301, 0, none⟩) (Kd.N_mono HO_5.out (fun k_ hk => (⟨hk, hk.2⟩ : _ ∧ k_ ≠ gb301))) (fun _ hk => hk.2) (.slice Ao42 t296.length co42)) (fun _ hk => hk.2) (.int .i64 t299)) (fun _ h_ => h_.1)))); (case side2 => exact (Kd.N_reads' HO_5.out).2.1); (case side3 => exact Kd.C_below HR1.out (by repeat (first | (with_reducible first | exact HB.out | apply below_alloc | apply pw_below_drewN | apply below_drew1 | refine below_set ?_ GE301.out) | exact HB.out))); (case side4 => exact HC1.out); rintro e w45 ⟨v303, rfl, ho0, hb⟩; have n0_ := Aside0.mk (Kd.N_elder' (by (with_reducible repeat (first | apply Kd.N_alloc | apply Kd.N_drewN | apply Kd.N_drew)); exact (Kd.N_mono (Kd.N_far (p := ⟨gb301, 1, none⟩) (Kd.N_far (p := ⟨gb301, 0, none⟩) (Kd.N_mono HO_5.out (fun k_ hk => (⟨hk, hk.2⟩ : _ ∧ k_ ≠ gb301))) (fun _ hk => hk.2) (.slice Ao42 t296.length co42)) (fun _ hk => hk.2) (.int .i64 t299)) (fun _ h_ => h_.1))) (Kd.R_base ho0) hb); have n1_ := Aside0.mk (Kd.N_elder' (by (with_reducible repeat (first | apply Kd.N_alloc | apply Kd.N_drewN | apply Kd.N_drew)); exact (Kd.N_mono (Kd.N_far (p := ⟨gb301, 1, none⟩) (Kd.N_far (p := ⟨gb301, 0, none⟩) (Kd.N_mono HO295.out (fun k_ hk => (⟨hk, hk.2⟩ : _ ∧ k_ ≠ gb301))) (fun _ hk => hk.2) (.slice Ao42 t296.length co42)) (fun _ hk => hk.2) (.int .i64 t299)) (fun _ h_ => h_.1))) (Kd.R_base ho0) hb); have n2_ := Aside0.mk (Kd.R_elder' (by (with_reducible repeat (first | apply Kd.R_alloc | apply Kd.R_drewN | apply Kd.R_drew)); exact (Kd.R_mono (Kd.R_far (p := ⟨gb301, 1, none⟩) (Kd.R_far (p := ⟨gb301, 0, none⟩) (Kd.R_types HO298.out BK301.out (by decide)) (fun _ hk => hk.2) (.slice Ao42 t296.length co42)) (fun _ hk => hk.2) (.int .i64 t299)) (fun _ h_ => h_.1))) (Kd.R_base ho0) hb); have n3_ := Aside0.mk (Kd.R_lower (Kd.R_new' ho0 (Kd.R_lt (by (with_reducible repeat (first | apply Kd.R_alloc | apply Kd.R_drewN | apply Kd.R_drew)); exact (Kd.R_mono (Kd.R_far (p := ⟨gb301, 1, none⟩) (Kd.R_far (p := ⟨gb301, 0, none⟩) (Kd.R_types HO298.out BK301.out (by decide)) (fun _ hk => hk.2) (.slice Ao42 t296.length co42)) (fun _ hk => hk.2) (.int .i64 t299)) (fun _ h_ => h_.1))))) (below_size (by repeat (first | (with_reducible first | exact HB.out | apply below_alloc | apply pw_below_drewN | apply below_drew1 | refine below_set ?_ GE301.out) | exact HB.out)))); have n4_ := Aside0.mk (blk_below (g := gb301) (o := .cells #[.slice Ao42 t296.length co42, .int .i64 t299] 28 (0, 0)) (by (with_reducible repeat (first | refine blk_drewN ?_ _ | refine blk_drew ?_ | refine blk_alloc ?_ _)); refine blk_put (cs := #[.slice Ao42 t296.length co42, .int .i64 0]) ?_ 1 _ rfl; (with_reducible repeat (first | refine blk_drewN ?_ _ | refine blk_drew ?_ | refine blk_alloc ?_ _)); refine blk_put (cs := #[.slice none 0 0, .int .i64 0]) ?_ 0 _ rfl; (with_reducible repeat (first | refine blk_drewN ?_ _ | refine blk_drew ?_ | refine blk_alloc ?_ _)); exact BK301.out) hb); have n5_ := Aside0.mk (below_step (by repeat (first | (with_reducible first | exact HB.out | apply below_alloc | apply pw_below_drewN | apply below_drew1 | refine below_set ?_ GE301.out) | exact HB.out)) hb); clear HO_5; clear HO295; clear HO298; clear BK301; clear HB; have HO_5 := n0_; have HO295 := n1_; have HO298 := n2_; have HO304 := n3_; have BK301 := n4_; have HB := n5_; clear n0_ n1_ n2_ n3_ n4_ n5_; (try clear hb); (try clear hb2); (try clear hk); (try clear hi); (try clear ho0)) | ((with_reducible refine gate_dst (N := 8) rfl ?_); (try (refine gate_guard (by rfl) ?_; dsimp only)); refine box_event ?hg (N := 8) ?hd (cs := #[.slice none 0 0, .int .i64 0]) (t := 28) ?hr ?_; (case hd => rfl); (case hg => rfl); (case hr => first | (go_simp; done) | (go_simp; rfl)); intro gb307 hg w46 hbox hb; have n0_ := Aside0.mk (Kd.N_below (Kd.N_elderB (by (with_reducible repeat (first | apply Kd.N_alloc | apply Kd.N_drewN | apply Kd.N_drew)); exact HO_5.out) gb307 (Nat.le_of_eq hg.symm)) hb); have n1_ := Aside0.mk (Kd.N_below (Kd.N_elderB (by (with_reducible repeat (first | apply Kd.N_alloc | apply Kd.N_drewN | apply Kd.N_drew)); exact HO295.out) gb307 (Nat.le_of_eq hg.symm)) hb); have n2_ := Aside0.mk (Kd.R_below (by (with_reducible repeat (first | apply Kd.R_alloc | apply Kd.R_drewN | apply Kd.R_drew)); exact HO298.out) hb); have n3_ := Aside0.mk (Kd.R_below (by (with_reducible repeat (first | apply Kd.R_alloc | apply Kd.R_drewN | apply Kd.R_drew)); exact HO304.out) hb); have n4_ := Aside0.mk (blk_below (g := gb301) (o := .cells #[.slice Ao42 t296.length co42, .int .i64 t299] 28 (0, 0)) (by (with_reducible repeat (first | refine blk_drewN ?_ _ | refine blk_drew ?_ | refine blk_alloc ?_ _)); exact BK301.out) hb); have n5_ := Aside0.mk (below_step (by repeat (first | (with_reducible first | exact HB.out | apply below_alloc | apply pw_below_drewN | apply below_drew1 | refine below_set ?_ GE301.out) | exact HB.out)) hb); have n6_ := Aside0.mk (hbox); have n7_ := Aside0.mk ((by rw [hg]; exact (below_size (by repeat (first | (with_reducible first | exact HB.out | apply below_alloc | apply pw_below_drewN | apply below_drew1 | refine below_set ?_ GE301.out) | exact HB.out))) : w.heap.size ≤ gb307)); have n8_ := Aside0.mk ((by rw [hg]; exact (below_size (by repeat (first | (with_reducible first | exact HB.out | apply below_alloc | apply pw_below_drewN | apply below_drew1 | refine below_set ?_ GE301.out) | exact HB.out))) : w.heap.size ≤ gb307)); have n9_ := Aside0.mk ((by rw [hg]; exact Nat.ne_of_lt (blk_lt (g := gb301) (o := .cells #[.slice Ao42 t296.length co42, .int .i64 t299] 28 (0, 0)) (by (with_reducible repeat (first | refine blk_drewN ?_ _ | refine blk_drew ?_ | refine blk_alloc ?_ _)); exact BK301.out)) : gb301 ≠ gb307)); have n10_ := Aside0.mk ((by rw [hg]; exact Nat.ne_of_gt (blk_lt (g := gb301) (o := .cells #[.slice Ao42 t296.length co42, .int .i64 t299] 28 (0, 0)) (by (with_reducible repeat (first | refine blk_drewN ?_ _ | refine blk_drew ?_ | refine blk_alloc ?_ _)); exact BK301.out)) : gb307 ≠ gb301)); clear HO_5; clear HO295; clear HO298; clear HO304; clear BK301; clear HB; have HO_5 := n0_; have HO295 := n1_; have HO298 := n2_; have HO304 := n3_; have BK301 := n4_; have HB := n5_; have BK307 := n6_; have GW307 := n7_; have GE307 := n8_; have NB301_307 := n9_; have NB307_301 := n10_; clear n0_ n1_ n2_ n3_ n4_ n5_ n6_ n7_ n8_ n9_ n10_; clear hb hbox hg; obtain ⟨Ao47, co47, eo47⟩ := Kd.R_slice HO304.out; subst eo47; have hnb48 := NB307_301.out; have hnc48 := NB301_307.out; have hcz49_0 : w46.cell? ⟨gb307, 0, none⟩ = some (.slice none 0 0) := (blk_cell BK307.out 0).trans rfl; have hcz49_1 : w46.cell? ⟨gb307, 1, none⟩ = some (.int .i64 0) := (blk_cell BK307.out 1).trans rfl; have hfz49_0 := blk_frozen BK307.out 0; have hfz49_1 := blk_frozen BK307.out 1)))
       (try simp only [Act.put, List.setIfInBounds_toArray, List.set_cons_zero, List.set_cons_succ])
       go_cut [75] (fun v75 wc => ∃ (kq : Nat) (x75_36 : Bool), v75 = .bool x75_36 ∧ Aside0 (heptadlaw11_AddressBrief.j2 kq t285 x75_36 = some r) ∧ Aside0 (kq ≤ kj16) ∧ Aside0 (Kd.N k28 28 wc w.heap.size (fun k_ => some k_ ≠ ((.slice Ao42 t296.length co42) : Value).ownBlock ∧ some k_ ≠ ((.slice Ao47 t302.length co47) : Value).ownBlock ∧ k_ ≠ gb301 ∧ k_ ≠ gb307) (.slice Ao44 t285.length co44) t285) ∧ Aside0 (Kd.R (Kd.int .i64) 3 wc w.heap.size (fun k_ => some k_ ≠ ((.slice Ao47 t302.length co47) : Value).ownBlock) (.slice Ao42 t296.length co42) t296) ∧ Aside0 (Kd.R (Kd.int .i64) 3 wc w.heap.size (fun k_ => some k_ ≠ ((.slice Ao42 t296.length co42) : Value).ownBlock) (.slice Ao47 t302.length co47) t302) ∧ Aside0 (wc.heap[gb301]? = some (.cells #[(.slice Ao42 t296.length co42), .int .i64 t299] 28 (0, 0))) ∧ Aside0 (wc.heap[gb307]? = some (.cells #[(.slice Ao47 t302.length co47), .int .i64 t305] 28 (0, 0))) ∧ Aside0 (Below w.heap.size w wc))
       case first =>
        have H := HC37.out
        clear HC37
        by_cases c50 : t300 = t306
        ·rw [if_pos c50] at H
         have c50b0 : (t300 == t306) = true := beq_iff_eq.mpr c50
         have c50b1 : (t300 != t306) = false := bne_eq_false_iff_eq.mpr c50
         clear c50
         (first | rw [c50b0] | (simp only [i64_w, i32_w]; rw [c50b0]) | skip)
         have H' := Aside0.mk H
         clear H
         have hnb51 := NB301_307.out
         have hnc51 := NB307_301.out
         have hcz52_0 : w46.cell? ⟨gb301, 0, none⟩ = some (.slice Ao42 t296.length co42) := (blk_cell BK301.out 0).trans rfl
         have hcz52_1 : w46.cell? ⟨gb301, 1, none⟩ = some (.int .i64 t299) := (blk_cell BK301.out 1).trans rfl
         have hfz52_0 := blk_frozen BK301.out 0
         have hfz52_1 := blk_frozen BK301.out 1
         have hcz53_0 : w46.cell? ⟨gb307, 0, none⟩ = some (.slice none 0 0) := (blk_cell BK307.out 0).trans rfl
         have hcz53_1 : w46.cell? ⟨gb307, 1, none⟩ = some (.int .i64 0) := (blk_cell BK307.out 1).trans rfl
         have hfz53_0 := blk_frozen BK307.out 0
         have hfz53_1 := blk_frozen BK307.out 1
         go_wp2
         repeat (go_quiet (fail); try go_wp2)
         go_meet
         case rel => exact ⟨_, ((t299 != t305)), (by first | rfl | (simp; done) | (simp [*]; done)), H', ⟨by have := HJ2.out; have := HJ16.out; first | omega | exact Nat.le_refl _⟩, ⟨by (with_reducible repeat (first | apply Kd.N_alloc | apply Kd.N_drewN | apply Kd.N_drew)); exact Kd.N_mono (Kd.N_far (p := ⟨gb307, 1, none⟩) (Kd.N_far (p := ⟨gb307, 0, none⟩) (Kd.N_mono HO_5.out (fun k_ hk => (⟨hk, hk.2⟩ : _ ∧ k_ ≠ gb307))) (fun _ hk => hk.2) (.slice Ao47 t302.length co47)) (fun _ hk => hk.2) (.int .i64 t305)) (fun _ hk => ⟨hk.1.1.1.1.2, ⟨hk.1.1.2, ⟨hk.1.1.1.2, hk.1.2⟩⟩⟩)⟩, ⟨by (with_reducible repeat (first | apply Kd.R_alloc | apply Kd.R_drewN | apply Kd.R_drew)); exact Kd.R_mono (Kd.R_far (p := ⟨gb307, 1, none⟩) (Kd.R_far (p := ⟨gb307, 0, none⟩) (Kd.R_types HO298.out BK307.out (by decide)) (fun _ hk => hk.2) (.slice Ao47 t302.length co47)) (fun _ hk => hk.2) (.int .i64 t305)) (fun _ hk => hk.1.2)⟩, ⟨by (with_reducible repeat (first | apply Kd.R_alloc | apply Kd.R_drewN | apply Kd.R_drew)); exact Kd.R_mono (Kd.R_far (p := ⟨gb307, 1, none⟩) (Kd.R_far (p := ⟨gb307, 0, none⟩) (Kd.R_types HO304.out BK307.out (by decide)) (fun _ hk => hk.2) (.slice Ao47 t302.length co47)) (fun _ hk => hk.2) (.int .i64 t305)) (fun _ hk => hk.1.2)⟩, ⟨by (with_reducible repeat (first | refine blk_drewN ?_ _ | refine blk_drew ?_ | refine blk_alloc ?_ _)); refine blk_far ?_ NB301_307.out _; (with_reducible repeat (first | refine blk_drewN ?_ _ | refine blk_drew ?_ | refine blk_alloc ?_ _)); refine blk_far ?_ NB301_307.out _; (with_reducible repeat (first | refine blk_drewN ?_ _ | refine blk_drew ?_ | refine blk_alloc ?_ _)); exact BK301.out⟩, ⟨by (with_reducible repeat (first | refine blk_drewN ?_ _ | refine blk_drew ?_ | refine blk_alloc ?_ _)); refine blk_put (cs := #[.slice Ao47 t302.length co47, .int .i64 0]) ?_ 1 _ rfl; (with_reducible repeat (first | refine blk_drewN ?_ _ | refine blk_drew ?_ | refine blk_alloc ?_ _)); refine blk_put (cs := #[.slice none 0 0, .int .i64 0]) ?_ 0 _ rfl; (with_reducible repeat (first | refine blk_drewN ?_ _ | refine blk_drew ?_ | refine blk_alloc ?_ _)); exact BK307.out⟩, ⟨by repeat (first | (with_reducible first | exact HB.out | apply below_alloc | apply pw_below_drewN | apply below_drew1 | refine below_set ?_ GE301.out | refine below_set ?_ GE307.out) | exact HB.out)⟩⟩
        ·rw [if_neg c50] at H
         have c50b0 : (t300 == t306) = false := beq_eq_false_iff_ne.mpr c50
         have c50b1 : (t300 != t306) = true := bne_iff_ne.mpr c50
         (first | rw [c50b0] | (simp only [i64_w, i32_w]; rw [c50b0]) | skip)
         have H' := Aside0.mk H
         clear H
         go_wp2
         repeat (go_quiet (fail); try go_wp2)
         go_meet
         case rel => exact ⟨_, (true), (by first | rfl | (simp; done) | (simp [*]; done)), H', ⟨by have := HJ2.out; have := HJ16.out; first | omega | exact Nat.le_refl _⟩, ⟨by (with_reducible repeat (first | apply Kd.N_alloc | apply Kd.N_drewN | apply Kd.N_drew)); exact Kd.N_mono (Kd.N_far (p := ⟨gb307, 1, none⟩) (Kd.N_far (p := ⟨gb307, 0, none⟩) (Kd.N_mono HO_5.out (fun k_ hk => (⟨hk, hk.2⟩ : _ ∧ k_ ≠ gb307))) (fun _ hk => hk.2) (.slice Ao47 t302.length co47)) (fun _ hk => hk.2) (.int .i64 t305)) (fun _ hk => ⟨hk.1.1.1.1.2, ⟨hk.1.1.2, ⟨hk.1.1.1.2, hk.1.2⟩⟩⟩)⟩, ⟨by (with_reducible repeat (first | apply Kd.R_alloc | apply Kd.R_drewN | apply Kd.R_drew)); exact Kd.R_mono (Kd.R_far (p := ⟨gb307, 1, none⟩) (Kd.R_far (p := ⟨gb307, 0, none⟩) (Kd.R_types HO298.out BK307.out (by decide)) (fun _ hk => hk.2) (.slice Ao47 t302.length co47)) (fun _ hk => hk.2) (.int .i64 t305)) (fun _ hk => hk.1.2)⟩, ⟨by (with_reducible repeat (first | apply Kd.R_alloc | apply Kd.R_drewN | apply Kd.R_drew)); exact Kd.R_mono (Kd.R_far (p := ⟨gb307, 1, none⟩) (Kd.R_far (p := ⟨gb307, 0, none⟩) (Kd.R_types HO304.out BK307.out (by decide)) (fun _ hk => hk.2) (.slice Ao47 t302.length co47)) (fun _ hk => hk.2) (.int .i64 t305)) (fun _ hk => hk.1.2)⟩, ⟨by (with_reducible repeat (first | refine blk_drewN ?_ _ | refine blk_drew ?_ | refine blk_alloc ?_ _)); refine blk_far ?_ NB301_307.out _; (with_reducible repeat (first | refine blk_drewN ?_ _ | refine blk_drew ?_ | refine blk_alloc ?_ _)); refine blk_far ?_ NB301_307.out _; (with_reducible repeat (first | refine blk_drewN ?_ _ | refine blk_drew ?_ | refine blk_alloc ?_ _)); exact BK301.out⟩, ⟨by (with_reducible repeat (first | refine blk_drewN ?_ _ | refine blk_drew ?_ | refine blk_alloc ?_ _)); refine blk_put (cs := #[.slice Ao47 t302.length co47, .int .i64 0]) ?_ 1 _ rfl; (with_reducible repeat (first | refine blk_drewN ?_ _ | refine blk_drew ?_ | refine blk_alloc ?_ _)); refine blk_put (cs := #[.slice none 0 0, .int .i64 0]) ?_ 0 _ rfl; (with_reducible repeat (first | refine blk_drewN ?_ _ | refine blk_drew ?_ | refine blk_alloc ?_ _)); exact BK307.out⟩, ⟨by repeat (first | (with_reducible first | exact HB.out | apply below_alloc | apply pw_below_drewN | apply below_drew1 | refine below_set ?_ GE301.out | refine below_set ?_ GE307.out) | exact HB.out)⟩⟩
       case rest =>
        clear HC37
        try clear c1
        try clear c2
        try clear p2
        try clear c3
        try clear c4
        try clear c5
        try clear c6
        try clear c6b0
        try clear c6b1
        try clear c8
        try clear c12
        try clear c21
        try clear c21b0
        try clear c21b1
        try clear c24
        try clear c33
        try clear c48
        try clear c50
        try clear c50b0
        try clear c50b1
        try clear c51
        try clear hcz43_0
        try clear hcz43_1
        try clear hcz49_0
        try clear hcz49_1
        try clear hcz52_0
        try clear hcz52_1
        try clear hcz53_0
        try clear hcz53_1
        try clear hfz43_0
        try clear hfz43_1
        try clear hfz49_0
        try clear hfz49_1
        try clear hfz52_0
        try clear hfz52_1
        try clear hfz53_0
        try clear hfz53_1
        try clear p2
        obtain ⟨kq, x75_36, rfl, HA, HJ36, HO_5, HO_302000, HO_308000, BK301, BK307, HB⟩ := hcut
        cases kq with
        | zero => exact absurd HA.out (by simp [heptadlaw11_AddressBrief.j2])
        | succ kj36 =>
         have H := HA.out
         clear HA
         simp only [heptadlaw11_AddressBrief.j2] at H
         by_cases c54 : x75_36 = true
         ·subst c54
          have H1 : (some false) = some r := by rw [if_pos rfl] at H; exact H
          clear H
          have H := H1
          clear H1
          obtain rfl := Option.some.inj H
          go_wp2
          repeat (go_quiet (fail); try go_wp2)
          go_ret
          exact ⟨by first | rfl | (simp [errW_none, errW_some] <;> rfl) | (simp [*, errW_none, errW_some] <;> rfl), by repeat (first | (with_reducible first | exact HB.out | apply below_alloc | apply pw_below_drewN | apply below_drew1 | refine below_set ?_ GE301.out | refine below_set ?_ GE307.out) | exact HB.out)⟩
         ·replace c54 := Bool.eq_false_iff.mpr c54
          subst c54
          have H1 : (heptadlaw11_AddressBrief.l0 kj36 t285 0) = some r := by rw [if_neg (show ¬ (false = true) by decide)] at H; exact H
          clear H
          have H := H1
          clear H1
          have H' := Aside0.mk H
          clear H
          go_wp2
          repeat (go_quiet (fail); try go_wp2)
          go_loopg [10] kj36 (fun kq v10 w' => ∃ (x10_4 : Int), v10 = .int .i64 x10_4 ∧ Aside0 (heptadlaw11_AddressBrief.l0 kq t285 x10_4 = some r) ∧ Aside0 (kq ≤ kj36) ∧ Aside0 (Kd.N k28 28 w' w.heap.size (fun k_ => some k_ ≠ ((.slice Ao42 t296.length co42) : Value).ownBlock ∧ some k_ ≠ ((.slice Ao47 t302.length co47) : Value).ownBlock ∧ k_ ≠ gb301 ∧ k_ ≠ gb307) (.slice Ao44 t285.length co44) t285) ∧ Aside0 (Kd.R (Kd.int .i64) 3 w' w.heap.size (fun k_ => some k_ ≠ ((.slice Ao47 t302.length co47) : Value).ownBlock) (.slice Ao42 t296.length co42) t296) ∧ Aside0 (Kd.R (Kd.int .i64) 3 w' w.heap.size (fun k_ => some k_ ≠ ((.slice Ao42 t296.length co42) : Value).ownBlock) (.slice Ao47 t302.length co47) t302) ∧ Aside0 (w'.heap[gb301]? = some (.cells #[(.slice Ao42 t296.length co42), .int .i64 t299] 28 (0, 0))) ∧ Aside0 (w'.heap[gb307]? = some (.cells #[(.slice Ao47 t302.length co47), .int .i64 t305] 28 (0, 0))) ∧ Aside0 (Below w.heap.size w w'))
          case atStart => exact ⟨(0), (by first | rfl | (simp; done) | (simp [*]; done)), H', ⟨Nat.le_refl _⟩, ⟨by (with_reducible repeat (first | apply Kd.N_alloc | apply Kd.N_drewN | apply Kd.N_drew)); exact HO_5.out⟩, ⟨by (with_reducible repeat (first | apply Kd.R_alloc | apply Kd.R_drewN | apply Kd.R_drew)); exact HO_302000.out⟩, ⟨by (with_reducible repeat (first | apply Kd.R_alloc | apply Kd.R_drewN | apply Kd.R_drew)); exact HO_308000.out⟩, ⟨by (with_reducible repeat (first | refine blk_drewN ?_ _ | refine blk_drew ?_ | refine blk_alloc ?_ _)); exact BK301.out⟩, ⟨by (with_reducible repeat (first | refine blk_drewN ?_ _ | refine blk_drew ?_ | refine blk_alloc ?_ _)); exact BK307.out⟩, ⟨by repeat (first | (with_reducible first | exact HB.out | apply below_alloc | apply pw_below_drewN | apply below_drew1 | refine below_set ?_ GE301.out | refine below_set ?_ GE307.out) | exact HB.out)⟩⟩
          case round =>
           clear H'
           try clear c1
           try clear c2
           try clear p2
           try clear c3
           try clear c4
           try clear c5
           try clear c6
           try clear c6b0
           try clear c6b1
           try clear c8
           try clear c12
           try clear c21
           try clear c21b0
           try clear c21b1
           try clear c24
           try clear c33
           try clear c48
           try clear c50
           try clear c50b0
           try clear c50b1
           try clear c51
           try clear c54
           try clear hcz43_0
           try clear hcz43_1
           try clear hcz49_0
           try clear hcz49_1
           try clear hcz52_0
           try clear hcz52_1
           try clear hcz53_0
           try clear hcz53_1
           try clear hfz43_0
           try clear hfz43_1
           try clear hfz49_0
           try clear hfz49_1
           try clear hfz52_0
           try clear hfz52_1
           try clear hfz53_0
           try clear hfz53_1
           try clear p2
           obtain ⟨x10_4, rfl, HA, HK4, HO_5, HO_302000, HO_308000, BK301, BK307, HB⟩ := hrel
           cases gk with
           | zero => exact absurd HA.out (by simp [heptadlaw11_AddressBrief.l0])
           | succ k4 =>
            have H := HA.out
            clear HA
            simp only [heptadlaw11_AddressBrief.l0] at H
            by_cases c55 : x10_4 < (t285.length : Int)
            ·rw [if_pos c55] at H
             have c55b0 : decide (x10_4 < (t285.length : Int)) = true := decide_eq_true c55
             clear c55
             have H' := Aside0.mk H
             clear H
             go_wp2
             repeat (go_quiet (fail); try go_wp2)
             go_loopg [11, 12] k4 (fun kq v11 v12 w' => ∃ (x11_5 : Int) (x12_5 : Int), v11 = .int .i64 x11_5 ∧ v12 = .int .i64 x12_5 ∧ Aside0 (heptadlaw11_AddressBrief.l1 kq t285 x10_4 x11_5 x12_5 = some r) ∧ Aside0 (kq ≤ k4) ∧ Aside0 (Kd.N k28 28 w' w.heap.size (fun k_ => some k_ ≠ ((.slice Ao42 t296.length co42) : Value).ownBlock ∧ some k_ ≠ ((.slice Ao47 t302.length co47) : Value).ownBlock ∧ k_ ≠ gb301 ∧ k_ ≠ gb307) (.slice Ao44 t285.length co44) t285) ∧ Aside0 (Kd.R (Kd.int .i64) 3 w' w.heap.size (fun k_ => some k_ ≠ ((.slice Ao47 t302.length co47) : Value).ownBlock) (.slice Ao42 t296.length co42) t296) ∧ Aside0 (Kd.R (Kd.int .i64) 3 w' w.heap.size (fun k_ => some k_ ≠ ((.slice Ao42 t296.length co42) : Value).ownBlock) (.slice Ao47 t302.length co47) t302) ∧ Aside0 (w'.heap[gb301]? = some (.cells #[(.slice Ao42 t296.length co42), .int .i64 t299] 28 (0, 0))) ∧ Aside0 (w'.heap[gb307]? = some (.cells #[(.slice Ao47 t302.length co47), .int .i64 t305] 28 (0, 0))) ∧ Aside0 (Below w.heap.size w w'))
             case atStart => exact ⟨((-1)), (0), (by first | rfl | (simp; done) | (simp [*]; done)), (by first | rfl | (simp; done) | (simp [*]; done)), H', ⟨Nat.le_refl _⟩, ⟨by (with_reducible repeat (first | apply Kd.N_alloc | apply Kd.N_drewN | apply Kd.N_drew)); exact HO_5.out⟩, ⟨by (with_reducible repeat (first | apply Kd.R_alloc | apply Kd.R_drewN | apply Kd.R_drew)); exact HO_302000.out⟩, ⟨by (with_reducible repeat (first | apply Kd.R_alloc | apply Kd.R_drewN | apply Kd.R_drew)); exact HO_308000.out⟩, ⟨by (with_reducible repeat (first | refine blk_drewN ?_ _ | refine blk_drew ?_ | refine blk_alloc ?_ _)); exact BK301.out⟩, ⟨by (with_reducible repeat (first | refine blk_drewN ?_ _ | refine blk_drew ?_ | refine blk_alloc ?_ _)); exact BK307.out⟩, ⟨by repeat (first | (with_reducible first | exact HB.out | apply below_alloc | apply pw_below_drewN | apply below_drew1 | refine below_set ?_ GE301.out | refine below_set ?_ GE307.out) | exact HB.out)⟩⟩
             case round =>
              clear H'
              try clear c1
              try clear c2
              try clear p2
              try clear c3
              try clear c4
              try clear c5
              try clear c6
              try clear c6b0
              try clear c6b1
              try clear c8
              try clear c12
              try clear c21
              try clear c21b0
              try clear c21b1
              try clear c24
              try clear c33
              try clear c48
              try clear c50
              try clear c50b0
              try clear c50b1
              try clear c51
              try clear c54
              try clear c55
              try clear c55b0
              try clear hcz43_0
              try clear hcz43_1
              try clear hcz49_0
              try clear hcz49_1
              try clear hcz52_0
              try clear hcz52_1
              try clear hcz53_0
              try clear hcz53_1
              try clear hfz43_0
              try clear hfz43_1
              try clear hfz49_0
              try clear hfz49_1
              try clear hfz52_0
              try clear hfz52_1
              try clear hfz53_0
              try clear hfz53_1
              try clear p2
              obtain ⟨x11_5, x12_5, rfl, rfl, HA, HK5, HO_5, HO_302000, HO_308000, BK301, BK307, HB⟩ := hrel
              cases gk with
              | zero => exact absurd HA.out (by simp [heptadlaw11_AddressBrief.l1])
              | succ k5 =>
               have H := HA.out
               clear HA
               simp only [heptadlaw11_AddressBrief.l1] at H
               by_cases c56 : x12_5 < (t285.length : Int)
               ·rw [if_pos c56] at H
                have c56b0 : decide (x12_5 < (t285.length : Int)) = true := decide_eq_true c56
                clear c56
                by_cases c57 : 0 ≤ x12_5
                ·rw [if_pos c57] at H
                 have c57b0 : decide (0 ≤ x12_5) = true := decide_eq_true c57
                 clear c57
                 by_cases c58 : 0 ≤ x10_4
                 ·rw [if_pos c58] at H
                  have c58b0 : decide (0 ≤ x10_4) = true := decide_eq_true c58
                  clear c58
                  by_cases c59 : x10_4 < (t285.length : Int)
                  ·rw [if_pos c59] at H
                   have c59b0 : decide (x10_4 < (t285.length : Int)) = true := decide_eq_true c59
                   clear c59
                   by_cases c60 : (((rd_T28 t285 x12_5).f0).length : Int) < (((rd_T28 t285 x10_4).f0).length : Int)
                   ·rw [if_pos c60] at H
                    have c60b0 : decide ((((rd_T28 t285 x12_5).f0).length : Int) < (((rd_T28 t285 x10_4).f0).length : Int)) = true := decide_eq_true c60
                    have c60b1 : decide (((rd_T28 t285 x12_5).f0).length < ((rd_T28 t285 x10_4).f0).length) = true := decide_eq_true (Int.ofNat_lt.mp c60)
                    clear c60
                    replace H := Option.bind_eq_some_iff.mp H
                    obtain ⟨t313, A610, H⟩ := H
                    replace H : (if t313 = true then (if x11_5 < 0 then (heptadlaw11_AddressBrief.l1 k5 t285 x10_4 x12_5 (wrap64 (x12_5 + 1))) else (if 0 ≤ x11_5 then (if x11_5 < (t285.length : Int) then (if (((rd_T28 t285 x12_5).f0).length : Int) > (((rd_T28 t285 x11_5).f0).length : Int) then (heptadlaw11_AddressBrief.l1 k5 t285 x10_4 x12_5 (wrap64 (x12_5 + 1))) else (heptadlaw11_AddressBrief.l1 k5 t285 x10_4 x11_5 (wrap64 (x12_5 + 1)))) else (none)) else (none))) else (heptadlaw11_AddressBrief.l1 k5 t285 x10_4 x11_5 (wrap64 (x12_5 + 1)))) = some r := H
                    have A61 := Aside0.mk A610
                    clear A610
                    by_cases c62 : t313 = true
                    ·subst c62
                     have H1 : (if x11_5 < 0 then (heptadlaw11_AddressBrief.l1 k5 t285 x10_4 x12_5 (wrap64 (x12_5 + 1))) else (if 0 ≤ x11_5 then (if x11_5 < (t285.length : Int) then (if (((rd_T28 t285 x12_5).f0).length : Int) > (((rd_T28 t285 x11_5).f0).length : Int) then (heptadlaw11_AddressBrief.l1 k5 t285 x10_4 x12_5 (wrap64 (x12_5 + 1))) else (heptadlaw11_AddressBrief.l1 k5 t285 x10_4 x11_5 (wrap64 (x12_5 + 1)))) else (none)) else (none))) = some r := by rw [if_pos rfl] at H; exact H
                     clear H
                     have H := H1
                     clear H1
                     by_cases c63 : x11_5 < 0
                     ·rw [if_pos c63] at H
                      have c63b0 : decide (x11_5 < 0) = true := decide_eq_true c63
                      clear c63
                      have H' := Aside0.mk H
                      clear H
                      have p309 : 0 ≤ (x12_5 : Int) := of_decide_eq_true (by first | (with_reducible assumption) | assumption)
                      have q309 : x12_5 < (t285.length : Int) := of_decide_eq_true (by first | (with_reducible assumption) | assumption)
                      obtain ⟨ad309, A309_0, c309_0, e309, hx309_0, hx309_1, hl309_0, hi309_0⟩ := at_T28 (Kd.N_reads' HO_5.out).2.2 x12_5 p309 q309
                      cases e309
                      obtain ⟨ce309, hce309, hMe309, hcc309⟩ := Kd.N_get HO_5.out z28 x12_5 p309 (by first | exact q309 | exact of_decide_eq_true (by first | (with_reducible assumption) | assumption) | (have e_ := (Kd.N_reads' HO_5.out).1; omega))
                      obtain ⟨ua309_0, uc309_0, rfl, ul309_0, ge309_0⟩ := k28_openF hMe309
                      have hv309_0 := hcc309 0 _ rfl
                      rw [Nat.add_zero] at hv309_0
                      replace hv309_0 := Option.some.inj (hv309_0.symm.trans hx309_0)
                      injection hv309_0 with hva_ hvn_ hvc_
                      rw [hva_] at ge309_0
                      rw [hvc_] at ul309_0
                      have HL309_0 := Aside0.mk (show Kd.V (Kd.int .i64) 3 _ w.heap.size _ _ ((rd_T28 t285 x12_5).f0) from Kd.V_mk ul309_0 ge309_0)
                      clear hva_ hvn_ hvc_ ge309_0 ul309_0
                      clear hcc309 hce309
                      have HR309_0 := Aside0.mk hi309_0
                      have HC309_0 := Aside0.mk hl309_0
                      clear hi309_0 hl309_0
                      replace p309 := eq_true p309
                      replace q309 := eq_true q309
                      have p310 : 0 ≤ (x10_4 : Int) := of_decide_eq_true (by first | (with_reducible assumption) | assumption)
                      have q310 : x10_4 < (t285.length : Int) := of_decide_eq_true (by first | (with_reducible assumption) | assumption)
                      obtain ⟨ad310, A310_0, c310_0, e310, hx310_0, hx310_1, hl310_0, hi310_0⟩ := at_T28 (Kd.N_reads' HO_5.out).2.2 x10_4 p310 q310
                      obtain rfl : ad309 = ad310 := (by injection e310)
                      obtain ⟨ce310, hce310, hMe310, hcc310⟩ := Kd.N_get HO_5.out z28 x10_4 p310 (by first | exact q310 | exact of_decide_eq_true (by first | (with_reducible assumption) | assumption) | (have e_ := (Kd.N_reads' HO_5.out).1; omega))
                      obtain ⟨ua310_0, uc310_0, rfl, ul310_0, ge310_0⟩ := k28_openF hMe310
                      have hv310_0 := hcc310 0 _ rfl
                      rw [Nat.add_zero] at hv310_0
                      replace hv310_0 := Option.some.inj (hv310_0.symm.trans hx310_0)
                      injection hv310_0 with hva_ hvn_ hvc_
                      rw [hva_] at ge310_0
                      rw [hvc_] at ul310_0
                      have HL310_0 := Aside0.mk (show Kd.V (Kd.int .i64) 3 _ w.heap.size _ _ ((rd_T28 t285 x10_4).f0) from Kd.V_mk ul310_0 ge310_0)
                      clear hva_ hvn_ hvc_ ge310_0 ul310_0
                      clear hcc310 hce310
                      have HR310_0 := Aside0.mk hi310_0
                      have HC310_0 := Aside0.mk hl310_0
                      clear hi310_0 hl310_0
                      replace p310 := eq_true p310
                      replace q310 := eq_true q310
                      have p311 : 0 ≤ (x12_5 : Int) := of_decide_eq_true (by first | (with_reducible assumption) | assumption)
                      have q311 : x12_5 < (t285.length : Int) := of_decide_eq_true (by first | (with_reducible assumption) | assumption)
                      obtain ⟨ad311, A311_0, c311_0, e311, hx311_0, hx311_1, hl311_0, hi311_0⟩ := at_T28 (Kd.N_reads' HO_5.out).2.2 x12_5 p311 q311
                      obtain rfl : ad309 = ad311 := (by injection e311)
                      obtain ⟨ce311, hce311, hMe311, hcc311⟩ := Kd.N_get HO_5.out z28 x12_5 p311 (by first | exact q311 | exact of_decide_eq_true (by first | (with_reducible assumption) | assumption) | (have e_ := (Kd.N_reads' HO_5.out).1; omega))
                      obtain ⟨ua311_0, uc311_0, rfl, ul311_0, ge311_0⟩ := k28_openF hMe311
                      have hv311_0 := hcc311 0 _ rfl
                      rw [Nat.add_zero] at hv311_0
                      replace hv311_0 := Option.some.inj (hv311_0.symm.trans hx311_0)
                      injection hv311_0 with hva_ hvn_ hvc_
                      rw [hva_] at ge311_0
                      rw [hvc_] at ul311_0
                      have HL311_0 := Aside0.mk (show Kd.V (Kd.int .i64) 3 _ w.heap.size _ _ ((rd_T28 t285 x12_5).f0) from Kd.V_mk ul311_0 ge311_0)
                      clear hva_ hvn_ hvc_ ge311_0 ul311_0
                      clear hcc311 hce311
                      have HR311_0 := Aside0.mk hi311_0
                      have HC311_0 := Aside0.mk hl311_0
                      clear hi311_0 hl311_0
                      replace p311 := eq_true p311
                      replace q311 := eq_true q311
                      have ea_ := Option.some.inj (hx309_0.symm.trans hx311_0)
                      injection ea_ with ea_ en_ ec_
                      subst ea_
                      subst ec_
                      clear en_
                      have p312 : 0 ≤ (x10_4 : Int) := of_decide_eq_true (by first | (with_reducible assumption) | assumption)
                      have q312 : x10_4 < (t285.length : Int) := of_decide_eq_true (by first | (with_reducible assumption) | assumption)
                      obtain ⟨ad312, A312_0, c312_0, e312, hx312_0, hx312_1, hl312_0, hi312_0⟩ := at_T28 (Kd.N_reads' HO_5.out).2.2 x10_4 p312 q312
                      obtain rfl : ad309 = ad312 := (by injection e312)
                      obtain ⟨ce312, hce312, hMe312, hcc312⟩ := Kd.N_get HO_5.out z28 x10_4 p312 (by first | exact q312 | exact of_decide_eq_true (by first | (with_reducible assumption) | assumption) | (have e_ := (Kd.N_reads' HO_5.out).1; omega))
                      obtain ⟨ua312_0, uc312_0, rfl, ul312_0, ge312_0⟩ := k28_openF hMe312
                      have hv312_0 := hcc312 0 _ rfl
                      rw [Nat.add_zero] at hv312_0
                      replace hv312_0 := Option.some.inj (hv312_0.symm.trans hx312_0)
                      injection hv312_0 with hva_ hvn_ hvc_
                      rw [hva_] at ge312_0
                      rw [hvc_] at ul312_0
                      have HL312_0 := Aside0.mk (show Kd.V (Kd.int .i64) 3 _ w.heap.size _ _ ((rd_T28 t285 x10_4).f0) from Kd.V_mk ul312_0 ge312_0)
                      clear hva_ hvn_ hvc_ ge312_0 ul312_0
                      clear hcc312 hce312
                      have HR312_0 := Aside0.mk hi312_0
                      have HC312_0 := Aside0.mk hl312_0
                      clear hi312_0 hl312_0
                      replace p312 := eq_true p312
                      replace q312 := eq_true q312
                      have ea_ := Option.some.inj (hx310_0.symm.trans hx312_0)
                      injection ea_ with ea_ en_ ec_
                      subst ea_
                      subst ec_
                      clear en_
                      go_wp2_with (first | (go_at_call 13; (with_reducible refine (heptadref11_Begins.calls k5 _ _ ((rd_T28 t285 x12_5).f0) _ _ ((rd_T28 t285 x10_4).f0) true _ ?side1 ?side2 ?side3 ?side4 A61.out).mono ?_); (case side1 => repeat (first | exact (by repeat (first | (with_reducible exact HR311_0.out) | (with_reducible refine Kd.C_alloc ?_ _) | (with_reducible refine Kd.C_drewN ?_ _) | (with_reducible refine Kd.C_drew ?_) | exact HR311_0.out)) | (with_reducible refine Kd.C_alloc ?_ _) | (with_reducible refine Kd.C_drewN ?_ _) | (with_reducible refine Kd.C_drew ?_))); (case side2 => exact HC311_0.out); (case side3 => repeat (first | exact (by repeat (first | (with_reducible exact HR312_0.out) | (with_reducible refine Kd.C_alloc ?_ _) | (with_reducible refine Kd.C_drewN ?_ _) | (with_reducible refine Kd.C_drew ?_) | exact HR312_0.out)) | (with_reducible refine Kd.C_alloc ?_ _) | (with_reducible refine Kd.C_drewN ?_ _) | (with_reducible refine Kd.C_drew ?_))); (case side4 => exact HC312_0.out); rintro e w' ⟨rfl, ⟨nd, rfl⟩⟩; (try first | exact ⟨rfl, _, World.drewN_drewN _ _ _⟩ | exact ⟨rfl, _, Eq.trans (World.drewN_drewN _ _ _) (congrArg (World.drewN _) (Nat.add_assoc _ _ _))⟩)))
                      repeat (go_quiet (first | (go_at_call 13; (with_reducible refine (heptadref11_Begins.calls k5 _ _ ((rd_T28 t285 x12_5).f0) _ _ ((rd_T28 t285 x10_4).f0) true _ ?side1 ?side2 ?side3 ?side4 A61.out).mono ?_); (case side1 => repeat (first | exact (by repeat (first | (with_reducible exact HR311_0.out) | (with_reducible refine Kd.C_alloc ?_ _) | (with_reducible refine Kd.C_drewN ?_ _) | (with_reducible refine Kd.C_drew ?_) | exact HR311_0.out)) | (with_reducible refine Kd.C_alloc ?_ _) | (with_reducible refine Kd.C_drewN ?_ _) | (with_reducible refine Kd.C_drew ?_))); (case side2 => exact HC311_0.out); (case side3 => repeat (first | exact (by repeat (first | (with_reducible exact HR312_0.out) | (with_reducible refine Kd.C_alloc ?_ _) | (with_reducible refine Kd.C_drewN ?_ _) | (with_reducible refine Kd.C_drew ?_) | exact HR312_0.out)) | (with_reducible refine Kd.C_alloc ?_ _) | (with_reducible refine Kd.C_drewN ?_ _) | (with_reducible refine Kd.C_drew ?_))); (case side4 => exact HC312_0.out); rintro e w' ⟨rfl, ⟨nd, rfl⟩⟩; (try first | exact ⟨rfl, _, World.drewN_drewN _ _ _⟩ | exact ⟨rfl, _, Eq.trans (World.drewN_drewN _ _ _) (congrArg (World.drewN _) (Nat.add_assoc _ _ _))⟩))); try go_wp2_with (first | (go_at_call 13; (with_reducible refine (heptadref11_Begins.calls k5 _ _ ((rd_T28 t285 x12_5).f0) _ _ ((rd_T28 t285 x10_4).f0) true _ ?side1 ?side2 ?side3 ?side4 A61.out).mono ?_); (case side1 => repeat (first | exact (by repeat (first | (with_reducible exact HR311_0.out) | (with_reducible refine Kd.C_alloc ?_ _) | (with_reducible refine Kd.C_drewN ?_ _) | (with_reducible refine Kd.C_drew ?_) | exact HR311_0.out)) | (with_reducible refine Kd.C_alloc ?_ _) | (with_reducible refine Kd.C_drewN ?_ _) | (with_reducible refine Kd.C_drew ?_))); (case side2 => exact HC311_0.out); (case side3 => repeat (first | exact (by repeat (first | (with_reducible exact HR312_0.out) | (with_reducible refine Kd.C_alloc ?_ _) | (with_reducible refine Kd.C_drewN ?_ _) | (with_reducible refine Kd.C_drew ?_) | exact HR312_0.out)) | (with_reducible refine Kd.C_alloc ?_ _) | (with_reducible refine Kd.C_drewN ?_ _) | (with_reducible refine Kd.C_drew ?_))); (case side4 => exact HC312_0.out); rintro e w' ⟨rfl, ⟨nd, rfl⟩⟩; (try first | exact ⟨rfl, _, World.drewN_drewN _ _ _⟩ | exact ⟨rfl, _, Eq.trans (World.drewN_drewN _ _ _) (congrArg (World.drewN _) (Nat.add_assoc _ _ _))⟩))))
                      go_roundg k5
                      case measure => have := HJ2.out; have := HJ16.out; have := HJ36.out; have := HK4.out; have := HK5.out; omega
                      case rel => exact ⟨(x12_5), (wrap64 (x12_5 + 1)), (by first | rfl | (simp; done) | (simp [*]; done)), (by first | rfl | (simp; done) | (simp [*]; done)), H', ⟨by have := HJ2.out; have := HJ16.out; have := HJ36.out; have := HK4.out; have := HK5.out; omega⟩, ⟨by (with_reducible repeat (first | apply Kd.N_alloc | apply Kd.N_drewN | apply Kd.N_drew)); exact HO_5.out⟩, ⟨by (with_reducible repeat (first | apply Kd.R_alloc | apply Kd.R_drewN | apply Kd.R_drew)); exact HO_302000.out⟩, ⟨by (with_reducible repeat (first | apply Kd.R_alloc | apply Kd.R_drewN | apply Kd.R_drew)); exact HO_308000.out⟩, ⟨by (with_reducible repeat (first | refine blk_drewN ?_ _ | refine blk_drew ?_ | refine blk_alloc ?_ _)); exact BK301.out⟩, ⟨by (with_reducible repeat (first | refine blk_drewN ?_ _ | refine blk_drew ?_ | refine blk_alloc ?_ _)); exact BK307.out⟩, ⟨by repeat (first | (with_reducible first | exact HB.out | apply below_alloc | apply pw_below_drewN | apply below_drew1 | refine below_set ?_ GE301.out | refine below_set ?_ GE307.out) | exact HB.out)⟩⟩
                     ·rw [if_neg c63] at H
                      have c63b0 : decide (x11_5 < 0) = false := decide_eq_false c63
                      clear c63
                      by_cases c64 : 0 ≤ x11_5
                      ·rw [if_pos c64] at H
                       have c64b0 : decide (0 ≤ x11_5) = true := decide_eq_true c64
                       clear c64
                       by_cases c65 : x11_5 < (t285.length : Int)
                       ·rw [if_pos c65] at H
                        have c65b0 : decide (x11_5 < (t285.length : Int)) = true := decide_eq_true c65
                        clear c65
                        by_cases c66 : (((rd_T28 t285 x12_5).f0).length : Int) > (((rd_T28 t285 x11_5).f0).length : Int)
                        ·rw [if_pos c66] at H
                         have c66b0 : decide ((((rd_T28 t285 x11_5).f0).length : Int) < (((rd_T28 t285 x12_5).f0).length : Int)) = true := decide_eq_true c66
                         have c66b1 : decide (((rd_T28 t285 x11_5).f0).length < ((rd_T28 t285 x12_5).f0).length) = true := decide_eq_true (Int.ofNat_lt.mp c66)
                         clear c66
                         have H' := Aside0.mk H
                         clear H
                         have p309 : 0 ≤ (x12_5 : Int) := of_decide_eq_true (by first | (with_reducible assumption) | assumption)
                         have q309 : x12_5 < (t285.length : Int) := of_decide_eq_true (by first | (with_reducible assumption) | assumption)
                         obtain ⟨ad309, A309_0, c309_0, e309, hx309_0, hx309_1, hl309_0, hi309_0⟩ := at_T28 (Kd.N_reads' HO_5.out).2.2 x12_5 p309 q309
                         cases e309
                         obtain ⟨ce309, hce309, hMe309, hcc309⟩ := Kd.N_get HO_5.out z28 x12_5 p309 (by first | exact q309 | exact of_decide_eq_true (by first | (with_reducible assumption) | assumption) | (have e_ := (Kd.N_reads' HO_5.out).1; omega))
                         obtain ⟨ua309_0, uc309_0, rfl, ul309_0, ge309_0⟩ := k28_openF hMe309
                         have hv309_0 := hcc309 0 _ rfl
                         rw [Nat.add_zero] at hv309_0
                         replace hv309_0 := Option.some.inj (hv309_0.symm.trans hx309_0)
                         injection hv309_0 with hva_ hvn_ hvc_
                         rw [hva_] at ge309_0
                         rw [hvc_] at ul309_0
                         have HL309_0 := Aside0.mk (show Kd.V (Kd.int .i64) 3 _ w.heap.size _ _ ((rd_T28 t285 x12_5).f0) from Kd.V_mk ul309_0 ge309_0)
                         clear hva_ hvn_ hvc_ ge309_0 ul309_0
                         clear hcc309 hce309
                         have HR309_0 := Aside0.mk hi309_0
                         have HC309_0 := Aside0.mk hl309_0
                         clear hi309_0 hl309_0
                         replace p309 := eq_true p309
                         replace q309 := eq_true q309
                         have p310 : 0 ≤ (x10_4 : Int) := of_decide_eq_true (by first | (with_reducible assumption) | assumption)
                         have q310 : x10_4 < (t285.length : Int) := of_decide_eq_true (by first | (with_reducible assumption) | assumption)
                         obtain ⟨ad310, A310_0, c310_0, e310, hx310_0, hx310_1, hl310_0, hi310_0⟩ := at_T28 (Kd.N_reads' HO_5.out).2.2 x10_4 p310 q310
                         obtain rfl : ad309 = ad310 := (by injection e310)
                         obtain ⟨ce310, hce310, hMe310, hcc310⟩ := Kd.N_get HO_5.out z28 x10_4 p310 (by first | exact q310 | exact of_decide_eq_true (by first | (with_reducible assumption) | assumption) | (have e_ := (Kd.N_reads' HO_5.out).1; omega))
                         obtain ⟨ua310_0, uc310_0, rfl, ul310_0, ge310_0⟩ := k28_openF hMe310
                         have hv310_0 := hcc310 0 _ rfl
                         rw [Nat.add_zero] at hv310_0
                         replace hv310_0 := Option.some.inj (hv310_0.symm.trans hx310_0)
                         injection hv310_0 with hva_ hvn_ hvc_
                         rw [hva_] at ge310_0
                         rw [hvc_] at ul310_0
                         have HL310_0 := Aside0.mk (show Kd.V (Kd.int .i64) 3 _ w.heap.size _ _ ((rd_T28 t285 x10_4).f0) from Kd.V_mk ul310_0 ge310_0)
                         clear hva_ hvn_ hvc_ ge310_0 ul310_0
                         clear hcc310 hce310
                         have HR310_0 := Aside0.mk hi310_0
                         have HC310_0 := Aside0.mk hl310_0
                         clear hi310_0 hl310_0
                         replace p310 := eq_true p310
                         replace q310 := eq_true q310
                         have p311 : 0 ≤ (x12_5 : Int) := of_decide_eq_true (by first | (with_reducible assumption) | assumption)
                         have q311 : x12_5 < (t285.length : Int) := of_decide_eq_true (by first | (with_reducible assumption) | assumption)
                         obtain ⟨ad311, A311_0, c311_0, e311, hx311_0, hx311_1, hl311_0, hi311_0⟩ := at_T28 (Kd.N_reads' HO_5.out).2.2 x12_5 p311 q311
                         obtain rfl : ad309 = ad311 := (by injection e311)
                         obtain ⟨ce311, hce311, hMe311, hcc311⟩ := Kd.N_get HO_5.out z28 x12_5 p311 (by first | exact q311 | exact of_decide_eq_true (by first | (with_reducible assumption) | assumption) | (have e_ := (Kd.N_reads' HO_5.out).1; omega))
                         obtain ⟨ua311_0, uc311_0, rfl, ul311_0, ge311_0⟩ := k28_openF hMe311
                         have hv311_0 := hcc311 0 _ rfl
                         rw [Nat.add_zero] at hv311_0
                         replace hv311_0 := Option.some.inj (hv311_0.symm.trans hx311_0)
                         injection hv311_0 with hva_ hvn_ hvc_
                         rw [hva_] at ge311_0
                         rw [hvc_] at ul311_0
                         have HL311_0 := Aside0.mk (show Kd.V (Kd.int .i64) 3 _ w.heap.size _ _ ((rd_T28 t285 x12_5).f0) from Kd.V_mk ul311_0 ge311_0)
                         clear hva_ hvn_ hvc_ ge311_0 ul311_0
                         clear hcc311 hce311
                         have HR311_0 := Aside0.mk hi311_0
                         have HC311_0 := Aside0.mk hl311_0
                         clear hi311_0 hl311_0
                         replace p311 := eq_true p311
                         replace q311 := eq_true q311
                         have ea_ := Option.some.inj (hx309_0.symm.trans hx311_0)
                         injection ea_ with ea_ en_ ec_
                         subst ea_
                         subst ec_
                         clear en_
                         have p312 : 0 ≤ (x10_4 : Int) := of_decide_eq_true (by first | (with_reducible assumption) | assumption)
                         have q312 : x10_4 < (t285.length : Int) := of_decide_eq_true (by first | (with_reducible assumption) | assumption)
                         obtain ⟨ad312, A312_0, c312_0, e312, hx312_0, hx312_1, hl312_0, hi312_0⟩ := at_T28 (Kd.N_reads' HO_5.out).2.2 x10_4 p312 q312
                         obtain rfl : ad309 = ad312 := (by injection e312)
                         obtain ⟨ce312, hce312, hMe312, hcc312⟩ := Kd.N_get HO_5.out z28 x10_4 p312 (by first | exact q312 | exact of_decide_eq_true (by first | (with_reducible assumption) | assumption) | (have e_ := (Kd.N_reads' HO_5.out).1; omega))
                         obtain ⟨ua312_0, uc312_0, rfl, ul312_0, ge312_0⟩ := k28_openF hMe312
                         have hv312_0 := hcc312 0 _ rfl
                         rw [Nat.add_zero] at hv312_0
                         replace hv312_0 := Option.some.inj (hv312_0.symm.trans hx312_0)
                         injection hv312_0 with hva_ hvn_ hvc_
                         rw [hva_] at ge312_0
                         rw [hvc_] at ul312_0
                         have HL312_0 := Aside0.mk (show Kd.V (Kd.int .i64) 3 _ w.heap.size _ _ ((rd_T28 t285 x10_4).f0) from Kd.V_mk ul312_0 ge312_0)
                         clear hva_ hvn_ hvc_ ge312_0 ul312_0
                         clear hcc312 hce312
                         have HR312_0 := Aside0.mk hi312_0
                         have HC312_0 := Aside0.mk hl312_0
                         clear hi312_0 hl312_0
                         replace p312 := eq_true p312
                         replace q312 := eq_true q312
                         have ea_ := Option.some.inj (hx310_0.symm.trans hx312_0)
                         injection ea_ with ea_ en_ ec_
                         subst ea_
                         subst ec_
                         clear en_
                         go_wp2_with (first | (go_at_call 13; (with_reducible refine (heptadref11_Begins.calls k5 _ _ ((rd_T28 t285 x12_5).f0) _ _ ((rd_T28 t285 x10_4).f0) true _ ?side1 ?side2 ?side3 ?side4 A61.out).mono ?_); (case side1 => repeat (first | exact (by repeat (first | (with_reducible exact HR311_0.out) | (with_reducible refine Kd.C_alloc ?_ _) | (with_reducible refine Kd.C_drewN ?_ _) | (with_reducible refine Kd.C_drew ?_) | exact HR311_0.out)) | (with_reducible refine Kd.C_alloc ?_ _) | (with_reducible refine Kd.C_drewN ?_ _) | (with_reducible refine Kd.C_drew ?_))); (case side2 => exact HC311_0.out); (case side3 => repeat (first | exact (by repeat (first | (with_reducible exact HR312_0.out) | (with_reducible refine Kd.C_alloc ?_ _) | (with_reducible refine Kd.C_drewN ?_ _) | (with_reducible refine Kd.C_drew ?_) | exact HR312_0.out)) | (with_reducible refine Kd.C_alloc ?_ _) | (with_reducible refine Kd.C_drewN ?_ _) | (with_reducible refine Kd.C_drew ?_))); (case side4 => exact HC312_0.out); rintro e w' ⟨rfl, ⟨nd, rfl⟩⟩; (try first | exact ⟨rfl, _, World.drewN_drewN _ _ _⟩ | exact ⟨rfl, _, Eq.trans (World.drewN_drewN _ _ _) (congrArg (World.drewN _) (Nat.add_assoc _ _ _))⟩); have p314 : 0 ≤ (x12_5 : Int) := of_decide_eq_true (by first | (with_reducible assumption) | assumption); have q314 : x12_5 < (t285.length : Int) := of_decide_eq_true (by first | (with_reducible assumption) | assumption); obtain ⟨ad314, A314_0, c314_0, e314, hx314_0, hx314_1, hl314_0, hi314_0⟩ := at_T28 (Kd.N_reads' HO_5.out).2.2 x12_5 p314 q314; obtain rfl : ad309 = ad314 := (by injection e314); obtain ⟨ce314, hce314, hMe314, hcc314⟩ := Kd.N_get HO_5.out z28 x12_5 p314 (by first | exact q314 | exact of_decide_eq_true (by first | (with_reducible assumption) | assumption) | (have e_ := (Kd.N_reads' HO_5.out).1; omega)); obtain ⟨ua314_0, uc314_0, rfl, ul314_0, ge314_0⟩ := k28_openF hMe314; have hv314_0 := hcc314 0 _ rfl; rw [Nat.add_zero] at hv314_0; replace hv314_0 := Option.some.inj (hv314_0.symm.trans hx314_0); injection hv314_0 with hva_ hvn_ hvc_; rw [hva_] at ge314_0; rw [hvc_] at ul314_0; have HL314_0 := Aside0.mk (show Kd.V (Kd.int .i64) 3 _ w.heap.size _ _ ((rd_T28 t285 x12_5).f0) from Kd.V_mk ul314_0 ge314_0); clear hva_ hvn_ hvc_ ge314_0 ul314_0; clear hcc314 hce314; have HR314_0 := Aside0.mk hi314_0; have HC314_0 := Aside0.mk hl314_0; clear hi314_0 hl314_0; replace p314 := eq_true p314; replace q314 := eq_true q314; have ea_ := Option.some.inj (hx309_0.symm.trans hx314_0); injection ea_ with ea_ en_ ec_; subst ea_; subst ec_; clear en_; have p315 : 0 ≤ (x11_5 : Int) := of_decide_eq_true (by first | (with_reducible assumption) | assumption); have q315 : x11_5 < (t285.length : Int) := of_decide_eq_true (by first | (with_reducible assumption) | assumption); obtain ⟨ad315, A315_0, c315_0, e315, hx315_0, hx315_1, hl315_0, hi315_0⟩ := at_T28 (Kd.N_reads' HO_5.out).2.2 x11_5 p315 q315; obtain rfl : ad309 = ad315 := (by injection e315); obtain ⟨ce315, hce315, hMe315, hcc315⟩ := Kd.N_get HO_5.out z28 x11_5 p315 (by first | exact q315 | exact of_decide_eq_true (by first | (with_reducible assumption) | assumption) | (have e_ := (Kd.N_reads' HO_5.out).1; omega)); obtain ⟨ua315_0, uc315_0, rfl, ul315_0, ge315_0⟩ := k28_openF hMe315; have hv315_0 := hcc315 0 _ rfl; rw [Nat.add_zero] at hv315_0; replace hv315_0 := Option.some.inj (hv315_0.symm.trans hx315_0); injection hv315_0 with hva_ hvn_ hvc_; rw [hva_] at ge315_0; rw [hvc_] at ul315_0; have HL315_0 := Aside0.mk (show Kd.V (Kd.int .i64) 3 _ w.heap.size _ _ ((rd_T28 t285 x11_5).f0) from Kd.V_mk ul315_0 ge315_0); clear hva_ hvn_ hvc_ ge315_0 ul315_0; clear hcc315 hce315; have HR315_0 := Aside0.mk hi315_0; have HC315_0 := Aside0.mk hl315_0; clear hi315_0 hl315_0; replace p315 := eq_true p315; replace q315 := eq_true q315))
                         repeat (go_quiet (first | (go_at_call 13; (with_reducible refine (heptadref11_Begins.calls k5 _ _ ((rd_T28 t285 x12_5).f0) _ _ ((rd_T28 t285 x10_4).f0) true _ ?side1 ?side2 ?side3 ?side4 A61.out).mono ?_); (case side1 => repeat (first | exact (by repeat (first | (with_reducible exact HR311_0.out) | (with_reducible refine Kd.C_alloc ?_ _) | (with_reducible refine Kd.C_drewN ?_ _) | (with_reducible refine Kd.C_drew ?_) | exact HR311_0.out)) | (with_reducible refine Kd.C_alloc ?_ _) | (with_reducible refine Kd.C_drewN ?_ _) | (with_reducible refine Kd.C_drew ?_))); (case side2 => exact HC311_0.out); (case side3 => repeat (first | exact (by repeat (first | (with_reducible exact HR312_0.out) | (with_reducible refine Kd.C_alloc ?_ _) | (with_reducible refine Kd.C_drewN ?_ _) | (with_reducible refine Kd.C_drew ?_) | exact HR312_0.out)) | (with_reducible refine Kd.C_alloc ?_ _) | (with_reducible refine Kd.C_drewN ?_ _) | (with_reducible refine Kd.C_drew ?_))); (case side4 => exact HC312_0.out); rintro e w' ⟨rfl, ⟨nd, rfl⟩⟩; (try first | exact ⟨rfl, _, World.drewN_drewN _ _ _⟩ | exact ⟨rfl, _, Eq.trans (World.drewN_drewN _ _ _) (congrArg (World.drewN _) (Nat.add_assoc _ _ _))⟩); have p314 : 0 ≤ (x12_5 : Int) := of_decide_eq_true (by first | (with_reducible assumption) | assumption); have q314 : x12_5 < (t285.length : Int) := of_decide_eq_true (by first | (with_reducible assumption) | assumption); obtain ⟨ad314, A314_0, c314_0, e314, hx314_0, hx314_1, hl314_0, hi314_0⟩ := at_T28 (Kd.N_reads' HO_5.out).2.2 x12_5 p314 q314; obtain rfl : ad309 = ad314 := (by injection e314); obtain ⟨ce314, hce314, hMe314, hcc314⟩ := Kd.N_get HO_5.out z28 x12_5 p314 (by first | exact q314 | exact of_decide_eq_true (by first | (with_reducible assumption) | assumption) | (have e_ := (Kd.N_reads' HO_5.out).1; omega)); obtain ⟨ua314_0, uc314_0, rfl, ul314_0, ge314_0⟩ := k28_openF hMe314; have hv314_0 := hcc314 0 _ rfl; rw [Nat.add_zero] at hv314_0; replace hv314_0 := Option.some.inj (hv314_0.symm.trans hx314_0); injection hv314_0 with hva_ hvn_ hvc_; rw [hva_] at ge314_0; rw [hvc_] at ul314_0; have HL314_0 := Aside0.mk (show Kd.V (Kd.int .i64) 3 _ w.heap.size _ _ ((rd_T28 t285 x12_5).f0) from Kd.V_mk ul314_0 ge314_0); clear hva_ hvn_ hvc_ ge314_0 ul314_0; clear hcc314 hce314; have HR314_0 := Aside0.mk hi314_0; have HC314_0 := Aside0.mk hl314_0; clear hi314_0 hl314_0; replace p314 := eq_true p314; replace q314 := eq_true q314; have ea_ := Option.some.inj (hx309_0.symm.trans hx314_0); injection ea_ with ea_ en_ ec_; subst ea_; subst ec_; clear en_; have p315 : 0 ≤ (x11_5 : Int) := of_decide_eq_true (by first | (with_reducible assumption) | assumption); have q315 : x11_5 < (t285.length : Int) := of_decide_eq_true (by first | (with_reducible assumption) | assumption); obtain ⟨ad315, A315_0, c315_0, e315, hx315_0, hx315_1, hl315_0, hi315_0⟩ := at_T28 (Kd.N_reads' HO_5.out).2.2 x11_5 p315 q315; obtain rfl : ad309 = ad315 := (by injection e315); obtain ⟨ce315, hce315, hMe315, hcc315⟩ := Kd.N_get HO_5.out z28 x11_5 p315 (by first | exact q315 | exact of_decide_eq_true (by first | (with_reducible assumption) | assumption) | (have e_ := (Kd.N_reads' HO_5.out).1; omega)); obtain ⟨ua315_0, uc315_0, rfl, ul315_0, ge315_0⟩ := k28_openF hMe315; have hv315_0 := hcc315 0 _ rfl; rw [Nat.add_zero] at hv315_0; replace hv315_0 := Option.some.inj (hv315_0.symm.trans hx315_0); injection hv315_0 with hva_ hvn_ hvc_; rw [hva_] at ge315_0; rw [hvc_] at ul315_0; have HL315_0 := Aside0.mk (show Kd.V (Kd.int .i64) 3 _ w.heap.size _ _ ((rd_T28 t285 x11_5).f0) from Kd.V_mk ul315_0 ge315_0); clear hva_ hvn_ hvc_ ge315_0 ul315_0; clear hcc315 hce315; have HR315_0 := Aside0.mk hi315_0; have HC315_0 := Aside0.mk hl315_0; clear hi315_0 hl315_0; replace p315 := eq_true p315; replace q315 := eq_true q315)); try go_wp2_with (first | (go_at_call 13; (with_reducible refine (heptadref11_Begins.calls k5 _ _ ((rd_T28 t285 x12_5).f0) _ _ ((rd_T28 t285 x10_4).f0) true _ ?side1 ?side2 ?side3 ?side4 A61.out).mono ?_); (case side1 => repeat (first | exact (by repeat (first | (with_reducible exact HR311_0.out) | (with_reducible refine Kd.C_alloc ?_ _) | (with_reducible refine Kd.C_drewN ?_ _) | (with_reducible refine Kd.C_drew ?_) | exact HR311_0.out)) | (with_reducible refine Kd.C_alloc ?_ _) | (with_reducible refine Kd.C_drewN ?_ _) | (with_reducible refine Kd.C_drew ?_))); (case side2 => exact HC311_0.out); (case side3 => repeat (first | exact (by repeat (first | (with_reducible exact HR312_0.out) | (with_reducible refine Kd.C_alloc ?_ _) | (with_reducible refine Kd.C_drewN ?_ _) | (with_reducible refine Kd.C_drew ?_) | exact HR312_0.out)) | (with_reducible refine Kd.C_alloc ?_ _) | (with_reducible refine Kd.C_drewN ?_ _) | (with_reducible refine Kd.C_drew ?_))); (case side4 => exact HC312_0.out); rintro e w' ⟨rfl, ⟨nd, rfl⟩⟩; (try first | exact ⟨rfl, _, World.drewN_drewN _ _ _⟩ | exact ⟨rfl, _, Eq.trans (World.drewN_drewN _ _ _) (congrArg (World.drewN _) (Nat.add_assoc _ _ _))⟩); have p314 : 0 ≤ (x12_5 : Int) := of_decide_eq_true (by first | (with_reducible assumption) | assumption); have q314 : x12_5 < (t285.length : Int) := of_decide_eq_true (by first | (with_reducible assumption) | assumption); obtain ⟨ad314, A314_0, c314_0, e314, hx314_0, hx314_1, hl314_0, hi314_0⟩ := at_T28 (Kd.N_reads' HO_5.out).2.2 x12_5 p314 q314; obtain rfl : ad309 = ad314 := (by injection e314); obtain ⟨ce314, hce314, hMe314, hcc314⟩ := Kd.N_get HO_5.out z28 x12_5 p314 (by first | exact q314 | exact of_decide_eq_true (by first | (with_reducible assumption) | assumption) | (have e_ := (Kd.N_reads' HO_5.out).1; omega)); obtain ⟨ua314_0, uc314_0, rfl, ul314_0, ge314_0⟩ := k28_openF hMe314; have hv314_0 := hcc314 0 _ rfl; rw [Nat.add_zero] at hv314_0; replace hv314_0 := Option.some.inj (hv314_0.symm.trans hx314_0); injection hv314_0 with hva_ hvn_ hvc_; rw [hva_] at ge314_0; rw [hvc_] at ul314_0; have HL314_0 := Aside0.mk (show Kd.V (Kd.int .i64) 3 _ w.heap.size _ _ ((rd_T28 t285 x12_5).f0) from Kd.V_mk ul314_0 ge314_0); clear hva_ hvn_ hvc_ ge314_0 ul314_0; clear hcc314 hce314; have HR314_0 := Aside0.mk hi314_0; have HC314_0 := Aside0.mk hl314_0; clear hi314_0 hl314_0; replace p314 := eq_true p314; replace q314 := eq_true q314; have ea_ := Option.some.inj (hx309_0.symm.trans hx314_0); injection ea_ with ea_ en_ ec_; subst ea_; subst ec_; clear en_; have p315 : 0 ≤ (x11_5 : Int) := of_decide_eq_true (by first | (with_reducible assumption) | assumption); have q315 : x11_5 < (t285.length : Int) := of_decide_eq_true (by first | (with_reducible assumption) | assumption); obtain ⟨ad315, A315_0, c315_0, e315, hx315_0, hx315_1, hl315_0, hi315_0⟩ := at_T28 (Kd.N_reads' HO_5.out).2.2 x11_5 p315 q315; obtain rfl : ad309 = ad315 := (by injection e315); obtain ⟨ce315, hce315, hMe315, hcc315⟩ := Kd.N_get HO_5.out z28 x11_5 p315 (by first | exact q315 | exact of_decide_eq_true (by first | (with_reducible assumption) | assumption) | (have e_ := (Kd.N_reads' HO_5.out).1; omega)); obtain ⟨ua315_0, uc315_0, rfl, ul315_0, ge315_0⟩ := k28_openF hMe315; have hv315_0 := hcc315 0 _ rfl; rw [Nat.add_zero] at hv315_0; replace hv315_0 := Option.some.inj (hv315_0.symm.trans hx315_0); injection hv315_0 with hva_ hvn_ hvc_; rw [hva_] at ge315_0; rw [hvc_] at ul315_0; have HL315_0 := Aside0.mk (show Kd.V (Kd.int .i64) 3 _ w.heap.size _ _ ((rd_T28 t285 x11_5).f0) from Kd.V_mk ul315_0 ge315_0); clear hva_ hvn_ hvc_ ge315_0 ul315_0; clear hcc315 hce315; have HR315_0 := Aside0.mk hi315_0; have HC315_0 := Aside0.mk hl315_0; clear hi315_0 hl315_0; replace p315 := eq_true p315; replace q315 := eq_true q315)))
                         go_roundg k5
                         case measure => have := HJ2.out; have := HJ16.out; have := HJ36.out; have := HK4.out; have := HK5.out; omega
                         case rel => exact ⟨(x12_5), (wrap64 (x12_5 + 1)), (by first | rfl | (simp; done) | (simp [*]; done)), (by first | rfl | (simp; done) | (simp [*]; done)), H', ⟨by have := HJ2.out; have := HJ16.out; have := HJ36.out; have := HK4.out; have := HK5.out; omega⟩, ⟨by (with_reducible repeat (first | apply Kd.N_alloc | apply Kd.N_drewN | apply Kd.N_drew)); exact HO_5.out⟩, ⟨by (with_reducible repeat (first | apply Kd.R_alloc | apply Kd.R_drewN | apply Kd.R_drew)); exact HO_302000.out⟩, ⟨by (with_reducible repeat (first | apply Kd.R_alloc | apply Kd.R_drewN | apply Kd.R_drew)); exact HO_308000.out⟩, ⟨by (with_reducible repeat (first | refine blk_drewN ?_ _ | refine blk_drew ?_ | refine blk_alloc ?_ _)); exact BK301.out⟩, ⟨by (with_reducible repeat (first | refine blk_drewN ?_ _ | refine blk_drew ?_ | refine blk_alloc ?_ _)); exact BK307.out⟩, ⟨by repeat (first | (with_reducible first | exact HB.out | apply below_alloc | apply pw_below_drewN | apply below_drew1 | refine below_set ?_ GE301.out | refine below_set ?_ GE307.out) | exact HB.out)⟩⟩
                        ·rw [if_neg c66] at H
                         have c66b0 : decide ((((rd_T28 t285 x11_5).f0).length : Int) < (((rd_T28 t285 x12_5).f0).length : Int)) = false := decide_eq_false c66
                         have c66b1 : decide (((rd_T28 t285 x11_5).f0).length < ((rd_T28 t285 x12_5).f0).length) = false := decide_eq_false (fun h => c66 (Int.ofNat_lt.mpr h))
                         clear c66
                         have H' := Aside0.mk H
                         clear H
                         have p309 : 0 ≤ (x12_5 : Int) := of_decide_eq_true (by first | (with_reducible assumption) | assumption)
                         have q309 : x12_5 < (t285.length : Int) := of_decide_eq_true (by first | (with_reducible assumption) | assumption)
                         obtain ⟨ad309, A309_0, c309_0, e309, hx309_0, hx309_1, hl309_0, hi309_0⟩ := at_T28 (Kd.N_reads' HO_5.out).2.2 x12_5 p309 q309
                         cases e309
                         obtain ⟨ce309, hce309, hMe309, hcc309⟩ := Kd.N_get HO_5.out z28 x12_5 p309 (by first | exact q309 | exact of_decide_eq_true (by first | (with_reducible assumption) | assumption) | (have e_ := (Kd.N_reads' HO_5.out).1; omega))
                         obtain ⟨ua309_0, uc309_0, rfl, ul309_0, ge309_0⟩ := k28_openF hMe309
                         have hv309_0 := hcc309 0 _ rfl
                         rw [Nat.add_zero] at hv309_0
                         replace hv309_0 := Option.some.inj (hv309_0.symm.trans hx309_0)
                         injection hv309_0 with hva_ hvn_ hvc_
                         rw [hva_] at ge309_0
                         rw [hvc_] at ul309_0
                         have HL309_0 := Aside0.mk (show Kd.V (Kd.int .i64) 3 _ w.heap.size _ _ ((rd_T28 t285 x12_5).f0) from Kd.V_mk ul309_0 ge309_0)
                         clear hva_ hvn_ hvc_ ge309_0 ul309_0
                         clear hcc309 hce309
                         have HR309_0 := Aside0.mk hi309_0
                         have HC309_0 := Aside0.mk hl309_0
                         clear hi309_0 hl309_0
                         replace p309 := eq_true p309
                         replace q309 := eq_true q309
                         have p310 : 0 ≤ (x10_4 : Int) := of_decide_eq_true (by first | (with_reducible assumption) | assumption)
                         have q310 : x10_4 < (t285.length : Int) := of_decide_eq_true (by first | (with_reducible assumption) | assumption)
                         obtain ⟨ad310, A310_0, c310_0, e310, hx310_0, hx310_1, hl310_0, hi310_0⟩ := at_T28 (Kd.N_reads' HO_5.out).2.2 x10_4 p310 q310
                         obtain rfl : ad309 = ad310 := (by injection e310)
                         obtain ⟨ce310, hce310, hMe310, hcc310⟩ := Kd.N_get HO_5.out z28 x10_4 p310 (by first | exact q310 | exact of_decide_eq_true (by first | (with_reducible assumption) | assumption) | (have e_ := (Kd.N_reads' HO_5.out).1; omega))
                         obtain ⟨ua310_0, uc310_0, rfl, ul310_0, ge310_0⟩ := k28_openF hMe310
                         have hv310_0 := hcc310 0 _ rfl
                         rw [Nat.add_zero] at hv310_0
                         replace hv310_0 := Option.some.inj (hv310_0.symm.trans hx310_0)
                         injection hv310_0 with hva_ hvn_ hvc_
                         rw [hva_] at ge310_0
                         rw [hvc_] at ul310_0
                         have HL310_0 := Aside0.mk (show Kd.V (Kd.int .i64) 3 _ w.heap.size _ _ ((rd_T28 t285 x10_4).f0) from Kd.V_mk ul310_0 ge310_0)
                         clear hva_ hvn_ hvc_ ge310_0 ul310_0
                         clear hcc310 hce310
                         have HR310_0 := Aside0.mk hi310_0
                         have HC310_0 := Aside0.mk hl310_0
                         clear hi310_0 hl310_0
                         replace p310 := eq_true p310
                         replace q310 := eq_true q310
                         have p311 : 0 ≤ (x12_5 : Int) := of_decide_eq_true (by first | (with_reducible assumption) | assumption)
                         have q311 : x12_5 < (t285.length : Int) := of_decide_eq_true (by first | (with_reducible assumption) | assumption)
                         obtain ⟨ad311, A311_0, c311_0, e311, hx311_0, hx311_1, hl311_0, hi311_0⟩ := at_T28 (Kd.N_reads' HO_5.out).2.2 x12_5 p311 q311
                         obtain rfl : ad309 = ad311 := (by injection e311)
                         obtain ⟨ce311, hce311, hMe311, hcc311⟩ := Kd.N_get HO_5.out z28 x12_5 p311 (by first | exact q311 | exact of_decide_eq_true (by first | (with_reducible assumption) | assumption) | (have e_ := (Kd.N_reads' HO_5.out).1; omega))
                         obtain ⟨ua311_0, uc311_0, rfl, ul311_0, ge311_0⟩ := k28_openF hMe311
                         have hv311_0 := hcc311 0 _ rfl
                         rw [Nat.add_zero] at hv311_0
                         replace hv311_0 := Option.some.inj (hv311_0.symm.trans hx311_0)
                         injection hv311_0 with hva_ hvn_ hvc_
                         rw [hva_] at ge311_0
                         rw [hvc_] at ul311_0
                         have HL311_0 := Aside0.mk (show Kd.V (Kd.int .i64) 3 _ w.heap.size _ _ ((rd_T28 t285 x12_5).f0) from Kd.V_mk ul311_0 ge311_0)
                         clear hva_ hvn_ hvc_ ge311_0 ul311_0
                         clear hcc311 hce311
                         have HR311_0 := Aside0.mk hi311_0
                         have HC311_0 := Aside0.mk hl311_0
                         clear hi311_0 hl311_0
                         replace p311 := eq_true p311
                         replace q311 := eq_true q311
                         have ea_ := Option.some.inj (hx309_0.symm.trans hx311_0)
                         injection ea_ with ea_ en_ ec_
                         subst ea_
                         subst ec_
                         clear en_
                         have p312 : 0 ≤ (x10_4 : Int) := of_decide_eq_true (by first | (with_reducible assumption) | assumption)
                         have q312 : x10_4 < (t285.length : Int) := of_decide_eq_true (by first | (with_reducible assumption) | assumption)
                         obtain ⟨ad312, A312_0, c312_0, e312, hx312_0, hx312_1, hl312_0, hi312_0⟩ := at_T28 (Kd.N_reads' HO_5.out).2.2 x10_4 p312 q312
                         obtain rfl : ad309 = ad312 := (by injection e312)
                         obtain ⟨ce312, hce312, hMe312, hcc312⟩ := Kd.N_get HO_5.out z28 x10_4 p312 (by first | exact q312 | exact of_decide_eq_true (by first | (with_reducible assumption) | assumption) | (have e_ := (Kd.N_reads' HO_5.out).1; omega))
                         obtain ⟨ua312_0, uc312_0, rfl, ul312_0, ge312_0⟩ := k28_openF hMe312
                         have hv312_0 := hcc312 0 _ rfl
                         rw [Nat.add_zero] at hv312_0
                         replace hv312_0 := Option.some.inj (hv312_0.symm.trans hx312_0)
                         injection hv312_0 with hva_ hvn_ hvc_
                         rw [hva_] at ge312_0
                         rw [hvc_] at ul312_0
                         have HL312_0 := Aside0.mk (show Kd.V (Kd.int .i64) 3 _ w.heap.size _ _ ((rd_T28 t285 x10_4).f0) from Kd.V_mk ul312_0 ge312_0)
                         clear hva_ hvn_ hvc_ ge312_0 ul312_0
                         clear hcc312 hce312
                         have HR312_0 := Aside0.mk hi312_0
                         have HC312_0 := Aside0.mk hl312_0
                         clear hi312_0 hl312_0
                         replace p312 := eq_true p312
                         replace q312 := eq_true q312
                         have ea_ := Option.some.inj (hx310_0.symm.trans hx312_0)
                         injection ea_ with ea_ en_ ec_
                         subst ea_
                         subst ec_
                         clear en_
                         go_wp2_with (first | (go_at_call 13; (with_reducible refine (heptadref11_Begins.calls k5 _ _ ((rd_T28 t285 x12_5).f0) _ _ ((rd_T28 t285 x10_4).f0) true _ ?side1 ?side2 ?side3 ?side4 A61.out).mono ?_); (case side1 => repeat (first | exact (by repeat (first | (with_reducible exact HR311_0.out) | (with_reducible refine Kd.C_alloc ?_ _) | (with_reducible refine Kd.C_drewN ?_ _) | (with_reducible refine Kd.C_drew ?_) | exact HR311_0.out)) | (with_reducible refine Kd.C_alloc ?_ _) | (with_reducible refine Kd.C_drewN ?_ _) | (with_reducible refine Kd.C_drew ?_))); (case side2 => exact HC311_0.out); (case side3 => repeat (first | exact (by repeat (first | (with_reducible exact HR312_0.out) | (with_reducible refine Kd.C_alloc ?_ _) | (with_reducible refine Kd.C_drewN ?_ _) | (with_reducible refine Kd.C_drew ?_) | exact HR312_0.out)) | (with_reducible refine Kd.C_alloc ?_ _) | (with_reducible refine Kd.C_drewN ?_ _) | (with_reducible refine Kd.C_drew ?_))); (case side4 => exact HC312_0.out); rintro e w' ⟨rfl, ⟨nd, rfl⟩⟩; (try first | exact ⟨rfl, _, World.drewN_drewN _ _ _⟩ | exact ⟨rfl, _, Eq.trans (World.drewN_drewN _ _ _) (congrArg (World.drewN _) (Nat.add_assoc _ _ _))⟩); have p314 : 0 ≤ (x12_5 : Int) := of_decide_eq_true (by first | (with_reducible assumption) | assumption); have q314 : x12_5 < (t285.length : Int) := of_decide_eq_true (by first | (with_reducible assumption) | assumption); obtain ⟨ad314, A314_0, c314_0, e314, hx314_0, hx314_1, hl314_0, hi314_0⟩ := at_T28 (Kd.N_reads' HO_5.out).2.2 x12_5 p314 q314; obtain rfl : ad309 = ad314 := (by injection e314); obtain ⟨ce314, hce314, hMe314, hcc314⟩ := Kd.N_get HO_5.out z28 x12_5 p314 (by first | exact q314 | exact of_decide_eq_true (by first | (with_reducible assumption) | assumption) | (have e_ := (Kd.N_reads' HO_5.out).1; omega)); obtain ⟨ua314_0, uc314_0, rfl, ul314_0, ge314_0⟩ := k28_openF hMe314; have hv314_0 := hcc314 0 _ rfl; rw [Nat.add_zero] at hv314_0; replace hv314_0 := Option.some.inj (hv314_0.symm.trans hx314_0); injection hv314_0 with hva_ hvn_ hvc_; rw [hva_] at ge314_0; rw [hvc_] at ul314_0; have HL314_0 := Aside0.mk (show Kd.V (Kd.int .i64) 3 _ w.heap.size _ _ ((rd_T28 t285 x12_5).f0) from Kd.V_mk ul314_0 ge314_0); clear hva_ hvn_ hvc_ ge314_0 ul314_0; clear hcc314 hce314; have HR314_0 := Aside0.mk hi314_0; have HC314_0 := Aside0.mk hl314_0; clear hi314_0 hl314_0; replace p314 := eq_true p314; replace q314 := eq_true q314; have ea_ := Option.some.inj (hx309_0.symm.trans hx314_0); injection ea_ with ea_ en_ ec_; subst ea_; subst ec_; clear en_; have p315 : 0 ≤ (x11_5 : Int) := of_decide_eq_true (by first | (with_reducible assumption) | assumption); have q315 : x11_5 < (t285.length : Int) := of_decide_eq_true (by first | (with_reducible assumption) | assumption); obtain ⟨ad315, A315_0, c315_0, e315, hx315_0, hx315_1, hl315_0, hi315_0⟩ := at_T28 (Kd.N_reads' HO_5.out).2.2 x11_5 p315 q315; obtain rfl : ad309 = ad315 := (by injection e315); obtain ⟨ce315, hce315, hMe315, hcc315⟩ := Kd.N_get HO_5.out z28 x11_5 p315 (by first | exact q315 | exact of_decide_eq_true (by first | (with_reducible assumption) | assumption) | (have e_ := (Kd.N_reads' HO_5.out).1; omega)); obtain ⟨ua315_0, uc315_0, rfl, ul315_0, ge315_0⟩ := k28_openF hMe315; have hv315_0 := hcc315 0 _ rfl; rw [Nat.add_zero] at hv315_0; replace hv315_0 := Option.some.inj (hv315_0.symm.trans hx315_0); injection hv315_0 with hva_ hvn_ hvc_; rw [hva_] at ge315_0; rw [hvc_] at ul315_0; have HL315_0 := Aside0.mk (show Kd.V (Kd.int .i64) 3 _ w.heap.size _ _ ((rd_T28 t285 x11_5).f0) from Kd.V_mk ul315_0 ge315_0); clear hva_ hvn_ hvc_ ge315_0 ul315_0; clear hcc315 hce315; have HR315_0 := Aside0.mk hi315_0; have HC315_0 := Aside0.mk hl315_0; clear hi315_0 hl315_0; replace p315 := eq_true p315; replace q315 := eq_true q315))
                         repeat (go_quiet (first | (go_at_call 13; (with_reducible refine (heptadref11_Begins.calls k5 _ _ ((rd_T28 t285 x12_5).f0) _ _ ((rd_T28 t285 x10_4).f0) true _ ?side1 ?side2 ?side3 ?side4 A61.out).mono ?_); (case side1 => repeat (first | exact (by repeat (first | (with_reducible exact HR311_0.out) | (with_reducible refine Kd.C_alloc ?_ _) | (with_reducible refine Kd.C_drewN ?_ _) | (with_reducible refine Kd.C_drew ?_) | exact HR311_0.out)) | (with_reducible refine Kd.C_alloc ?_ _) | (with_reducible refine Kd.C_drewN ?_ _) | (with_reducible refine Kd.C_drew ?_))); (case side2 => exact HC311_0.out); (case side3 => repeat (first | exact (by repeat (first | (with_reducible exact HR312_0.out) | (with_reducible refine Kd.C_alloc ?_ _) | (with_reducible refine Kd.C_drewN ?_ _) | (with_reducible refine Kd.C_drew ?_) | exact HR312_0.out)) | (with_reducible refine Kd.C_alloc ?_ _) | (with_reducible refine Kd.C_drewN ?_ _) | (with_reducible refine Kd.C_drew ?_))); (case side4 => exact HC312_0.out); rintro e w' ⟨rfl, ⟨nd, rfl⟩⟩; (try first | exact ⟨rfl, _, World.drewN_drewN _ _ _⟩ | exact ⟨rfl, _, Eq.trans (World.drewN_drewN _ _ _) (congrArg (World.drewN _) (Nat.add_assoc _ _ _))⟩); have p314 : 0 ≤ (x12_5 : Int) := of_decide_eq_true (by first | (with_reducible assumption) | assumption); have q314 : x12_5 < (t285.length : Int) := of_decide_eq_true (by first | (with_reducible assumption) | assumption); obtain ⟨ad314, A314_0, c314_0, e314, hx314_0, hx314_1, hl314_0, hi314_0⟩ := at_T28 (Kd.N_reads' HO_5.out).2.2 x12_5 p314 q314; obtain rfl : ad309 = ad314 := (by injection e314); obtain ⟨ce314, hce314, hMe314, hcc314⟩ := Kd.N_get HO_5.out z28 x12_5 p314 (by first | exact q314 | exact of_decide_eq_true (by first | (with_reducible assumption) | assumption) | (have e_ := (Kd.N_reads' HO_5.out).1; omega)); obtain ⟨ua314_0, uc314_0, rfl, ul314_0, ge314_0⟩ := k28_openF hMe314; have hv314_0 := hcc314 0 _ rfl; rw [Nat.add_zero] at hv314_0; replace hv314_0 := Option.some.inj (hv314_0.symm.trans hx314_0); injection hv314_0 with hva_ hvn_ hvc_; rw [hva_] at ge314_0; rw [hvc_] at ul314_0; have HL314_0 := Aside0.mk (show Kd.V (Kd.int .i64) 3 _ w.heap.size _ _ ((rd_T28 t285 x12_5).f0) from Kd.V_mk ul314_0 ge314_0); clear hva_ hvn_ hvc_ ge314_0 ul314_0; clear hcc314 hce314; have HR314_0 := Aside0.mk hi314_0; have HC314_0 := Aside0.mk hl314_0; clear hi314_0 hl314_0; replace p314 := eq_true p314; replace q314 := eq_true q314; have ea_ := Option.some.inj (hx309_0.symm.trans hx314_0); injection ea_ with ea_ en_ ec_; subst ea_; subst ec_; clear en_; have p315 : 0 ≤ (x11_5 : Int) := of_decide_eq_true (by first | (with_reducible assumption) | assumption); have q315 : x11_5 < (t285.length : Int) := of_decide_eq_true (by first | (with_reducible assumption) | assumption); obtain ⟨ad315, A315_0, c315_0, e315, hx315_0, hx315_1, hl315_0, hi315_0⟩ := at_T28 (Kd.N_reads' HO_5.out).2.2 x11_5 p315 q315; obtain rfl : ad309 = ad315 := (by injection e315); obtain ⟨ce315, hce315, hMe315, hcc315⟩ := Kd.N_get HO_5.out z28 x11_5 p315 (by first | exact q315 | exact of_decide_eq_true (by first | (with_reducible assumption) | assumption) | (have e_ := (Kd.N_reads' HO_5.out).1; omega)); obtain ⟨ua315_0, uc315_0, rfl, ul315_0, ge315_0⟩ := k28_openF hMe315; have hv315_0 := hcc315 0 _ rfl; rw [Nat.add_zero] at hv315_0; replace hv315_0 := Option.some.inj (hv315_0.symm.trans hx315_0); injection hv315_0 with hva_ hvn_ hvc_; rw [hva_] at ge315_0; rw [hvc_] at ul315_0; have HL315_0 := Aside0.mk (show Kd.V (Kd.int .i64) 3 _ w.heap.size _ _ ((rd_T28 t285 x11_5).f0) from Kd.V_mk ul315_0 ge315_0); clear hva_ hvn_ hvc_ ge315_0 ul315_0; clear hcc315 hce315; have HR315_0 := Aside0.mk hi315_0; have HC315_0 := Aside0.mk hl315_0; clear hi315_0 hl315_0; replace p315 := eq_true p315; replace q315 := eq_true q315)); try go_wp2_with (first | (go_at_call 13; (with_reducible refine (heptadref11_Begins.calls k5 _ _ ((rd_T28 t285 x12_5).f0) _ _ ((rd_T28 t285 x10_4).f0) true _ ?side1 ?side2 ?side3 ?side4 A61.out).mono ?_); (case side1 => repeat (first | exact (by repeat (first | (with_reducible exact HR311_0.out) | (with_reducible refine Kd.C_alloc ?_ _) | (with_reducible refine Kd.C_drewN ?_ _) | (with_reducible refine Kd.C_drew ?_) | exact HR311_0.out)) | (with_reducible refine Kd.C_alloc ?_ _) | (with_reducible refine Kd.C_drewN ?_ _) | (with_reducible refine Kd.C_drew ?_))); (case side2 => exact HC311_0.out); (case side3 => repeat (first | exact (by repeat (first | (with_reducible exact HR312_0.out) | (with_reducible refine Kd.C_alloc ?_ _) | (with_reducible refine Kd.C_drewN ?_ _) | (with_reducible refine Kd.C_drew ?_) | exact HR312_0.out)) | (with_reducible refine Kd.C_alloc ?_ _) | (with_reducible refine Kd.C_drewN ?_ _) | (with_reducible refine Kd.C_drew ?_))); (case side4 => exact HC312_0.out); rintro e w' ⟨rfl, ⟨nd, rfl⟩⟩; (try first | exact ⟨rfl, _, World.drewN_drewN _ _ _⟩ | exact ⟨rfl, _, Eq.trans (World.drewN_drewN _ _ _) (congrArg (World.drewN _) (Nat.add_assoc _ _ _))⟩); have p314 : 0 ≤ (x12_5 : Int) := of_decide_eq_true (by first | (with_reducible assumption) | assumption); have q314 : x12_5 < (t285.length : Int) := of_decide_eq_true (by first | (with_reducible assumption) | assumption); obtain ⟨ad314, A314_0, c314_0, e314, hx314_0, hx314_1, hl314_0, hi314_0⟩ := at_T28 (Kd.N_reads' HO_5.out).2.2 x12_5 p314 q314; obtain rfl : ad309 = ad314 := (by injection e314); obtain ⟨ce314, hce314, hMe314, hcc314⟩ := Kd.N_get HO_5.out z28 x12_5 p314 (by first | exact q314 | exact of_decide_eq_true (by first | (with_reducible assumption) | assumption) | (have e_ := (Kd.N_reads' HO_5.out).1; omega)); obtain ⟨ua314_0, uc314_0, rfl, ul314_0, ge314_0⟩ := k28_openF hMe314; have hv314_0 := hcc314 0 _ rfl; rw [Nat.add_zero] at hv314_0; replace hv314_0 := Option.some.inj (hv314_0.symm.trans hx314_0); injection hv314_0 with hva_ hvn_ hvc_; rw [hva_] at ge314_0; rw [hvc_] at ul314_0; have HL314_0 := Aside0.mk (show Kd.V (Kd.int .i64) 3 _ w.heap.size _ _ ((rd_T28 t285 x12_5).f0) from Kd.V_mk ul314_0 ge314_0); clear hva_ hvn_ hvc_ ge314_0 ul314_0; clear hcc314 hce314; have HR314_0 := Aside0.mk hi314_0; have HC314_0 := Aside0.mk hl314_0; clear hi314_0 hl314_0; replace p314 := eq_true p314; replace q314 := eq_true q314; have ea_ := Option.some.inj (hx309_0.symm.trans hx314_0); injection ea_ with ea_ en_ ec_; subst ea_; subst ec_; clear en_; have p315 : 0 ≤ (x11_5 : Int) := of_decide_eq_true (by first | (with_reducible assumption) | assumption); have q315 : x11_5 < (t285.length : Int) := of_decide_eq_true (by first | (with_reducible assumption) | assumption); obtain ⟨ad315, A315_0, c315_0, e315, hx315_0, hx315_1, hl315_0, hi315_0⟩ := at_T28 (Kd.N_reads' HO_5.out).2.2 x11_5 p315 q315; obtain rfl : ad309 = ad315 := (by injection e315); obtain ⟨ce315, hce315, hMe315, hcc315⟩ := Kd.N_get HO_5.out z28 x11_5 p315 (by first | exact q315 | exact of_decide_eq_true (by first | (with_reducible assumption) | assumption) | (have e_ := (Kd.N_reads' HO_5.out).1; omega)); obtain ⟨ua315_0, uc315_0, rfl, ul315_0, ge315_0⟩ := k28_openF hMe315; have hv315_0 := hcc315 0 _ rfl; rw [Nat.add_zero] at hv315_0; replace hv315_0 := Option.some.inj (hv315_0.symm.trans hx315_0); injection hv315_0 with hva_ hvn_ hvc_; rw [hva_] at ge315_0; rw [hvc_] at ul315_0; have HL315_0 := Aside0.mk (show Kd.V (Kd.int .i64) 3 _ w.heap.size _ _ ((rd_T28 t285 x11_5).f0) from Kd.V_mk ul315_0 ge315_0); clear hva_ hvn_ hvc_ ge315_0 ul315_0; clear hcc315 hce315; have HR315_0 := Aside0.mk hi315_0; have HC315_0 := Aside0.mk hl315_0; clear hi315_0 hl315_0; replace p315 := eq_true p315; replace q315 := eq_true q315)))
                         go_roundg k5
                         case measure => have := HJ2.out; have := HJ16.out; have := HJ36.out; have := HK4.out; have := HK5.out; omega
                         case rel => exact ⟨(x11_5), (wrap64 (x12_5 + 1)), (by first | rfl | (simp; done) | (simp [*]; done)), (by first | rfl | (simp; done) | (simp [*]; done)), H', ⟨by have := HJ2.out; have := HJ16.out; have := HJ36.out; have := HK4.out; have := HK5.out; omega⟩, ⟨by (with_reducible repeat (first | apply Kd.N_alloc | apply Kd.N_drewN | apply Kd.N_drew)); exact HO_5.out⟩, ⟨by (with_reducible repeat (first | apply Kd.R_alloc | apply Kd.R_drewN | apply Kd.R_drew)); exact HO_302000.out⟩, ⟨by (with_reducible repeat (first | apply Kd.R_alloc | apply Kd.R_drewN | apply Kd.R_drew)); exact HO_308000.out⟩, ⟨by (with_reducible repeat (first | refine blk_drewN ?_ _ | refine blk_drew ?_ | refine blk_alloc ?_ _)); exact BK301.out⟩, ⟨by (with_reducible repeat (first | refine blk_drewN ?_ _ | refine blk_drew ?_ | refine blk_alloc ?_ _)); exact BK307.out⟩, ⟨by repeat (first | (with_reducible first | exact HB.out | apply below_alloc | apply pw_below_drewN | apply below_drew1 | refine below_set ?_ GE301.out | refine below_set ?_ GE307.out) | exact HB.out)⟩⟩
                       ·rw [if_neg c65] at H
                        exact absurd H (by simp)
                      ·rw [if_neg c64] at H
                       exact absurd H (by simp)
                    ·replace c62 := Bool.eq_false_iff.mpr c62
                     subst c62
                     have H1 : (heptadlaw11_AddressBrief.l1 k5 t285 x10_4 x11_5 (wrap64 (x12_5 + 1))) = some r := by rw [if_neg (show ¬ (false = true) by decide)] at H; exact H
                     clear H
                     have H := H1
                     clear H1
                     have H' := Aside0.mk H
                     clear H
                     have p309 : 0 ≤ (x12_5 : Int) := of_decide_eq_true (by first | (with_reducible assumption) | assumption)
                     have q309 : x12_5 < (t285.length : Int) := of_decide_eq_true (by first | (with_reducible assumption) | assumption)
                     obtain ⟨ad309, A309_0, c309_0, e309, hx309_0, hx309_1, hl309_0, hi309_0⟩ := at_T28 (Kd.N_reads' HO_5.out).2.2 x12_5 p309 q309
                     cases e309
                     obtain ⟨ce309, hce309, hMe309, hcc309⟩ := Kd.N_get HO_5.out z28 x12_5 p309 (by first | exact q309 | exact of_decide_eq_true (by first | (with_reducible assumption) | assumption) | (have e_ := (Kd.N_reads' HO_5.out).1; omega))
                     obtain ⟨ua309_0, uc309_0, rfl, ul309_0, ge309_0⟩ := k28_openF hMe309
                     have hv309_0 := hcc309 0 _ rfl
                     rw [Nat.add_zero] at hv309_0
                     replace hv309_0 := Option.some.inj (hv309_0.symm.trans hx309_0)
                     injection hv309_0 with hva_ hvn_ hvc_
                     rw [hva_] at ge309_0
                     rw [hvc_] at ul309_0
                     have HL309_0 := Aside0.mk (show Kd.V (Kd.int .i64) 3 _ w.heap.size _ _ ((rd_T28 t285 x12_5).f0) from Kd.V_mk ul309_0 ge309_0)
                     clear hva_ hvn_ hvc_ ge309_0 ul309_0
                     clear hcc309 hce309
                     have HR309_0 := Aside0.mk hi309_0
                     have HC309_0 := Aside0.mk hl309_0
                     clear hi309_0 hl309_0
                     replace p309 := eq_true p309
                     replace q309 := eq_true q309
                     have p310 : 0 ≤ (x10_4 : Int) := of_decide_eq_true (by first | (with_reducible assumption) | assumption)
                     have q310 : x10_4 < (t285.length : Int) := of_decide_eq_true (by first | (with_reducible assumption) | assumption)
                     obtain ⟨ad310, A310_0, c310_0, e310, hx310_0, hx310_1, hl310_0, hi310_0⟩ := at_T28 (Kd.N_reads' HO_5.out).2.2 x10_4 p310 q310
                     obtain rfl : ad309 = ad310 := (by injection e310)
                     obtain ⟨ce310, hce310, hMe310, hcc310⟩ := Kd.N_get HO_5.out z28 x10_4 p310 (by first | exact q310 | exact of_decide_eq_true (by first | (with_reducible assumption) | assumption) | (have e_ := (Kd.N_reads' HO_5.out).1; omega))
                     obtain ⟨ua310_0, uc310_0, rfl, ul310_0, ge310_0⟩ := k28_openF hMe310
                     have hv310_0 := hcc310 0 _ rfl
                     rw [Nat.add_zero] at hv310_0
                     replace hv310_0 := Option.some.inj (hv310_0.symm.trans hx310_0)
                     injection hv310_0 with hva_ hvn_ hvc_
                     rw [hva_] at ge310_0
                     rw [hvc_] at ul310_0
                     have HL310_0 := Aside0.mk (show Kd.V (Kd.int .i64) 3 _ w.heap.size _ _ ((rd_T28 t285 x10_4).f0) from Kd.V_mk ul310_0 ge310_0)
                     clear hva_ hvn_ hvc_ ge310_0 ul310_0
                     clear hcc310 hce310
                     have HR310_0 := Aside0.mk hi310_0
                     have HC310_0 := Aside0.mk hl310_0
                     clear hi310_0 hl310_0
                     replace p310 := eq_true p310
                     replace q310 := eq_true q310
                     have p311 : 0 ≤ (x12_5 : Int) := of_decide_eq_true (by first | (with_reducible assumption) | assumption)
                     have q311 : x12_5 < (t285.length : Int) := of_decide_eq_true (by first | (with_reducible assumption) | assumption)
                     obtain ⟨ad311, A311_0, c311_0, e311, hx311_0, hx311_1, hl311_0, hi311_0⟩ := at_T28 (Kd.N_reads' HO_5.out).2.2 x12_5 p311 q311
                     obtain rfl : ad309 = ad311 := (by injection e311)
                     obtain ⟨ce311, hce311, hMe311, hcc311⟩ := Kd.N_get HO_5.out z28 x12_5 p311 (by first | exact q311 | exact of_decide_eq_true (by first | (with_reducible assumption) | assumption) | (have e_ := (Kd.N_reads' HO_5.out).1; omega))
                     obtain ⟨ua311_0, uc311_0, rfl, ul311_0, ge311_0⟩ := k28_openF hMe311
                     have hv311_0 := hcc311 0 _ rfl
                     rw [Nat.add_zero] at hv311_0
                     replace hv311_0 := Option.some.inj (hv311_0.symm.trans hx311_0)
                     injection hv311_0 with hva_ hvn_ hvc_
                     rw [hva_] at ge311_0
                     rw [hvc_] at ul311_0
                     have HL311_0 := Aside0.mk (show Kd.V (Kd.int .i64) 3 _ w.heap.size _ _ ((rd_T28 t285 x12_5).f0) from Kd.V_mk ul311_0 ge311_0)
                     clear hva_ hvn_ hvc_ ge311_0 ul311_0
                     clear hcc311 hce311
                     have HR311_0 := Aside0.mk hi311_0
                     have HC311_0 := Aside0.mk hl311_0
                     clear hi311_0 hl311_0
                     replace p311 := eq_true p311
                     replace q311 := eq_true q311
                     have ea_ := Option.some.inj (hx309_0.symm.trans hx311_0)
                     injection ea_ with ea_ en_ ec_
                     subst ea_
                     subst ec_
                     clear en_
                     have p312 : 0 ≤ (x10_4 : Int) := of_decide_eq_true (by first | (with_reducible assumption) | assumption)
                     have q312 : x10_4 < (t285.length : Int) := of_decide_eq_true (by first | (with_reducible assumption) | assumption)
                     obtain ⟨ad312, A312_0, c312_0, e312, hx312_0, hx312_1, hl312_0, hi312_0⟩ := at_T28 (Kd.N_reads' HO_5.out).2.2 x10_4 p312 q312
                     obtain rfl : ad309 = ad312 := (by injection e312)
                     obtain ⟨ce312, hce312, hMe312, hcc312⟩ := Kd.N_get HO_5.out z28 x10_4 p312 (by first | exact q312 | exact of_decide_eq_true (by first | (with_reducible assumption) | assumption) | (have e_ := (Kd.N_reads' HO_5.out).1; omega))
                     obtain ⟨ua312_0, uc312_0, rfl, ul312_0, ge312_0⟩ := k28_openF hMe312
                     have hv312_0 := hcc312 0 _ rfl
                     rw [Nat.add_zero] at hv312_0
                     replace hv312_0 := Option.some.inj (hv312_0.symm.trans hx312_0)
                     injection hv312_0 with hva_ hvn_ hvc_
                     rw [hva_] at ge312_0
                     rw [hvc_] at ul312_0
                     have HL312_0 := Aside0.mk (show Kd.V (Kd.int .i64) 3 _ w.heap.size _ _ ((rd_T28 t285 x10_4).f0) from Kd.V_mk ul312_0 ge312_0)
                     clear hva_ hvn_ hvc_ ge312_0 ul312_0
                     clear hcc312 hce312
                     have HR312_0 := Aside0.mk hi312_0
                     have HC312_0 := Aside0.mk hl312_0
                     clear hi312_0 hl312_0
                     replace p312 := eq_true p312
                     replace q312 := eq_true q312
                     have ea_ := Option.some.inj (hx310_0.symm.trans hx312_0)
                     injection ea_ with ea_ en_ ec_
                     subst ea_
                     subst ec_
                     clear en_
                     go_wp2_with (first | (go_at_call 13; (with_reducible refine (heptadref11_Begins.calls k5 _ _ ((rd_T28 t285 x12_5).f0) _ _ ((rd_T28 t285 x10_4).f0) false _ ?side1 ?side2 ?side3 ?side4 A61.out).mono ?_); (case side1 => repeat (first | exact (by repeat (first | (with_reducible exact HR311_0.out) | (with_reducible refine Kd.C_alloc ?_ _) | (with_reducible refine Kd.C_drewN ?_ _) | (with_reducible refine Kd.C_drew ?_) | exact HR311_0.out)) | (with_reducible refine Kd.C_alloc ?_ _) | (with_reducible refine Kd.C_drewN ?_ _) | (with_reducible refine Kd.C_drew ?_))); (case side2 => exact HC311_0.out); (case side3 => repeat (first | exact (by repeat (first | (with_reducible exact HR312_0.out) | (with_reducible refine Kd.C_alloc ?_ _) | (with_reducible refine Kd.C_drewN ?_ _) | (with_reducible refine Kd.C_drew ?_) | exact HR312_0.out)) | (with_reducible refine Kd.C_alloc ?_ _) | (with_reducible refine Kd.C_drewN ?_ _) | (with_reducible refine Kd.C_drew ?_))); (case side4 => exact HC312_0.out); rintro e w' ⟨rfl, ⟨nd, rfl⟩⟩; (try first | exact ⟨rfl, _, World.drewN_drewN _ _ _⟩ | exact ⟨rfl, _, Eq.trans (World.drewN_drewN _ _ _) (congrArg (World.drewN _) (Nat.add_assoc _ _ _))⟩)))
                     repeat (go_quiet (first | (go_at_call 13; (with_reducible refine (heptadref11_Begins.calls k5 _ _ ((rd_T28 t285 x12_5).f0) _ _ ((rd_T28 t285 x10_4).f0) false _ ?side1 ?side2 ?side3 ?side4 A61.out).mono ?_); (case side1 => repeat (first | exact (by repeat (first | (with_reducible exact HR311_0.out) | (with_reducible refine Kd.C_alloc ?_ _) | (with_reducible refine Kd.C_drewN ?_ _) | (with_reducible refine Kd.C_drew ?_) | exact HR311_0.out)) | (with_reducible refine Kd.C_alloc ?_ _) | (with_reducible refine Kd.C_drewN ?_ _) | (with_reducible refine Kd.C_drew ?_))); (case side2 => exact HC311_0.out); (case side3 => repeat (first | exact (by repeat (first | (with_reducible exact HR312_0.out) | (with_reducible refine Kd.C_alloc ?_ _) | (with_reducible refine Kd.C_drewN ?_ _) | (with_reducible refine Kd.C_drew ?_) | exact HR312_0.out)) | (with_reducible refine Kd.C_alloc ?_ _) | (with_reducible refine Kd.C_drewN ?_ _) | (with_reducible refine Kd.C_drew ?_))); (case side4 => exact HC312_0.out); rintro e w' ⟨rfl, ⟨nd, rfl⟩⟩; (try first | exact ⟨rfl, _, World.drewN_drewN _ _ _⟩ | exact ⟨rfl, _, Eq.trans (World.drewN_drewN _ _ _) (congrArg (World.drewN _) (Nat.add_assoc _ _ _))⟩))); try go_wp2_with (first | (go_at_call 13; (with_reducible refine (heptadref11_Begins.calls k5 _ _ ((rd_T28 t285 x12_5).f0) _ _ ((rd_T28 t285 x10_4).f0) false _ ?side1 ?side2 ?side3 ?side4 A61.out).mono ?_); (case side1 => repeat (first | exact (by repeat (first | (with_reducible exact HR311_0.out) | (with_reducible refine Kd.C_alloc ?_ _) | (with_reducible refine Kd.C_drewN ?_ _) | (with_reducible refine Kd.C_drew ?_) | exact HR311_0.out)) | (with_reducible refine Kd.C_alloc ?_ _) | (with_reducible refine Kd.C_drewN ?_ _) | (with_reducible refine Kd.C_drew ?_))); (case side2 => exact HC311_0.out); (case side3 => repeat (first | exact (by repeat (first | (with_reducible exact HR312_0.out) | (with_reducible refine Kd.C_alloc ?_ _) | (with_reducible refine Kd.C_drewN ?_ _) | (with_reducible refine Kd.C_drew ?_) | exact HR312_0.out)) | (with_reducible refine Kd.C_alloc ?_ _) | (with_reducible refine Kd.C_drewN ?_ _) | (with_reducible refine Kd.C_drew ?_))); (case side4 => exact HC312_0.out); rintro e w' ⟨rfl, ⟨nd, rfl⟩⟩; (try first | exact ⟨rfl, _, World.drewN_drewN _ _ _⟩ | exact ⟨rfl, _, Eq.trans (World.drewN_drewN _ _ _) (congrArg (World.drewN _) (Nat.add_assoc _ _ _))⟩))))
                     go_roundg k5
                     case measure => have := HJ2.out; have := HJ16.out; have := HJ36.out; have := HK4.out; have := HK5.out; omega
                     case rel => exact ⟨(x11_5), (wrap64 (x12_5 + 1)), (by first | rfl | (simp; done) | (simp [*]; done)), (by first | rfl | (simp; done) | (simp [*]; done)), H', ⟨by have := HJ2.out; have := HJ16.out; have := HJ36.out; have := HK4.out; have := HK5.out; omega⟩, ⟨by (with_reducible repeat (first | apply Kd.N_alloc | apply Kd.N_drewN | apply Kd.N_drew)); exact HO_5.out⟩, ⟨by (with_reducible repeat (first | apply Kd.R_alloc | apply Kd.R_drewN | apply Kd.R_drew)); exact HO_302000.out⟩, ⟨by (with_reducible repeat (first | apply Kd.R_alloc | apply Kd.R_drewN | apply Kd.R_drew)); exact HO_308000.out⟩, ⟨by (with_reducible repeat (first | refine blk_drewN ?_ _ | refine blk_drew ?_ | refine blk_alloc ?_ _)); exact BK301.out⟩, ⟨by (with_reducible repeat (first | refine blk_drewN ?_ _ | refine blk_drew ?_ | refine blk_alloc ?_ _)); exact BK307.out⟩, ⟨by repeat (first | (with_reducible first | exact HB.out | apply below_alloc | apply pw_below_drewN | apply below_drew1 | refine below_set ?_ GE301.out | refine below_set ?_ GE307.out) | exact HB.out)⟩⟩
                   ·rw [if_neg c60] at H
                    have c60b0 : decide ((((rd_T28 t285 x12_5).f0).length : Int) < (((rd_T28 t285 x10_4).f0).length : Int)) = false := decide_eq_false c60
                    have c60b1 : decide (((rd_T28 t285 x12_5).f0).length < ((rd_T28 t285 x10_4).f0).length) = false := decide_eq_false (fun h => c60 (Int.ofNat_lt.mpr h))
                    clear c60
                    have H' := Aside0.mk H
                    clear H
                    have p309 : 0 ≤ (x12_5 : Int) := of_decide_eq_true (by first | (with_reducible assumption) | assumption)
                    have q309 : x12_5 < (t285.length : Int) := of_decide_eq_true (by first | (with_reducible assumption) | assumption)
                    obtain ⟨ad309, A309_0, c309_0, e309, hx309_0, hx309_1, hl309_0, hi309_0⟩ := at_T28 (Kd.N_reads' HO_5.out).2.2 x12_5 p309 q309
                    cases e309
                    obtain ⟨ce309, hce309, hMe309, hcc309⟩ := Kd.N_get HO_5.out z28 x12_5 p309 (by first | exact q309 | exact of_decide_eq_true (by first | (with_reducible assumption) | assumption) | (have e_ := (Kd.N_reads' HO_5.out).1; omega))
                    obtain ⟨ua309_0, uc309_0, rfl, ul309_0, ge309_0⟩ := k28_openF hMe309
                    have hv309_0 := hcc309 0 _ rfl
                    rw [Nat.add_zero] at hv309_0
                    replace hv309_0 := Option.some.inj (hv309_0.symm.trans hx309_0)
                    injection hv309_0 with hva_ hvn_ hvc_
                    rw [hva_] at ge309_0
                    rw [hvc_] at ul309_0
                    have HL309_0 := Aside0.mk (show Kd.V (Kd.int .i64) 3 _ w.heap.size _ _ ((rd_T28 t285 x12_5).f0) from Kd.V_mk ul309_0 ge309_0)
                    clear hva_ hvn_ hvc_ ge309_0 ul309_0
                    clear hcc309 hce309
                    have HR309_0 := Aside0.mk hi309_0
                    have HC309_0 := Aside0.mk hl309_0
                    clear hi309_0 hl309_0
                    replace p309 := eq_true p309
                    replace q309 := eq_true q309
                    have p310 : 0 ≤ (x10_4 : Int) := of_decide_eq_true (by first | (with_reducible assumption) | assumption)
                    have q310 : x10_4 < (t285.length : Int) := of_decide_eq_true (by first | (with_reducible assumption) | assumption)
                    obtain ⟨ad310, A310_0, c310_0, e310, hx310_0, hx310_1, hl310_0, hi310_0⟩ := at_T28 (Kd.N_reads' HO_5.out).2.2 x10_4 p310 q310
                    obtain rfl : ad309 = ad310 := (by injection e310)
                    obtain ⟨ce310, hce310, hMe310, hcc310⟩ := Kd.N_get HO_5.out z28 x10_4 p310 (by first | exact q310 | exact of_decide_eq_true (by first | (with_reducible assumption) | assumption) | (have e_ := (Kd.N_reads' HO_5.out).1; omega))
                    obtain ⟨ua310_0, uc310_0, rfl, ul310_0, ge310_0⟩ := k28_openF hMe310
                    have hv310_0 := hcc310 0 _ rfl
                    rw [Nat.add_zero] at hv310_0
                    replace hv310_0 := Option.some.inj (hv310_0.symm.trans hx310_0)
                    injection hv310_0 with hva_ hvn_ hvc_
                    rw [hva_] at ge310_0
                    rw [hvc_] at ul310_0
                    have HL310_0 := Aside0.mk (show Kd.V (Kd.int .i64) 3 _ w.heap.size _ _ ((rd_T28 t285 x10_4).f0) from Kd.V_mk ul310_0 ge310_0)
                    clear hva_ hvn_ hvc_ ge310_0 ul310_0
                    clear hcc310 hce310
                    have HR310_0 := Aside0.mk hi310_0
                    have HC310_0 := Aside0.mk hl310_0
                    clear hi310_0 hl310_0
                    replace p310 := eq_true p310
                    replace q310 := eq_true q310
                    go_wp2
                    repeat (go_quiet (fail); try go_wp2)
                    go_roundg k5
                    case measure => have := HJ2.out; have := HJ16.out; have := HJ36.out; have := HK4.out; have := HK5.out; omega
                    case rel => exact ⟨(x11_5), (wrap64 (x12_5 + 1)), (by first | rfl | (simp; done) | (simp [*]; done)), (by first | rfl | (simp; done) | (simp [*]; done)), H', ⟨by have := HJ2.out; have := HJ16.out; have := HJ36.out; have := HK4.out; have := HK5.out; omega⟩, ⟨by (with_reducible repeat (first | apply Kd.N_alloc | apply Kd.N_drewN | apply Kd.N_drew)); exact HO_5.out⟩, ⟨by (with_reducible repeat (first | apply Kd.R_alloc | apply Kd.R_drewN | apply Kd.R_drew)); exact HO_302000.out⟩, ⟨by (with_reducible repeat (first | apply Kd.R_alloc | apply Kd.R_drewN | apply Kd.R_drew)); exact HO_308000.out⟩, ⟨by (with_reducible repeat (first | refine blk_drewN ?_ _ | refine blk_drew ?_ | refine blk_alloc ?_ _)); exact BK301.out⟩, ⟨by (with_reducible repeat (first | refine blk_drewN ?_ _ | refine blk_drew ?_ | refine blk_alloc ?_ _)); exact BK307.out⟩, ⟨by repeat (first | (with_reducible first | exact HB.out | apply below_alloc | apply pw_below_drewN | apply below_drew1 | refine below_set ?_ GE301.out | refine below_set ?_ GE307.out) | exact HB.out)⟩⟩
                  ·rw [if_neg c59] at H
                   exact absurd H (by simp)
                 ·rw [if_neg c58] at H
                  exact absurd H (by simp)
                ·rw [if_neg c57] at H
                 exact absurd H (by simp)
               ·rw [if_neg c56] at H
                have c56b0 : decide (x12_5 < (t285.length : Int)) = false := decide_eq_false c56
                clear c56
                by_cases c67 : x11_5 ≥ 0
                ·rw [if_pos c67] at H
                 have c67b0 : decide (0 ≤ x11_5) = true := decide_eq_true c67
                 clear c67
                 by_cases c68 : 0 ≤ x11_5
                 ·rw [if_pos c68] at H
                  have c68b0 : decide (0 ≤ x11_5) = true := decide_eq_true c68
                  clear c68
                  by_cases c69 : x11_5 < (t285.length : Int)
                  ·rw [if_pos c69] at H
                   have c69b0 : decide (x11_5 < (t285.length : Int)) = true := decide_eq_true c69
                   clear c69
                   by_cases c70 : 0 ≤ x10_4
                   ·rw [if_pos c70] at H
                    have c70b0 : decide (0 ≤ x10_4) = true := decide_eq_true c70
                    clear c70
                    by_cases c71 : x10_4 < (t285.length : Int)
                    ·rw [if_pos c71] at H
                     have c71b0 : decide (x10_4 < (t285.length : Int)) = true := decide_eq_true c71
                     clear c71
                     by_cases c72 : ((rd_T28 t285 x11_5).f1) = ((rd_T28 t285 x10_4).f1)
                     ·rw [if_pos c72] at H
                      have c72b0 : (((rd_T28 t285 x11_5).f1) == ((rd_T28 t285 x10_4).f1)) = true := beq_iff_eq.mpr c72
                      have c72b1 : (((rd_T28 t285 x11_5).f1) != ((rd_T28 t285 x10_4).f1)) = false := bne_eq_false_iff_eq.mpr c72
                      clear c72
                      obtain rfl := Option.some.inj H
                      have p316 : 0 ≤ (x11_5 : Int) := of_decide_eq_true (by first | (with_reducible assumption) | assumption)
                      have q316 : x11_5 < (t285.length : Int) := of_decide_eq_true (by first | (with_reducible assumption) | assumption)
                      obtain ⟨ad316, A316_0, c316_0, e316, hx316_0, hx316_1, hl316_0, hi316_0⟩ := at_T28 (Kd.N_reads' HO_5.out).2.2 x11_5 p316 q316
                      cases e316
                      obtain ⟨ce316, hce316, hMe316, hcc316⟩ := Kd.N_get HO_5.out z28 x11_5 p316 (by first | exact q316 | exact of_decide_eq_true (by first | (with_reducible assumption) | assumption) | (have e_ := (Kd.N_reads' HO_5.out).1; omega))
                      obtain ⟨ua316_0, uc316_0, rfl, ul316_0, ge316_0⟩ := k28_openF hMe316
                      have hv316_0 := hcc316 0 _ rfl
                      rw [Nat.add_zero] at hv316_0
                      replace hv316_0 := Option.some.inj (hv316_0.symm.trans hx316_0)
                      injection hv316_0 with hva_ hvn_ hvc_
                      rw [hva_] at ge316_0
                      rw [hvc_] at ul316_0
                      have HL316_0 := Aside0.mk (show Kd.V (Kd.int .i64) 3 _ w.heap.size _ _ ((rd_T28 t285 x11_5).f0) from Kd.V_mk ul316_0 ge316_0)
                      clear hva_ hvn_ hvc_ ge316_0 ul316_0
                      clear hcc316 hce316
                      have HR316_0 := Aside0.mk hi316_0
                      have HC316_0 := Aside0.mk hl316_0
                      clear hi316_0 hl316_0
                      replace p316 := eq_true p316
                      replace q316 := eq_true q316
                      have p317 : 0 ≤ (x10_4 : Int) := of_decide_eq_true (by first | (with_reducible assumption) | assumption)
                      have q317 : x10_4 < (t285.length : Int) := of_decide_eq_true (by first | (with_reducible assumption) | assumption)
                      obtain ⟨ad317, A317_0, c317_0, e317, hx317_0, hx317_1, hl317_0, hi317_0⟩ := at_T28 (Kd.N_reads' HO_5.out).2.2 x10_4 p317 q317
                      obtain rfl : ad316 = ad317 := (by injection e317)
                      obtain ⟨ce317, hce317, hMe317, hcc317⟩ := Kd.N_get HO_5.out z28 x10_4 p317 (by first | exact q317 | exact of_decide_eq_true (by first | (with_reducible assumption) | assumption) | (have e_ := (Kd.N_reads' HO_5.out).1; omega))
                      obtain ⟨ua317_0, uc317_0, rfl, ul317_0, ge317_0⟩ := k28_openF hMe317
                      have hv317_0 := hcc317 0 _ rfl
                      rw [Nat.add_zero] at hv317_0
                      replace hv317_0 := Option.some.inj (hv317_0.symm.trans hx317_0)
                      injection hv317_0 with hva_ hvn_ hvc_
                      rw [hva_] at ge317_0
                      rw [hvc_] at ul317_0
                      have HL317_0 := Aside0.mk (show Kd.V (Kd.int .i64) 3 _ w.heap.size _ _ ((rd_T28 t285 x10_4).f0) from Kd.V_mk ul317_0 ge317_0)
                      clear hva_ hvn_ hvc_ ge317_0 ul317_0
                      clear hcc317 hce317
                      have HR317_0 := Aside0.mk hi317_0
                      have HC317_0 := Aside0.mk hl317_0
                      clear hi317_0 hl317_0
                      replace p317 := eq_true p317
                      replace q317 := eq_true q317
                      go_wp2
                      repeat (go_quiet (fail); try go_wp2)
                      go_ret
                      exact ⟨by first | rfl | (simp [errW_none, errW_some] <;> rfl) | (simp [*, errW_none, errW_some] <;> rfl), by repeat (first | (with_reducible first | exact HB.out | apply below_alloc | apply pw_below_drewN | apply below_drew1 | refine below_set ?_ GE301.out | refine below_set ?_ GE307.out) | exact HB.out)⟩
                     ·rw [if_neg c72] at H
                      have c72b0 : (((rd_T28 t285 x11_5).f1) == ((rd_T28 t285 x10_4).f1)) = false := beq_eq_false_iff_ne.mpr c72
                      have c72b1 : (((rd_T28 t285 x11_5).f1) != ((rd_T28 t285 x10_4).f1)) = true := bne_iff_ne.mpr c72
                      have H' := Aside0.mk H
                      clear H
                      have p316 : 0 ≤ (x11_5 : Int) := of_decide_eq_true (by first | (with_reducible assumption) | assumption)
                      have q316 : x11_5 < (t285.length : Int) := of_decide_eq_true (by first | (with_reducible assumption) | assumption)
                      obtain ⟨ad316, A316_0, c316_0, e316, hx316_0, hx316_1, hl316_0, hi316_0⟩ := at_T28 (Kd.N_reads' HO_5.out).2.2 x11_5 p316 q316
                      cases e316
                      obtain ⟨ce316, hce316, hMe316, hcc316⟩ := Kd.N_get HO_5.out z28 x11_5 p316 (by first | exact q316 | exact of_decide_eq_true (by first | (with_reducible assumption) | assumption) | (have e_ := (Kd.N_reads' HO_5.out).1; omega))
                      obtain ⟨ua316_0, uc316_0, rfl, ul316_0, ge316_0⟩ := k28_openF hMe316
                      have hv316_0 := hcc316 0 _ rfl
                      rw [Nat.add_zero] at hv316_0
                      replace hv316_0 := Option.some.inj (hv316_0.symm.trans hx316_0)
                      injection hv316_0 with hva_ hvn_ hvc_
                      rw [hva_] at ge316_0
                      rw [hvc_] at ul316_0
                      have HL316_0 := Aside0.mk (show Kd.V (Kd.int .i64) 3 _ w.heap.size _ _ ((rd_T28 t285 x11_5).f0) from Kd.V_mk ul316_0 ge316_0)
                      clear hva_ hvn_ hvc_ ge316_0 ul316_0
                      clear hcc316 hce316
                      have HR316_0 := Aside0.mk hi316_0
                      have HC316_0 := Aside0.mk hl316_0
                      clear hi316_0 hl316_0
                      replace p316 := eq_true p316
                      replace q316 := eq_true q316
                      have p317 : 0 ≤ (x10_4 : Int) := of_decide_eq_true (by first | (with_reducible assumption) | assumption)
                      have q317 : x10_4 < (t285.length : Int) := of_decide_eq_true (by first | (with_reducible assumption) | assumption)
                      obtain ⟨ad317, A317_0, c317_0, e317, hx317_0, hx317_1, hl317_0, hi317_0⟩ := at_T28 (Kd.N_reads' HO_5.out).2.2 x10_4 p317 q317
                      obtain rfl : ad316 = ad317 := (by injection e317)
                      obtain ⟨ce317, hce317, hMe317, hcc317⟩ := Kd.N_get HO_5.out z28 x10_4 p317 (by first | exact q317 | exact of_decide_eq_true (by first | (with_reducible assumption) | assumption) | (have e_ := (Kd.N_reads' HO_5.out).1; omega))
                      obtain ⟨ua317_0, uc317_0, rfl, ul317_0, ge317_0⟩ := k28_openF hMe317
                      have hv317_0 := hcc317 0 _ rfl
                      rw [Nat.add_zero] at hv317_0
                      replace hv317_0 := Option.some.inj (hv317_0.symm.trans hx317_0)
                      injection hv317_0 with hva_ hvn_ hvc_
                      rw [hva_] at ge317_0
                      rw [hvc_] at ul317_0
                      have HL317_0 := Aside0.mk (show Kd.V (Kd.int .i64) 3 _ w.heap.size _ _ ((rd_T28 t285 x10_4).f0) from Kd.V_mk ul317_0 ge317_0)
                      clear hva_ hvn_ hvc_ ge317_0 ul317_0
                      clear hcc317 hce317
                      have HR317_0 := Aside0.mk hi317_0
                      have HC317_0 := Aside0.mk hl317_0
                      clear hi317_0 hl317_0
                      replace p317 := eq_true p317
                      replace q317 := eq_true q317
                      go_wp2
                      repeat (go_quiet (fail); try go_wp2)
                      go_roundg k5
                      case measure => have := HJ2.out; have := HJ16.out; have := HJ36.out; have := HK4.out; have := HK5.out; omega
                      case rel => exact ⟨(wrap64 (x10_4 + 1)), (by first | rfl | (simp; done) | (simp [*]; done)), H', ⟨by have := HJ2.out; have := HJ16.out; have := HJ36.out; have := HK4.out; have := HK5.out; omega⟩, ⟨by (with_reducible repeat (first | apply Kd.N_alloc | apply Kd.N_drewN | apply Kd.N_drew)); exact HO_5.out⟩, ⟨by (with_reducible repeat (first | apply Kd.R_alloc | apply Kd.R_drewN | apply Kd.R_drew)); exact HO_302000.out⟩, ⟨by (with_reducible repeat (first | apply Kd.R_alloc | apply Kd.R_drewN | apply Kd.R_drew)); exact HO_308000.out⟩, ⟨by (with_reducible repeat (first | refine blk_drewN ?_ _ | refine blk_drew ?_ | refine blk_alloc ?_ _)); exact BK301.out⟩, ⟨by (with_reducible repeat (first | refine blk_drewN ?_ _ | refine blk_drew ?_ | refine blk_alloc ?_ _)); exact BK307.out⟩, ⟨by repeat (first | (with_reducible first | exact HB.out | apply below_alloc | apply pw_below_drewN | apply below_drew1 | refine below_set ?_ GE301.out | refine below_set ?_ GE307.out) | exact HB.out)⟩⟩
                    ·rw [if_neg c71] at H
                     exact absurd H (by simp)
                   ·rw [if_neg c70] at H
                    exact absurd H (by simp)
                  ·rw [if_neg c69] at H
                   exact absurd H (by simp)
                 ·rw [if_neg c68] at H
                  exact absurd H (by simp)
                ·rw [if_neg c67] at H
                 have c67b0 : decide (0 ≤ x11_5) = false := decide_eq_false c67
                 clear c67
                 have H' := Aside0.mk H
                 clear H
                 go_wp2
                 repeat (go_quiet (fail); try go_wp2)
                 go_roundg k5
                 case measure => have := HJ2.out; have := HJ16.out; have := HJ36.out; have := HK4.out; have := HK5.out; omega
                 case rel => exact ⟨(wrap64 (x10_4 + 1)), (by first | rfl | (simp; done) | (simp [*]; done)), H', ⟨by have := HJ2.out; have := HJ16.out; have := HJ36.out; have := HK4.out; have := HK5.out; omega⟩, ⟨by (with_reducible repeat (first | apply Kd.N_alloc | apply Kd.N_drewN | apply Kd.N_drew)); exact HO_5.out⟩, ⟨by (with_reducible repeat (first | apply Kd.R_alloc | apply Kd.R_drewN | apply Kd.R_drew)); exact HO_302000.out⟩, ⟨by (with_reducible repeat (first | apply Kd.R_alloc | apply Kd.R_drewN | apply Kd.R_drew)); exact HO_308000.out⟩, ⟨by (with_reducible repeat (first | refine blk_drewN ?_ _ | refine blk_drew ?_ | refine blk_alloc ?_ _)); exact BK301.out⟩, ⟨by (with_reducible repeat (first | refine blk_drewN ?_ _ | refine blk_drew ?_ | refine blk_alloc ?_ _)); exact BK307.out⟩, ⟨by repeat (first | (with_reducible first | exact HB.out | apply below_alloc | apply pw_below_drewN | apply below_drew1 | refine below_set ?_ GE301.out | refine below_set ?_ GE307.out) | exact HB.out)⟩⟩
            ·rw [if_neg c55] at H
             have c55b0 : decide (x10_4 < (t285.length : Int)) = false := decide_eq_false c55
             clear c55
             replace H := Option.bind_eq_some_iff.mp H
             obtain ⟨t308, A730, H⟩ := H
             replace H : (some t308) = some r := H
             have A73 := Aside0.mk A730
             clear A730
             obtain rfl := Option.some.inj H
             go_wp2_with (first | (go_at_call 10; (with_reducible refine (heptadlaw11_sane.calls k4  t308 _ A73.out).mono ?_); rintro e w74 ⟨rfl, hb⟩; have n0_ := Aside0.mk (Kd.N_below (by (with_reducible repeat (first | apply Kd.N_alloc | apply Kd.N_drewN | apply Kd.N_drew)); exact HO_5.out) hb); have n1_ := Aside0.mk (Kd.R_below (by (with_reducible repeat (first | apply Kd.R_alloc | apply Kd.R_drewN | apply Kd.R_drew)); exact HO_302000.out) hb); have n2_ := Aside0.mk (Kd.R_below (by (with_reducible repeat (first | apply Kd.R_alloc | apply Kd.R_drewN | apply Kd.R_drew)); exact HO_308000.out) hb); have n3_ := Aside0.mk (blk_below (g := gb301) (o := .cells #[.slice Ao42 t296.length co42, .int .i64 t299] 28 (0, 0)) (by (with_reducible repeat (first | refine blk_drewN ?_ _ | refine blk_drew ?_ | refine blk_alloc ?_ _)); exact BK301.out) hb); have n4_ := Aside0.mk (blk_below (g := gb307) (o := .cells #[.slice Ao47 t302.length co47, .int .i64 t305] 28 (0, 0)) (by (with_reducible repeat (first | refine blk_drewN ?_ _ | refine blk_drew ?_ | refine blk_alloc ?_ _)); exact BK307.out) hb); have n5_ := Aside0.mk (below_step (by repeat (first | (with_reducible first | exact HB.out | apply below_alloc | apply pw_below_drewN | apply below_drew1 | refine below_set ?_ GE301.out | refine below_set ?_ GE307.out) | exact HB.out)) hb); clear HO_5; clear HO_302000; clear HO_308000; clear BK301; clear BK307; clear HB; have HO_5 := n0_; have HO_302000 := n1_; have HO_308000 := n2_; have BK301 := n3_; have BK307 := n4_; have HB := n5_; clear n0_ n1_ n2_ n3_ n4_ n5_; (try clear hb); (try clear hb2); (try clear hk); (try clear hi)))
             repeat (go_quiet (first | (go_at_call 10; (with_reducible refine (heptadlaw11_sane.calls k4  t308 _ A73.out).mono ?_); rintro e w74 ⟨rfl, hb⟩; have n0_ := Aside0.mk (Kd.N_below (by (with_reducible repeat (first | apply Kd.N_alloc | apply Kd.N_drewN | apply Kd.N_drew)); exact HO_5.out) hb); have n1_ := Aside0.mk (Kd.R_below (by (with_reducible repeat (first | apply Kd.R_alloc | apply Kd.R_drewN | apply Kd.R_drew)); exact HO_302000.out) hb); have n2_ := Aside0.mk (Kd.R_below (by (with_reducible repeat (first | apply Kd.R_alloc | apply Kd.R_drewN | apply Kd.R_drew)); exact HO_308000.out) hb); have n3_ := Aside0.mk (blk_below (g := gb301) (o := .cells #[.slice Ao42 t296.length co42, .int .i64 t299] 28 (0, 0)) (by (with_reducible repeat (first | refine blk_drewN ?_ _ | refine blk_drew ?_ | refine blk_alloc ?_ _)); exact BK301.out) hb); have n4_ := Aside0.mk (blk_below (g := gb307) (o := .cells #[.slice Ao47 t302.length co47, .int .i64 t305] 28 (0, 0)) (by (with_reducible repeat (first | refine blk_drewN ?_ _ | refine blk_drew ?_ | refine blk_alloc ?_ _)); exact BK307.out) hb); have n5_ := Aside0.mk (below_step (by repeat (first | (with_reducible first | exact HB.out | apply below_alloc | apply pw_below_drewN | apply below_drew1 | refine below_set ?_ GE301.out | refine below_set ?_ GE307.out) | exact HB.out)) hb); clear HO_5; clear HO_302000; clear HO_308000; clear BK301; clear BK307; clear HB; have HO_5 := n0_; have HO_302000 := n1_; have HO_308000 := n2_; have BK301 := n3_; have BK307 := n4_; have HB := n5_; clear n0_ n1_ n2_ n3_ n4_ n5_; (try clear hb); (try clear hb2); (try clear hk); (try clear hi))); try go_wp2_with (first | (go_at_call 10; (with_reducible refine (heptadlaw11_sane.calls k4  t308 _ A73.out).mono ?_); rintro e w74 ⟨rfl, hb⟩; have n0_ := Aside0.mk (Kd.N_below (by (with_reducible repeat (first | apply Kd.N_alloc | apply Kd.N_drewN | apply Kd.N_drew)); exact HO_5.out) hb); have n1_ := Aside0.mk (Kd.R_below (by (with_reducible repeat (first | apply Kd.R_alloc | apply Kd.R_drewN | apply Kd.R_drew)); exact HO_302000.out) hb); have n2_ := Aside0.mk (Kd.R_below (by (with_reducible repeat (first | apply Kd.R_alloc | apply Kd.R_drewN | apply Kd.R_drew)); exact HO_308000.out) hb); have n3_ := Aside0.mk (blk_below (g := gb301) (o := .cells #[.slice Ao42 t296.length co42, .int .i64 t299] 28 (0, 0)) (by (with_reducible repeat (first | refine blk_drewN ?_ _ | refine blk_drew ?_ | refine blk_alloc ?_ _)); exact BK301.out) hb); have n4_ := Aside0.mk (blk_below (g := gb307) (o := .cells #[.slice Ao47 t302.length co47, .int .i64 t305] 28 (0, 0)) (by (with_reducible repeat (first | refine blk_drewN ?_ _ | refine blk_drew ?_ | refine blk_alloc ?_ _)); exact BK307.out) hb); have n5_ := Aside0.mk (below_step (by repeat (first | (with_reducible first | exact HB.out | apply below_alloc | apply pw_below_drewN | apply below_drew1 | refine below_set ?_ GE301.out | refine below_set ?_ GE307.out) | exact HB.out)) hb); clear HO_5; clear HO_302000; clear HO_308000; clear BK301; clear BK307; clear HB; have HO_5 := n0_; have HO_302000 := n1_; have HO_308000 := n2_; have BK301 := n3_; have BK307 := n4_; have HB := n5_; clear n0_ n1_ n2_ n3_ n4_ n5_; (try clear hb); (try clear hb2); (try clear hk); (try clear hi))))
             go_ret
             exact ⟨by first | rfl | (simp [errW_none, errW_some] <;> rfl) | (simp [*, errW_none, errW_some] <;> rfl), by repeat (first | (with_reducible first | exact HB.out | apply below_alloc | apply pw_below_drewN | apply below_drew1 | refine below_set ?_ GE301.out | refine below_set ?_ GE307.out) | exact HB.out)⟩

end Go.Proofs.Ytchkhnhmpgkpeaa.P
