-- Written by this repo's wip/tools/myprint.py (the kit's print program, with contracts of our own beside). Lean checks it.
import Derived.Test.YtchkhnhmpgkpeaaDoorRx0
import Derived.Test.YtchkhnhmpgkpeaaDoorRx1
import Derived.Test.YtchkhnhmpgkpeaaDoorRx3
import Derived.Test.YtchkhnhmpgkpeaaDoorRx5
namespace Go.Proofs.YtchkhnhmpgkpeaaDoor.R
open Go.Proofs.YtchkhnhmpgkpeaaDoor.Common
open Go.RowKit Go.Proofs.YtchkhnhmpgkpeaaDoorW.PrintWords Go.Proofs.YtchkhnhmpgkpeaaDoorW.PrintLast Go.Proofs.YtchkhnhmpgkpeaaDoorW.PrintMore
attribute [local go_sem] max2_int min2_int max_two min_two max_three min_three max_four min_four   -- for this text's walks alone
set_option linter.unusedVariables false
set_option linter.unusedSimpArgs false

/-! ### address_own: function 36 (a contract of our own) -/
/-- What the loop of own has done: the first kk elements have rows of their own. -/
def address_own.Done (w wr : World) (g kk : Nat) (f : Nat → Nat) (l : List S41) (css : List (List Value)) : Prop :=
  css.length = l.length ∧ ∀ (j : Nat) (x : S41), l[j]? = some x → ∃ vj, css[j]? = some [vj, .int .i64 x.f1] ∧
    (j < kk → (Kd.int .i64).R 3 wr w.heap.size (fun k => f k = j ∧ k ≠ g) vj x.f0) ∧
    (kk ≤ j → ∃ A c, vj = Value.slice A x.f0.length c ∧ x.f0.length ≤ c ∧ (Kd.int .i64).C w A x.f0.length x.f0)
theorem address_own.start {w w1 : World} (g : Nat) (f : Nat → Nat) {l : List S41} {css : List (List Value)} (hl : css.length = l.length)
    (h : ∀ (j : Nat) (x : S41), l[j]? = some x → ∃ c, css[j]? = some c ∧ k41.K w x c) : address_own.Done w w1 g 0 f l css :=
  ⟨hl, fun j x hj => by
    obtain ⟨c, hc, hk⟩ := h j x hj
    obtain ⟨A, c', rfl, h1, h2⟩ := k41_open hk
    exact ⟨_, hc, fun h => absurd h (by omega), fun _ => ⟨A, c', rfl, h1, h2⟩⟩⟩
theorem address_own.next {w wr w1 w2 : World} {g kk : Nat} {f : Nat → Nat} {l : List S41} {css : List (List Value)} {x : S41} {v' : Value} (h : address_own.Done w wr g kk f l css) (hx : l[kk]? = some x) (hg : g < wr.heap.size)
    (hr : (Kd.int .i64).R 3 w1 wr.heap.size (fun _ => True) v' x.f0) (hw : w.heap.size ≤ wr.heap.size) (h1 : Below wr.heap.size wr w1) (h2 : w1.grownBy w2 (some g)) :
    address_own.Done w w2 g (kk + 1) (fun k => if wr.heap.size ≤ k then kk else f k) l (css.set kk [v', .int .i64 x.f1]) := by
  obtain ⟨hl, hd⟩ := h
  have hkl : kk < l.length := (List.getElem?_eq_some_iff.1 hx).1
  refine ⟨by rw [List.length_set]; exact hl, fun j y hj => ?_⟩
  obtain ⟨vj, hc, ha, hb⟩ := hd j y hj
  by_cases e : j = kk
  · subst e
    rw [hx] at hj
    injection hj with hj
    subst hj
    refine ⟨v', by rw [List.getElem?_set_self (by rw [hl]; exact hkl)], fun _ => ?_, fun hn => absurd hn (by omega)⟩
    refine Kd.R_grown (Kd.R_mono (Kd.R_lower (Kd.R_bound hr) hw) (fun k hk => ⟨?_, by have := hk.2.1; omega⟩)) h2 (fun k hk => by have := hk.2; simpa using this)
    show (if wr.heap.size ≤ k then j else f k) = j
    rw [if_pos hk.2.1]
  · refine ⟨vj, by rw [List.getElem?_set_ne (by omega)]; exact hc, fun hlt => ?_, fun hle => hb (by omega)⟩
    have h3 := Kd.R_bound (ha (by omega))
    refine Kd.R_grown (Kd.R_below (Kd.R_mono h3 (fun k hk => ⟨?_, hk.1.2⟩)) h1) h2 (fun k hk => by have := hk.2; simpa using this)
    have := hk.2.2.1
    show (if wr.heap.size ≤ k then kk else f k) = j
    rw [if_neg (by omega)]
    exact hk.1.1
theorem address_own.ends {w wr : World} {A : Option Addr} {cap g : Nat} {f : Nat → Nat} {l : List S41} {css : List (List Value)} (h : address_own.Done w wr g l.length f l css) (hr : (Kd.raw 2).R 41 wr w.heap.size (fun _ => True) (.slice A l.length cap) css)
    (hg : ∀ ad, A = some ad → ad.block = g) : Kd.S k41 41 wr w.heap.size (fun _ => True) (.slice A l.length cap) l := by
  refine S_of_raw f (d := k41) hr h.1 (fun j x c hj hc => ?_)
  obtain ⟨vj, hc', ha, _⟩ := h.2 j x hj
  rw [hc] at hc'
  injection hc' with hc'
  subst hc'
  refine k41_mkM _ _ _ x (Kd.R_mono (ha (List.getElem?_eq_some_iff.1 hj).1) (fun k hk => ⟨⟨trivial, fun e => ?_⟩, hk.1⟩))
  cases A with
  | none => simp [Value.ownBlock] at e
  | some ad =>
    simp only [Value.ownBlock, Option.some.injEq] at e
    exact hk.2 (e.trans (hg ad rfl))
def address_own.f (l0 : List S41) : Option (List S41) := if l0.length * 32 ≤ 140737488355328 ∧ (∀ x ∈ l0, x.f0.length * 8 ≤ 140737488355328) then some l0 else none
set_option maxHeartbeats 2000000 in
theorem address_own.calls (A0 : Option Addr) (c0 : Nat) (l0 : List S41) (r : List S41) (w : World) (hr0 : Kd.C k41 w A0 l0.length l0) (hc0 : l0.length ≤ c0) (h : address_own.f l0 = some r) :
    Calls Tryd.prog 36 #[.slice A0 l0.length c0] w fun e w' => ∃ v0_ : Value, e = .returned v0_ ∧ Kd.S k41 41 w' w.heap.size (fun _ => True) v0_ r ∧ Below w.heap.size w w' := by
  unfold address_own.f at h
  split at h
  case isFalse => cases h
  rename_i hlim
  obtain rfl := Option.some.inj h
  obtain ⟨css, hcl, hraw, hcs⟩ := C_raw hr0
  have HCALL := Aside0.mk (address_Entry.raw A0 c0 l0.length css w hraw hlim.1)
  have HLIM := Aside0.mk hlim
  have HCL := Aside0.mk hcl
  have HCS := Aside0.mk hcs
  have HBIG : Aside0 (l0.length ≤ 9223372036854775807) := ⟨hr0.2.1⟩
  clear h hr0 hlim hraw hcl hcs
  go_enter Tryd.func36, Tryd.ntmps36
  go_wp2_with fail
  refine HCALL.out.mono ?_
  rintro e w1 ⟨v, rfl, hr, hb⟩
  obtain ⟨A1, c1, hv⟩ := Kd.R_slice hr
  rw [HCL.out] at hv
  subst hv
  obtain ⟨g, hg⟩ : ∃ g, ∀ ad, A1 = some ad → ad = ⟨g, 0, none⟩ := by
    cases A1 with
    | none => exact ⟨0, fun _ h => by cases h⟩
    | some ad =>
      obtain ⟨g, rfl⟩ := Kd.R_head hr
      exact ⟨g, fun _ h => by injection h with h; exact h.symm⟩
  have HG := Aside0.mk hg
  have HR := Aside0.mk hr
  have HB := Aside0.mk hb
  clear hr hb HCALL hg
  go_wp2
  go_loopg [4, 9] l0.length (fun gg _ s9 wr => ∃ (kk : Nat) (css' : List (List Value)) (f : Nat → Nat), Aside0 (kk + gg = l0.length) ∧ s9 = .int .i64 kk ∧ Aside0 (Below w.heap.size w wr) ∧ Aside0 (address_own.Done w wr g kk f l0 css') ∧ Aside0 ((Kd.raw 2).R 41 wr w.heap.size (fun _ => True) (.slice A1 l0.length c1) css'))
  case atStart => exact ⟨0, css, fun _ => 0, ⟨by omega⟩, rfl, HB, ⟨address_own.start g _ HCL.out HCS.out⟩, HR⟩
  case round =>
    clear HR HB HCS HCL
    obtain ⟨kk, css', f, HN, rfl, HB, HD, HR⟩ := hrel
    by_cases hlt : kk < l0.length
    · have hltz : (kk : Int) < (l0.length : Int) := by omega
      have hbig := HBIG.out
      obtain ⟨x, hx⟩ : ∃ x, l0[kk]? = some x := ⟨_, List.getElem?_eq_getElem hlt⟩
      have HX := Aside0.mk hx
      obtain ⟨vj, hcj, _, hsh⟩ := HD.out.2 kk x hx
      obtain ⟨A2, c2, rfl, hl2, hC2⟩ := hsh (Nat.le_refl _)
      obtain ⟨g', cap', hv, _, hgl, _⟩ := Kd.R_form HR.out (by rw [HD.out.1]; omega)
      injection hv with hv e1 e2
      clear e1 e2
      have hg2 := HG.out _ hv
      injection hg2 with hg2
      subst hg2
      subst hv
      obtain ⟨c, hcl, hM, hcc, hfz⟩ := Kd.R_elem HR.out [] (kk : Int) (by omega) (by omega)
      have hce : c = [.slice A2 x.f0.length c2, .int .i64 x.f1] := by
        rw [hM.1, Int.toNat_natCast, List.getD_eq_getElem?_getD, hcj]; rfl
      rw [Int.toNat_natCast] at hcc hfz
      have hcell : wr.cell? ⟨g', kk * 2, none⟩ = some (.slice A2 x.f0.length c2) := hcc 0 (.slice A2 x.f0.length c2) (by rw [hce]; rfl)
      have hfr : wr.frozen? ⟨g', kk * 2, none⟩ = false := hfz 0
      have hlim2 := HLIM.out.2 x (List.mem_of_getElem? hx)
      obtain ⟨css2, hcl2, hraw2, hcs2⟩ := C_raw (Kd.C_below hC2 HB.out)
      have HCALL := Aside0.mk (slices_Clone_int_int.raw A2 c2 x.f0.length css2 wr hraw2 hlim2)
      have HCS2 := Aside0.mk hcs2
      have HCL2 := Aside0.mk hcl2
      have HGL := Aside0.mk hgl
      clear hcs2 hcl2 hraw2 hlim2 hM hcc hfz hce hsh hcj hx hC2 hl2 hgl hcl
      go_wp2_with fail
      refine HCALL.out.mono ?_
      rintro e w2 ⟨v2, rfl, hr2, hb2⟩
      clear HCALL hcell hfr c
      have hri := R_int_of_raw HCL2.out HCS2.out hr2
      obtain ⟨hv2, h12⟩ := Kd.R_val hri
      have HR2 := Kd.R_below HR.out hb2
      obtain ⟨c, hcl, hM, hcc, _⟩ := Kd.R_elem HR2 [] (kk : Int) (by omega) (by omega)
      obtain ⟨vj, hcj, _, _⟩ := HD.out.2 kk x HX.out
      have hce : c = [vj, .int .i64 x.f1] := by
        rw [hM.1, Int.toNat_natCast, List.getD_eq_getElem?_getD, hcj]; rfl
      have HMM : Aside0 ((Kd.raw 2).M w2 w.heap.size (fun _ => False) [v2, .int .i64 x.f1] (c.take 0 ++ [v2] ++ c.drop (0 + [v2].length))) := ⟨by
        rw [hce]
        exact ⟨rfl, rfl, fun u hu => by
          rcases List.mem_cons.1 hu with rfl | hu
          · exact h12
          · rw [List.mem_singleton.1 hu]; rfl⟩⟩
      have HR2' := Aside0.mk HR2
      have HRI := Aside0.mk hri
      have HB2 := Aside0.mk hb2
      have HBW := Aside0.mk (HB.out.trans (hb2.mono HB.out.size))
      have HCC := Aside0.mk hcc
      have HCLN := Aside0.mk hcl
      have HV2 := Aside0.mk hv2
      have H12 := Aside0.mk h12
      clear hri HR2 hb2 hcc hce hcl hv2 h12 hr2 hM hcj
      go_wp2_with ((with_reducible refine gate_store (p := 21) rfl ?_); refine Kd.R_store (Kd.raw 2) (w0 := w) w.heap.size rfl rfl 22 (.tmp 21) (.tmp 19) rfl 41 (kk : Int) 0 css' [v2, .int .i64 x.f1] v2 [v2] c (fun _ => True) (fun _ => False) rfl (by simp [Kd.raw]) rfl HV2.out (by kernel_rfl) (fun q hq => by rw [List.mem_singleton.1 hq]; exact H12.out) HR2'.out (by omega) (by omega) HCLN.out HCC.out (by simp [Kd.raw]) HMM.out (fun _ h => h.elim) HBW.out ?_; intro w3 ho3 hb3 hg3; have HO3 := Aside0.mk ho3; have HB3 := Aside0.mk hb3; have HG3 := Aside0.mk hg3; clear ho3 hb3 hg3)
      go_roundg (l0.length - (kk + 1))
      case measure => have := HN.out; omega
      case rel =>
        have hd := address_own.next HD.out HX.out HGL.out HRI.out HB.out.size HB2.out HG3.out
        have ho := HO3.out
        rw [Int.toNat_natCast] at ho
        exact ⟨kk + 1, _, _, ⟨by omega⟩, by go_num, HB3, ⟨hd⟩, ⟨ho⟩⟩
    · have hltz : ¬ (kk : Int) < (l0.length : Int) := by omega
      have hbig := HBIG.out
      have HK : Aside0 (kk = l0.length) := ⟨by have := HN.out; omega⟩
      clear hlt
      go_wp2
      go_ret
      have hd := HD.out
      rw [HK.out] at hd
      exact ⟨_, rfl, address_own.ends hd HR.out (fun ad h => by rw [HG.out ad h]), HB.out⟩


/-! ### address_Find: function 22 -/
def address_Find.f (k : Nat) (l0 : List (S41)) (l1 : List Int) : Option (List Int × Int × Int) := (address_Valid.f l1).bind fun t123 => (if t123 = true then ((address_entries.f k l0).bind fun t124 => (if t124 = 0 then ((address_find.f k l0 l1 10).bind fun t125 => (if t125 < 0 then (some (([] : List Int), 0, 3)) else (if 0 ≤ t125 then (if t125 ≤ (wrap64 (t125 + 1)) then (if (wrap64 (t125 + 1)) ≤ (l0.length : Int) then ((address_own.f ((l0.take ((wrap64 (t125 + 1)) : Int).toNat).drop (t125 : Int).toNat)).bind fun t130 => (if 0 < (t130.length : Int) then (some ((rd_T41 t130 0).f0, (rd_T41 t130 0).f1, 0)) else (none))) else (none)) else (none)) else (none)))) else (some (([] : List Int), 0, t124)))) else (some (([] : List Int), 0, 1)))
theorem address_Find.mono : ∀ a0 a1 k, LeO (address_Find.f k a0 a1) (address_Find.f (k + 1) a0 a1) := by
 intro a0 a1 k
 unfold address_Find.f
 repeat' first
   | (with_reducible exact address_entries.mono _ _)
   | (with_reducible exact address_find.mono _ _ _ _)
   | (with_reducible exact LeO.refl _)
   | (with_reducible exact LeO.none _)
   | (with_reducible refine LeO.ite ?_ ?_)
   | (with_reducible refine LeO.bind ?_ (fun _ => ?_))
   | exact address_entries.mono _ _
   | exact address_find.mono _ _ _ _
   | exact LeO.none _
   | refine LeO.ite ?_ ?_
   | refine LeO.bind ?_ (fun _ => ?_)
set_option maxHeartbeats 8000000 in
set_option maxRecDepth 100000 in
theorem address_Find.calls (k : Nat) (A0 : Option Addr) (c0 : Nat) (l0 : List (S41)) (A1 : Option Addr) (c1 : Nat) (l1 : List Int) (r1 : List Int) (r2 : Int) (r3 : Int) (w : World) (hr0 : Kd.C k41 w A0 l0.length l0) (hc0 : l0.length ≤ c0) (hr1 : Kd.C (Kd.int .i64) w A1 l1.length l1) (hc1 : l1.length ≤ c1) (h : address_Find.f k l0 l1 = some (r1, r2, r3)) :
  Calls Tryd.prog 22 #[.slice A0 l0.length c0, .slice A1 l1.length c1] w fun e w' => ∃ v0_ : Value, e = .returned (.tuple #[.agg #[v0_, .int .i64 r2], .int .i64 r3]) ∧ Kd.R (Kd.int .i64) 3 w' w.heap.size (fun _ => True) v0_ r1 ∧ Below w.heap.size w w' := by
 have hu41 := Tryd.underlying41
 have HR0 := Aside0.mk hr0
 have HC0 := Aside0.mk hc0
 clear hr0 hc0
 have HR1 := Aside0.mk hr1
 have HC1 := Aside0.mk hc1
 clear hr1 hc1
 have HB := Aside0.mk (Below.refl w.heap.size w)
 have H : ((address_Valid.f l1).bind fun t123 => (if t123 = true then ((address_entries.f k l0).bind fun t124 => (if t124 = 0 then ((address_find.f k l0 l1 10).bind fun t125 => (if t125 < 0 then (some (([] : List Int), 0, 3)) else (if 0 ≤ t125 then (if t125 ≤ (wrap64 (t125 + 1)) then (if (wrap64 (t125 + 1)) ≤ (l0.length : Int) then ((address_own.f ((l0.take ((wrap64 (t125 + 1)) : Int).toNat).drop (t125 : Int).toNat)).bind fun t130 => (if 0 < (t130.length : Int) then (some ((rd_T41 t130 0).f0, (rd_T41 t130 0).f1, 0)) else (none))) else (none)) else (none)) else (none)))) else (some (([] : List Int), 0, t124)))) else (some (([] : List Int), 0, 1)))) = some (r1, r2, r3) := h
 clear h
 replace H := Option.bind_eq_some_iff.mp H
 obtain ⟨t123, A30, H⟩ := H
 replace H : (if t123 = true then ((address_entries.f k l0).bind fun t124 => (if t124 = 0 then ((address_find.f k l0 l1 10).bind fun t125 => (if t125 < 0 then (some (([] : List Int), 0, 3)) else (if 0 ≤ t125 then (if t125 ≤ (wrap64 (t125 + 1)) then (if (wrap64 (t125 + 1)) ≤ (l0.length : Int) then ((address_own.f ((l0.take ((wrap64 (t125 + 1)) : Int).toNat).drop (t125 : Int).toNat)).bind fun t130 => (if 0 < (t130.length : Int) then (some ((rd_T41 t130 0).f0, (rd_T41 t130 0).f1, 0)) else (none))) else (none)) else (none)) else (none)))) else (some (([] : List Int), 0, t124)))) else (some (([] : List Int), 0, 1))) = some (r1, r2, r3) := H
 have A3 := Aside0.mk A30
 clear A30
 by_cases c4 : t123 = true
 ·subst c4
  have H1 : ((address_entries.f k l0).bind fun t124 => (if t124 = 0 then ((address_find.f k l0 l1 10).bind fun t125 => (if t125 < 0 then (some (([] : List Int), 0, 3)) else (if 0 ≤ t125 then (if t125 ≤ (wrap64 (t125 + 1)) then (if (wrap64 (t125 + 1)) ≤ (l0.length : Int) then ((address_own.f ((l0.take ((wrap64 (t125 + 1)) : Int).toNat).drop (t125 : Int).toNat)).bind fun t130 => (if 0 < (t130.length : Int) then (some ((rd_T41 t130 0).f0, (rd_T41 t130 0).f1, 0)) else (none))) else (none)) else (none)) else (none)))) else (some (([] : List Int), 0, t124)))) = some (r1, r2, r3) := by rw [if_pos rfl] at H; exact H
  clear H
  have H := H1
  clear H1
  replace H := Option.bind_eq_some_iff.mp H
  obtain ⟨t124, A50, H⟩ := H
  replace H : (if t124 = 0 then ((address_find.f k l0 l1 10).bind fun t125 => (if t125 < 0 then (some (([] : List Int), 0, 3)) else (if 0 ≤ t125 then (if t125 ≤ (wrap64 (t125 + 1)) then (if (wrap64 (t125 + 1)) ≤ (l0.length : Int) then ((address_own.f ((l0.take ((wrap64 (t125 + 1)) : Int).toNat).drop (t125 : Int).toNat)).bind fun t130 => (if 0 < (t130.length : Int) then (some ((rd_T41 t130 0).f0, (rd_T41 t130 0).f1, 0)) else (none))) else (none)) else (none)) else (none)))) else (some (([] : List Int), 0, t124))) = some (r1, r2, r3) := H
  have A5 := Aside0.mk A50
  clear A50
  by_cases c6 : t124 = 0
  ·rw [if_pos c6] at H
   have c6b0 : (t124 == 0) = true := beq_iff_eq.mpr c6
   have c6b1 : (t124 != 0) = false := bne_eq_false_iff_eq.mpr c6
   clear c6
   replace H := Option.bind_eq_some_iff.mp H
   obtain ⟨t125, A70, H⟩ := H
   replace H : (if t125 < 0 then (some (([] : List Int), 0, 3)) else (if 0 ≤ t125 then (if t125 ≤ (wrap64 (t125 + 1)) then (if (wrap64 (t125 + 1)) ≤ (l0.length : Int) then ((address_own.f ((l0.take ((wrap64 (t125 + 1)) : Int).toNat).drop (t125 : Int).toNat)).bind fun t130 => (if 0 < (t130.length : Int) then (some ((rd_T41 t130 0).f0, (rd_T41 t130 0).f1, 0)) else (none))) else (none)) else (none)) else (none))) = some (r1, r2, r3) := H
   have A7 := Aside0.mk A70
   clear A70
   by_cases c8 : t125 < 0
   ·rw [if_pos c8] at H
    have c8b0 : decide (t125 < 0) = true := decide_eq_true c8
    clear c8
    simp only [Option.some.injEq, Prod.mk.injEq] at H
    obtain ⟨rfl, rfl, rfl⟩ := H
    go_enter Tryd.func22, Tryd.ntmps22
    go_wp2_with (first | ((with_reducible refine gate_dst (N := 4) rfl ?_); refine box_event ?hg (N := 4) ?hd (cs := #[.slice none 0 0, .int .i64 0]) (t := 41) ?hr ?_; (case hd => rfl); (case hg => rfl); (case hr => first | (go_simp; done) | (go_simp; rfl)); intro gb122 hg w9 hbox hb; have n0_ := Aside0.mk (below_step (by repeat (first | (with_reducible first | exact HB.out | apply below_alloc | apply pw_below_drewN | apply below_drew1) | exact HB.out)) hb); have n1_ := Aside0.mk (hbox); have n2_ := Aside0.mk ((by rw [hg]; exact (below_size (by repeat (first | (with_reducible first | exact HB.out | apply below_alloc | apply pw_below_drewN | apply below_drew1) | exact HB.out))) : w.heap.size ≤ gb122)); have n3_ := Aside0.mk ((by rw [hg]; exact (below_size (by repeat (first | (with_reducible first | exact HB.out | apply below_alloc | apply pw_below_drewN | apply below_drew1) | exact HB.out))) : w.heap.size ≤ gb122)); clear HB; have HB := n0_; have BK122 := n1_; have GW122 := n2_; have GE122 := n3_; clear n0_ n1_ n2_ n3_; clear hb hbox hg) | ((with_reducible refine gate_callee (f := 18) rfl ?_); refine goesL_ (some 9) rfl rfl Tryd.func18 (by kernel_rfl) rfl #[.slice A1 l1.length c1] rfl (by (try simp only [List.map_toArray, List.map_cons, List.map_nil]); first | done | rfl | (simp only [List.length_drop, List.length_take]; rfl)) ?_; (with_reducible refine (address_Valid.calls _ _ l1 true _ ?side1 ?side2 A3.out).mono ?_); (case side1 => repeat (first | exact (Kd.C_below HR1.out HB.out) | (with_reducible first | refine Kd.C_alloc ?_ _ | refine Kd.C_drewN ?_ _ | refine Kd.C_drew ?_))); (case side2 => exact HC1.out); rintro e w' ⟨rfl, ⟨nd, rfl⟩⟩; refine ⟨_, rfl, ?_⟩; (try (rw [drewN_self w9]; generalize hq_ : World.drewN w9 _ = w9; have n0_ : Aside0 (w9.heap[gb122]? = some (.cells #[.slice none 0 0, .int .i64 0] 41 (0, 0))) := ⟨by rw [← hq_]; exact (by (with_reducible repeat (first | refine blk_drewN ?_ _ | refine blk_drew ?_ | refine blk_alloc ?_ _)); exact BK122.out)⟩; have n1_ : Aside0 (Below w.heap.size w w9) := ⟨by rw [← hq_]; exact (by repeat (first | (with_reducible first | exact HB.out | apply below_alloc | apply pw_below_drewN | apply below_drew1 | refine below_set ?_ GE122.out) | exact HB.out))⟩; clear BK122 HB hq_; have BK122 := n0_; have HB := n1_; clear n0_ n1_))) | ((with_reducible refine gate_callee (f := 34) rfl ?_); refine goesL_ (some 13) rfl rfl Tryd.func34 (by kernel_rfl) rfl #[.slice A0 l0.length c0] rfl (by (try simp only [List.map_toArray, List.map_cons, List.map_nil]); first | done | rfl | (simp only [List.length_drop, List.length_take]; rfl)) ?_; (with_reducible refine (address_entries.calls k _ _ l0 t124 _ ?side1 ?side2 A5.out).mono ?_); (case side1 => repeat (first | exact (Kd.C_below HR0.out HB.out) | (with_reducible first | refine Kd.C_alloc ?_ _ | refine Kd.C_drewN ?_ _ | refine Kd.C_drew ?_))); (case side2 => exact HC0.out); rintro e w10 ⟨rfl, hb⟩; refine ⟨_, rfl, ?_⟩; have n0_ := Aside0.mk (blk_below (g := gb122) (o := .cells #[.slice none 0 0, .int .i64 0] 41 (0, 0)) (by (with_reducible repeat (first | refine blk_drewN ?_ _ | refine blk_drew ?_ | refine blk_alloc ?_ _)); exact BK122.out) hb); have n1_ := Aside0.mk (below_step (by repeat (first | (with_reducible first | exact HB.out | apply below_alloc | apply pw_below_drewN | apply below_drew1 | refine below_set ?_ GE122.out) | exact HB.out)) hb); clear BK122; clear HB; have BK122 := n0_; have HB := n1_; clear n0_ n1_; (try clear hb); (try clear hb2); (try clear hk); (try clear hi)) | ((with_reducible refine gate_callee (f := 35) rfl ?_); refine goesL_ (some 20) rfl rfl Tryd.func35 (by kernel_rfl) rfl #[.slice A0 l0.length c0, .slice A1 l1.length c1, .int .i64 10] rfl (by (try simp only [List.map_toArray, List.map_cons, List.map_nil]); first | done | rfl | (simp only [List.length_drop, List.length_take]; rfl)) ?_; (with_reducible refine (address_find.calls k _ _ l0 _ _ l1 10 t125 _ ?side1 ?side2 ?side3 ?side4 A7.out).mono ?_); (case side1 => repeat (first | exact (Kd.C_below HR0.out HB.out) | (with_reducible first | refine Kd.C_alloc ?_ _ | refine Kd.C_drewN ?_ _ | refine Kd.C_drew ?_))); (case side2 => exact HC0.out); (case side3 => repeat (first | exact (Kd.C_below HR1.out HB.out) | (with_reducible first | refine Kd.C_alloc ?_ _ | refine Kd.C_drewN ?_ _ | refine Kd.C_drew ?_))); (case side4 => exact HC1.out); rintro e w11 ⟨rfl, hb⟩; refine ⟨_, rfl, ?_⟩; have n0_ := Aside0.mk (blk_below (g := gb122) (o := .cells #[.slice none 0 0, .int .i64 0] 41 (0, 0)) (by (with_reducible repeat (first | refine blk_drewN ?_ _ | refine blk_drew ?_ | refine blk_alloc ?_ _)); exact BK122.out) hb); have n1_ := Aside0.mk (below_step (by repeat (first | (with_reducible first | exact HB.out | apply below_alloc | apply pw_below_drewN | apply below_drew1 | refine below_set ?_ GE122.out) | exact HB.out)) hb); clear BK122; clear HB; have BK122 := n0_; have HB := n1_; clear n0_ n1_; (try clear hb); (try clear hb2); (try clear hk); (try clear hi); have hcz12_0 : w11.cell? ⟨gb122, 0, none⟩ = some (.slice none 0 0) := (blk_cell BK122.out 0).trans rfl; have hcz12_1 : w11.cell? ⟨gb122, 1, none⟩ = some (.int .i64 0) := (blk_cell BK122.out 1).trans rfl; have hfz12_0 := blk_frozen BK122.out 0; have hfz12_1 := blk_frozen BK122.out 1))
    refine bodyPost_ret (results_ct rfl _ _ gb122 41 #[.slice none 0 0, .int .i64 0] (0, 0) _ rfl (by (with_reducible repeat (first | refine blk_drewN ?_ _ | refine blk_drew ?_ | refine blk_alloc ?_ _)); refine blk_put (cs := #[.slice none 0 0, .int .i64 0]) ?_ 1 _ rfl; (with_reducible repeat (first | refine blk_drewN ?_ _ | refine blk_drew ?_ | refine blk_alloc ?_ _)); refine blk_put (cs := #[.slice none 0 0, .int .i64 0]) ?_ 0 _ rfl; (with_reducible repeat (first | refine blk_drewN ?_ _ | refine blk_drew ?_ | refine blk_alloc ?_ _)); exact BK122.out) Tryd.underlying41 rfl (by kernel_rfl)) rfl ?_
    exact ⟨_, by first | rfl | (simp [errW_none, errW_some] <;> rfl) | (simp [*, errW_none, errW_some] <;> rfl), by first | exact Kd.R_nil _ _ _ _ _ | exact Kd.N_nil _ _ _ _ _ | exact Kd.V_nil _ _ _ _ _ | exact Kd.Q_nil _ _ _ _ _ | exact Kd.S_nil _ _ _ _ _, by repeat (first | (with_reducible first | exact HB.out | apply below_alloc | apply pw_below_drewN | apply below_drew1 | refine below_set ?_ GE122.out) | exact HB.out)⟩
   ·rw [if_neg c8] at H
    have c8b0 : decide (t125 < 0) = false := decide_eq_false c8
    clear c8
    by_cases c13 : 0 ≤ t125
    ·rw [if_pos c13] at H
     have c13b0 := eq_true c13
     have c13b1 : decide (0 ≤ t125) = true := decide_eq_true c13
     clear c13
     by_cases c14 : t125 ≤ (wrap64 (t125 + 1))
     ·rw [if_pos c14] at H
      have c14b0 := eq_true c14
      have c14b1 : decide (t125 ≤ (wrap64 (t125 + 1))) = true := decide_eq_true c14
      by_cases c15 : (wrap64 (t125 + 1)) ≤ (l0.length : Int)
      ·rw [if_pos c15] at H
       have c15b0 := eq_true c15
       have c15b1 : decide ((wrap64 (t125 + 1)) ≤ (l0.length : Int)) = true := decide_eq_true c15
       obtain ⟨y126, hy126⟩ : ∃ y_ : List (S41), y_ = ((l0.take ((wrap64 (t125 + 1)) : Int).toNat).drop (t125 : Int).toNat) := ⟨_, rfl⟩
       replace H : ((address_own.f y126).bind fun t130 => (if 0 < (t130.length : Int) then (some ((rd_T41 t130 0).f0, (rd_T41 t130 0).f1, 0)) else (none))) = some (r1, r2, r3) := by first | (rw [hy126]; with_reducible exact H) | (have H2_ := (Option.bind_some _ _).symm.trans H; rw [hy126]; with_reducible exact H2_) | (have H2_ := (Option.bind_some _ _).symm.trans H; with_reducible exact H2_) | with_reducible exact H | (rw [hy126]; exact H) | exact H
       have Ny126 := Aside0.mk hy126
       clear hy126
       replace H := Option.bind_eq_some_iff.mp H
       obtain ⟨t130, A160, H⟩ := H
       replace H : (if 0 < (t130.length : Int) then (some ((rd_T41 t130 0).f0, (rd_T41 t130 0).f1, 0)) else (none)) = some (r1, r2, r3) := H
       have A16 := Aside0.mk A160
       clear A160
       by_cases c17 : 0 < (t130.length : Int)
       ·rw [if_pos c17] at H
        have c17b0 : decide (0 < (t130.length : Int)) = true := decide_eq_true c17
        have c17b1 : decide (0 < t130.length) = true := decide_eq_true (by omega)
        clear c17
        simp only [Option.some.injEq, Prod.mk.injEq] at H
        obtain ⟨rfl, rfl, rfl⟩ := H
        go_enter Tryd.func22, Tryd.ntmps22
        go_wp2_with (first | ((with_reducible refine gate_dst (N := 4) rfl ?_); refine box_event ?hg (N := 4) ?hd (cs := #[.slice none 0 0, .int .i64 0]) (t := 41) ?hr ?_; (case hd => rfl); (case hg => rfl); (case hr => first | (go_simp; done) | (go_simp; rfl)); intro gb122 hg w18 hbox hb; have n0_ := Aside0.mk (below_step (by repeat (first | (with_reducible first | exact HB.out | apply below_alloc | apply pw_below_drewN | apply below_drew1) | exact HB.out)) hb); have n1_ := Aside0.mk (hbox); have n2_ := Aside0.mk ((by rw [hg]; exact (below_size (by repeat (first | (with_reducible first | exact HB.out | apply below_alloc | apply pw_below_drewN | apply below_drew1) | exact HB.out))) : w.heap.size ≤ gb122)); have n3_ := Aside0.mk ((by rw [hg]; exact (below_size (by repeat (first | (with_reducible first | exact HB.out | apply below_alloc | apply pw_below_drewN | apply below_drew1) | exact HB.out))) : w.heap.size ≤ gb122)); clear HB; have HB := n0_; have BK122 := n1_; have GW122 := n2_; have GE122 := n3_; clear n0_ n1_ n2_ n3_; clear hb hbox hg) | ((with_reducible refine gate_callee (f := 18) rfl ?_); refine goesL_ (some 9) rfl rfl Tryd.func18 (by kernel_rfl) rfl #[.slice A1 l1.length c1] rfl (by (try simp only [List.map_toArray, List.map_cons, List.map_nil]); first | done | rfl | (simp only [List.length_drop, List.length_take]; rfl)) ?_; (with_reducible refine (address_Valid.calls _ _ l1 true _ ?side1 ?side2 A3.out).mono ?_); (case side1 => repeat (first | exact (Kd.C_below HR1.out HB.out) | (with_reducible first | refine Kd.C_alloc ?_ _ | refine Kd.C_drewN ?_ _ | refine Kd.C_drew ?_))); (case side2 => exact HC1.out); rintro e w' ⟨rfl, ⟨nd, rfl⟩⟩; refine ⟨_, rfl, ?_⟩; (try (rw [drewN_self w18]; generalize hq_ : World.drewN w18 _ = w18; have n0_ : Aside0 (w18.heap[gb122]? = some (.cells #[.slice none 0 0, .int .i64 0] 41 (0, 0))) := ⟨by rw [← hq_]; exact (by (with_reducible repeat (first | refine blk_drewN ?_ _ | refine blk_drew ?_ | refine blk_alloc ?_ _)); exact BK122.out)⟩; have n1_ : Aside0 (Below w.heap.size w w18) := ⟨by rw [← hq_]; exact (by repeat (first | (with_reducible first | exact HB.out | apply below_alloc | apply pw_below_drewN | apply below_drew1 | refine below_set ?_ GE122.out) | exact HB.out))⟩; clear BK122 HB hq_; have BK122 := n0_; have HB := n1_; clear n0_ n1_))) | ((with_reducible refine gate_callee (f := 34) rfl ?_); refine goesL_ (some 13) rfl rfl Tryd.func34 (by kernel_rfl) rfl #[.slice A0 l0.length c0] rfl (by (try simp only [List.map_toArray, List.map_cons, List.map_nil]); first | done | rfl | (simp only [List.length_drop, List.length_take]; rfl)) ?_; (with_reducible refine (address_entries.calls k _ _ l0 t124 _ ?side1 ?side2 A5.out).mono ?_); (case side1 => repeat (first | exact (Kd.C_below HR0.out HB.out) | (with_reducible first | refine Kd.C_alloc ?_ _ | refine Kd.C_drewN ?_ _ | refine Kd.C_drew ?_))); (case side2 => exact HC0.out); rintro e w19 ⟨rfl, hb⟩; refine ⟨_, rfl, ?_⟩; have n0_ := Aside0.mk (blk_below (g := gb122) (o := .cells #[.slice none 0 0, .int .i64 0] 41 (0, 0)) (by (with_reducible repeat (first | refine blk_drewN ?_ _ | refine blk_drew ?_ | refine blk_alloc ?_ _)); exact BK122.out) hb); have n1_ := Aside0.mk (below_step (by repeat (first | (with_reducible first | exact HB.out | apply below_alloc | apply pw_below_drewN | apply below_drew1 | refine below_set ?_ GE122.out) | exact HB.out)) hb); clear BK122; clear HB; have BK122 := n0_; have HB := n1_; clear n0_ n1_; (try clear hb); (try clear hb2); (try clear hk); (try clear hi)) | ((with_reducible refine gate_callee (f := 35) rfl ?_); refine goesL_ (some 20) rfl rfl Tryd.func35 (by kernel_rfl) rfl #[.slice A0 l0.length c0, .slice A1 l1.length c1, .int .i64 10] rfl (by (try simp only [List.map_toArray, List.map_cons, List.map_nil]); first | done | rfl | (simp only [List.length_drop, List.length_take]; rfl)) ?_; (with_reducible refine (address_find.calls k _ _ l0 _ _ l1 10 t125 _ ?side1 ?side2 ?side3 ?side4 A7.out).mono ?_); (case side1 => repeat (first | exact (Kd.C_below HR0.out HB.out) | (with_reducible first | refine Kd.C_alloc ?_ _ | refine Kd.C_drewN ?_ _ | refine Kd.C_drew ?_))); (case side2 => exact HC0.out); (case side3 => repeat (first | exact (Kd.C_below HR1.out HB.out) | (with_reducible first | refine Kd.C_alloc ?_ _ | refine Kd.C_drewN ?_ _ | refine Kd.C_drew ?_))); (case side4 => exact HC1.out); rintro e w20 ⟨rfl, hb⟩; refine ⟨_, rfl, ?_⟩; have n0_ := Aside0.mk (blk_below (g := gb122) (o := .cells #[.slice none 0 0, .int .i64 0] 41 (0, 0)) (by (with_reducible repeat (first | refine blk_drewN ?_ _ | refine blk_drew ?_ | refine blk_alloc ?_ _)); exact BK122.out) hb); have n1_ := Aside0.mk (below_step (by repeat (first | (with_reducible first | exact HB.out | apply below_alloc | apply pw_below_drewN | apply below_drew1 | refine below_set ?_ GE122.out) | exact HB.out)) hb); clear BK122; clear HB; have BK122 := n0_; have HB := n1_; clear n0_ n1_; (try clear hb); (try clear hb2); (try clear hk); (try clear hi); have q21 : ((wrap64 (t125 + 1)) : Int) ≤ ((l0.length : Int) : Int) := of_decide_eq_true (by first | (with_reducible assumption) | assumption); obtain ⟨i021, hi021, _, hsz21, _⟩ := info_parts info41; have hroom21 : l0.length ≤ c0 := HC0.out; have hC21 : Kd.C k41 _ A0 l0.length l0 := HR0.out; have ql21 : (t125 : Int) ≤ ((wrap64 (t125 + 1)) : Int) := of_decide_eq_true (by first | (with_reducible assumption) | assumption); have q021 : (0 : Int) ≤ (t125 : Int) := of_decide_eq_true (by first | (with_reducible assumption) | assumption); have hcut21 := cut_mid (P := Tryd.prog) 42 41 .i64 .i64 Tryd.underlying42 hi021 2 hsz21 A0 l0.length c0 t125 (wrap64 (t125 + 1)) q021 ql21 q21 hroom21; have hr21 := Kd.C_mid (lo := (t125 : Int).toNat) (hi := ((wrap64 (t125 + 1)) : Int).toNat) (c := c0) hC21 (by omega) (by omega) hroom21; obtain ⟨A21, hA21⟩ : ∃ A1, A1 = (if c0 = (t125 : Int).toNat then A0 else (A0 : Option Addr).map (·.add ((t125 : Int).toNat * 2))) := ⟨_, rfl⟩; obtain ⟨c21, hc21⟩ : ∃ c1, c1 = c0 - (t125 : Int).toNat := ⟨_, rfl⟩; have hy21 : y126.length = ((wrap64 (t125 + 1)) : Int).toNat - (t125 : Int).toNat := (by rw [Ny126.out, List.length_drop, List.length_take] <;> omega); rw [show ((l0).take ((wrap64 (t125 + 1)) : Int).toNat).drop (t125 : Int).toNat = y126 from Ny126.out.symm] at hr21; replace hr21 : Kd.C k41 _ A21 y126.length y126 := (by rw [hA21]; exact hr21); rw [← hy21, ← hA21, ← hc21] at hcut21; have HR129 := Aside0.mk hr21; have HC129 := Aside0.mk (show y126.length ≤ c21 from by rw [hy21, hc21]; exact Nat.sub_le_sub_right (Nat.le_trans (by omega) hroom21) _); clear hr21 hC21 hroom21 hi021 hsz21 hc21; have KY21 := Aside0.mk hy21; have KA21 := Aside0.mk hA21; clear hy21 hA21; replace q21 := eq_true q21) | ((with_reducible refine gate_callee (f := 36) rfl ?_); refine goesL_ (some 29) rfl rfl Tryd.func36 (by kernel_rfl) rfl #[.slice A21 y126.length c21] rfl (by (try simp only [List.map_toArray, List.map_cons, List.map_nil]); first | done | rfl | (simp only [List.length_drop, List.length_take]; rfl)) ?_; (with_reducible refine (address_own.calls _ _ y126 t130 _ ?side1 ?side2 A16.out).mono ?_); (case side1 => repeat (first | exact (Kd.C_below HR129.out HB.out) | (with_reducible first | refine Kd.C_alloc ?_ _ | refine Kd.C_drewN ?_ _ | refine Kd.C_drew ?_))); (case side2 => exact HC129.out); rintro e w22 ⟨v131, rfl, ho0, hb⟩; refine ⟨_, rfl, ?_⟩; have n0_ := Aside0.mk (Kd.S_lower (Kd.S_newB ho0 (g := gb122) (o := .cells #[.slice none 0 0, .int .i64 0] 41 (0, 0)) (by (with_reducible repeat (first | refine blk_drewN ?_ _ | refine blk_drew ?_ | refine blk_alloc ?_ _)); exact BK122.out)) (below_size (by repeat (first | (with_reducible first | exact HB.out | apply below_alloc | apply pw_below_drewN | apply below_drew1 | refine below_set ?_ GE122.out) | exact HB.out)))); have n1_ := Aside0.mk (blk_below (g := gb122) (o := .cells #[.slice none 0 0, .int .i64 0] 41 (0, 0)) (by (with_reducible repeat (first | refine blk_drewN ?_ _ | refine blk_drew ?_ | refine blk_alloc ?_ _)); exact BK122.out) hb); have n2_ := Aside0.mk (below_step (by repeat (first | (with_reducible first | exact HB.out | apply below_alloc | apply pw_below_drewN | apply below_drew1 | refine below_set ?_ GE122.out) | exact HB.out)) hb); clear BK122; clear HB; have HO132 := n0_; have BK122 := n1_; have HB := n2_; clear n0_ n1_ n2_; (try clear hb); (try clear hb2); (try clear hk); (try clear hi); (try clear ho0); obtain ⟨Ao23, co23, eo23⟩ := Kd.S_slice HO132.out; subst eo23; have p133 : 0 ≤ (0 : Int) := (by omega); have q133 : 0 < (t130.length : Int) := of_decide_eq_true (by first | (with_reducible assumption) | assumption); obtain ⟨ad133, A133_0, c133_0, e133, hx133_0, hx133_1, hl133_0, hi133_0⟩ := at_T41 (Kd.S_reads' HO132.out).2.2 0 p133 q133; cases e133; obtain ⟨ce133, hce133, hMe133, hcc133⟩ := Kd.S_get HO132.out z41 0 p133 (by first | exact q133 | exact of_decide_eq_true (by first | (with_reducible assumption) | assumption) | (have e_ := (Kd.S_reads' HO132.out).1; omega)); obtain ⟨ve133_0, rfl, ge133_0⟩ := k41_openM hMe133; have hv133_0 := hcc133 0 _ rfl; rw [Nat.add_zero] at hv133_0; replace hv133_0 := Option.some.inj (hv133_0.symm.trans hx133_0); rw [hv133_0] at ge133_0; have HL133_0 := Aside0.mk (show Kd.R (Kd.int .i64) 3 _ _ _ _ ((rd_T41 t130 0).f0) from ge133_0); clear hv133_0 ge133_0; clear hcc133 hce133; have qi133 : (0 < t130.length) = True := eq_true (by omega); (try rw [show ((0 : Int)).toNat = 0 from rfl] at hx133_0); (try rw [show 0 * 2 = 0 from rfl] at hx133_0); (try rw [Addr.add_zero'] at hx133_0); (try rw [show ((0 : Int)).toNat = 0 from rfl] at hx133_1); (try rw [show 0 * 2 = 0 from rfl] at hx133_1); (try rw [Addr.add_zero'] at hx133_1); have HR133_0 := Aside0.mk hi133_0; have HC133_0 := Aside0.mk hl133_0; clear hi133_0 hl133_0; replace p133 := eq_true p133; replace q133 := eq_true q133; have hcz24_0 : w22.cell? ⟨gb122, 0, none⟩ = some (.slice none 0 0) := (blk_cell BK122.out 0).trans rfl; have hcz24_1 : w22.cell? ⟨gb122, 1, none⟩ = some (.int .i64 0) := (blk_cell BK122.out 1).trans rfl; have hfz24_0 := blk_frozen BK122.out 0; have hfz24_1 := blk_frozen BK122.out 1))
        refine bodyPost_ret (results_ct rfl _ _ gb122 41 #[.slice A133_0 ((rd_T41 t130 0).f0).length c133_0, .int .i64 ((rd_T41 t130 0).f1)] (0, 0) _ rfl (by (with_reducible repeat (first | refine blk_drewN ?_ _ | refine blk_drew ?_ | refine blk_alloc ?_ _)); refine blk_put (cs := #[.slice A133_0 ((rd_T41 t130 0).f0).length c133_0, .int .i64 0]) ?_ 1 _ rfl; (with_reducible repeat (first | refine blk_drewN ?_ _ | refine blk_drew ?_ | refine blk_alloc ?_ _)); refine blk_put (cs := #[.slice none 0 0, .int .i64 0]) ?_ 0 _ rfl; (with_reducible repeat (first | refine blk_drewN ?_ _ | refine blk_drew ?_ | refine blk_alloc ?_ _)); exact BK122.out) Tryd.underlying41 rfl (by kernel_rfl)) rfl ?_
        exact ⟨_, by first | rfl | (simp [errW_none, errW_some] <;> rfl) | (simp [*, errW_none, errW_some] <;> rfl), by (with_reducible repeat (first | apply Kd.R_alloc | apply Kd.R_drewN | apply Kd.R_drew)); exact Kd.R_mono (Kd.R_far (p := ⟨gb122, 1, none⟩) (Kd.R_far (p := ⟨gb122, 0, none⟩) (Kd.R_types HL133_0.out BK122.out (by decide)) (fun _ hk => hk.2) (.slice A133_0 ((rd_T41 t130 0).f0).length c133_0)) (fun _ hk => hk.2) (.int .i64 ((rd_T41 t130 0).f1))) (fun _ hk => trivial), by repeat (first | (with_reducible first | exact HB.out | apply below_alloc | apply pw_below_drewN | apply below_drew1 | refine below_set ?_ GE122.out) | exact HB.out)⟩
       ·rw [if_neg c17] at H
        exact absurd H (by simp)
      ·rw [if_neg c15] at H
       exact absurd H (by simp)
     ·rw [if_neg c14] at H
      exact absurd H (by simp)
    ·rw [if_neg c13] at H
     exact absurd H (by simp)
  ·rw [if_neg c6] at H
   have c6b0 : (t124 == 0) = false := beq_eq_false_iff_ne.mpr c6
   have c6b1 : (t124 != 0) = true := bne_iff_ne.mpr c6
   simp only [Option.some.injEq, Prod.mk.injEq] at H
   obtain ⟨rfl, rfl, rfl⟩ := H
   go_enter Tryd.func22, Tryd.ntmps22
   go_wp2_with (first | ((with_reducible refine gate_dst (N := 4) rfl ?_); refine box_event ?hg (N := 4) ?hd (cs := #[.slice none 0 0, .int .i64 0]) (t := 41) ?hr ?_; (case hd => rfl); (case hg => rfl); (case hr => first | (go_simp; done) | (go_simp; rfl)); intro gb122 hg w25 hbox hb; have n0_ := Aside0.mk (below_step (by repeat (first | (with_reducible first | exact HB.out | apply below_alloc | apply pw_below_drewN | apply below_drew1) | exact HB.out)) hb); have n1_ := Aside0.mk (hbox); have n2_ := Aside0.mk ((by rw [hg]; exact (below_size (by repeat (first | (with_reducible first | exact HB.out | apply below_alloc | apply pw_below_drewN | apply below_drew1) | exact HB.out))) : w.heap.size ≤ gb122)); have n3_ := Aside0.mk ((by rw [hg]; exact (below_size (by repeat (first | (with_reducible first | exact HB.out | apply below_alloc | apply pw_below_drewN | apply below_drew1) | exact HB.out))) : w.heap.size ≤ gb122)); clear HB; have HB := n0_; have BK122 := n1_; have GW122 := n2_; have GE122 := n3_; clear n0_ n1_ n2_ n3_; clear hb hbox hg) | ((with_reducible refine gate_callee (f := 18) rfl ?_); refine goesL_ (some 9) rfl rfl Tryd.func18 (by kernel_rfl) rfl #[.slice A1 l1.length c1] rfl (by (try simp only [List.map_toArray, List.map_cons, List.map_nil]); first | done | rfl | (simp only [List.length_drop, List.length_take]; rfl)) ?_; (with_reducible refine (address_Valid.calls _ _ l1 true _ ?side1 ?side2 A3.out).mono ?_); (case side1 => repeat (first | exact (Kd.C_below HR1.out HB.out) | (with_reducible first | refine Kd.C_alloc ?_ _ | refine Kd.C_drewN ?_ _ | refine Kd.C_drew ?_))); (case side2 => exact HC1.out); rintro e w' ⟨rfl, ⟨nd, rfl⟩⟩; refine ⟨_, rfl, ?_⟩; (try (rw [drewN_self w25]; generalize hq_ : World.drewN w25 _ = w25; have n0_ : Aside0 (w25.heap[gb122]? = some (.cells #[.slice none 0 0, .int .i64 0] 41 (0, 0))) := ⟨by rw [← hq_]; exact (by (with_reducible repeat (first | refine blk_drewN ?_ _ | refine blk_drew ?_ | refine blk_alloc ?_ _)); exact BK122.out)⟩; have n1_ : Aside0 (Below w.heap.size w w25) := ⟨by rw [← hq_]; exact (by repeat (first | (with_reducible first | exact HB.out | apply below_alloc | apply pw_below_drewN | apply below_drew1 | refine below_set ?_ GE122.out) | exact HB.out))⟩; clear BK122 HB hq_; have BK122 := n0_; have HB := n1_; clear n0_ n1_))) | ((with_reducible refine gate_callee (f := 34) rfl ?_); refine goesL_ (some 13) rfl rfl Tryd.func34 (by kernel_rfl) rfl #[.slice A0 l0.length c0] rfl (by (try simp only [List.map_toArray, List.map_cons, List.map_nil]); first | done | rfl | (simp only [List.length_drop, List.length_take]; rfl)) ?_; (with_reducible refine (address_entries.calls k _ _ l0 t124 _ ?side1 ?side2 A5.out).mono ?_); (case side1 => repeat (first | exact (Kd.C_below HR0.out HB.out) | (with_reducible first | refine Kd.C_alloc ?_ _ | refine Kd.C_drewN ?_ _ | refine Kd.C_drew ?_))); (case side2 => exact HC0.out); rintro e w26 ⟨rfl, hb⟩; refine ⟨_, rfl, ?_⟩; have n0_ := Aside0.mk (blk_below (g := gb122) (o := .cells #[.slice none 0 0, .int .i64 0] 41 (0, 0)) (by (with_reducible repeat (first | refine blk_drewN ?_ _ | refine blk_drew ?_ | refine blk_alloc ?_ _)); exact BK122.out) hb); have n1_ := Aside0.mk (below_step (by repeat (first | (with_reducible first | exact HB.out | apply below_alloc | apply pw_below_drewN | apply below_drew1 | refine below_set ?_ GE122.out) | exact HB.out)) hb); clear BK122; clear HB; have BK122 := n0_; have HB := n1_; clear n0_ n1_; (try clear hb); (try clear hb2); (try clear hk); (try clear hi); have hcz27_0 : w26.cell? ⟨gb122, 0, none⟩ = some (.slice none 0 0) := (blk_cell BK122.out 0).trans rfl; have hcz27_1 : w26.cell? ⟨gb122, 1, none⟩ = some (.int .i64 0) := (blk_cell BK122.out 1).trans rfl; have hfz27_0 := blk_frozen BK122.out 0; have hfz27_1 := blk_frozen BK122.out 1))
   refine bodyPost_ret (results_ct rfl _ _ gb122 41 #[.slice none 0 0, .int .i64 0] (0, 0) _ rfl (by (with_reducible repeat (first | refine blk_drewN ?_ _ | refine blk_drew ?_ | refine blk_alloc ?_ _)); refine blk_put (cs := #[.slice none 0 0, .int .i64 0]) ?_ 1 _ rfl; (with_reducible repeat (first | refine blk_drewN ?_ _ | refine blk_drew ?_ | refine blk_alloc ?_ _)); refine blk_put (cs := #[.slice none 0 0, .int .i64 0]) ?_ 0 _ rfl; (with_reducible repeat (first | refine blk_drewN ?_ _ | refine blk_drew ?_ | refine blk_alloc ?_ _)); exact BK122.out) Tryd.underlying41 rfl (by kernel_rfl)) rfl ?_
   exact ⟨_, by first | rfl | (simp [errW_none, errW_some] <;> rfl) | (simp [*, errW_none, errW_some] <;> rfl), by first | exact Kd.R_nil _ _ _ _ _ | exact Kd.N_nil _ _ _ _ _ | exact Kd.V_nil _ _ _ _ _ | exact Kd.Q_nil _ _ _ _ _ | exact Kd.S_nil _ _ _ _ _, by repeat (first | (with_reducible first | exact HB.out | apply below_alloc | apply pw_below_drewN | apply below_drew1 | refine below_set ?_ GE122.out) | exact HB.out)⟩
 ·replace c4 := Bool.eq_false_iff.mpr c4
  subst c4
  have H1 : (some (([] : List Int), 0, 1)) = some (r1, r2, r3) := by rw [if_neg (show ¬ (false = true) by decide)] at H; exact H
  clear H
  have H := H1
  clear H1
  simp only [Option.some.injEq, Prod.mk.injEq] at H
  obtain ⟨rfl, rfl, rfl⟩ := H
  go_enter Tryd.func22, Tryd.ntmps22
  go_wp2_with (first | ((with_reducible refine gate_dst (N := 4) rfl ?_); refine box_event ?hg (N := 4) ?hd (cs := #[.slice none 0 0, .int .i64 0]) (t := 41) ?hr ?_; (case hd => rfl); (case hg => rfl); (case hr => first | (go_simp; done) | (go_simp; rfl)); intro gb122 hg w28 hbox hb; have n0_ := Aside0.mk (below_step (by repeat (first | (with_reducible first | exact HB.out | apply below_alloc | apply pw_below_drewN | apply below_drew1) | exact HB.out)) hb); have n1_ := Aside0.mk (hbox); have n2_ := Aside0.mk ((by rw [hg]; exact (below_size (by repeat (first | (with_reducible first | exact HB.out | apply below_alloc | apply pw_below_drewN | apply below_drew1) | exact HB.out))) : w.heap.size ≤ gb122)); have n3_ := Aside0.mk ((by rw [hg]; exact (below_size (by repeat (first | (with_reducible first | exact HB.out | apply below_alloc | apply pw_below_drewN | apply below_drew1) | exact HB.out))) : w.heap.size ≤ gb122)); clear HB; have HB := n0_; have BK122 := n1_; have GW122 := n2_; have GE122 := n3_; clear n0_ n1_ n2_ n3_; clear hb hbox hg) | ((with_reducible refine gate_callee (f := 18) rfl ?_); refine goesL_ (some 9) rfl rfl Tryd.func18 (by kernel_rfl) rfl #[.slice A1 l1.length c1] rfl (by (try simp only [List.map_toArray, List.map_cons, List.map_nil]); first | done | rfl | (simp only [List.length_drop, List.length_take]; rfl)) ?_; (with_reducible refine (address_Valid.calls _ _ l1 false _ ?side1 ?side2 A3.out).mono ?_); (case side1 => repeat (first | exact (Kd.C_below HR1.out HB.out) | (with_reducible first | refine Kd.C_alloc ?_ _ | refine Kd.C_drewN ?_ _ | refine Kd.C_drew ?_))); (case side2 => exact HC1.out); rintro e w' ⟨rfl, ⟨nd, rfl⟩⟩; refine ⟨_, rfl, ?_⟩; (try (rw [drewN_self w28]; generalize hq_ : World.drewN w28 _ = w28; have n0_ : Aside0 (w28.heap[gb122]? = some (.cells #[.slice none 0 0, .int .i64 0] 41 (0, 0))) := ⟨by rw [← hq_]; exact (by (with_reducible repeat (first | refine blk_drewN ?_ _ | refine blk_drew ?_ | refine blk_alloc ?_ _)); exact BK122.out)⟩; have n1_ : Aside0 (Below w.heap.size w w28) := ⟨by rw [← hq_]; exact (by repeat (first | (with_reducible first | exact HB.out | apply below_alloc | apply pw_below_drewN | apply below_drew1 | refine below_set ?_ GE122.out) | exact HB.out))⟩; clear BK122 HB hq_; have BK122 := n0_; have HB := n1_; clear n0_ n1_)); have hcz29_0 : w28.cell? ⟨gb122, 0, none⟩ = some (.slice none 0 0) := (blk_cell BK122.out 0).trans rfl; have hcz29_1 : w28.cell? ⟨gb122, 1, none⟩ = some (.int .i64 0) := (blk_cell BK122.out 1).trans rfl; have hfz29_0 := blk_frozen BK122.out 0; have hfz29_1 := blk_frozen BK122.out 1))
  refine bodyPost_ret (results_ct rfl _ _ gb122 41 #[.slice none 0 0, .int .i64 0] (0, 0) _ rfl (by (with_reducible repeat (first | refine blk_drewN ?_ _ | refine blk_drew ?_ | refine blk_alloc ?_ _)); refine blk_put (cs := #[.slice none 0 0, .int .i64 0]) ?_ 1 _ rfl; (with_reducible repeat (first | refine blk_drewN ?_ _ | refine blk_drew ?_ | refine blk_alloc ?_ _)); refine blk_put (cs := #[.slice none 0 0, .int .i64 0]) ?_ 0 _ rfl; (with_reducible repeat (first | refine blk_drewN ?_ _ | refine blk_drew ?_ | refine blk_alloc ?_ _)); exact BK122.out) Tryd.underlying41 rfl (by kernel_rfl)) rfl ?_
  exact ⟨_, by first | rfl | (simp [errW_none, errW_some] <;> rfl) | (simp [*, errW_none, errW_some] <;> rfl), by first | exact Kd.R_nil _ _ _ _ _ | exact Kd.N_nil _ _ _ _ _ | exact Kd.V_nil _ _ _ _ _ | exact Kd.Q_nil _ _ _ _ _ | exact Kd.S_nil _ _ _ _ _, by repeat (first | (with_reducible first | exact HB.out | apply below_alloc | apply pw_below_drewN | apply below_drew1 | refine below_set ?_ GE122.out) | exact HB.out)⟩

end Go.Proofs.YtchkhnhmpgkpeaaDoor.R
