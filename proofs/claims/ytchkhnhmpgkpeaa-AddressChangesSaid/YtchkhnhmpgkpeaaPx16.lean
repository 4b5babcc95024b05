-- Written by this repo's wip/tools/myprint.py (the kit's print program, with contracts of our own beside). Lean checks it.
import Derived.Test.YtchkhnhmpgkpeaaPx0
import Derived.Test.YtchkhnhmpgkpeaaPx2
import Derived.Test.YtchkhnhmpgkpeaaPx4
import Derived.Test.YtchkhnhmpgkpeaaPx6
import Derived.Test.YtchkhnhmpgkpeaaPx7
import Derived.Test.YtchkhnhmpgkpeaaPx13
import Derived.Test.YtchkhnhmpgkpeaaPx14
import Derived.Test.YtchkhnhmpgkpeaaPx15
namespace Go.Proofs.Ytchkhnhmpgkpeaa.P
open Go.Proofs.Ytchkhnhmpgkpeaa.Common
open Go.RowKit Go.Proofs.YtchkhnhmpgkpeaaW.PrintWords Go.Proofs.YtchkhnhmpgkpeaaW.PrintLast Go.Proofs.YtchkhnhmpgkpeaaW.PrintMore
attribute [local go_sem] max2_int min2_int max_two min_two max_three min_three max_four min_four   -- for this text's walks alone
set_option linter.unusedVariables false
set_option linter.unusedSimpArgs false

open List (setIfInBounds_toArray set_cons_zero set_cons_succ)
def tb16 (n b : Nat) : Array Bool := ((List.range n).map fun i => b.testBit i).toArray
/-! ### address_Add: function 20 (a contract of our own) -/
theorem address_Add.C_of_raw {α : Type} {d : Kd α} {w : World} {A : Option Addr} {n : Nat} {xs : List α} {css : List (List Value)} (h : (Kd.raw d.sz).C w A n css) (hl : css.length = xs.length)
    (hk : ∀ (j : Nat) (x : α), xs[j]? = some x → ∃ c, css[j]? = some c ∧ d.K w x c) : d.C w A n xs := by
  obtain ⟨h1, h2, h3⟩ := h
  refine ⟨by rw [← hl]; exact h1, h2, fun hn => ?_⟩
  obtain ⟨ad, rfl, hc⟩ := h3 hn
  refine ⟨ad, rfl, fun j x hj => ?_⟩
  obtain ⟨c, hcj, hK⟩ := hk j x hj
  obtain ⟨c', hcl, hM, hu⟩ := hc j c hcj
  obtain ⟨e, _, _⟩ := hM
  subst e
  exact ⟨c', hcl, hK, hu⟩
theorem address_Add.ins_at {α β : Type} {l : List α} {css : List β} {Q : α → β → Prop} {y : α} {cy : β} {p : Nat} (h : ∀ (j : Nat) (x : α), l[j]? = some x → ∃ c, css[j]? = some c ∧ Q x c) (hl : css.length = l.length) (hy : Q y cy) (hp : p ≤ l.length) :
    ∀ (j : Nat) (x : α), (l.take p ++ y :: l.drop p)[j]? = some x → ∃ c, (css.take p ++ cy :: css.drop p)[j]? = some c ∧ Q x c := fun j x hj => by
  have e1 : (l.take p).length = p := by rw [List.length_take]; omega
  have e2 : (css.take p).length = p := by rw [List.length_take]; omega
  rcases Nat.lt_trichotomy j p with hlt | rfl | hgt
  · rw [List.getElem?_append_left (by omega), List.getElem?_take, if_pos hlt] at hj
    rw [List.getElem?_append_left (by omega), List.getElem?_take, if_pos hlt]
    exact h j x hj
  · rw [List.getElem?_append_right (by omega), e1, Nat.sub_self] at hj
    rw [List.getElem?_append_right (by omega), e2, Nat.sub_self]
    obtain rfl : y = x := by simpa using hj
    exact ⟨cy, rfl, hy⟩
  · obtain ⟨t, rfl⟩ : ∃ t, j = p + 1 + t := ⟨j - (p + 1), by omega⟩
    rw [List.getElem?_append_right (by omega), e1, show p + 1 + t - p = t + 1 by omega, List.getElem?_cons_succ, List.getElem?_drop] at hj
    rw [List.getElem?_append_right (by omega), e2, show p + 1 + t - p = t + 1 by omega, List.getElem?_cons_succ, List.getElem?_drop]
    exact h _ x hj
def address_Add.T11 : Bool × List (List Nat × List Nat) := (true, [([], []), ([0], [0]), ([], []), ([], []), ([3], [3]), ([1, 2, 4, 1], [1, 2, 4]), ([5, 5], [5]), ([6, 6, 0, 1, 2, 3, 4, 5, 6], [6]), ([7, 0, 1, 2, 3, 4, 5, 6, 7], [])])
def address_Add.B11 : List Nat := [0, 1, 0, 0, 8, 31, 63, 127, 255]
theorem address_Add.tab11 : rtab .any (opsOf Try.f20 11) = address_Add.T11 := by kernel_rfl
theorem address_Add.bits11 : waitsOk address_Add.T11.2 address_Add.B11 = true := by kernel_rfl
def address_Add.f (k : Nat) (l0 : List S28) (l1_0 : List Int) (a1_1 : Int) : Option (List S28 × Int) := (address_valid.f l1_0 a1_1).bind fun b => if b = true then ((address_entries.f k l0).bind fun e => if e = 0 then (if (l0.length + 1) * 32 ≤ 140737488355328 then ((address_Entry_41.f (fun x => address_Add_1.f k x.f0 l1_0) l0).bind fun at_ => if l0.length = 100 then some ([], 2) else if at_.2 = true then some ([], 7) else ((address_own.f (l0.take at_.1.toNat ++ ⟨l1_0, a1_1⟩ :: l0.drop at_.1.toNat)).bind fun r => some (r, 0))) else none) else some ([], e)) else some ([], 1)
theorem address_Add.mono : ∀ a0 a1 a2 k, LeO (address_Add.f k a0 a1 a2) (address_Add.f (k + 1) a0 a1 a2) := by
  intro a0 a1 a2 k
  unfold address_Add.f
  exact LeO.bind (LeO.refl _) (fun b => LeO.ite (LeO.bind (address_entries.mono _ _) (fun e => LeO.ite (LeO.ite (LeO.bind (address_Entry_41.mono (fun x => address_Add_1.mono _ _ _) a0) (fun _ => LeO.refl _)) (LeO.refl _)) (LeO.refl _))) (LeO.refl _))
set_option maxHeartbeats 2000000 in
set_option maxRecDepth 100000 in
theorem address_Add.calls (k : Nat) (A0 : Option Addr) (c0 : Nat) (l0 : List S28) (A1_0 : Option Addr) (c1_0 : Nat) (l1_0 : List Int) (a1_1 : Int) (r1 : List S28) (r2 : Int) (w : World) (hr0 : Kd.C k28 w A0 l0.length l0) (hc0 : l0.length ≤ c0) (hr1_0 : Kd.C (Kd.int .i64) w A1_0 l1_0.length l1_0) (hc1_0 : l1_0.length ≤ c1_0) (h : address_Add.f k l0 l1_0 a1_1 = some (r1, r2)) :
    Calls Try.prog 20 #[.slice A0 l0.length c0, .agg #[.slice A1_0 l1_0.length c1_0, .int .i64 a1_1]] w fun e w' => ∃ v0_ : Value, e = .returned (.tuple #[v0_, .int .i64 r2]) ∧ Kd.S k28 28 w' w.heap.size (fun _ => True) v0_ r1 ∧ Below w.heap.size w w' := by
  have hu28 := Try.underlying28
  obtain ⟨b, hv, h⟩ := Option.bind_eq_some_iff.1 h
  have HB0 := Aside0.mk (show Below w.heap.size w (w.alloc (.cells #[.slice A1_0 l1_0.length c1_0, .int .i64 a1_1] 28)) from (Below.refl _ _).alloc (Nat.le_refl _) _)
  have HSZ := Aside0.mk (show (w.alloc (.cells #[.slice A1_0 l1_0.length c1_0, .int .i64 a1_1] 28)).heap.size = w.heap.size + 1 by simp)
  have HX0 := Aside0.mk ((blk_cell (heap_alloc_new w (.cells #[.slice A1_0 l1_0.length c1_0, .int .i64 a1_1] 28)) 0).trans (show _ = some (Value.slice A1_0 l1_0.length c1_0) from rfl))
  have HX1 := Aside0.mk ((blk_cell (heap_alloc_new w (.cells #[.slice A1_0 l1_0.length c1_0, .int .i64 a1_1] 28)) 1).trans (show _ = some (Value.int .i64 a1_1) from rfl))
  have HR0 := Aside0.mk hr0
  have HC0 := Aside0.mk hc0
  have HR1 := Aside0.mk hr1_0
  have HC1 := Aside0.mk hc1_0
  have HV := Aside0.mk hv
  have H := Aside0.mk h
  clear hr0 hc0 hr1_0 hc1_0 hv h
  go_enter Try.func20, Try.ntmps20
  go_wp2_with fail
  refine (address_valid.calls A1_0 c1_0 l1_0 a1_1 b _ (Kd.C_below HR1.out HB0.out) HC1.out HV.out).mono ?_
  rintro e w1 ⟨rfl, hb1⟩
  have hx0 : w1.cell? ⟨w.heap.size, 0, none⟩ = some (.slice A1_0 l1_0.length c1_0) := (hb1.cell (p := ⟨w.heap.size, 0, none⟩) (by rw [HSZ.out]; exact Nat.lt_succ_self _)).trans HX0.out
  have hx1 : w1.cell? ⟨w.heap.size, 1, none⟩ = some (.int .i64 a1_1) := (hb1.cell (p := ⟨w.heap.size, 1, none⟩) (by rw [HSZ.out]; exact Nat.lt_succ_self _)).trans HX1.out
  have HB1 := Aside0.mk (HB0.out.trans (hb1.mono (by rw [HSZ.out]; exact Nat.le_succ _)))
  have HLT1 : Aside0 (w.heap.size < w1.heap.size) := ⟨by have := hb1.size; rw [HSZ.out] at this; omega⟩
  clear hb1 HV HX0 HX1 HSZ HB0
  cases b with
  | false =>
    have h := H.out
    rw [if_neg (by simp)] at h
    injection h with h
    injection h with h1 h2
    subst h1 h2
    clear H
    go_wp2
    go_ret2
    exact ⟨_, rfl, Kd.S_nil _ _ _ _ _, HB1.out⟩
  | true =>
    have h := H.out
    rw [if_pos rfl] at h
    obtain ⟨e, he, h⟩ := Option.bind_eq_some_iff.1 h
    have HE := Aside0.mk he
    have H2 := Aside0.mk h
    clear H he h
    go_wp2_with fail
    refine (address_entries.calls k A0 c0 l0 e w1 (Kd.C_below HR0.out HB1.out) HC0.out HE.out).mono ?_
    rintro e' w2 ⟨rfl, hb2⟩
    have hy0 := (hb2.cell (p := ⟨w.heap.size, 0, none⟩) HLT1.out).trans hx0
    have hy1 := (hb2.cell (p := ⟨w.heap.size, 1, none⟩) HLT1.out).trans hx1
    have HB2 := Aside0.mk (HB1.out.trans (hb2.mono HB1.out.size))
    have HLT2 : Aside0 (w.heap.size < w2.heap.size) := ⟨by have := hb2.size; have := HLT1.out; omega⟩
    clear hb2 HE HB1 hx0 hx1 HLT1
    by_cases he0 : e = 0
    · subst he0
      have h := H2.out
      rw [if_pos rfl] at h
      by_cases hlim : (l0.length + 1) * 32 ≤ 140737488355328
      case neg => rw [if_neg hlim] at h; cases h
      rw [if_pos hlim] at h
      obtain ⟨⟨p, there⟩, hp, h⟩ := Option.bind_eq_some_iff.1 h
      simp only at h
      obtain ⟨p, rfl, hpl⟩ := address_Entry_41.range hp
      rw [Int.toNat_natCast] at h
      have HPL := Aside0.mk hpl
      have HLIM := Aside0.mk hlim
      have HP := Aside0.mk (address_Entry_41.calls (fun x => address_Add_1.f k x.f0 l1_0) A0 c0 l0 A1_0 c1_0 ⟨l1_0, a1_1⟩ (p : Int) there w2 (Kd.C_below HR0.out HB2.out) HC0.out (by omega) hp (fun W x cs c hW hK hq => by
        obtain ⟨A', c', rfl, h1, h2⟩ := k28_open hK
        exact address_Add_1.calls k A' c' x A1_0 c1_0 ⟨l1_0, a1_1⟩ c W h2 h1 (Kd.C_below (Kd.C_below HR1.out HB2.out) hW) HC1.out hq))
      have H3 := Aside0.mk h
      clear H2 h hp hlim hpl
      go_wp2_with fail
      refine HP.out.mono ?_
      rintro e' w3 ⟨rfl, hb3⟩
      have hz0 := (hb3.cell (p := ⟨w.heap.size, 0, none⟩) HLT2.out).trans hy0
      have hz1 := (hb3.cell (p := ⟨w.heap.size, 1, none⟩) HLT2.out).trans hy1
      have HB3 := Aside0.mk (HB2.out.trans (hb3.mono HB2.out.size))
      have HLT3 : Aside0 (w.heap.size < w3.heap.size) := ⟨by have := hb3.size; have := HLT2.out; omega⟩
      clear hb3 HP HB2 hy0 hy1 HLT2
      by_cases hfull : l0.length = 100
      · have h := H3.out
        rw [if_pos hfull] at h
        injection h with h
        injection h with h1 h2
        subst h1 h2
        have hfz : (l0.length : Int) = 100 := by omega
        clear H3 hfull
        go_wp2
        go_ret2
        exact ⟨_, rfl, Kd.S_nil _ _ _ _ _, HB3.out⟩
      · have hfz : ¬ (l0.length : Int) = 100 := by omega
        cases there with
        | true =>
          have h := H3.out
          rw [if_neg hfull, if_pos rfl] at h
          injection h with h
          injection h with h1 h2
          subst h1 h2
          clear H3 hfull
          go_wp2
          go_ret2
          exact ⟨_, rfl, Kd.S_nil _ _ _ _ _, HB3.out⟩
        | false =>
          have h := H3.out
          rw [if_neg hfull, if_neg (by simp)] at h
          obtain ⟨r, ho, h⟩ := Option.bind_eq_some_iff.1 h
          injection h with h
          injection h with h1 h2
          subst h1 h2
          have HO := Aside0.mk ho
          clear H3 hfull h ho
          go_wp2_with fail
          obtain ⟨css, hcl, hraw, hcs⟩ := C_raw (Kd.C_below (Kd.C_below HR0.out HB3.out) (below_drew1 (Below.refl w3.heap.size w3)))
          have HWD := Aside0.mk (show Below w.heap.size w w3.drew from below_drew1 HB3.out)
          have HLTD := Aside0.mk (show w.heap.size < w3.drew.heap.size from HLT3.out)
          have HRAW := Aside0.mk (show Kd.C (Kd.raw 2) w3.drew A0 l0.length css from hraw)
          have HCL := Aside0.mk hcl
          have HL1 : Aside0 ((css.take p ++ [.slice A1_0 l1_0.length c1_0, .int .i64 a1_1] :: css.drop p).length = l0.length + 1) := ⟨by have := HPL.out; simp only [List.length_append, List.length_cons, List.length_take, List.length_drop, hcl]; omega⟩
          have HL2 : Aside0 ((l0.take p ++ (⟨l1_0, a1_1⟩ : S28) :: l0.drop p).length = l0.length + 1) := ⟨by have := HPL.out; simp only [List.length_append, List.length_cons, List.length_take, List.length_drop]; omega⟩
          have HINS := Aside0.mk (address_Add.ins_at (y := (⟨l1_0, a1_1⟩ : S28)) (cy := [Value.slice A1_0 l1_0.length c1_0, Value.int .i64 a1_1]) (Q := fun x c => k28.K w3.drew x c) hcs hcl (k28_mk w3.drew ⟨l1_0, a1_1⟩ HC1.out (Kd.C_below (Kd.C_below HR1.out HB3.out) (below_drew1 (Below.refl w3.heap.size w3)))) HPL.out)
          have HONE := Aside0.mk (k28.K_one (k28_mk w3 ⟨l1_0, a1_1⟩ HC1.out (Kd.C_below HR1.out HB3.out)))
          clear hraw hcl hcs
          refine start_ (n := 9) (S := fun w' => w'.cell? ⟨w.heap.size, 0, none⟩ = some (.slice A1_0 l1_0.length c1_0) ∧ w'.cell? ⟨w.heap.size, 1, none⟩ = some (.int .i64 a1_1)) (ds := []) #[false, false, false, false, false, false, false, false, false] (by kernel_rfl) rfl rfl ⟨hz0, hz1⟩ (fun hHeld => ?_)
          refine with_tabW address_Add.tab11 address_Add.bits11 (fun HT_ HW_ => ?_)
          generalize wdd : w3.drew = wd at HWD HLTD HRAW HINS hHeld ⊢
          clear wdd
          refine pure_ (i := 0) (N := some 29) (v := ?_) (a' := ?_) (tb16 9 1) rfl rfl (any_of HT_.out (by kernel_rfl)) (fun _ _ _ h => h) (Or.inl ⟨by rfl, ?_⟩) ?_ ?_
          rotate_left
          · intro w'
            go_simp
            with_reducible rfl
          rotate_left
          · simp only [Act.put, setIfInBounds_toArray, set_cons_zero, set_cons_succ, i64_w, i32_w]
            rfl
          refine pure_ (i := 2) (N := some 31) (v := ?_) (a' := ?_) (tb16 9 5) rfl rfl (any_of HT_.out (by kernel_rfl)) (fun _ _ _ h => h) (Or.inl ⟨by rfl, ?_⟩) ?_ ?_
          rotate_left
          · intro w'
            go_simp
            with_reducible rfl
          rotate_left
          · simp only [Act.put, setIfInBounds_toArray, set_cons_zero, set_cons_succ, i64_w, i32_w]
            rfl
          refine take_ (i := 3) (N := some 32) (v := ?_) (a' := ?_) (tb16 9 13) rfl rfl (take_ofW HT_.out HW_.out (by kernel_rfl)) (fun _ _ _ h => h) (Or.inl ⟨by rfl, ?_⟩) hHeld ?_ ?_
          rotate_left
          · rintro w' ⟨s0, s1⟩
            go_simp
            with_reducible rfl
          rotate_left
          · simp only [Act.put, setIfInBounds_toArray, set_cons_zero, set_cons_succ, i64_w, i32_w]
            rfl
          refine join_ (σ := Value × Nat) 4 #[true, true, true, true, true, false, false, false, false] (fun s => [(30, s.1), (33, .slice (some ⟨s.2, 0, none⟩) 1 1)]) (fun s w' => Below wd.heap.size wd w' ∧ (Kd.raw 2).R 28 w' wd.heap.size (fun _ => True) s.1 css ∧ w'.heap[s.2]? = some (.cells #[.slice A1_0 l1_0.length c1_0, .int .i64 a1_1] 28 (0, 0)) ∧ (∀ k, s.1.ownBlock = some k → s.2 ≠ k) ∧ w'.cell? ⟨w.heap.size, 0, none⟩ = some (.slice A1_0 l1_0.length c1_0) ∧ w'.cell? ⟨w.heap.size, 1, none⟩ = some (.int .i64 a1_1)) ?_ ?_
          rotate_left
          · intro hCont
            refine two_ (i := 1) (j := 4) (Ni := some 30) (Nj := some 33) #[true, true, true, true, false, false, false, false, false] #[true, false, true, true, true, false, false, false, false] rfl rfl rfl rfl (two_of HT_.out (by kernel_rfl)) (by decide) (by decide) (fun K hK => ?_) (fun K hK => ?_)
            · skip
              refine goes_ Try.func45 (by kernel_rfl) rfl #[.slice A0 l0.length c0] (by rfl) rfl rfl (by (try simp only [List.map_toArray, List.map_cons, List.map_nil]); first | done | rfl | (simp only []; rfl)) ?_
              with_reducible refine (address_Entry_45.raw A0 c0 l0.length css _ HRAW.out (by have := HLIM.out; omega)).mono ?_
              rintro e w4 ⟨v4, rfl, hr4, hb4⟩
              have HR4 := Aside0.mk hr4
              have HB4 := Aside0.mk hb4
              clear hr4 hb4
              refine ⟨_, rfl, ?_⟩
              refine hK.out _ _ ⟨pw_cell_below HB4.out hHeld.1, pw_cell_below HB4.out hHeld.2⟩ (fun hHeld => ?_)
              clear hK K
              refine norm_ (a' := ?_) ?_ ?_
              rotate_left
              · show Act.put _ (some 30) _ = _
                simp only [Act.put, setIfInBounds_toArray, set_cons_zero, set_cons_succ, i64_w, i32_w]
                rfl
              refine one_ (i := 4) (N := some 33) (tb16 9 31) rfl rfl (one_of HT_.out (by kernel_rfl)) (by decide) (fun K hK => ?_)
              refine value_ (w1 := w4.alloc (Obj.cells #[Value.slice A1_0 l1_0.length c1_0, Value.int .i64 a1_1] 28)) (v := .slice (some ⟨w4.heap.size, 0, none⟩) 1 1) (by rfl) rfl ?_ ?_
              · go_simp
              have HB5 := Aside0.mk (show Below w4.heap.size w4 (w4.alloc (Obj.cells #[Value.slice A1_0 l1_0.length c1_0, Value.int .i64 a1_1] 28)) from (Below.refl _ _).alloc (Nat.le_refl _) _)
              have HV5 := Aside0.mk (heap_alloc_new w4 (Obj.cells #[Value.slice A1_0 l1_0.length c1_0, Value.int .i64 a1_1] 28))
              generalize w4.alloc (Obj.cells #[Value.slice A1_0 l1_0.length c1_0, Value.int .i64 a1_1] 28) = w5 at HB5 HV5 ⊢
              refine hK.out _ _ ⟨pw_cell_below HB5.out hHeld.1, pw_cell_below HB5.out hHeld.2⟩ (fun hHeld => ?_)
              clear hK K
              refine norm_ (a' := ?_) ?_ ?_
              rotate_left
              · show Act.put _ (some 33) _ = _
                simp only [Act.put, setIfInBounds_toArray, set_cons_zero, set_cons_succ, i64_w, i32_w]
                rfl
              exact norm_ (by simp only [putAll, Act.put, List.setIfInBounds_toArray, List.set_cons_zero, List.set_cons_succ]) (hCont (v4, w4.heap.size) _ ⟨HB4.out.trans (HB5.out.mono HB4.out.size), Kd.R_below HR4.out HB5.out, HV5.out, fun k_ hk_ => (Nat.ne_of_lt (Kd.R_lt HR4.out k_ hk_)).symm, hHeld.1, hHeld.2⟩)
            · skip
              refine value_ (w1 := wd.alloc (Obj.cells #[Value.slice A1_0 l1_0.length c1_0, Value.int .i64 a1_1] 28)) (v := .slice (some ⟨wd.heap.size, 0, none⟩) 1 1) (by rfl) rfl ?_ ?_
              · go_simp
              have HB5 := Aside0.mk (show Below wd.heap.size wd (wd.alloc (Obj.cells #[Value.slice A1_0 l1_0.length c1_0, Value.int .i64 a1_1] 28)) from (Below.refl _ _).alloc (Nat.le_refl _) _)
              have HV5 := Aside0.mk (heap_alloc_new wd (Obj.cells #[Value.slice A1_0 l1_0.length c1_0, Value.int .i64 a1_1] 28))
              generalize wd.alloc (Obj.cells #[Value.slice A1_0 l1_0.length c1_0, Value.int .i64 a1_1] 28) = w5 at HB5 HV5 ⊢
              refine hK.out _ _ ⟨pw_cell_below HB5.out hHeld.1, pw_cell_below HB5.out hHeld.2⟩ (fun hHeld => ?_)
              clear hK K
              refine norm_ (a' := ?_) ?_ ?_
              rotate_left
              · show Act.put _ (some 33) _ = _
                simp only [Act.put, setIfInBounds_toArray, set_cons_zero, set_cons_succ, i64_w, i32_w]
                rfl
              refine one_ (i := 1) (N := some 30) (tb16 9 31) rfl rfl (one_of HT_.out (by kernel_rfl)) (by decide) (fun K hK => ?_)
              refine goes_ Try.func45 (by kernel_rfl) rfl #[.slice A0 l0.length c0] (by rfl) rfl rfl (by (try simp only [List.map_toArray, List.map_cons, List.map_nil]); first | done | rfl | (simp only []; rfl)) ?_
              with_reducible refine (address_Entry_45.raw A0 c0 l0.length css _ (Kd.C_below HRAW.out HB5.out) (by have := HLIM.out; omega)).mono ?_
              rintro e w4 ⟨v4, rfl, hr4, hb4⟩
              have HR4 := Aside0.mk hr4
              have HB4 := Aside0.mk hb4
              clear hr4 hb4
              refine ⟨_, rfl, ?_⟩
              refine hK.out _ _ ⟨pw_cell_below HB4.out hHeld.1, pw_cell_below HB4.out hHeld.2⟩ (fun hHeld => ?_)
              clear hK K
              refine norm_ (a' := ?_) ?_ ?_
              rotate_left
              · show Act.put _ (some 30) _ = _
                simp only [Act.put, setIfInBounds_toArray, set_cons_zero, set_cons_succ, i64_w, i32_w]
                rfl
              exact norm_ (by simp only [putAll, Act.put, List.setIfInBounds_toArray, List.set_cons_zero, List.set_cons_succ]) (hCont (v4, wd.heap.size) _ ⟨HB5.out.trans (HB4.out.mono HB5.out.size), Kd.R_lower HR4.out HB5.out.size, (HB4.out.block _ (blk_lt HV5.out)).trans HV5.out, fun k_ hk_ => Nat.ne_of_lt (Nat.lt_of_lt_of_le (blk_lt HV5.out) (Kd.R_base HR4.out k_ hk_)), hHeld.1, hHeld.2⟩)
          rintro ⟨v4, gb⟩ w5 ⟨hb5, hr5, hv5, hne5, hs0, hs1⟩
          dsimp only at hr5 hv5 hne5 ⊢
          obtain ⟨A4, c4, hvv⟩ := Kd.R_slice hr5
          rw [HCL.out] at hvv
          subst hvv
          have hHeld : w5.cell? ⟨w.heap.size, 0, none⟩ = some (.slice A1_0 l1_0.length c1_0) ∧ w5.cell? ⟨w.heap.size, 1, none⟩ = some (.int .i64 a1_1) := ⟨hs0, hs1⟩
          have HB5 := Aside0.mk hb5
          have HR5 := Aside0.mk hr5
          have HV5 := Aside0.mk hv5
          have HNE := Aside0.mk hne5
          clear hb5 hr5 hv5 hne5 hs0 hs1
          refine norm_ (a' := ?_) ?_ ?_
          rotate_left
          · simp only [putAll, Act.put, List.setIfInBounds_toArray, List.set_cons_zero, List.set_cons_succ]
            rfl
          refine one_ (i := 5) (N := some 34) (tb16 9 63) rfl rfl (one_of HT_.out (by kernel_rfl)) (by decide) (fun K hK => ?_)
          refine goes_ Try.func44 (by kernel_rfl) rfl #[.slice A4 l0.length c4, .int .i64 (p : Int), .slice (some ⟨gb, 0, none⟩) 1 1] (by rfl) rfl rfl (by (try simp only [List.map_toArray, List.map_cons, List.map_nil]); first | done | rfl | (simp only []; rfl)) ?_
          with_reducible refine (address_Entry_44.one A4 l0.length c4 p wd.heap.size gb 1 css [.slice A1_0 l1_0.length c1_0, .int .i64 a1_1] _ HR5.out HPL.out (by have := HLIM.out; omega) HB5.out.size HV5.out rfl HONE.out (fun a ha => HNE.out a.block (by rw [ha]; simp [Value.ownBlock]))).mono ?_
          rintro e w6 ⟨v6, rfl, hr6, hb6⟩
          have HB6 := Aside0.mk (HB5.out.trans hb6)
          obtain ⟨A6, c6, hvv, hnc6, hC6⟩ := Kd.R_reads hr6
          rw [HL1.out] at hvv hnc6 hC6
          subst hvv
          have HC6 := Aside0.mk (show Kd.C k28 w6 A6 (l0.take p ++ ⟨l1_0, a1_1⟩ :: l0.drop p).length (l0.take p ++ ⟨l1_0, a1_1⟩ :: l0.drop p) from address_Add.C_of_raw (d := k28) (by rw [HL2.out]; exact hC6) (by rw [HL1.out, HL2.out]) (fun j x hj => by obtain ⟨c_, h1_, h2_⟩ := HINS.out j x hj; exact ⟨c_, h1_, k28.K_below HB6.out h2_⟩))
          have HNC := Aside0.mk (show (l0.take p ++ (⟨l1_0, a1_1⟩ : S28) :: l0.drop p).length ≤ c6 by rw [HL2.out]; exact hnc6)
          have hs0 := (hb6.cell (p := ⟨w.heap.size, 0, none⟩) HLTD.out).trans hHeld.1
          have hs1 := (hb6.cell (p := ⟨w.heap.size, 1, none⟩) HLTD.out).trans hHeld.2
          clear hr6 hb6 hnc6 hC6
          refine ⟨_, rfl, ?_⟩
          refine hK.out _ _ ⟨hs0, hs1⟩ (fun hHeld => ?_)
          clear hK K
          refine norm_ (a' := ?_) ?_ ?_
          rotate_left
          · show Act.put _ (some 34) _ = _
            simp only [Act.put, setIfInBounds_toArray, set_cons_zero, set_cons_succ, i64_w, i32_w]
            rfl
          refine one_ (i := 6) (N := some 35) (tb16 9 127) rfl rfl (one_of HT_.out (by kernel_rfl)) (by decide) (fun K hK => ?_)
          rw [← HL2.out]
          refine goes_ Try.func31 (by kernel_rfl) rfl #[.slice A6 (l0.take p ++ (⟨l1_0, a1_1⟩ : S28) :: l0.drop p).length c6] (by rfl) rfl rfl (by (try simp only [List.map_toArray, List.map_cons, List.map_nil]); first | done | rfl | (simp only []; rfl)) ?_
          with_reducible refine (address_own.calls A6 c6 (l0.take p ++ ⟨l1_0, a1_1⟩ :: l0.drop p) r _ HC6.out HNC.out HO.out).mono ?_
          rintro e w7 ⟨v7, rfl, hS, hb7⟩
          have HS := Aside0.mk hS
          have HB7 := Aside0.mk hb7
          have ht0 := pw_cell_below hb7 hHeld.1
          have ht1 := pw_cell_below hb7 hHeld.2
          clear hS hb7
          refine ⟨_, rfl, ?_⟩
          refine hK.out _ _ ⟨ht0, ht1⟩ (fun hHeld => ?_)
          clear hK K
          refine norm_ (a' := ?_) ?_ ?_
          rotate_left
          · show Act.put _ (some 35) _ = _
            simp only [Act.put, setIfInBounds_toArray, set_cons_zero, set_cons_succ, i64_w, i32_w]
            rfl
          refine pure_ (i := 7) (N := some 4) (v := ?_) (a' := ?_) (tb16 9 255) rfl rfl (any_of HT_.out (by kernel_rfl)) (fun _ _ _ h => h) (Or.inl ⟨by rfl, ?_⟩) ?_ ?_
          rotate_left
          · intro w'
            go_simp
            with_reducible rfl
          rotate_left
          · simp only [Act.put, setIfInBounds_toArray, set_cons_zero, set_cons_succ, i64_w, i32_w]
            rfl
          refine pure_ (i := 8) (N := some 5) (v := ?_) (a' := ?_) (tb16 9 511) rfl rfl (any_of HT_.out (by kernel_rfl)) (fun _ _ _ h => h) (Or.inl ⟨by rfl, ?_⟩) ?_ ?_
          rotate_left
          · intro w'
            go_simp
            with_reducible rfl
          rotate_left
          · simp only [Act.put, setIfInBounds_toArray, set_cons_zero, set_cons_succ, i64_w, i32_w]
            rfl
          refine done_ (done_of HT_.out (by kernel_rfl)) ?_
          have HBF := Aside0.mk (HWD.out.trans (HB6.out.mono HWD.out.size))
          go_wp2
          go_ret2
          exact ⟨_, rfl, Kd.S_mono (Kd.S_lower HS.out HBF.out.size) (fun _ _ => trivial), HBF.out.trans (HB7.out.mono HBF.out.size)⟩
    · have h := H2.out
      rw [if_neg he0] at h
      injection h with h
      injection h with h1 h2
      subst h1 h2
      have hbe : (e == 0) = false := by simpa using he0
      have hbn : (e != 0) = true := by simpa using he0
      clear H2 he0
      go_wp2
      go_ret2
      exact ⟨_, rfl, Kd.S_nil _ _ _ _ _, HB2.out⟩


end Go.Proofs.Ytchkhnhmpgkpeaa.P
