-- Written by this repo's wip/tools/myprint.py (the kit's print program, with contracts of our own beside). Lean checks it.
import Derived.Test.YtchkhnhmpgkpeaaPx0
import Derived.Test.YtchkhnhmpgkpeaaPx5
namespace Go.Proofs.Ytchkhnhmpgkpeaa.P
open Go.Proofs.Ytchkhnhmpgkpeaa.Common
open Go.RowKit Go.Proofs.YtchkhnhmpgkpeaaW.PrintWords Go.Proofs.YtchkhnhmpgkpeaaW.PrintLast Go.Proofs.YtchkhnhmpgkpeaaW.PrintMore
attribute [local go_sem] max2_int min2_int max_two min_two max_three min_three max_four min_four   -- for this text's walks alone
set_option linter.unusedVariables false
set_option linter.unusedSimpArgs false

/-! ### address_Entry_36: function 36 (a contract of our own) -/
set_option maxHeartbeats 1000000 in
set_option maxRecDepth 100000 in
theorem address_Entry_36.calls (g : Nat) (lb : Array Value) (eg : ∀ args w, (callFunc g args).run Try.prog w = .ok (.enter g args) w) (p : S28 → Option Bool)
    (A0 : Option Addr) (c0 : Nat) (l0 : List S28) (r : Int) (w : World) (hr0 : Kd.C k28 w A0 l0.length l0) (hc0 : l0.length ≤ c0) (h : idxM p l0 = some r)
    (hp : ∀ W (x : S28) (cs : List Value) (b : Bool), Below w.heap.size w W → k28.K W x cs → p x = some b → Calls Try.prog g (#[.agg cs.toArray] ++ lb) W fun e w' => e = .returned (.bool b) ∧ Below W.heap.size W w') :
    Calls Try.prog 36 #[.slice A0 l0.length c0, .func (.func g) #[] lb] w fun e w' => e = .returned (.int .i64 r) ∧ Below w.heap.size w w' := by
  have HR0 := Aside0.mk hr0
  have HC0 := Aside0.mk hc0
  have HP := Aside0.mk hp
  have HI := Aside0.mk (idxAt_start h)
  have hbig : l0.length ≤ 9223372036854775807 := hr0.2.1
  clear hr0 hc0 hp h
  go_enter Try.func36, Try.ntmps36
  go_wp2
  go_loopg [5, 8] l0.length (fun gg _ s8 wr => ∃ kk : Nat, Aside0 (kk + gg = l0.length) ∧ s8 = .int .i64 kk ∧ Aside0 (Below w.heap.size w wr) ∧ Aside0 (idxAt p l0 kk r))
  case atStart => exact ⟨0, ⟨by omega⟩, rfl, ⟨Below.refl _ _⟩, HI⟩
  case round =>
    clear HI
    obtain ⟨kk, HG, rfl, HD, HI⟩ := hrel
    by_cases hlt : kk < l0.length
    · have hltz : (kk : Int) < (l0.length : Int) := by omega
      obtain ⟨b, hb, hyes, hno⟩ := idxAt_step (d := z28) HI.out hlt
      have hrd : rd_T28 l0 (kk : Int) = l0.getD kk z28 := by simp [rd_T28]
      obtain ⟨ad, A_0, c_0, e1, hx_0, hx_1, hl_0, hi_0⟩ := at_T28 (Kd.C_below HR0.out HD.out) (kk : Int) (by omega) (by omega)
      cases e1
      rw [hrd] at hx_0 hx_1 hl_0 hi_0
      rw [Int.toNat_natCast] at hx_0 hx_1
      generalize l0.getD kk z28 = x at hb hx_0 hx_1 hl_0 hi_0
      have hcall := HP.out wr x [.slice A_0 x.f0.length c_0, .int .i64 x.f1] b HD.out (k28_mk wr x hl_0 hi_0) hb
      have HCL := Aside0.mk (show Calls Try.prog g (#[.agg #[.slice A_0 x.f0.length c_0, .int .i64 x.f1]] ++ lb) wr (fun e w' => e = .returned (.bool b) ∧ Below wr.heap.size wr w') from hcall)
      have HY := Aside0.mk hyes
      have HN := Aside0.mk hno
      have HDS := Aside0.mk HD.out.size
      clear hcall hb hyes hno hrd hl_0 hi_0
      cases b with
      | true =>
        have HE : Aside0 (r = (kk : Int)) := ⟨HY.out rfl⟩
        clear hlt HY HN HI
        go_wp2_with fail
        refine HCL.out.mono ?_
        rintro e w' ⟨rfl, hb2⟩
        have HB2 := Aside0.mk hb2
        clear hb2 hx_0 hx_1
        go_wp2
        go_ret
        exact ⟨by rw [HE.out]; rfl, HD.out.trans (HB2.out.mono HD.out.size)⟩
      | false =>
        have HI2 := Aside0.mk (HN.out rfl)
        clear HY HN HI
        go_wp2_with fail
        refine HCL.out.mono ?_
        rintro e w' ⟨rfl, hb2⟩
        have HB2 := Aside0.mk hb2
        clear hb2 hx_0 hx_1
        go_wp2
        go_roundg (l0.length - (kk + 1))
        case measure => have := HG.out; omega
        case rel => exact ⟨kk + 1, ⟨by omega⟩, by go_num, ⟨HD.out.trans (HB2.out.mono HD.out.size)⟩, HI2⟩
    · have hltz : ¬ (kk : Int) < (l0.length : Int) := by omega
      have HE : Aside0 (r = -1) := ⟨idxAt_end HI.out (by omega)⟩
      clear hlt
      go_wp2
      go_ret
      exact ⟨by rw [HE.out]; rfl, HD.out⟩


/-! ### address_Entry_38: function 38 (a contract of our own) -/
set_option maxHeartbeats 4000000 in
set_option maxRecDepth 100000 in
/-- slices.Delete(s, i, i + 1) of a row of the call's own. -/
theorem address_Entry_38.one (g n cap i base : Nat) (ok : Nat → Prop) (css : List (List Value)) (w : World) (hr0 : (Kd.raw 2).R 28 w base ok (.slice (some ⟨g, 0, none⟩) n cap) css) (hi : i < n) :
    Calls Try.prog 38 #[.slice (some ⟨g, 0, none⟩) n cap, .int .i64 (i : Int), .int .i64 ((i : Int) + 1)] w fun e w' => e = .returned (.slice (some ⟨g, 0, none⟩) (n - 1) cap) ∧
      (Kd.raw 2).R 28 w' base ok (.slice (some ⟨g, 0, none⟩) (n - 1) cap) (css.eraseIdx i) ∧ w.grownBy w' (some g) := by
  obtain ⟨hn, hnc, _⟩ := Kd.R_reads' hr0
  obtain ⟨h0, ho, hcs⟩ := raw_flat hr0
  subst hn
  have hlen : ∀ c ∈ css, c.length = 2 := fun c hc => (hcs c hc).1
  obtain ⟨i0, hi0, hz0⟩ := Option.map_eq_some_iff.1 info28
  simp only [Prod.mk.injEq] at hz0
  obtain ⟨_, hz1, _⟩ := hz0
  have hcapm : cap ≤ 9223372036854775807 := by
    rcases ho.2 with ⟨h', _⟩ | ⟨g', cap', cur, hv, _, _, _, hcm, _⟩
    · cases h'
    · injection hv with _ _ hv3
      rw [hv3]
      exact hcm
  -- what is moved to the left
  obtain ⟨news, hnews⟩ : ∃ news, news = (css.drop (i + 1)).flatten := ⟨_, rfl⟩
  have hnl : news.length = (css.length - (i + 1)) * 2 := by rw [hnews, flat_length (fun c hc => hlen c (List.mem_of_mem_drop hc)), List.length_drop]
  have hone : ∀ u ∈ news, u.oneCell' = true := fun u hu => by
    rw [hnews] at hu
    obtain ⟨c, hc, hu⟩ := List.mem_flatten.1 hu
    exact (hcs c (List.mem_of_mem_drop hc)).2 u hu
  obtain ⟨_, hod, _⟩ := raw_flat (Kd.R_drew hr0)
  have hfl := flat_length hlen
  have hcell : ∀ j u, css.flatten[j]? = some u → w.drew.cell? ⟨g, j, none⟩ = some u := fun j u hu => by
    have := hod.cells (g := g) rfl j u hu
    rwa [add_plain] at this
  have hfz : ∀ j, w.drew.frozen? ⟨g, j, none⟩ = false := fun j => by
    rcases hod.2 with ⟨h', _⟩ | ⟨g', cap', cur, hv, _, hh, _⟩
    · cases h'
    · injection hv with hv1 _ _
      injection hv1 with hv1
      injection hv1 with hv1
      subst hv1
      simp [World.frozen?, hh]
  have hsome : ∀ j, j < css.length * 2 → (w.drew.cell? ⟨g, j, none⟩).isSome = true := fun j hj => by
    rw [hcell j _ (List.getElem?_eq_getElem (by rw [hfl]; exact hj))]
    rfl
  obtain ⟨A, hA, hsrc⟩ : ∃ A : Addr, (if cap = i + 1 then some (⟨g, 0, none⟩ : Addr) else some ⟨g, (i + 1) * 2, none⟩) = some A ∧ Hid (∀ t u, news[t]? = some u → w.drew.cell? (A.add t) = some u) := by
    by_cases h : cap = i + 1
    · refine ⟨⟨g, 0, none⟩, by simp [h], fun t u hu => ?_⟩
      have h0 : news.length = 0 := by rw [hnl, show css.length - (i + 1) = 0 by omega, Nat.zero_mul]
      rw [List.length_eq_zero_iff.1 h0] at hu
      simp at hu
    · refine ⟨⟨g, (i + 1) * 2, none⟩, by simp [h], fun t u hu => ?_⟩
      rw [Addr.add_lit]
      refine hcell _ u ?_
      have hsp : css.flatten = (css.take (i + 1)).flatten ++ news := by rw [hnews, ← List.flatten_append, List.take_append_drop]
      have hT : (css.take (i + 1)).flatten.length = (i + 1) * 2 := by rw [flat_length (fun c hc => hlen c (List.mem_of_mem_take hc)), List.length_take, Nat.min_eq_left (by omega)]
      rw [hsp, List.getElem?_append_right (by omega), hT, Nat.add_sub_cancel_left]
      exact hu
  have s1 : Hid (news.length = (css.length - (i + 1)) * 2) := hnl
  have s2 : Hid (∀ u ∈ news, u.oneCell' = true) := hone
  have hmul : i * 2 + news.length ≤ css.length * 2 := by
    rw [hnl, ← Nat.add_mul]
    exact Nat.mul_le_mul_right _ (by omega)
  have s3 : Hid (∀ t, t < news.length → (w.drew.cell? ⟨g, 0 + i * 2 + t, none⟩).isSome = true ∧ w.drew.frozen? ⟨g, 0 + i * 2 + t, none⟩ = false) := fun t ht => by
    rw [Nat.zero_add]
    exact ⟨hsome _ (by omega), hfz _⟩
  obtain ⟨ho1, hg1⟩ := own_setCells news (i * 2) w.drew _ hod
  obtain ⟨W1, hW1⟩ : ∃ W1, W1 = w.drew.setCells g (0 + i * 2) news := ⟨_, rfl⟩
  have hW1' : w.drew.setCells g (i * 2) news = W1 := by rw [hW1, Nat.zero_add]
  rw [hW1'] at ho1 hg1
  have hlay : (layV css.flatten (i * 2) news).length = css.length * 2 := by
    rw [layV_eq _ _ _ (by rw [hfl]; exact hmul)]
    simp only [List.length_append, List.length_take, List.length_drop, hfl]
    omega
  have hZ : ((.agg #[(.slice none 0 0), (.int .i64 0)]) : Value).cells.size = 2 := rfl
  have hlast : (css.length - 1) * 2 + 2 = css.length * 2 := by
    rw [← Nat.succ_mul]
    congr 1
    omega
  have hcl : ∀ ty, (Builtin.clear_ #[32] ty #[.slice (some ⟨g, (css.length - 1) * 2, none⟩) 1 (cap - (css.length - 1))]).run Try.prog W1 = .ok (.tuple #[]) (W1.setCells g ((css.length - 1) * 2) ((.agg #[(.slice none 0 0), (.int .i64 0)]) : Value).cells.toList) := fun ty =>
    run_clear_one W1 32 28 ty (.agg #[(.slice none 0 0), (.int .i64 0)]) Try.underlying32 Try.zeroValue28 (by intro u hu; revert u; decide) g _ _ (by decide)
      (fun j hj => by
        rw [hZ] at hj
        have := ho1.cells (g := g) rfl ((css.length - 1) * 2 + j) _ (List.getElem?_eq_getElem (by rw [hlay]; omega))
        rw [add_plain] at this
        rw [this]
        rfl)
      (fun j hj => by
        rcases ho1.2 with ⟨h', _⟩ | ⟨g', cap', cur, hv, _, hh, _⟩
        · cases h'
        · injection hv with hv1 _ _
          injection hv1 with hv1
          injection hv1 with hv1
          subst hv1
          simp [World.frozen?, hh])
  obtain ⟨ho2, hg2⟩ := own_setCells ((.agg #[(.slice none 0 0), (.int .i64 0)]) : Value).cells.toList ((css.length - 1) * 2) W1 _ ho1
  have hfin : (Kd.raw 2).R 28 (W1.setCells g ((css.length - 1) * 2) ((.agg #[(.slice none 0 0), (.int .i64 0)]) : Value).cells.toList) base ok (.slice (some ⟨g, 0, none⟩) (css.length - 1) cap) (css.eraseIdx i) := by
    have hle : (css.eraseIdx i).length = css.length - 1 := List.length_eraseIdx_of_lt hi
    have hcut := own_cut ho2 (show css.length - 1 ≤ css.length by omega)
    rw [hnews, delete_flat hlen hi _ rfl] at hcut
    exact flat_raw (fun k hk => h0 k (by simpa [Value.ownBlock] using hk)) (by rw [hle]; exact hcut) (fun c hc => hcs c (List.mem_of_mem_eraseIdx hc))
  have hgr : w.grownBy (W1.setCells g ((css.length - 1) * 2) ((.agg #[(.slice none 0 0), (.int .i64 0)]) : Value).cells.toList) (some g) := (grown_of_below (below_drew (Below.refl _ _)) _).trans (hg1.trans hg2)
  have e1 : i + (css.length - (i + 1)) = css.length - 1 := by omega
  have hcl2 : ∀ ty, (Builtin.clear_ #[32] ty #[.slice (some ⟨g, (i + (css.length - (i + 1))) * 2, none⟩) (css.length - (i + (css.length - (i + 1)))) (cap - (i + (css.length - (i + 1))))]).run Try.prog W1 = .ok (.tuple #[]) (W1.setCells g ((css.length - 1) * 2) ((.agg #[(.slice none 0 0), (.int .i64 0)]) : Value).cells.toList) := fun ty => by
    rw [e1, show css.length - (css.length - 1) = 1 by omega]
    exact hcl ty
  have hm1 : i + (css.length - (i + 1)) ≤ css.length := by omega
  have hm2 : i + (css.length - (i + 1)) ≤ cap := by omega
  have hm3 : ((i + (css.length - (i + 1)) : Nat) : Int) ≤ (css.length : Int) := by omega
  have hm4 : ¬ cap = i + (css.length - (i + 1)) := by omega
  have E1 := Lib.hid e1
  generalize hWE : W1.setCells g ((css.length - 1) * 2) ((.agg #[(.slice none 0 0), (.int .i64 0)]) : Value).cells.toList = WE at hcl2 hfin hgr
  have HFIN := Aside0.mk hfin
  have HGR := Aside0.mk hgr
  have hW : Hid (W1 = w.drew.setCells g (0 + i * 2) news) := hW1
  have hij : ((i : Int) == (i : Int) + 1) = false := by simp; omega
  have hb1 : (i : Int) + 1 ≤ (css.length : Int) := by omega
  have hb0 : 0 ≤ (i : Int) + 1 := by omega
  have hic : i ≤ cap := by omega
  have hjc : i + 1 ≤ cap := by omega
  have hsub : css.length - (i + 1) + i = css.length - 1 := by omega
  clear e1 hcl hWE hZ hW1 hW1' hcell hfz hsome hnews hnl hone hod hfl hmul ho1 hg1 hlay hlast ho2 hg2 hfin hgr hr0 ho hcs hlen h0
  go_enter Try.func38, Try.ntmps38
  go_wp2_with fail
  go_region_law (refine step_append_room rfl (.tmp 22) (.tmp 25) 32 rfl 28 i0 2 Try.underlying32 hi0 hz1 g 0 i cap (by simp [Act.eval, Act.put]) A (css.length - (i + 1)) (cap - (i + 1)) news (by simp [Act.eval, Act.put, hA]) s1.out hsrc.out s2.out (by omega) s3.out ?_; rw [← hW.out])
  go_wp2
  go_ret
  exact ⟨by rw [← E1.out]; rfl, HFIN.out, HGR.out⟩


/-! ### address_Remove_1: function 47 (a contract of our own) -/
def address_Remove_1.f (k : Nat) (p : List Int) (l0_0 : List Int) (a0_1 : Int) : Option Bool := slices_Equal_int_int.f k l0_0 p
theorem address_Remove_1.mono : ∀ p a b k, LeO (address_Remove_1.f k p a b) (address_Remove_1.f (k + 1) p a b) := by
  intro p a b k
  unfold address_Remove_1.f
  exact slices_Equal_int_int.mono _ _ _
set_option maxHeartbeats 1000000 in
set_option maxRecDepth 100000 in
theorem address_Remove_1.calls (k B : Nat) (A1 : Option Addr) (c1 : Nat) (p : List Int) (A0 : Option Addr) (c0 : Nat) (x : S28) (b : Bool) (w : World) (hbx : w.cell? ⟨B, 0, none⟩ = some (.slice A1 p.length c1)) (hrp : (Kd.int .i64).C w A1 p.length p) (hcp : p.length ≤ c1)
    (hr0 : (Kd.int .i64).C w A0 x.f0.length x.f0) (hc0 : x.f0.length ≤ c0) (h : address_Remove_1.f k p x.f0 x.f1 = some b) :
    Calls Try.prog 47 #[.agg #[.slice A0 x.f0.length c0, .int .i64 x.f1], .pointer (some ⟨B, 0, none⟩)] w fun e w' => e = .returned (.bool b) ∧ Below w.heap.size w w' := by
  have hu28 := Try.underlying28
  have HR0 := Aside0.mk hr0
  have HRP := Aside0.mk hrp
  have HCP := Aside0.mk hcp
  have HC0 := Aside0.mk hc0
  have H := Aside0.mk (show slices_Equal_int_int.f k x.f0 p = some b from h)
  have hB' : (w.alloc (.cells #[.slice A0 x.f0.length c0, .int .i64 x.f1] 28)).cell? ⟨B, 0, none⟩ = some (.slice A1 p.length c1) := Lib.cell?_alloc_some _ hbx
  clear h hr0 hrp hcp hc0
  go_enter Try.func47, Try.ntmps47
  go_wp2_with fail
  have hb0 : Below w.heap.size w (w.alloc (.cells #[.slice A0 x.f0.length c0, .int .i64 x.f1] 28)) := (Below.refl _ _).alloc (Nat.le_refl _) _
  refine (slices_Equal_int_int.calls k _ _ x.f0 _ _ p b _ (Kd.C_below HR0.out hb0) HC0.out (Kd.C_below HRP.out hb0) HCP.out H.out).mono ?_
  rintro e w2 ⟨rfl, hb2⟩
  have hsz : (w.alloc (.cells #[.slice A0 x.f0.length c0, .int .i64 x.f1] 28)).heap.size = w.heap.size + 1 := by simp
  have HBW := Aside0.mk (hb0.trans (hb2.below.mono (by rw [hsz]; exact Nat.le_succ _)))
  clear hb0 hb2 hsz hB' hbx
  go_wp2
  go_ret
  exact ⟨rfl, HBW.out⟩


end Go.Proofs.Ytchkhnhmpgkpeaa.P
