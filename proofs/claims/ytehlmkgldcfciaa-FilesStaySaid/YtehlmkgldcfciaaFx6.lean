-- Written by this repo's wip/tools/myprint.py (the kit's print program, with contracts of our own beside). Lean checks it.
import Derived.Test.YtehlmkgldcfciaaFx0
namespace Go.Proofs.Ytehlmkgldcfciaa.F
open Go.Proofs.Ytehlmkgldcfciaa.Common
open Go.RowKit Go.Proofs.YtehlmkgldcfciaaW.PrintWords Go.Proofs.YtehlmkgldcfciaaW.PrintLast Go.Proofs.YtehlmkgldcfciaaW.PrintMore
attribute [local go_sem] max2_int min2_int max_two min_two max_three min_three max_four min_four   -- for this text's walks alone
set_option linter.unusedVariables false
set_option linter.unusedSimpArgs false

-- NOT PRINTED: function 51 (files_file_changed)

-- NOT PRINTED: function 24 (files_Store_Insert)

-- NOT PRINTED: function 10 (heptadlaw28_sane)

-- NOT PRINTED: function 37 (files_Rule_37)

/-! ### files_Rule_40: function 40 (a contract of our own) -/
set_option maxHeartbeats 1000000 in
theorem files_Rule_40.raw (A0 : Option Addr) (c0 n0 : Nat) (css : List (List Value)) (w : World) (hr0 : Kd.C (Kd.raw 2) w A0 n0 css) (hl : n0 * 24 ≤ 140737488355328) :
    Calls Try.prog 40 #[.slice A0 n0 c0] w fun e w' => ∃ v : Value, e = .returned v ∧ Kd.R (Kd.raw 2) 34 w' w.heap.size (fun _ => True) v css ∧ Below w.heap.size w w' := by
  have HL := Aside0.mk hl
  cases A0 with
  | none =>
    have h0 : n0 = 0 := by
      rcases Nat.eq_zero_or_pos n0 with h | h
      · exact h
      · obtain ⟨ad, h2, _⟩ := hr0.2.2 h
        cases h2
    subst h0
    obtain rfl : css = [] := List.eq_nil_of_length_eq_zero hr0.1
    clear hr0 hl
    have hn : ∀ W : World, (binOp .eql 35 (.slice none 0 c0) (.slice none 0 0)).run Try.prog W = .ok (.bool true) W := fun W => Lib.run_eql_slice_nil W 35 34 none 0 c0 0 0 Try.underlying35
    go_enter Try.func40, Try.ntmps40
    go_wp2
    go_ret
    exact ⟨_, rfl, Kd.R_nil _ _ _ _ _, Below.refl _ _⟩
  | some ad =>
    have HR := Aside0.mk hr0
    clear hr0 hl
    have hn : ∀ W : World, (binOp .eql 35 (.slice (some ad) n0 c0) (.slice none 0 0)).run Try.prog W = .ok (.bool false) W := fun W => Lib.run_eql_slice_nil W 35 34 (some ad) n0 c0 0 0 Try.underlying35
    go_enter Try.func40, Try.ntmps40
    go_wp2_with (first | ((with_reducible refine gate_dst (N := 5) rfl ?_); refine Kd.R_lit (Kd.raw 2) w.heap.size 34 ?hg (N := 5) ?hd (xs := ([] : List (List Value))) (inner := []) (ok := fun _ => True) (okp := fun _ => True) ?hr ?hp (fun _ hk => hk) trivial (Below.refl _ _) (Nat.le_refl _) (by simp) ?_; (case hd => rfl); (case hg => rfl); (case hr => first | (go_simp; done) | (go_simp; rfl)); (case hp => exact (Reps.none _ _)); intro v1 w1 ho hb _ _; have HO := Aside0.mk ho; have HB := Aside0.mk hb; clear ho hb) | ((with_reducible refine gate_builtin (b := .append) (xs := #[.tmp 5, .tmp 6]) rfl ?_); at_builtin; refine Kd.R_append_rows (Kd.raw 2) (Rr := (Kd.raw 2).K w) (w0 := w) w.heap.size rfl (.tmp 5) (.tmp 6) 35 34 (.agg #[(.string ⟨#[]⟩), (.int .i64 0)]) 24 rfl Try.underlying35 info34 rfl (by decide) (by omega) v1 [] css _ _ _ (fun _ => True) (fun _ => False) rfl rfl HO.out (Kd.C_below HR.out HB.out) (fun _ _ h => h) (fun _ h => h.elim) (fun _ _ => trivial) HB.out HB.out.size (by have := HL.out; simp only [List.length_nil]; omega) ?_; intro v2 w2 ho hb _ _; have HO2 := Aside0.mk ho; have HB2 := Aside0.mk hb; clear ho hb))
    go_ret
    exact ⟨v2, rfl, HO2.out, HB2.out⟩


-- NOT PRINTED: function 14 (files_Store_Change)

-- NOT PRINTED: function 15 (files_Store_Close)

-- NOT PRINTED: function 23 (files_Store_Delete)

-- NOT PRINTED: function 25 (files_Store_Replace)

-- NOT PRINTED: function 26 (files_Store_Extend)

/-! ### files_Unit_52: function 52 (a contract of our own) -/
set_option maxHeartbeats 4000000 in
set_option maxRecDepth 100000 in
/-- slices.Delete(s, i, i + 1) of a row of the call's own. -/
theorem files_Unit_52.one (g n cap i base : Nat) (ok : Nat → Prop) (css : List (List Value)) (w : World) (hr0 : (Kd.raw 3).R 41 w base ok (.slice (some ⟨g, 0, none⟩) n cap) css) (hi : i < n) :
    Calls Try.prog 52 #[.slice (some ⟨g, 0, none⟩) n cap, .int .i64 (i : Int), .int .i64 ((i : Int) + 1)] w fun e w' => e = .returned (.slice (some ⟨g, 0, none⟩) (n - 1) cap) ∧
      (Kd.raw 3).R 41 w' base ok (.slice (some ⟨g, 0, none⟩) (n - 1) cap) (css.eraseIdx i) ∧ w.grownBy w' (some g) := by
  obtain ⟨hn, hnc, _⟩ := Kd.R_reads' hr0
  obtain ⟨h0, ho, hcs⟩ := raw_flat hr0
  subst hn
  have hlen : ∀ c ∈ css, c.length = 3 := fun c hc => (hcs c hc).1
  obtain ⟨i0, hi0, hz0⟩ := Option.map_eq_some_iff.1 info41
  simp only [Prod.mk.injEq] at hz0
  obtain ⟨_, hz1, _⟩ := hz0
  have hcapm : cap ≤ 9223372036854775807 := by
    rcases ho.2 with ⟨h', _⟩ | ⟨g', cap', cur, hv, _, _, _, hcm, _⟩
    · cases h'
    · injection hv with _ _ hv3
      rw [hv3]
      exact hcm
  -- what is moved to the left
  obtain ⟨news, hnews⟩ : ∃ news, news = (css.drop (i + 1)).flatten := ⟨_, rfl⟩
  have hnl : news.length = (css.length - (i + 1)) * 3 := by rw [hnews, flat_length (fun c hc => hlen c (List.mem_of_mem_drop hc)), List.length_drop]
  have hone : ∀ u ∈ news, u.oneCell' = true := fun u hu => by
    rw [hnews] at hu
    obtain ⟨c, hc, hu⟩ := List.mem_flatten.1 hu
    exact (hcs c (List.mem_of_mem_drop hc)).2 u hu
  obtain ⟨_, hod, _⟩ := raw_flat (Kd.R_drew hr0)
  have hfl := flat_length hlen
  have hcell : ∀ j u, css.flatten[j]? = some u → w.drew.cell? ⟨g, j, none⟩ = some u := fun j u hu => by
    have := hod.cells (g := g) rfl j u hu
    rwa [add_plain] at this
  have hfz : ∀ j, w.drew.frozen? ⟨g, j, none⟩ = false := fun j => by
    rcases hod.2 with ⟨h', _⟩ | ⟨g', cap', cur, hv, _, hh, _⟩
    · cases h'
    · injection hv with hv1 _ _
      injection hv1 with hv1
      injection hv1 with hv1
      subst hv1
      simp [World.frozen?, hh]
  have hsome : ∀ j, j < css.length * 3 → (w.drew.cell? ⟨g, j, none⟩).isSome = true := fun j hj => by
    rw [hcell j _ (List.getElem?_eq_getElem (by rw [hfl]; exact hj))]
    rfl
  obtain ⟨A, hA, hsrc⟩ : ∃ A : Addr, (if cap = i + 1 then some (⟨g, 0, none⟩ : Addr) else some ⟨g, (i + 1) * 3, none⟩) = some A ∧ Hid (∀ t u, news[t]? = some u → w.drew.cell? (A.add t) = some u) := by
    by_cases h : cap = i + 1
    · refine ⟨⟨g, 0, none⟩, by simp [h], fun t u hu => ?_⟩
      have h0 : news.length = 0 := by rw [hnl, show css.length - (i + 1) = 0 by omega, Nat.zero_mul]
      rw [List.length_eq_zero_iff.1 h0] at hu
      simp at hu
    · refine ⟨⟨g, (i + 1) * 3, none⟩, by simp [h], fun t u hu => ?_⟩
      rw [Addr.add_lit]
      refine hcell _ u ?_
      have hsp : css.flatten = (css.take (i + 1)).flatten ++ news := by rw [hnews, ← List.flatten_append, List.take_append_drop]
      have hT : (css.take (i + 1)).flatten.length = (i + 1) * 3 := by rw [flat_length (fun c hc => hlen c (List.mem_of_mem_take hc)), List.length_take, Nat.min_eq_left (by omega)]
      rw [hsp, List.getElem?_append_right (by omega), hT, Nat.add_sub_cancel_left]
      exact hu
  have s1 : Hid (news.length = (css.length - (i + 1)) * 3) := hnl
  have s2 : Hid (∀ u ∈ news, u.oneCell' = true) := hone
  have hmul : i * 3 + news.length ≤ css.length * 3 := by
    rw [hnl, ← Nat.add_mul]
    exact Nat.mul_le_mul_right _ (by omega)
  have s3 : Hid (∀ t, t < news.length → (w.drew.cell? ⟨g, 0 + i * 3 + t, none⟩).isSome = true ∧ w.drew.frozen? ⟨g, 0 + i * 3 + t, none⟩ = false) := fun t ht => by
    rw [Nat.zero_add]
    exact ⟨hsome _ (by omega), hfz _⟩
  obtain ⟨ho1, hg1⟩ := own_setCells news (i * 3) w.drew _ hod
  obtain ⟨W1, hW1⟩ : ∃ W1, W1 = w.drew.setCells g (0 + i * 3) news := ⟨_, rfl⟩
  have hW1' : w.drew.setCells g (i * 3) news = W1 := by rw [hW1, Nat.zero_add]
  rw [hW1'] at ho1 hg1
  have hlay : (layV css.flatten (i * 3) news).length = css.length * 3 := by
    rw [layV_eq _ _ _ (by rw [hfl]; exact hmul)]
    simp only [List.length_append, List.length_take, List.length_drop, hfl]
    omega
  have hZ : ((.agg #[(.string ⟨#[]⟩), (.string ⟨#[]⟩), (.int .i64 0)]) : Value).cells.size = 3 := rfl
  have hlast : (css.length - 1) * 3 + 3 = css.length * 3 := by
    rw [← Nat.succ_mul]
    congr 1
    omega
  have hcl : ∀ ty, (Builtin.clear_ #[22] ty #[.slice (some ⟨g, (css.length - 1) * 3, none⟩) 1 (cap - (css.length - 1))]).run Try.prog W1 = .ok (.tuple #[]) (W1.setCells g ((css.length - 1) * 3) ((.agg #[(.string ⟨#[]⟩), (.string ⟨#[]⟩), (.int .i64 0)]) : Value).cells.toList) := fun ty =>
    run_clear_one W1 22 41 ty (.agg #[(.string ⟨#[]⟩), (.string ⟨#[]⟩), (.int .i64 0)]) Try.underlying22 Try.zeroValue41 (by intro u hu; revert u; decide) g _ _ (by decide)
      (fun j hj => by
        rw [hZ] at hj
        have := ho1.cells (g := g) rfl ((css.length - 1) * 3 + j) _ (List.getElem?_eq_getElem (by rw [hlay]; omega))
        rw [add_plain] at this
        rw [this]
        rfl)
      (fun j hj => by
        rcases ho1.2 with ⟨h', _⟩ | ⟨g', cap', cur, hv, _, hh, _⟩
        · cases h'
        · injection hv with hv1 _ _
          injection hv1 with hv1
          injection hv1 with hv1
          subst hv1
          simp [World.frozen?, hh])
  obtain ⟨ho2, hg2⟩ := own_setCells ((.agg #[(.string ⟨#[]⟩), (.string ⟨#[]⟩), (.int .i64 0)]) : Value).cells.toList ((css.length - 1) * 3) W1 _ ho1
  have hfin : (Kd.raw 3).R 41 (W1.setCells g ((css.length - 1) * 3) ((.agg #[(.string ⟨#[]⟩), (.string ⟨#[]⟩), (.int .i64 0)]) : Value).cells.toList) base ok (.slice (some ⟨g, 0, none⟩) (css.length - 1) cap) (css.eraseIdx i) := by
    have hle : (css.eraseIdx i).length = css.length - 1 := List.length_eraseIdx_of_lt hi
    have hcut := own_cut ho2 (show css.length - 1 ≤ css.length by omega)
    rw [hnews, delete_flat hlen hi _ rfl] at hcut
    exact flat_raw (fun k hk => h0 k (by simpa [Value.ownBlock] using hk)) (by rw [hle]; exact hcut) (fun c hc => hcs c (List.mem_of_mem_eraseIdx hc))
  have hgr : w.grownBy (W1.setCells g ((css.length - 1) * 3) ((.agg #[(.string ⟨#[]⟩), (.string ⟨#[]⟩), (.int .i64 0)]) : Value).cells.toList) (some g) := (grown_of_below (below_drew (Below.refl _ _)) _).trans (hg1.trans hg2)
  have e1 : i + (css.length - (i + 1)) = css.length - 1 := by omega
  have hcl2 : ∀ ty, (Builtin.clear_ #[22] ty #[.slice (some ⟨g, (i + (css.length - (i + 1))) * 3, none⟩) (css.length - (i + (css.length - (i + 1)))) (cap - (i + (css.length - (i + 1))))]).run Try.prog W1 = .ok (.tuple #[]) (W1.setCells g ((css.length - 1) * 3) ((.agg #[(.string ⟨#[]⟩), (.string ⟨#[]⟩), (.int .i64 0)]) : Value).cells.toList) := fun ty => by
    rw [e1, show css.length - (css.length - 1) = 1 by omega]
    exact hcl ty
  have hm1 : i + (css.length - (i + 1)) ≤ css.length := by omega
  have hm2 : i + (css.length - (i + 1)) ≤ cap := by omega
  have hm3 : ((i + (css.length - (i + 1)) : Nat) : Int) ≤ (css.length : Int) := by omega
  have hm4 : ¬ cap = i + (css.length - (i + 1)) := by omega
  have E1 := Lib.hid e1
  generalize hWE : W1.setCells g ((css.length - 1) * 3) ((.agg #[(.string ⟨#[]⟩), (.string ⟨#[]⟩), (.int .i64 0)]) : Value).cells.toList = WE at hcl2 hfin hgr
  have HFIN := Aside0.mk hfin
  have HGR := Aside0.mk hgr
  have hW : Hid (W1 = w.drew.setCells g (0 + i * 3) news) := hW1
  have hij : ((i : Int) == (i : Int) + 1) = false := by simp; omega
  have hb1 : (i : Int) + 1 ≤ (css.length : Int) := by omega
  have hb0 : 0 ≤ (i : Int) + 1 := by omega
  have hic : i ≤ cap := by omega
  have hjc : i + 1 ≤ cap := by omega
  have hsub : css.length - (i + 1) + i = css.length - 1 := by omega
  clear e1 hcl hWE hZ hW1 hW1' hcell hfz hsome hnews hnl hone hod hfl hmul ho1 hg1 hlay hlast ho2 hg2 hfin hgr hr0 ho hcs hlen h0
  go_enter Try.func52, Try.ntmps52
  go_wp2_with fail
  go_region_law (refine step_append_room rfl (.tmp 22) (.tmp 25) 22 rfl 41 i0 3 Try.underlying22 hi0 hz1 g 0 i cap (by simp [Act.eval, Act.put]) A (css.length - (i + 1)) (cap - (i + 1)) news (by simp [Act.eval, Act.put, hA]) s1.out hsrc.out s2.out (by omega) s3.out ?_; rw [← hW.out])
  go_wp2
  go_ret
  exact ⟨by rw [← E1.out]; rfl, HFIN.out, HGR.out⟩


-- NOT PRINTED: function 27 (files_Store_Erase)

-- NOT PRINTED: function 16 (heptadlaw28_do)

-- NOT PRINTED: function 41 (slices_Sorted_string)

-- NOT PRINTED: function 42 (files_file)

-- NOT PRINTED: function 17 (files_Store_Names)

-- NOT PRINTED: function 60 (maps_clone)

-- NOT PRINTED: function 44 (files_open_44)

-- NOT PRINTED: function 18 (files_Store_Copy)

-- NOT PRINTED: function 45 (files_open_45)

-- NOT PRINTED: function 19 (files_Store_Users)

-- NOT PRINTED: function 5 (heptadlaw28_FilesStay)

/-! ### heptadref28_unit: function 30 -/
def heptadref28_unit.f (a0_0 : ByteArray) (a0_1 : ByteArray) (a0_2 : Int) : Option (Bool) := if (a0_0.size : Int) ≤ 30 then (some (decide ((a0_1.size : Int) ≤ 400))) else (some false)
set_option maxHeartbeats 8000000 in
set_option maxRecDepth 100000 in
theorem heptadref28_unit.calls (a0_0 : ByteArray) (a0_1 : ByteArray) (a0_2 : Int) (r : Bool) (w : World) (h : heptadref28_unit.f a0_0 a0_1 a0_2 = some r) :
  Calls Try.prog 30 #[.agg #[.string a0_0, .string a0_1, .int .i64 a0_2]] w fun e w' => e = .returned (.bool r) ∧ Below w.heap.size w w' := by
 have hu67 := Try.underlying67
 have HB := Aside0.mk (Below.refl w.heap.size w)
 have H : (if (a0_0.size : Int) ≤ 30 then (some (decide ((a0_1.size : Int) ≤ 400))) else (some false)) = some r := h
 clear h
 by_cases c2 : (a0_0.size : Int) ≤ 30
 ·rw [if_pos c2] at H
  have c2b0 : decide ((a0_0.size : Int) ≤ 30) = true := decide_eq_true c2
  have c2b1 : decide (a0_0.size ≤ 30) = true := decide_eq_true (by omega)
  clear c2
  obtain rfl := Option.some.inj H
  go_enter Try.func30, Try.ntmps30
  go_wp2_with (first | ((with_reducible refine gate_dst (N := 1) rfl ?_); (try (refine gate_guard (by rfl) ?_; dsimp only)); refine box_event ?hg (N := 1) ?hd (cs := #[.string a0_0, .string a0_1, .int .i64 a0_2]) (t := 67) ?hr ?_; (case hd => rfl); (case hg => rfl); (case hr => first | (go_simp; done) | (go_simp; rfl)); intro gb130 hg w3 hbox hb; have n0_ := Aside0.mk (below_step (by repeat (first | (with_reducible first | exact HB.out | apply below_alloc | apply pw_below_drewN | apply below_drew1) | exact HB.out)) hb); have n1_ := Aside0.mk (hbox); have n2_ := Aside0.mk ((by rw [hg]; exact (below_size (by repeat (first | (with_reducible first | exact HB.out | apply below_alloc | apply pw_below_drewN | apply below_drew1) | exact HB.out))) : w.heap.size ≤ gb130)); have n3_ := Aside0.mk ((by rw [hg]; exact (below_size (by repeat (first | (with_reducible first | exact HB.out | apply below_alloc | apply pw_below_drewN | apply below_drew1) | exact HB.out))) : w.heap.size ≤ gb130)); clear HB; have HB := n0_; have BK130 := n1_; have GW130 := n2_; have GE130 := n3_; clear n0_ n1_ n2_ n3_; clear hb hbox hg; have hcz4_0 : w3.cell? ⟨gb130, 0, none⟩ = some (.string a0_0) := (blk_cell BK130.out 0).trans rfl; have hcz4_1 : w3.cell? ⟨gb130, 1, none⟩ = some (.string a0_1) := (blk_cell BK130.out 1).trans rfl; have hcz4_2 : w3.cell? ⟨gb130, 2, none⟩ = some (.int .i64 a0_2) := (blk_cell BK130.out 2).trans rfl; have hfz4_0 := blk_frozen BK130.out 0; have hfz4_1 := blk_frozen BK130.out 1; have hfz4_2 := blk_frozen BK130.out 2))
  go_ret
  exact ⟨by first | rfl | (simp [errW_none, errW_some] <;> rfl) | (simp [*, errW_none, errW_some] <;> rfl), by repeat (first | (with_reducible first | exact HB.out | apply below_alloc | apply pw_below_drewN | apply below_drew1 | refine below_set ?_ GE130.out) | exact HB.out)⟩
 ·rw [if_neg c2] at H
  have c2b0 : decide ((a0_0.size : Int) ≤ 30) = false := decide_eq_false c2
  have c2b1 : decide (a0_0.size ≤ 30) = false := decide_eq_false (by omega)
  clear c2
  obtain rfl := Option.some.inj H
  go_enter Try.func30, Try.ntmps30
  go_wp2_with (first | ((with_reducible refine gate_dst (N := 1) rfl ?_); (try (refine gate_guard (by rfl) ?_; dsimp only)); refine box_event ?hg (N := 1) ?hd (cs := #[.string a0_0, .string a0_1, .int .i64 a0_2]) (t := 67) ?hr ?_; (case hd => rfl); (case hg => rfl); (case hr => first | (go_simp; done) | (go_simp; rfl)); intro gb130 hg w5 hbox hb; have n0_ := Aside0.mk (below_step (by repeat (first | (with_reducible first | exact HB.out | apply below_alloc | apply pw_below_drewN | apply below_drew1) | exact HB.out)) hb); have n1_ := Aside0.mk (hbox); have n2_ := Aside0.mk ((by rw [hg]; exact (below_size (by repeat (first | (with_reducible first | exact HB.out | apply below_alloc | apply pw_below_drewN | apply below_drew1) | exact HB.out))) : w.heap.size ≤ gb130)); have n3_ := Aside0.mk ((by rw [hg]; exact (below_size (by repeat (first | (with_reducible first | exact HB.out | apply below_alloc | apply pw_below_drewN | apply below_drew1) | exact HB.out))) : w.heap.size ≤ gb130)); clear HB; have HB := n0_; have BK130 := n1_; have GW130 := n2_; have GE130 := n3_; clear n0_ n1_ n2_ n3_; clear hb hbox hg; have hcz6_0 : w5.cell? ⟨gb130, 0, none⟩ = some (.string a0_0) := (blk_cell BK130.out 0).trans rfl; have hcz6_1 : w5.cell? ⟨gb130, 1, none⟩ = some (.string a0_1) := (blk_cell BK130.out 1).trans rfl; have hcz6_2 : w5.cell? ⟨gb130, 2, none⟩ = some (.int .i64 a0_2) := (blk_cell BK130.out 2).trans rfl; have hfz6_0 := blk_frozen BK130.out 0; have hfz6_1 := blk_frozen BK130.out 1; have hfz6_2 := blk_frozen BK130.out 2))
  go_ret
  exact ⟨by first | rfl | (simp [errW_none, errW_some] <;> rfl) | (simp [*, errW_none, errW_some] <;> rfl), by repeat (first | (with_reducible first | exact HB.out | apply below_alloc | apply pw_below_drewN | apply below_drew1 | refine below_set ?_ GE130.out) | exact HB.out)⟩

-- NOT PRINTED: function 8 (heptadref28_Valid)

end Go.Proofs.Ytehlmkgldcfciaa.F
