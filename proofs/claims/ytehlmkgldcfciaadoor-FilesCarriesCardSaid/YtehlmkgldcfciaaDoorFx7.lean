-- Written by this repo's wip/tools/myprint.py (the kit's print program, with contracts of our own beside). Lean checks it.
import Derived.Test.YtehlmkgldcfciaaDoorFx0
namespace Go.Proofs.YtehlmkgldcfciaaDoor.F
open Go.Proofs.YtehlmkgldcfciaaDoor.Common
open Go.RowKit Go.Proofs.YtehlmkgldcfciaaDoorW.PrintWords Go.Proofs.YtehlmkgldcfciaaDoorW.PrintLast Go.Proofs.YtehlmkgldcfciaaDoorW.PrintMore
attribute [local go_sem] max2_int min2_int max_two min_two max_three min_three max_four min_four   -- for this text's walks alone
set_option linter.unusedVariables false
set_option linter.unusedSimpArgs false

/-! ### files_Unit_41: function 41 (a contract of our own) -/
theorem files_Unit_41.cellsOf {w : World} {g : Nat} {x : List Value} {e : TypeId} (h : w.heap[g]? = some (.cells x.toArray e (0, 0))) : ∀ j u, x[j]? = some u → w.cell? ⟨g, j, none⟩ = some u := fun j u hu => by
  rw [blk_cell h j]
  simpa using hu
set_option maxHeartbeats 4000000 in
set_option maxRecDepth 100000 in
/-- slices.Insert(s, i, x), s a row of the call's own, i < len(s), with room: in place. -/
theorem files_Unit_41.room (g n cap i base vb vc : Nat) (ok : Nat → Prop) (css : List (List Value)) (x : List Value) (w : World) (hr0 : (Kd.raw 3).R 46 w base ok (.slice (some ⟨g, 0, none⟩) n cap) css) (hi : i < n) (hroom : n + 1 ≤ cap)
    (hv : w.heap[vb]? = some (.cells x.toArray 46 (0, 0))) (hx : x.length = 3) (h1x : ∀ u ∈ x, u.oneCell' = true) (hne : vb ≠ g) :
    Calls Tryd.prog 41 #[.slice (some ⟨g, 0, none⟩) n cap, .int .i64 (i : Int), .slice (some ⟨vb, 0, none⟩) 1 vc] w fun e w' => e = .returned (.slice (some ⟨g, 0, none⟩) (n + 1) cap) ∧
      (Kd.raw 3).R 46 w' base ok (.slice (some ⟨g, 0, none⟩) (n + 1) cap) (css.take i ++ x :: css.drop i) ∧ w.grownBy w' (some g) := by
  obtain ⟨hn, hnc, _⟩ := Kd.R_reads' hr0
  obtain ⟨h0, ho, hcs⟩ := raw_flat hr0
  subst hn
  have hlen : ∀ c ∈ css, c.length = 3 := fun c hc => (hcs c hc).1
  obtain ⟨i0, hi0, hz0⟩ := Option.map_eq_some_iff.1 info46
  simp only [Prod.mk.injEq] at hz0
  obtain ⟨_, hz1, _⟩ := hz0
  have hsz : (Tryd.prog.info? 46).map (·.size) = some 3 := by rw [hi0]; simp [hz1]
  obtain ⟨hT, hD, hS⟩ := ins_lens hlen (Nat.le_of_lt hi)
  obtain ⟨hgh, hcapm⟩ : (∃ cur, w.heap[g]? = some (.cells cur 46 (0, 0)) ∧ cur.size = cap * 3) ∧ cap ≤ 9223372036854775807 := by
    rcases ho.2 with ⟨h', _⟩ | ⟨g', cap', cur, hv, _, hh, _, hcm, hcz, _⟩
    · cases h'
    · injection hv with hv1 _ hv3
      injection hv1 with hv1
      injection hv1 with hv1
      subst hv1 hv3
      exact ⟨⟨cur, hh, hcz⟩, hcm⟩
  obtain ⟨cur, hgh, hcz⟩ := hgh
  obtain ⟨ys, hyl, hyt, hoy⟩ := own_more ho (Nat.le_succ css.length) hroom
  have hod : w.drew.ownsRow base 46 3 (.slice (some ⟨g, 0, none⟩) (css.length + 1) cap) (css.length + 1) ys := hoy
  have hcell : ∀ j u, ys[j]? = some u → w.drew.cell? ⟨g, j, none⟩ = some u := fun j u hu => by
    have := hod.cells (g := g) rfl j u hu
    rwa [add_plain] at this
  have hsome : ∀ j, j < (css.length + 1) * 3 → (w.drew.cell? ⟨g, j, none⟩).isSome = true := fun j hj => by
    rw [hcell j _ (List.getElem?_eq_getElem (by rw [hyl]; exact hj))]
    rfl
  have hfz : ∀ j, w.drew.frozen? ⟨g, j, none⟩ = false := fun j => blk_frozen (w := w.drew) (show w.drew.heap[g]? = some (.cells cur 46 (0, 0)) from hgh) j
  -- what is moved to the right
  obtain ⟨news, hnews⟩ : ∃ news, news = (css.drop i).flatten := ⟨_, rfl⟩
  have hone : ∀ u ∈ news, u.oneCell' = true := fun u hu => by
    rw [hnews] at hu
    obtain ⟨c, hc, hu⟩ := List.mem_flatten.1 hu
    exact (hcs c (List.mem_of_mem_drop hc)).2 u hu
  have hyd : ∀ j u, news[j]? = some u → ys[i * 3 + j]? = some u := fun j u hu => by
    have hlt : j < news.length := by
      rcases Nat.lt_or_ge j news.length with h | h
      · exact h
      · rw [List.getElem?_eq_none h] at hu
        cases hu
    have hf : css.flatten = (css.take i).flatten ++ news := by rw [hnews, ← List.flatten_append, List.take_append_drop]
    have h1 : css.flatten[i * 3 + j]? = some u := by rw [hf, List.getElem?_append_right (by omega), hT, Nat.add_sub_cancel_left]; exact hu
    rw [← hyt, List.getElem?_take] at h1
    split at h1
    · exact h1
    · cases h1
  have hcp1 : ∀ ty dc sc, (Builtin.copy_ #[23, 23] ty #[.slice (some ⟨g, (i + 1) * 3, none⟩) (css.length + 1 - (i + 1)) dc, .slice (some ⟨g, i * 3, none⟩) (css.length + 1 - i) sc]).run Tryd.prog w.drew = .ok (goInt ((css.length - i : Nat) : Int)) (w.drew.setCells g ((i + 1) * 3) news) := fun ty dc sc => by
    have hnl : news.length = (css.length - i) * 3 := by rw [hnews]; exact hD
    exact run_copy_sz w.drew _ _ ty 46 g ((i + 1) * 3) (css.length + 1 - (i + 1)) dc ⟨g, i * 3, none⟩ (css.length + 1 - i) sc 3 (css.length - i) news Tryd.underlying23 hsz (by simp only [Nat.min_def]; split <;> omega) hnl
      (fun j v hj => by rw [Addr.add_lit]; exact hcell _ _ (hyd j v hj))
      (fun j hj => hsome _ (by rw [hnl] at hj; rw [Nat.add_mul, Nat.one_mul]; omega)) (fun j hj => hfz _) hone
  obtain ⟨W1, hW1⟩ : ∃ W1, W1 = w.drew.setCells g ((i + 1) * 3) news := ⟨_, rfl⟩
  obtain ⟨ho1, hg1⟩ := own_setCells news ((i + 1) * 3) w.drew _ hod
  rw [← hW1] at hcp1 ho1 hg1
  have hsome1 : ∀ j, j < (css.length + 1) * 3 → (W1.cell? ⟨g, j, none⟩).isSome = true := fun j hj => by
    rw [hW1]
    exact setCells_some g _ _ _ (fun t ht => hsome _ (by rw [hnews, hD] at ht; rw [Nat.add_mul, Nat.one_mul]; omega)) _ (hsome j hj)
  have hcp2 : ∀ (W : World), (∀ a, W.cell? a = W1.cell? a) → (∀ a, W.frozen? a = W1.frozen? a) → ∀ ty dc, (Builtin.copy_ #[23, 23] ty #[.slice (some ⟨g, i * 3, none⟩) (css.length + 1 - i) dc, .slice (some ⟨vb, 0, none⟩) 1 vc]).run Tryd.prog W = .ok (goInt ((1 : Nat) : Int)) (W.setCells g (i * 3) x) := fun W hWc hWf ty dc =>
    run_copy_sz W _ _ ty 46 g (i * 3) (css.length + 1 - i) dc ⟨vb, 0, none⟩ 1 vc 3 1 x Tryd.underlying23 hsz (by simp only [Nat.min_def]; split <;> omega) (by rw [hx, Nat.one_mul])
      (fun j v hj => by
        rw [add_plain, hWc, hW1, World.cell?_setCells_out g _ _ _ _ (fun h _ => absurd h hne)]
        exact files_Unit_41.cellsOf hv j v hj)
      (fun j hj => by rw [hWc]; exact hsome1 _ (by rw [hx] at hj; omega)) (fun j hj => by rw [hWf, hW1, World.frozen?_setCells]; exact hfz _) h1x
  obtain ⟨ho2, hg2⟩ := own_setCells x (i * 3) W1 _ ho1
  have hins := insert_flat1 hlen (Nat.le_of_lt hi) hx hyl (by
    have := congrArg (List.take (i * 3)) hyt
    rw [List.take_take, Nat.min_eq_left (Nat.mul_le_mul_right _ (Nat.le_of_lt hi))] at this
    rw [this]
    have hf : css.flatten = (css.take i).flatten ++ (css.drop i).flatten := by rw [← List.flatten_append, List.take_append_drop]
    rw [hf, ← hT, List.take_left])
  rw [hnews, hins] at ho2
  have hfin : (Kd.raw 3).R 46 (W1.setCells g (i * 3) x) base ok (.slice (some ⟨g, 0, none⟩) (css.length + 1) cap) (css.take i ++ x :: css.drop i) := by
    have hl : (css.take i ++ x :: css.drop i).length = css.length + 1 := by
      simp only [List.length_append, List.length_cons, List.length_take, List.length_drop]
      omega
    refine flat_raw (fun k hk => h0 k (by simpa [Value.ownBlock] using hk)) (by rw [hl]; exact ho2) (fun c hc => ?_)
    rcases List.mem_append.1 hc with hc | hc
    · exact hcs c (List.mem_of_mem_take hc)
    · rcases List.mem_cons.1 hc with rfl | hc
      · exact ⟨hx, h1x⟩
      · exact hcs c (List.mem_of_mem_drop hc)
  have hgr : w.grownBy (W1.setCells g (i * 3) x) (some g) := (grown_of_below (below_drew (Below.refl _ _)) _).trans (hg1.trans hg2)
  have hov : ∀ lb cb, (callFunc 57 #[.slice (some ⟨vb, 0, none⟩) 1 vc, .slice (some ⟨g, (i + 1) * 3, none⟩) lb cb]).run Tryd.prog w = .ok (.value (.bool false)) w := fun lb cb => by
    rw [run_callFunc_extern Tryd.func57 (by kernel_rfl) (by kernel_rfl) (by kernel_rfl) (e := Extern.SlicesOverlaps.overlaps #[23, 23] #[4]) (by kernel_rfl),
      Lib.run_overlaps_apart w 23 4 46 Tryd.underlying23 3 (fun W => by simp [sizeOf, typeInfo, hi0, hz1]) ⟨vb, 0, none⟩ ⟨g, (i + 1) * 3, none⟩ 1 vc lb cb hne 46 46 3 (cap * 3) (by simp [World.shape?, hv, hx]) (by simp [World.shape?, hgh, hcz]) (by omega) (by simp [World.frozen?, hv]) (by simp [World.frozen?, hv])]
    rfl
  have HFIN := Aside0.mk hfin
  have HGR := Aside0.mk hgr
  have hz2 : ¬ ((i : Int) = (css.length : Int)) := by omega
  have hw1 : IntKind.i64.wrap ((i : Int) + 1) = (i : Int) + 1 := by rw [IntKind.wrap_i64]; omega
  have hw2 : IntKind.i64.wrap ((css.length : Int) + 1) = (css.length : Int) + 1 := by rw [IntKind.wrap_i64]; omega
  have hb0 : (0 : Int) ≤ (i : Int) + 1 := by omega
  have hb1 : (0 : Int) ≤ (css.length : Int) + 1 := by omega
  have hin : i ≤ css.length := by omega
  have htn : ((i : Int) + 1).toNat = i + 1 := by omega
  have htm : ((css.length : Int) + 1).toNat = css.length + 1 := by omega
  have hb2 : ¬ (cap = i + 1) := by omega
  have hb3 : (i : Int) ≤ (css.length : Int) + 1 := by omega
  have hb4 : ¬ (cap = i) := by omega
  have hb5 : ¬ ((cap : Int) < (css.length : Int) + 1) := by omega
  clear hfin hgr hcell hsome hfz hyd hone hod hoy ho1 hg1 ho2 hg2 hsome1 hins hT hD hS hcs hlen ho h0 hr0 hv hgh
  go_enter Tryd.func41, Tryd.ntmps41
  go_wp2_with (simp only [hov])
  go_region_law (refine copy_step rfl (.tmp 73) (.tmp 76) 23 23 rfl (.slice (some ⟨g, (i + 1) * 3, none⟩) (css.length + 1 - (i + 1)) (cap - (i + 1))) (.slice (some ⟨g, i * 3, none⟩) (css.length + 1 - i) (cap - i)) (by simp [Act.eval, Act.put]) (by simp [Act.eval, Act.put]) (hcp1 _ _ _) ?_)
  go_wp2_with (at_builtin; refine copy_list _ rfl _ _ 23 23 rfl _ _ rfl rfl (hcp2 _ (fun _ => rfl) (fun _ => rfl) _ _) ?_)
  go_ret
  subst hW1 hnews
  exact ⟨rfl, HFIN.out, HGR.out⟩
set_option maxHeartbeats 4000000 in
set_option maxRecDepth 100000 in
/-- i < len(s), no room: a new row. -/
theorem files_Unit_41.grow (g n cap i base vb vc : Nat) (css : List (List Value)) (x : List Value) (w : World) (hr0 : (Kd.raw 3).R 46 w base (fun _ => True) (.slice (some ⟨g, 0, none⟩) n cap) css) (hi : i < n) (hroom : cap < n + 1) (hbig : (n + 1) * 40 ≤ 140737488355328) (hbase : base ≤ w.heap.size)
    (hv : w.heap[vb]? = some (.cells x.toArray 46 (0, 0))) (hx : x.length = 3) (h1x : ∀ u ∈ x, u.oneCell' = true) :
    Calls Tryd.prog 41 #[.slice (some ⟨g, 0, none⟩) n cap, .int .i64 (i : Int), .slice (some ⟨vb, 0, none⟩) 1 vc] w fun e w' => ∃ v, e = .returned v ∧ v.ownBlock = some w.heap.size ∧
      (Kd.raw 3).R 46 w' base (fun _ => True) v (css.take i ++ x :: css.drop i) ∧ Below w.heap.size w w' := by
  obtain ⟨hn, hnc, _⟩ := Kd.R_reads' hr0
  obtain ⟨h0, ho, hcs⟩ := raw_flat hr0
  subst hn
  have hlen : ∀ c ∈ css, c.length = 3 := fun c hc => (hcs c hc).1
  obtain ⟨i0, hi0, hz0⟩ := Option.map_eq_some_iff.1 info46
  simp only [Prod.mk.injEq] at hz0
  obtain ⟨hzz, hz1, hzb⟩ := hz0
  have hsz : (Tryd.prog.info? 46).map (·.size) = some 3 := by rw [hi0]; simp [hz1]
  obtain ⟨hT, hD, hS⟩ := ins_lens hlen (Nat.le_of_lt hi)
  have hcell : ∀ j u, css.flatten[j]? = some u → w.cell? ⟨g, j, none⟩ = some u := fun j u hu => by
    have := ho.cells (g := g) rfl j u hu
    rwa [add_plain] at this
  have hgw : g < w.heap.size := by
    rcases ho.2 with ⟨h', _⟩ | ⟨g', cap', cur, hv, _, hh, _⟩
    · cases h'
    · injection hv with hv1 _ _
      injection hv1 with hv1
      injection hv1 with hv1
      subst hv1
      exact blk_lt hh
  have hvw : vb < w.heap.size := blk_lt hv
  have hf : css.flatten = (css.take i).flatten ++ (css.drop i).flatten := by rw [← List.flatten_append, List.take_append_drop]
  have hbk : (css.length + 1) * 1 ≤ (css.length + 1) * 40 := Nat.mul_le_mul_left _ (by decide)
  have hik : i + (css.length + 1 - i) = css.length + 1 := by omega
  have hkk : (css.length : Int) + 1 - (i : Int) = ((css.length + 1 - i : Nat) : Int) := by omega
  have hold : (Builtin.firstCells i0.size i (.slice (some ⟨g, 0, none⟩) i cap)).run Tryd.prog w.drew = .ok (css.take i).flatten.toArray w.drew := by
    rw [hz1]
    exact run_firstCells_some w.drew 3 i ⟨g, 0, none⟩ i cap (css.take i).flatten hT (fun j u hj => by
      rw [add_plain]
      refine hcell j u ?_
      have hlt : j < (css.take i).flatten.length := by
        rcases Nat.lt_or_ge j (css.take i).flatten.length with h | h
        · exact h
        · rw [List.getElem?_eq_none h] at hj
          cases hj
      rw [hf, List.getElem?_append_left hlt]
      exact hj)
  have hrz : ∀ ty, (Builtin.append_ #[23, 3] ty #[.slice (some ⟨g, 0, none⟩) i cap, .int .i64 ((css.length : Int) + 1 - (i : Int))]).run Tryd.prog w =
      .ok (.slice (some ⟨w.heap.size, 0, none⟩) (css.length + 1) (grownCap w (css.length + 1) cap 46)) (w.drew.alloc (.cells ((css.take i).flatten.toArray ++ Builtin.zeroCells ((.agg #[(.string ⟨#[]⟩), (.string ⟨#[]⟩), (.int .i64 0)]) : Value).cells (css.length + 1 - i) ++ Builtin.zeroCells ((.agg #[(.string ⟨#[]⟩), (.string ⟨#[]⟩), (.int .i64 0)]) : Value).cells (grownCap w (css.length + 1) cap 46 - (css.length + 1))) 46)) := fun ty => by
    have h := Lib.run_append_grow_zeros w 23 3 ty 46 i0 _ .i64 .i64 Tryd.underlying23 Tryd.underlying3 hi0 hzz (some ⟨g, 0, none⟩) i cap (css.take i).flatten hold (css.length + 1 - i) (by omega) (by rw [hz1]; decide) (by omega) (by omega) (by rw [hzb]; omega) (by rw [hzb, hik]; exact growslice_fits (by omega) hbig)
    rw [hik] at h
    rw [hkk]
    exact h
  obtain ⟨G, hG⟩ : ∃ G, G = grownCap w (css.length + 1) cap 46 := ⟨_, rfl⟩
  have hGn : css.length + 1 ≤ G := by rw [hG]; exact grownCap_ge w _ _ _
  have hG63 : G ≤ 9223372036854775807 := by
    have := grownCap_le_maxLen w (css.length + 1) cap 46 (by unfold maxLen; omega)
    rw [← hG] at this
    unfold maxLen at this
    omega
  obtain ⟨ROW, hROW⟩ : ∃ ROW : Array Value, ROW = (css.take i).flatten.toArray ++ Builtin.zeroCells ((.agg #[(.string ⟨#[]⟩), (.string ⟨#[]⟩), (.int .i64 0)]) : Value).cells (css.length + 1 - i) ++ Builtin.zeroCells ((.agg #[(.string ⟨#[]⟩), (.string ⟨#[]⟩), (.int .i64 0)]) : Value).cells (G - (css.length + 1)) := ⟨_, rfl⟩
  rw [← hG] at hrz
  rw [← hROW] at hrz
  have hZ : ((.agg #[(.string ⟨#[]⟩), (.string ⟨#[]⟩), (.int .i64 0)]) : Value).cells.size = 3 := rfl
  have hRl : ROW.size = G * 3 := by
    rw [hROW]
    simp only [Array.size_append, List.size_toArray, hT, Builtin.zeroCells, Array.size_map, Array.size_range]
    rw [hZ]
    omega
  have hRt : ROW.toList.take (i * 3) = (css.take i).flatten := by
    rw [hROW]
    simp only [Array.toList_append, List.append_assoc]
    rw [← hT, List.take_left]
  obtain ⟨ys, hys⟩ : ∃ ys, ys = ROW.toList.take ((css.length + 1) * 3) := ⟨_, rfl⟩
  have hRL : ROW.toList.length = ROW.size := Array.length_toList
  have hyl : ys.length = (css.length + 1) * 3 := by rw [hys, List.length_take, hRL, hRl]; omega
  have hyt : ys.take (i * 3) = (css.take i).flatten := by rw [hys, List.take_take, Nat.min_eq_left (by omega)]; exact hRt
  obtain ⟨W1, hW1⟩ : ∃ W1, W1 = (w.alloc (.cells ROW 46)).drew := ⟨_, rfl⟩
  have hnew : W1.heap[w.heap.size]? = some (.cells ROW 46 (0, 0)) := by rw [hW1]; exact heap_alloc_new w _
  have ho1 : W1.ownsRow base 46 3 (.slice (some ⟨w.heap.size, 0, none⟩) (css.length + 1) G) (css.length + 1) ys :=
    ⟨hyl, .inr ⟨w.heap.size, G, ROW, rfl, hbase, hnew, hGn, hG63, hRl, hys.symm⟩⟩
  have hb1 : Below w.heap.size w W1 := by rw [hW1]; exact below_drew1 ((Below.refl _ _).alloc (Nat.le_refl _) _)
  have hN : ∀ j, j < (css.length + 1) * 3 → (W1.cell? ⟨w.heap.size, j, none⟩).isSome = true := fun j hj => by
    rw [blk_cell hnew j, Array.getElem?_eq_getElem (by rw [hRl]; omega)]
    rfl
  have hNf : ∀ j, W1.frozen? ⟨w.heap.size, j, none⟩ = false := fun j => blk_frozen hnew j
  have hcpA : ∀ (W : World), (∀ a, W.cell? a = W1.cell? a) → (∀ a, W.frozen? a = W1.frozen? a) → ∀ ty dc, (Builtin.copy_ #[23, 23] ty #[.slice (some ⟨w.heap.size, i * 3, none⟩) (css.length + 1 - i) dc, .slice (some ⟨vb, 0, none⟩) 1 vc]).run Tryd.prog W = .ok (goInt ((1 : Nat) : Int)) (W.setCells w.heap.size (i * 3) x) := fun W hWc hWf ty dc =>
    run_copy_sz W _ _ ty 46 w.heap.size (i * 3) (css.length + 1 - i) dc ⟨vb, 0, none⟩ 1 vc 3 1 x Tryd.underlying23 hsz (by simp only [Nat.min_def]; split <;> omega) (by rw [hx, Nat.one_mul])
      (fun j v hj => by
        rw [add_plain, hWc]
        exact pw_cell_below hb1 (files_Unit_41.cellsOf hv j v hj))
      (fun j hj => by rw [hWc]; exact hN _ (by rw [hx] at hj; omega)) (fun j hj => by rw [hWf]; exact hNf _) h1x
  obtain ⟨W2, hW2⟩ : ∃ W2, W2 = (W1.setCells w.heap.size (i * 3) x).drew := ⟨_, rfl⟩
  obtain ⟨ho2', hg2'⟩ := own_setCells x (i * 3) W1 _ ho1
  have ho2 : W2.ownsRow base 46 3 (.slice (some ⟨w.heap.size, 0, none⟩) (css.length + 1) G) (css.length + 1) (layV ys (i * 3) x) := by rw [hW2]; exact ho2'
  have hg2 : W1.grownBy W2 (some w.heap.size) := by rw [hW2]; exact hg2'.trans (grown_of_below (below_drew1 (Below.refl _ _)) _)
  have hb2 : Below w.heap.size w W2 := hb1.grown hg2 hb1.size (fun k hk => by injection hk with hk; omega)
  obtain ⟨news, hnews⟩ : ∃ news, news = (css.drop i).flatten := ⟨_, rfl⟩
  have hnl : news.length = (css.length - i) * 3 := by rw [hnews]; exact hD
  have hone : ∀ u ∈ news, u.oneCell' = true := fun u hu => by
    rw [hnews] at hu
    obtain ⟨c, hc, hu⟩ := List.mem_flatten.1 hu
    exact (hcs c (List.mem_of_mem_drop hc)).2 u hu
  have hcpB : ∀ ty dc sc, (Builtin.copy_ #[23, 23] ty #[.slice (some ⟨w.heap.size, (i + 1) * 3, none⟩) (css.length + 1 - (i + 1)) dc, .slice (some ⟨g, i * 3, none⟩) (css.length - i) sc]).run Tryd.prog W2 = .ok (goInt ((css.length - i : Nat) : Int)) (W2.setCells w.heap.size ((i + 1) * 3) news) := fun ty dc sc =>
    run_copy_sz W2 _ _ ty 46 w.heap.size ((i + 1) * 3) (css.length + 1 - (i + 1)) dc ⟨g, i * 3, none⟩ (css.length - i) sc 3 (css.length - i) news Tryd.underlying23 hsz (by simp only [Nat.min_def]; split <;> omega) hnl
      (fun j v hj => by
        rw [Addr.add_lit]
        refine pw_cell_below hb2 (hcell _ _ ?_)
        rw [hf, List.getElem?_append_right (by omega), hT, Nat.add_sub_cancel_left, ← hnews]
        exact hj)
      (fun j hj => by
        rw [hW2]
        exact setCells_some _ _ _ _ (fun t ht => hN _ (by rw [hx] at ht; omega)) _ (hN _ (by rw [hnl] at hj; rw [Nat.add_mul, Nat.one_mul]; omega)))
      (fun j hj => by
        rw [hW2]
        show (W1.setCells w.heap.size (i * 3) x).frozen? _ = false
        rw [World.frozen?_setCells]
        exact hNf _) hone
  obtain ⟨ho3, hg3⟩ := own_setCells news ((i + 1) * 3) W2 _ ho2
  have hins := insert_flat2 hlen (Nat.le_of_lt hi) hx hyl hyt
  rw [← hnews] at hins
  rw [hins] at ho3
  have hfin : (Kd.raw 3).R 46 (W2.setCells w.heap.size ((i + 1) * 3) news) base (fun _ => True) (.slice (some ⟨w.heap.size, 0, none⟩) (css.length + 1) G) (css.take i ++ x :: css.drop i) := by
    have hl : (css.take i ++ x :: css.drop i).length = css.length + 1 := by
      simp only [List.length_append, List.length_cons, List.length_take, List.length_drop]
      omega
    refine flat_raw (fun k hk => trivial) (by rw [hl]; exact ho3) (fun c hc => ?_)
    rcases List.mem_append.1 hc with hc | hc
    · exact hcs c (List.mem_of_mem_take hc)
    · rcases List.mem_cons.1 hc with rfl | hc
      · exact ⟨hx, h1x⟩
      · exact hcs c (List.mem_of_mem_drop hc)
  have HFIN := Aside0.mk hfin
  have HB3 := Aside0.mk (hb2.grown hg3 hb2.size (fun k hk => by injection hk with hk; omega))
  have HW1 := Aside0.mk hW1
  have HW2 := Aside0.mk hW2
  subst hW1
  have hE1 : ∀ a, ((w.alloc (.cells ROW 46)).drew).cell? a = (w.drew.alloc (.cells ROW 46)).cell? a := fun a => rfl
  have hE2 : ∀ a, ((w.alloc (.cells ROW 46)).drew).frozen? a = (w.drew.alloc (.cells ROW 46)).frozen? a := fun a => rfl
  have hz2 : ¬ ((i : Int) = (css.length : Int)) := by omega
  have hz3 : (cap : Int) < (css.length : Int) + 1 := by omega
  have hw1 : IntKind.i64.wrap ((i : Int) + 1) = (i : Int) + 1 := by rw [IntKind.wrap_i64]; omega
  have hw2 : IntKind.i64.wrap ((css.length : Int) + 1) = (css.length : Int) + 1 := by rw [IntKind.wrap_i64]; omega
  have hb0 : (0 : Int) ≤ (i : Int) + 1 := by omega
  have hb01 : (0 : Int) ≤ (css.length : Int) + 1 := by omega
  have hin : i ≤ css.length := by omega
  have htn : ((i : Int) + 1).toNat = i + 1 := by omega
  have htm : ((css.length : Int) + 1).toNat = css.length + 1 := by omega
  have hb3 : (i : Int) ≤ (css.length : Int) + 1 := by omega
  have hci : ¬ (cap = i) := by omega
  have hGi : ¬ (G = i) := by omega
  have hGim : ¬ (G = i + 1) := by omega
  clear hfin hcell hone ho1 ho2 ho3 hg2 hg3 hg2' ho2' hins hT hD hS hcs hlen ho h0 hr0 hv hgw hvw hf hbk hkk hold hN hNf hb1 hb2 hRl hRt hyl hyt hnew hys hik hROW hW2 hG hRL
  go_enter Tryd.func41, Tryd.ntmps41
  go_wp2_with (first
    | (at_builtin; refine Lib.wpList_append_run _ rfl _ _ _ _ rfl _ _ rfl rfl _ _ (hrz _) ?_)
    | (at_builtin; refine copy_list _ rfl _ _ 23 23 rfl _ _ rfl rfl (hcpA _ hE1 hE2 _ _) ?_))
  go_region_law (refine copy_step rfl (.tmp 50) (.tmp 53) 23 23 rfl (.slice (some ⟨w.heap.size, (i + 1) * 3, none⟩) (css.length + 1 - (i + 1)) (G - (i + 1))) (.slice (some ⟨g, i * 3, none⟩) (css.length - i) (cap - i)) (by simp [Act.eval, Act.put]) (by simp [Act.eval, Act.put]) (by rw [← HW2.out]; exact hcpB _ _ _) ?_)
  go_wp2
  go_ret
  subst hnews
  exact ⟨_, rfl, rfl, HFIN.out, HB3.out⟩
/-- slices.Insert(s, i, x): one element put in. -/
theorem files_Unit_41.one (A : Option Addr) (n cap i base vb vc : Nat) (css : List (List Value)) (x : List Value) (w : World) (hr0 : (Kd.raw 3).R 46 w base (fun _ => True) (.slice A n cap) css) (hi : i ≤ n) (hbig : (n + 1) * 40 ≤ 140737488355328) (hbase : base ≤ w.heap.size)
    (hv : w.heap[vb]? = some (.cells x.toArray 46 (0, 0))) (hx : x.length = 3) (h1x : ∀ u ∈ x, u.oneCell' = true) (hne : ∀ a, A = some a → vb ≠ a.block) :
    Calls Tryd.prog 41 #[.slice A n cap, .int .i64 (i : Int), .slice (some ⟨vb, 0, none⟩) 1 vc] w fun e w' => ∃ v, e = .returned v ∧
      (Kd.raw 3).R 46 w' base (fun _ => True) v (css.take i ++ x :: css.drop i) ∧ Below base w w' := by
  obtain ⟨hn, hnc, _⟩ := Kd.R_reads' hr0
  rcases Nat.lt_or_ge i n with hlt | hge
  · obtain ⟨_, ho, _⟩ := raw_flat hr0
    obtain ⟨g, rfl, hgb, hgw⟩ : ∃ g, A = some ⟨g, 0, none⟩ ∧ base ≤ g ∧ g < w.heap.size := by
      rcases ho.2 with ⟨h', _⟩ | ⟨g', cap', cur, hv, hb, hh, _⟩
      · injection h' with _ h2 _
        omega
      · injection hv with hv1 _ _
        exact ⟨g', hv1, hb, blk_lt hh⟩
    rcases Nat.lt_or_ge cap (n + 1) with hroom | hroom
    · refine (files_Unit_41.grow g n cap i base vb vc css x w hr0 hlt hroom hbig hbase hv hx h1x).mono ?_
      rintro e w' ⟨v, rfl, _, h1, h2⟩
      exact ⟨v, rfl, h1, h2.mono hbase⟩
    · refine (files_Unit_41.room g n cap i base vb vc _ css x w hr0 hlt hroom hv hx h1x (hne _ rfl)).mono ?_
      rintro e w' ⟨rfl, h1, h2⟩
      exact ⟨_, rfl, h1, (Below.refl base w).grown h2 hbase (fun k hk => by injection hk with hk; omega)⟩
  · obtain rfl : i = n := by omega
    have hC : (Kd.raw 3).C w (some ⟨vb, 0, none⟩) 1 [x] := ⟨rfl, by omega, fun _ => ⟨_, rfl, fun j c hj => by
      cases j with
      | zero =>
        obtain rfl : x = c := by simpa using hj
        exact ⟨x, hx, ⟨rfl, hx, h1x⟩, fun t u hu => by rw [add_plain]; simpa using files_Unit_41.cellsOf hv t u hu⟩
      | succ j => simp at hj⟩⟩
    have e1 : css.take i = css := by rw [hn, List.take_length]
    have e2 : css.drop i = [] := by rw [hn, List.drop_length]
    rw [e1, e2]
    have HR := Aside0.mk hr0
    have HC := Aside0.mk hC
    have HL := Aside0.mk (show (css.length + 1) * 40 ≤ 140737488355328 by rw [← hn]; exact hbig)
    clear hr0 hC e1 e2 hv hx h1x hne hn hge hi hbig
    have key : ∀ A0 : Option Addr, A = A0 → (A0 = none → i = 0 ∧ cap = 0) → Calls Tryd.prog 41 #[.slice A0 i cap, .int .i64 (i : Int), .slice (some ⟨vb, 0, none⟩) 1 vc] w fun e w' => ∃ v, e = .returned v ∧
      (Kd.raw 3).R 46 w' base (fun _ => True) v (css ++ [x]) ∧ Below base w w' := by
      rintro A0 rfl hnil
      cases A with
      | none =>
        obtain ⟨rfl, rfl⟩ := hnil rfl
        go_enter Tryd.func41, Tryd.ntmps41
        go_wp2_with ((with_reducible refine gate_builtin (b := .append) (xs := #[.tmp 23, .tmp 24]) rfl ?_); at_builtin; go_loud (refine Kd.R_append_rows (Kd.raw 3) (Rr := (Kd.raw 3).K w) (w0 := w) base rfl (.tmp 23) (.tmp 24) 23 46 ((.agg #[(.string ⟨#[]⟩), (.string ⟨#[]⟩), (.int .i64 0)]) : Value) 40 rfl Tryd.underlying23 info46 rfl (by decide) (by omega) _ css [x] _ _ _ (fun _ => True) (fun _ => False) rfl rfl HR.out HC.out (fun _ _ h => h) (fun _ h => h.elim) (fun _ _ => trivial) (Below.refl base w) hbase HL.out ?_); intro v2 w2 ho hb _ _; have HO2 := Aside0.mk ho; have HB2 := Aside0.mk hb; clear ho hb)
        go_ret
        exact ⟨v2, rfl, HO2.out, HB2.out⟩
      | some ad =>
        obtain ⟨g, o, sp⟩ := ad
        go_enter Tryd.func41, Tryd.ntmps41
        go_wp2_with ((with_reducible refine gate_builtin (b := .append) (xs := #[.tmp 23, .tmp 24]) rfl ?_); at_builtin; go_loud (refine Kd.R_append_rows (Kd.raw 3) (Rr := (Kd.raw 3).K w) (w0 := w) base rfl (.tmp 23) (.tmp 24) 23 46 ((.agg #[(.string ⟨#[]⟩), (.string ⟨#[]⟩), (.int .i64 0)]) : Value) 40 rfl Tryd.underlying23 info46 rfl (by decide) (by omega) _ css [x] _ _ _ (fun _ => True) (fun _ => False) rfl rfl HR.out HC.out (fun _ _ h => h) (fun _ h => h.elim) (fun _ _ => trivial) (Below.refl base w) hbase HL.out ?_); intro v2 w2 ho hb _ _; have HO2 := Aside0.mk ho; have HB2 := Aside0.mk hb; clear ho hb)
        all_goals (go_ret; exact ⟨v2, rfl, HO2.out, HB2.out⟩)
    refine key A rfl (fun h => ?_)
    subst h
    rcases (raw_flat HR.out).2.1.2 with ⟨h', _⟩ | ⟨g', cap', cur, hv, _⟩
    · injection h' with _ h2 h3
      exact ⟨h2, h3⟩
    · cases hv


end Go.Proofs.YtehlmkgldcfciaaDoor.F
