/- The parts of this proof that lie in one text. -/
import Derived.Test.YtehlmkgldcfciaaGreatGN1
import Derived.Deep.QuietTactic
import Derived.BigQuiet
-- Written by this repo's wip/tools/myprint.py (the kit's print program, with contracts of our own beside). Lean checks it.
namespace Go.Proofs.YtehlmkgldcfciaaGreat.F
open Go.Proofs.YtehlmkgldcfciaaGreat.Common
open Go.RowKit Go.Proofs.YtehlmkgldcfciaaGreatW.PrintWords Go.Proofs.YtehlmkgldcfciaaGreatW.PrintLast Go.Proofs.YtehlmkgldcfciaaGreatW.PrintMore
set_option linter.unusedVariables false
set_option linter.unusedSimpArgs false
theorem files_Unit_72.cellsOf {w : World} {g : Nat} {x : List Value} {e : TypeId} (h : w.heap[g]? = some (.cells x.toArray e (0, 0))) : ∀ j u, x[j]? = some u → w.cell? ⟨g, j, none⟩ = some u := fun j u hu => by
  rw [blk_cell h j]
  simpa using hu
set_option maxHeartbeats 4000000 in
set_option maxRecDepth 100000 in
theorem files_Unit_72.room (g n cap i base vb vc : Nat) (ok : Nat → Prop) (css : List (List Value)) (x : List Value) (w : World) (hr0 : (Kd.raw 3).R 29 w base ok (.slice (some ⟨g, 0, none⟩) n cap) css) (hi : i < n) (hroom : n + 1 ≤ cap)
    (hv : w.heap[vb]? = some (.cells x.toArray 29 (0, 0))) (hx : x.length = 3) (h1x : ∀ u ∈ x, u.oneCell' = true) (hne : vb ≠ g) :
    Calls Tryz.prog 72 #[.slice (some ⟨g, 0, none⟩) n cap, .int .i64 (i : Int), .slice (some ⟨vb, 0, none⟩) 1 vc] w fun e w' => e = .returned (.slice (some ⟨g, 0, none⟩) (n + 1) cap) ∧
      (Kd.raw 3).R 29 w' base ok (.slice (some ⟨g, 0, none⟩) (n + 1) cap) (css.take i ++ x :: css.drop i) ∧ w.grownBy w' (some g) := by
  obtain ⟨hn, hnc, _⟩ := Kd.R_reads' hr0
  obtain ⟨h0, ho, hcs⟩ := raw_flat hr0
  subst hn
  have hlen : ∀ c ∈ css, c.length = 3 := fun c hc => (hcs c hc).1
  obtain ⟨i0, hi0, hz0⟩ := Option.map_eq_some_iff.1 info29
  simp only [Prod.mk.injEq] at hz0
  obtain ⟨_, hz1, _⟩ := hz0
  have hsz : (Tryz.prog.info? 29).map (·.size) = some 3 := by rw [hi0]; simp [hz1]
  obtain ⟨hT, hD, hS⟩ := ins_lens hlen (Nat.le_of_lt hi)
  obtain ⟨hgh, hcapm⟩ : (∃ cur, w.heap[g]? = some (.cells cur 29 (0, 0)) ∧ cur.size = cap * 3) ∧ cap ≤ 9223372036854775807 := by
    rcases ho.2 with ⟨h', _⟩ | ⟨g', cap', cur, hv, _, hh, _, hcm, hcz, _⟩
    · cases h'
    · injection hv with hv1 _ hv3
      injection hv1 with hv1
      injection hv1 with hv1
      subst hv1 hv3
      exact ⟨⟨cur, hh, hcz⟩, hcm⟩
  obtain ⟨cur, hgh, hcz⟩ := hgh
  obtain ⟨ys, hyl, hyt, hoy⟩ := own_more ho (Nat.le_succ css.length) hroom
  have hod : w.drew.ownsRow base 29 3 (.slice (some ⟨g, 0, none⟩) (css.length + 1) cap) (css.length + 1) ys := hoy
  have hcell : ∀ j u, ys[j]? = some u → w.drew.cell? ⟨g, j, none⟩ = some u := fun j u hu => by
    have := hod.cells (g := g) rfl j u hu
    rwa [add_plain] at this
  have hsome : ∀ j, j < (css.length + 1) * 3 → (w.drew.cell? ⟨g, j, none⟩).isSome = true := fun j hj => by
    rw [hcell j _ (List.getElem?_eq_getElem (by rw [hyl]; exact hj))]
    all_goals rfl
  have hfz : ∀ j, w.drew.frozen? ⟨g, j, none⟩ = false := fun j => blk_frozen (w := w.drew) (show w.drew.heap[g]? = some (.cells cur 29 (0, 0)) from hgh) j
  -- what is moved to the right
  obtain ⟨news, hnews⟩ : ∃ news, news = (css.drop i).flatten := ⟨_, rfl⟩
  have hone : ∀ u ∈ news, u.oneCell' = true := fun u hu => by
    rw [hnews] at hu
    obtain ⟨c, hc, hu⟩ := List.mem_flatten.1 hu
    exact (hcs c (List.mem_of_mem_drop hc)).2 u hu
  have hyd : ∀ j u, news[j]? = some u → ys[i * 3 + j]? = some u := fun j u hu => by
    have hlt : j < news.length := by
      rcases Nat.lt_or_ge j news.length with h | h
      · exact h
      · rw [List.getElem?_eq_none h] at hu
        cases hu
    have hf : css.flatten = (css.take i).flatten ++ news := by rw [hnews, ← List.flatten_append, List.take_append_drop]
    have h1 : css.flatten[i * 3 + j]? = some u := by rw [hf, List.getElem?_append_right (by omega), hT, Nat.add_sub_cancel_left]; exact hu
    rw [← hyt, List.getElem?_take] at h1
    split at h1
    · exact h1
    · cases h1
  have hcp1 : ∀ ty dc sc, (Builtin.copy_ #[52, 52] ty #[.slice (some ⟨g, (i + 1) * 3, none⟩) (css.length + 1 - (i + 1)) dc, .slice (some ⟨g, i * 3, none⟩) (css.length + 1 - i) sc]).run Tryz.prog w.drew = .ok (goInt ((css.length - i : Nat) : Int)) (w.drew.setCells g ((i + 1) * 3) news) := fun ty dc sc => by
    have hnl : news.length = (css.length - i) * 3 := by rw [hnews]; exact hD
    exact run_copy_sz w.drew _ _ ty 29 g ((i + 1) * 3) (css.length + 1 - (i + 1)) dc ⟨g, i * 3, none⟩ (css.length + 1 - i) sc 3 (css.length - i) news Tryz.underlying52 hsz (by simp only [Nat.min_def]; split <;> omega) hnl
      (fun j v hj => by rw [Addr.add_lit]; exact hcell _ _ (hyd j v hj))
      (fun j hj => hsome _ (by rw [hnl] at hj; rw [Nat.add_mul, Nat.one_mul]; omega)) (fun j hj => hfz _) hone
  obtain ⟨W1, hW1⟩ : ∃ W1, W1 = w.drew.setCells g ((i + 1) * 3) news := ⟨_, rfl⟩
  obtain ⟨ho1, hg1⟩ := own_setCells news ((i + 1) * 3) w.drew _ hod
  rw [← hW1] at hcp1 ho1 hg1
  have hsome1 : ∀ j, j < (css.length + 1) * 3 → (W1.cell? ⟨g, j, none⟩).isSome = true := fun j hj => by
    rw [hW1]
    exact setCells_some g _ _ _ (fun t ht => hsome _ (by rw [hnews, hD] at ht; rw [Nat.add_mul, Nat.one_mul]; omega)) _ (hsome j hj)
  have hcp2 : ∀ (W : World), (∀ a, W.cell? a = W1.cell? a) → (∀ a, W.frozen? a = W1.frozen? a) → ∀ ty dc, (Builtin.copy_ #[52, 52] ty #[.slice (some ⟨g, i * 3, none⟩) (css.length + 1 - i) dc, .slice (some ⟨vb, 0, none⟩) 1 vc]).run Tryz.prog W = .ok (goInt ((1 : Nat) : Int)) (W.setCells g (i * 3) x) := fun W hWc hWf ty dc =>
    run_copy_sz W _ _ ty 29 g (i * 3) (css.length + 1 - i) dc ⟨vb, 0, none⟩ 1 vc 3 1 x Tryz.underlying52 hsz (by simp only [Nat.min_def]; split <;> omega) (by rw [hx, Nat.one_mul])
      (fun j v hj => by
        rw [add_plain, hWc, hW1, World.cell?_setCells_out g _ _ _ _ (fun h _ => absurd h hne)]
        exact files_Unit_72.cellsOf hv j v hj)
      (fun j hj => by rw [hWc]; exact hsome1 _ (by rw [hx] at hj; omega)) (fun j hj => by rw [hWf, hW1, World.frozen?_setCells]; exact hfz _) h1x
  obtain ⟨ho2, hg2⟩ := own_setCells x (i * 3) W1 _ ho1
  have hins := insert_flat1 hlen (Nat.le_of_lt hi) hx hyl (by
    have := congrArg (List.take (i * 3)) hyt
    rw [List.take_take, Nat.min_eq_left (Nat.mul_le_mul_right _ (Nat.le_of_lt hi))] at this
    rw [this]
    have hf : css.flatten = (css.take i).flatten ++ (css.drop i).flatten := by rw [← List.flatten_append, List.take_append_drop]
    rw [hf, ← hT, List.take_left])
  rw [hnews, hins] at ho2
  have hfin : (Kd.raw 3).R 29 (W1.setCells g (i * 3) x) base ok (.slice (some ⟨g, 0, none⟩) (css.length + 1) cap) (css.take i ++ x :: css.drop i) := by
    have hl : (css.take i ++ x :: css.drop i).length = css.length + 1 := by
      simp only [List.length_append, List.length_cons, List.length_take, List.length_drop]
      omega
    refine flat_raw (fun k hk => h0 k (by simpa [Value.ownBlock] using hk)) (by rw [hl]; exact ho2) (fun c hc => ?_)
    rcases List.mem_append.1 hc with hc | hc
    · exact hcs c (List.mem_of_mem_take hc)
    · rcases List.mem_cons.1 hc with rfl | hc
      · exact ⟨hx, h1x⟩
      · exact hcs c (List.mem_of_mem_drop hc)
  have hgr : w.grownBy (W1.setCells g (i * 3) x) (some g) := (grown_of_below (below_drew (Below.refl _ _)) _).trans (hg1.trans hg2)
  have hov : ∀ lb cb, (callFunc 91 #[.slice (some ⟨vb, 0, none⟩) 1 vc, .slice (some ⟨g, (i + 1) * 3, none⟩) lb cb]).run Tryz.prog w = .ok (.value (.bool false)) w := fun lb cb => by
    rw [run_callFunc_extern Tryz.func91 (by kernel_rfl) (by kernel_rfl) (by kernel_rfl) (e := Extern.SlicesOverlaps.overlaps #[52, 52] #[4]) (by kernel_rfl),
      Lib.run_overlaps_apart w 52 4 29 Tryz.underlying52 3 (fun W => by simp [sizeOf, typeInfo, hi0, hz1]) ⟨vb, 0, none⟩ ⟨g, (i + 1) * 3, none⟩ 1 vc lb cb hne 29 29 3 (cap * 3) (by simp [World.shape?, hv, hx]) (by simp [World.shape?, hgh, hcz]) (by omega) (by simp [World.frozen?, hv]) (by simp [World.frozen?, hv])]
    rfl
  have HFIN := Aside0.mk hfin
  have HGR := Aside0.mk hgr
  have hz2 : ¬ ((i : Int) = (css.length : Int)) := by omega
  have hw1 : IntKind.i64.wrap ((i : Int) + 1) = (i : Int) + 1 := by rw [IntKind.wrap_i64]; omega
  have hw2 : IntKind.i64.wrap ((css.length : Int) + 1) = (css.length : Int) + 1 := by rw [IntKind.wrap_i64]; omega
  have hb0 : (0 : Int) ≤ (i : Int) + 1 := by omega
  have hb1 : (0 : Int) ≤ (css.length : Int) + 1 := by omega
  have hin : i ≤ css.length := by omega
  have htn : ((i : Int) + 1).toNat = i + 1 := by omega
  have htm : ((css.length : Int) + 1).toNat = css.length + 1 := by omega
  have hb2 : ¬ (cap = i + 1) := by omega
  have hb3 : (i : Int) ≤ (css.length : Int) + 1 := by omega
  have hb4 : ¬ (cap = i) := by omega
  have hb5 : ¬ ((cap : Int) < (css.length : Int) + 1) := by omega
  clear hfin hgr hcell hsome hfz hyd hone hod hoy ho1 hg1 ho2 hg2 hsome1 hins hT hD hS hcs hlen ho h0 hr0 hv hgh
  go_enter Tryz.func72, Tryz.ntmps72
  go_wp2_with (simp only [hov])
  go_region_law (refine copy_step rfl (.tmp 73) (.tmp 76) 52 52 rfl (.slice (some ⟨g, (i + 1) * 3, none⟩) (css.length + 1 - (i + 1)) (cap - (i + 1))) (.slice (some ⟨g, i * 3, none⟩) (css.length + 1 - i) (cap - i)) (by simp [Act.eval, Act.put]) (by simp [Act.eval, Act.put]) (hcp1 _ _ _) ?_)
  go_wp2_with (at_builtin; refine copy_list _ rfl _ _ 52 52 rfl _ _ rfl rfl (hcp2 _ (fun _ => rfl) (fun _ => rfl) _ _) ?_)
  go_ret
  subst hW1 hnews
  exact ⟨rfl, HFIN.out, HGR.out⟩
set_option maxHeartbeats 4000000 in
set_option maxRecDepth 100000 in
theorem files_Unit_72.grow (g n cap i base vb vc : Nat) (css : List (List Value)) (x : List Value) (w : World) (hr0 : (Kd.raw 3).R 29 w base (fun _ => True) (.slice (some ⟨g, 0, none⟩) n cap) css) (hi : i < n) (hroom : cap < n + 1) (hbig : (n + 1) * 40 ≤ 140737488355328) (hbase : base ≤ w.heap.size)
    (hv : w.heap[vb]? = some (.cells x.toArray 29 (0, 0))) (hx : x.length = 3) (h1x : ∀ u ∈ x, u.oneCell' = true) :
    Calls Tryz.prog 72 #[.slice (some ⟨g, 0, none⟩) n cap, .int .i64 (i : Int), .slice (some ⟨vb, 0, none⟩) 1 vc] w fun e w' => ∃ v, e = .returned v ∧ v.ownBlock = some w.heap.size ∧
      (Kd.raw 3).R 29 w' base (fun _ => True) v (css.take i ++ x :: css.drop i) ∧ Below w.heap.size w w' := by
  obtain ⟨hn, hnc, _⟩ := Kd.R_reads' hr0
  obtain ⟨h0, ho, hcs⟩ := raw_flat hr0
  subst hn
  have hlen : ∀ c ∈ css, c.length = 3 := fun c hc => (hcs c hc).1
  obtain ⟨i0, hi0, hz0⟩ := Option.map_eq_some_iff.1 info29
  simp only [Prod.mk.injEq] at hz0
  obtain ⟨hzz, hz1, hzb⟩ := hz0
  have hsz : (Tryz.prog.info? 29).map (·.size) = some 3 := by rw [hi0]; simp [hz1]
  obtain ⟨hT, hD, hS⟩ := ins_lens hlen (Nat.le_of_lt hi)
  have hcell : ∀ j u, css.flatten[j]? = some u → w.cell? ⟨g, j, none⟩ = some u := fun j u hu => by
    have := ho.cells (g := g) rfl j u hu
    rwa [add_plain] at this
  have hgw : g < w.heap.size := by
    rcases ho.2 with ⟨h', _⟩ | ⟨g', cap', cur, hv, _, hh, _⟩
    · cases h'
    · injection hv with hv1 _ _
      injection hv1 with hv1
      injection hv1 with hv1
      subst hv1
      exact blk_lt hh
  have hvw : vb < w.heap.size := blk_lt hv
  have hf : css.flatten = (css.take i).flatten ++ (css.drop i).flatten := by rw [← List.flatten_append, List.take_append_drop]
  have hbk : (css.length + 1) * 1 ≤ (css.length + 1) * 40 := Nat.mul_le_mul_left _ (by decide)
  have hik : i + (css.length + 1 - i) = css.length + 1 := by omega
  have hkk : (css.length : Int) + 1 - (i : Int) = ((css.length + 1 - i : Nat) : Int) := by omega
  have hold : (Builtin.firstCells i0.size i (.slice (some ⟨g, 0, none⟩) i cap)).run Tryz.prog w.drew = .ok (css.take i).flatten.toArray w.drew := by
    rw [hz1]
    exact run_firstCells_some w.drew 3 i ⟨g, 0, none⟩ i cap (css.take i).flatten hT (fun j u hj => by
      rw [add_plain]
      refine hcell j u ?_
      have hlt : j < (css.take i).flatten.length := by
        rcases Nat.lt_or_ge j (css.take i).flatten.length with h | h
        · exact h
        · rw [List.getElem?_eq_none h] at hj
          cases hj
      rw [hf, List.getElem?_append_left hlt]
      exact hj)
  have hrz : ∀ ty, (Builtin.append_ #[52, 3] ty #[.slice (some ⟨g, 0, none⟩) i cap, .int .i64 ((css.length : Int) + 1 - (i : Int))]).run Tryz.prog w =
      .ok (.slice (some ⟨w.heap.size, 0, none⟩) (css.length + 1) (grownCap w (css.length + 1) cap 29)) (w.drew.alloc (.cells ((css.take i).flatten.toArray ++ Builtin.zeroCells ((.agg #[(.string ⟨#[]⟩), (.string ⟨#[]⟩), (.int .i64 0)]) : Value).cells (css.length + 1 - i) ++ Builtin.zeroCells ((.agg #[(.string ⟨#[]⟩), (.string ⟨#[]⟩), (.int .i64 0)]) : Value).cells (grownCap w (css.length + 1) cap 29 - (css.length + 1))) 29)) := fun ty => by
    have h := Lib.run_append_grow_zeros w 52 3 ty 29 i0 _ .i64 .i64 Tryz.underlying52 Tryz.underlying3 hi0 hzz (some ⟨g, 0, none⟩) i cap (css.take i).flatten hold (css.length + 1 - i) (by omega) (by rw [hz1]; decide) (by omega) (by omega) (by rw [hzb]; omega) (by rw [hzb, hik]; exact growslice_fits (by omega) hbig)
    rw [hik] at h
    rw [hkk]
    exact h
  obtain ⟨G, hG⟩ : ∃ G, G = grownCap w (css.length + 1) cap 29 := ⟨_, rfl⟩
  have hGn : css.length + 1 ≤ G := by rw [hG]; exact grownCap_ge w _ _ _
  have hG63 : G ≤ 9223372036854775807 := by
    have := grownCap_le_maxLen w (css.length + 1) cap 29 (by unfold maxLen; omega)
    rw [← hG] at this
    unfold maxLen at this
    omega
  obtain ⟨ROW, hROW⟩ : ∃ ROW : Array Value, ROW = (css.take i).flatten.toArray ++ Builtin.zeroCells ((.agg #[(.string ⟨#[]⟩), (.string ⟨#[]⟩), (.int .i64 0)]) : Value).cells (css.length + 1 - i) ++ Builtin.zeroCells ((.agg #[(.string ⟨#[]⟩), (.string ⟨#[]⟩), (.int .i64 0)]) : Value).cells (G - (css.length + 1)) := ⟨_, rfl⟩
  rw [← hG] at hrz
  rw [← hROW] at hrz
  have hZ : ((.agg #[(.string ⟨#[]⟩), (.string ⟨#[]⟩), (.int .i64 0)]) : Value).cells.size = 3 := rfl
  have hRl : ROW.size = G * 3 := by
    rw [hROW]
    simp only [Array.size_append, List.size_toArray, hT, Builtin.zeroCells, Array.size_map, Array.size_range]
    rw [hZ]
    omega
  have hRt : ROW.toList.take (i * 3) = (css.take i).flatten := by
    rw [hROW]
    simp only [Array.toList_append, List.append_assoc]
    rw [← hT, List.take_left]
  obtain ⟨ys, hys⟩ : ∃ ys, ys = ROW.toList.take ((css.length + 1) * 3) := ⟨_, rfl⟩
  have hRL : ROW.toList.length = ROW.size := Array.length_toList
  have hyl : ys.length = (css.length + 1) * 3 := by rw [hys, List.length_take, hRL, hRl]; omega
  have hyt : ys.take (i * 3) = (css.take i).flatten := by rw [hys, List.take_take, Nat.min_eq_left (by omega)]; exact hRt
  obtain ⟨W1, hW1⟩ : ∃ W1, W1 = (w.alloc (.cells ROW 29)).drew := ⟨_, rfl⟩
  have hnew : W1.heap[w.heap.size]? = some (.cells ROW 29 (0, 0)) := by rw [hW1]; exact heap_alloc_new w _
  have ho1 : W1.ownsRow base 29 3 (.slice (some ⟨w.heap.size, 0, none⟩) (css.length + 1) G) (css.length + 1) ys :=
    ⟨hyl, .inr ⟨w.heap.size, G, ROW, rfl, hbase, hnew, hGn, hG63, hRl, hys.symm⟩⟩
  have hb1 : Below w.heap.size w W1 := by rw [hW1]; exact below_drew1 ((Below.refl _ _).alloc (Nat.le_refl _) _)
  have hN : ∀ j, j < (css.length + 1) * 3 → (W1.cell? ⟨w.heap.size, j, none⟩).isSome = true := fun j hj => by
    rw [blk_cell hnew j, Array.getElem?_eq_getElem (by rw [hRl]; omega)]
    all_goals rfl
  have hNf : ∀ j, W1.frozen? ⟨w.heap.size, j, none⟩ = false := fun j => blk_frozen hnew j
  have hcpA : ∀ (W : World), (∀ a, W.cell? a = W1.cell? a) → (∀ a, W.frozen? a = W1.frozen? a) → ∀ ty dc, (Builtin.copy_ #[52, 52] ty #[.slice (some ⟨w.heap.size, i * 3, none⟩) (css.length + 1 - i) dc, .slice (some ⟨vb, 0, none⟩) 1 vc]).run Tryz.prog W = .ok (goInt ((1 : Nat) : Int)) (W.setCells w.heap.size (i * 3) x) := fun W hWc hWf ty dc =>
    run_copy_sz W _ _ ty 29 w.heap.size (i * 3) (css.length + 1 - i) dc ⟨vb, 0, none⟩ 1 vc 3 1 x Tryz.underlying52 hsz (by simp only [Nat.min_def]; split <;> omega) (by rw [hx, Nat.one_mul])
      (fun j v hj => by
        rw [add_plain, hWc]
        exact pw_cell_below hb1 (files_Unit_72.cellsOf hv j v hj))
      (fun j hj => by rw [hWc]; exact hN _ (by rw [hx] at hj; omega)) (fun j hj => by rw [hWf]; exact hNf _) h1x
  obtain ⟨W2, hW2⟩ : ∃ W2, W2 = (W1.setCells w.heap.size (i * 3) x).drew := ⟨_, rfl⟩
  obtain ⟨ho2', hg2'⟩ := own_setCells x (i * 3) W1 _ ho1
  have ho2 : W2.ownsRow base 29 3 (.slice (some ⟨w.heap.size, 0, none⟩) (css.length + 1) G) (css.length + 1) (layV ys (i * 3) x) := by rw [hW2]; exact ho2'
  have hg2 : W1.grownBy W2 (some w.heap.size) := by rw [hW2]; exact hg2'.trans (grown_of_below (below_drew1 (Below.refl _ _)) _)
  have hb2 : Below w.heap.size w W2 := hb1.grown hg2 hb1.size (fun k hk => by injection hk with hk; omega)
  obtain ⟨news, hnews⟩ : ∃ news, news = (css.drop i).flatten := ⟨_, rfl⟩
  have hnl : news.length = (css.length - i) * 3 := by rw [hnews]; exact hD
  have hone : ∀ u ∈ news, u.oneCell' = true := fun u hu => by
    rw [hnews] at hu
    obtain ⟨c, hc, hu⟩ := List.mem_flatten.1 hu
    exact (hcs c (List.mem_of_mem_drop hc)).2 u hu
  have hcpB : ∀ ty dc sc, (Builtin.copy_ #[52, 52] ty #[.slice (some ⟨w.heap.size, (i + 1) * 3, none⟩) (css.length + 1 - (i + 1)) dc, .slice (some ⟨g, i * 3, none⟩) (css.length - i) sc]).run Tryz.prog W2 = .ok (goInt ((css.length - i : Nat) : Int)) (W2.setCells w.heap.size ((i + 1) * 3) news) := fun ty dc sc =>
    run_copy_sz W2 _ _ ty 29 w.heap.size ((i + 1) * 3) (css.length + 1 - (i + 1)) dc ⟨g, i * 3, none⟩ (css.length - i) sc 3 (css.length - i) news Tryz.underlying52 hsz (by simp only [Nat.min_def]; split <;> omega) hnl
      (fun j v hj => by
        rw [Addr.add_lit]
        refine pw_cell_below hb2 (hcell _ _ ?_)
        rw [hf, List.getElem?_append_right (by omega), hT, Nat.add_sub_cancel_left, ← hnews]
        exact hj)
      (fun j hj => by
        rw [hW2]
        exact setCells_some _ _ _ _ (fun t ht => hN _ (by rw [hx] at ht; omega)) _ (hN _ (by rw [hnl] at hj; rw [Nat.add_mul, Nat.one_mul]; omega)))
      (fun j hj => by
        rw [hW2]
        show (W1.setCells w.heap.size (i * 3) x).frozen? _ = false
        rw [World.frozen?_setCells]
        exact hNf _) hone
  obtain ⟨ho3, hg3⟩ := own_setCells news ((i + 1) * 3) W2 _ ho2
  have hins := insert_flat2 hlen (Nat.le_of_lt hi) hx hyl hyt
  rw [← hnews] at hins
  rw [hins] at ho3
  have hfin : (Kd.raw 3).R 29 (W2.setCells w.heap.size ((i + 1) * 3) news) base (fun _ => True) (.slice (some ⟨w.heap.size, 0, none⟩) (css.length + 1) G) (css.take i ++ x :: css.drop i) := by
    have hl : (css.take i ++ x :: css.drop i).length = css.length + 1 := by
      simp only [List.length_append, List.length_cons, List.length_take, List.length_drop]
      omega
    refine flat_raw (fun k hk => trivial) (by rw [hl]; exact ho3) (fun c hc => ?_)
    rcases List.mem_append.1 hc with hc | hc
    · exact hcs c (List.mem_of_mem_take hc)
    · rcases List.mem_cons.1 hc with rfl | hc
      · exact ⟨hx, h1x⟩
      · exact hcs c (List.mem_of_mem_drop hc)
  have HFIN := Aside0.mk hfin
  have HB3 := Aside0.mk (hb2.grown hg3 hb2.size (fun k hk => by injection hk with hk; omega))
  have HW1 := Aside0.mk hW1
  have HW2 := Aside0.mk hW2
  subst hW1
  have hE1 : ∀ a, ((w.alloc (.cells ROW 29)).drew).cell? a = (w.drew.alloc (.cells ROW 29)).cell? a := fun a => rfl
  have hE2 : ∀ a, ((w.alloc (.cells ROW 29)).drew).frozen? a = (w.drew.alloc (.cells ROW 29)).frozen? a := fun a => rfl
  have hz2 : ¬ ((i : Int) = (css.length : Int)) := by omega
  have hz3 : (cap : Int) < (css.length : Int) + 1 := by omega
  have hw1 : IntKind.i64.wrap ((i : Int) + 1) = (i : Int) + 1 := by rw [IntKind.wrap_i64]; omega
  have hw2 : IntKind.i64.wrap ((css.length : Int) + 1) = (css.length : Int) + 1 := by rw [IntKind.wrap_i64]; omega
  have hb0 : (0 : Int) ≤ (i : Int) + 1 := by omega
  have hb01 : (0 : Int) ≤ (css.length : Int) + 1 := by omega
  have hin : i ≤ css.length := by omega
  have htn : ((i : Int) + 1).toNat = i + 1 := by omega
  have htm : ((css.length : Int) + 1).toNat = css.length + 1 := by omega
  have hb3 : (i : Int) ≤ (css.length : Int) + 1 := by omega
  have hci : ¬ (cap = i) := by omega
  have hGi : ¬ (G = i) := by omega
  have hGim : ¬ (G = i + 1) := by omega
  clear hfin hcell hone ho1 ho2 ho3 hg2 hg3 hg2' ho2' hins hT hD hS hcs hlen ho h0 hr0 hv hgw hvw hf hbk hkk hold hN hNf hb1 hb2 hRl hRt hyl hyt hnew hys hik hROW hW2 hG hRL
  go_enter Tryz.func72, Tryz.ntmps72
  go_wp2_with (first
    | (at_builtin; refine Lib.wpList_append_run _ rfl _ _ _ _ rfl _ _ rfl rfl _ _ (hrz _) ?_)
    | (at_builtin; refine copy_list _ rfl _ _ 52 52 rfl _ _ rfl rfl (hcpA _ hE1 hE2 _ _) ?_))
  go_region_law (refine copy_step rfl (.tmp 50) (.tmp 53) 52 52 rfl (.slice (some ⟨w.heap.size, (i + 1) * 3, none⟩) (css.length + 1 - (i + 1)) (G - (i + 1))) (.slice (some ⟨g, i * 3, none⟩) (css.length - i) (cap - i)) (by simp [Act.eval, Act.put]) (by simp [Act.eval, Act.put]) (by rw [← HW2.out]; exact hcpB _ _ _) ?_)
  go_wp2
  go_ret
  subst hnews
  exact ⟨_, rfl, rfl, HFIN.out, HB3.out⟩
end Go.Proofs.YtehlmkgldcfciaaGreat.F
/- The file store: slices.Insert over units, told with the very block that is written. -/
set_option linter.unusedVariables false
set_option linter.unusedSimpArgs false
namespace Go.Proofs.YtehlmkgldcfciaaGreat.Files
open Go.Proofs.YtehlmkgldcfciaaGreat.Common Go.Maps Go.ChangeMaps Go.WideMaps Go.Proofs.YtehlmkgldcfciaaGreat.F
open Go.RowKit Go.Proofs.YtehlmkgldcfciaaGreatW.PrintWords Go.Proofs.YtehlmkgldcfciaaGreatW.PrintLast Go.Proofs.YtehlmkgldcfciaaGreatW.PrintMore
theorem raw_of_units {W : World} {base : Nat} {ok : Nat → Prop} {v : Value} {l : List S29} (h : Kd.R k29 29 W base ok v l) : (Kd.raw 3).R 29 W base ok v (l.map uCells) := by
  refine flat_raw h.1 ?_ (fun c hc => ?_)
  · rw [List.length_map]
    exact uRow_of_R h
  · obtain ⟨x, _, rfl⟩ := List.mem_map.1 hc
    exact ⟨rfl, fun u hu => Kd.K_one k29 (k29_mk W x) u hu⟩
theorem R_only {W : World} {base g n c : Nat} {ok : Nat → Prop} {l : List S29} (h : Kd.R k29 29 W base ok (.slice (some ⟨g, 0, none⟩) n c) l) : Kd.R k29 29 W base (fun k => k = g) (.slice (some ⟨g, 0, none⟩) n c) l := by
  obtain ⟨hn, _⟩ := Kd.R_reads' h
  subst hn
  refine R_of_uRow' (uRow_of_R h) (fun k hk => ?_)
  have : g = k := by simpa [Value.ownBlock] using hk
  exact this.symm
def InsOut (w : World) (g i : Nat) (l : List S29) (x : S29) (e : Ending) (w' : World) : Prop :=
  ∃ g' c', e = .returned (.slice (some ⟨g', 0, none⟩) (l.length + 1) c') ∧ Kd.R k29 29 w' 0 (fun k => k = g') (.slice (some ⟨g', 0, none⟩) (l.length + 1) c') (l.take i ++ x :: l.drop i) ∧ w.grownBy w' (some g) ∧ (g' = g ∨ w.heap.size ≤ g') ∧ l.length + 1 ≤ c'
theorem Ins_units (g cap i vb : Nat) (ok : Nat → Prop) (l : List S29) (x : S29) (w : World) (hR : Kd.R k29 29 w 0 ok (.slice (some ⟨g, 0, none⟩) l.length cap) l) (hi : i ≤ l.length) (hl : l.length ≤ 1000)
    (hv : w.heap[vb]? = some (.cells #[.string x.f0, .string x.f1, .int .i64 x.f2] 29 (0, 0))) (hne : vb ≠ g) :
    Calls Tryz.prog 72 #[.slice (some ⟨g, 0, none⟩) l.length cap, .int .i64 (i : Int), .slice (some ⟨vb, 0, none⟩) 1 1] w (InsOut w g i l x) := by
  have hraw := Kd.R_mono (raw_of_units hR) (fun _ _ => trivial) (ok' := fun _ => True)
  have hlen : (l.map uCells).length = l.length := List.length_map _
  have hcat : (l.map uCells).take i ++ uCells x :: (l.map uCells).drop i = (l.take i ++ x :: l.drop i).map uCells := by simp [List.map_take, List.map_drop]
  have hnl : (l.take i ++ x :: l.drop i).length = l.length + 1 := by simp; omega
  have hone : ∀ u ∈ uCells x, u.oneCell' = true := fun u hu => Kd.K_one k29 (k29_mk w x) u hu
  obtain ⟨_, hcap, _⟩ := Kd.R_reads' hR
  rcases Nat.lt_or_ge i l.length with hlt | hge
  · rcases Nat.lt_or_ge cap (l.length + 1) with hroom | hroom
    · refine (files_Unit_72.grow g l.length cap i 0 vb 1 (l.map uCells) (uCells x) w hraw hlt hroom (by omega) (Nat.zero_le _) hv rfl hone).mono ?_
      rintro e w' ⟨v, rfl, ho, h1, h2⟩
      rw [hcat] at h1
      have h3 := units_of_raw h1
      obtain ⟨g', c', rfl, hc', _⟩ := units_slice h3 (by omega)
      rw [hnl] at h3 hc' ⊢
      have : g' = w.heap.size := by simpa [Value.ownBlock] using ho
      exact ⟨g', c', rfl, R_only h3, grown_of_below h2 _, .inr (by omega), hc'⟩
    · refine (files_Unit_72.room g l.length cap i 0 vb 1 (fun _ => True) (l.map uCells) (uCells x) w hraw hlt hroom hv rfl hone hne).mono ?_
      rintro e w' ⟨rfl, h1, h2⟩
      rw [hcat] at h1
      exact ⟨g, cap, rfl, R_only (units_of_raw h1), h2, .inl rfl, hroom⟩
  · obtain rfl : i = l.length := by omega
    have hcm : cap ≤ 9223372036854775807 := by
      rcases (uRow_of_R hR).2 with ⟨h', _⟩ | ⟨g', cap', cur, hv', _, _, _, hcm, _⟩
      · cases h'
      · injection hv' with _ _ h3
        rw [h3]; exact hcm
    refine (Ins_c 0 g l.length cap vb (uRow l) (.string x.f0) (.string x.f1) (.int .i64 x.f2) w (uRow_of_R hR) hv ⟨rfl, rfl, rfl⟩ (by omega) ⟨hcap, hcm⟩ (Nat.zero_le _)).mono ?_
    rintro e w' ⟨g', c', rfl, h1, h2, h3, h4⟩
    have e1 : l.take l.length ++ x :: l.drop l.length = l ++ [x] := by simp
    unfold InsOut
    rw [e1]
    have h5 : w'.ownsRow 0 29 3 (.slice (some ⟨g', 0, none⟩) (l.length + 1) c') (l ++ [x]).length (uRow (l ++ [x])) := by rw [uRow_snoc, List.length_append]; exact h1
    have h6 := R_of_uRow h5
    have h7 := (Kd.R_reads' h6).2.1
    exact ⟨g', c', rfl, R_only h6, h2, h3.elim .inl (fun e => .inr (by omega)), h7⟩
theorem FileParts.newUnits {W w1 : World} {ok ok' : Nat → Prop} {fb rc ub : Nat} {f : AF} {A : Option Addr} {uv v' : Value} {DU : DataW Unit} {units' : List S29} (P : FileParts W ok fb f A rc uv ub DU) (hc : Chg W w1 (fun k => some k = uv.ownBlock))
    (hr : Kd.R k29 29 w1 0 ok' v' units') (hok' : ∀ k, ok' k → ok k ∨ W.heap.size ≤ k) :
    FileParts (w1.setCell ⟨fb, 8, none⟩ v') (fun k => ok k ∨ W.heap.size ≤ k) fb { f with units := units' } A rc v' ub DU ∧ Chg W (w1.setCell ⟨fb, 8, none⟩ v') ok := by
  have hty : ∀ k, some k = uv.ownBlock → ∃ cells, W.heap[k]? = some (.cells cells 29 (0, 0)) := fun k hk => own_typed (uRow_of_R P.units) k hk.symm
  have hfb : ¬ some fb = uv.ownBlock := fun e => by
    obtain ⟨cells, h⟩ := hty fb e
    rw [P.F] at h
    cases h
  have hub : ¬ some ub = uv.ownBlock := fun e => by
    obtain ⟨cells, h⟩ := hty ub e
    obtain ⟨es, clock, hb, _⟩ := P.U
    rw [hb] at h
    cases h
  have F1 : FileAt w1 fb f.F (.slice A f.rules.length rc) uv ub := (hc.block fb (blk_lt P.F) hfb).trans P.F
  have R1 : Kd.R k100 100 w1 0 ok (.slice A f.rules.length rc) f.rules := by
    cases hu : uv.ownBlock with
    | none => exact hc.row P.rules (fun k hk e => by rw [hu] at e; cases e)
    | some g =>
      obtain ⟨cells, h⟩ := hty g hu.symm
      refine Kd.R_mono (hc.row (Kd.R_types P.rules h (by decide)) (fun k hk e => ?_)) (fun k hk => hk.1)
      rw [hu] at e
      injection e with e
      exact hk.2 e
  have U1 := hc.map P.U hub
  refine ⟨⟨.inl P.okb, file_set F1 8 v' rfl, Kd.R_mono (Kd.R_set R1 F1 (by decide) 8 v') (fun k hk => .inl hk), Kd.R_mono (Kd.R_set hr F1 (by decide) 8 v') hok', .inl P.oku, U1.setCell (a := ⟨fb, 8, none⟩) (blk_map_ne F1 U1) v', P.mU⟩, ?_⟩
  refine (hc.mono (fun k hk => ?_)).trans (Chg.of_set w1 ⟨fb, 8, none⟩ v' (S := ok) P.okb) (fun i hi => .inl hi)
  exact P.units.1 k hk.symm
def FS.noted (F : FS) (u : ByteArray) : FS := { F with ch := wrap64 (F.ch + 1), last := u }
theorem FileParts.noted {W : World} {ok : Nat → Prop} {fb rc ub : Nat} {f : AF} {A : Option Addr} {uv : Value} {DU : DataW Unit} (P : FileParts W ok fb f A rc uv ub DU) (u : ByteArray) :
    FileParts ((W.setCell ⟨fb, 5, none⟩ (.int .i64 (wrap64 (f.F.ch + 1)))).setCell ⟨fb, 4, none⟩ (.string u)) ok fb { f with F := f.F.noted u } A rc uv ub DU ∧ Chg W ((W.setCell ⟨fb, 5, none⟩ (.int .i64 (wrap64 (f.F.ch + 1)))).setCell ⟨fb, 4, none⟩ (.string u)) ok :=
  ⟨(P.set 5 (.int .i64 (wrap64 (f.F.ch + 1))) (F' := { f.F with ch := wrap64 (f.F.ch + 1) }) rfl).set 4 (.string u) (F' := f.F.noted u) rfl,
    (Chg.of_set W ⟨fb, 5, none⟩ _ (S := ok) P.okb).trans (Chg.of_set _ ⟨fb, 4, none⟩ _ (S := ok) P.okb) (fun i hi => .inl hi)⟩
end Go.Proofs.YtehlmkgldcfciaaGreat.Files
/- The file store: Insert. -/
set_option linter.unusedVariables false
set_option linter.unusedSimpArgs false
namespace Go.Proofs.YtehlmkgldcfciaaGreat.Files
open Go.Proofs.YtehlmkgldcfciaaGreat.Common Go.Maps Go.ChangeMaps Go.WideMaps Go.Proofs.YtehlmkgldcfciaaGreat.F
open Go.RowKit Go.Proofs.YtehlmkgldcfciaaGreatW.PrintWords Go.Proofs.YtehlmkgldcfciaaGreatW.PrintLast Go.Proofs.YtehlmkgldcfciaaGreatW.PrintMore
def Ins.T14 : Bool × List (List Nat × List Nat) := (true, [([], []), ([0], [0]), ([1], [1]), ([2], [2]), ([], []), ([4], [4]), ([5], [5]), ([6], [6]), ([], []), ([7, 8], [7, 8]), ([], []), ([10], [10]), ([3, 9, 11, 9], [3, 9, 11]), ([12, 12], [12])])
def Ins.B14 : List Nat := [0, 1, 3, 7, 0, 16, 48, 112, 0, 496, 0, 1024, 4095, 8191]
theorem Ins.tab14 : rtab .any (opsOf Tryz.f30 14) = Ins.T14 := by kernel_rfl
theorem Ins.bits14 : waitsOk Ins.T14.2 Ins.B14 = true := by kernel_rfl
def Ins.T20 : Bool × List (List Nat × List Nat) := (true, [([], []), ([], []), ([1], [1]), ([2], [2]), ([3], [3]), ([], []), ([5], [5]), ([6], [6]), ([7], [7]), ([], []), ([8, 9], [8, 9]), ([], []), ([11], [11]), ([4, 10, 12, 10], [4, 10, 12]), ([0, 0, 1, 2, 3, 4, 5, 6, 7, 8, 9, 10, 11, 12, 13], [0]), ([14, 0, 1, 2, 3, 4, 5, 6, 7, 8, 9, 10, 11, 12, 13], [14]), ([15, 13, 13, 0, 1, 2, 3, 4, 5, 6, 7, 8, 9, 10, 11, 12, 13], [13, 15])])
def Ins.B20 : List Nat := [0, 0, 2, 6, 14, 0, 32, 96, 224, 0, 992, 0, 2048, 8190, 16383, 32767, 65535]
theorem Ins.tab20 : rtab .any (opsOf Tryz.f30 20) = Ins.T20 := by kernel_rfl
theorem Ins.bits20 : waitsOk Ins.T20.2 Ins.B20 = true := by kernel_rfl
def aboveOf (l : List S29) (lev : Int) : Nat → Nat
  | 0 => 0
  | i + 1 => if lv l (i + 1) ≥ lev then aboveOf l lev i else i + 1
theorem aboveOf_le (l : List S29) (lev : Int) : ∀ i, aboveOf l lev i ≤ i
  | 0 => Nat.le_refl _
  | i + 1 => by
    unfold aboveOf
    have := aboveOf_le l lev i
    split <;> omega
def insLev (l : List S29) (i : Nat) (child : Bool) : Int := lv l i + (if child then 1 else 0)
def insBad (kind lev : Int) : Bool := decide (lev = 0) || (decide (kind < 2) && decide (lev > kind))
def AF.ins (f : AF) (u : ByteArray) (i : Nat) (x : S29) : AF := { f with F := f.F.noted u, units := f.units.take (endOf f.units i) ++ x :: f.units.drop (endOf f.units i) }
def InsEnd' (W : World) (ok : Nat → Prop) (fb rc ub : Nat) (f' : AF) (A : Option Addr) (DU : DataW Unit) (e : Ending) (w' : World) : Prop :=
  e = .returned (.int .i64 0) ∧ ∃ uv, FileParts w' (fun k => ok k ∨ W.heap.size ≤ k) fb f' A rc uv ub DU ∧ Chg W w' ok
theorem Insert_arg (sp : Value) (u n : ByteArray) (at_ : Int) (child : Bool) (a b : ByteArray) (lev0 : Int) (W : World) (h : (decide (a.size ≤ 30) && decide (b.size ≤ 400)) = false) :
    Calls Tryz.prog 30 #[sp, .string u, .string n, .int .i64 at_, .bool child, .agg #[.string a, .string b, .int .i64 lev0]] W fun e w' => e = .returned (.int .i64 1) ∧ Below W.heap.size W w' := by
  by_cases h1 : a.size ≤ 30
  · have h2 : ¬ b.size ≤ 400 := by simp [h1] at h; omega
    have g1 : decide ((30 : Int) < (a.size : Int)) = false := decide_eq_false (by omega)
    have g2 : decide ((400 : Int) < (b.size : Int)) = true := decide_eq_true (by omega)
    clear h h1 h2
    go_enter Tryz.func30, Tryz.ntmps30
    go_wp2
    go_ret
    exact ⟨rfl, (Below.refl _ _).alloc (Nat.le_refl _) _⟩
  · have g1 : decide ((30 : Int) < (a.size : Int)) = true := decide_eq_true (by omega)
    clear h h1
    go_enter Tryz.func30, Tryz.ntmps30
    go_wp2
    go_ret
    exact ⟨rfl, (Below.refl _ _).alloc (Nat.le_refl _) _⟩
theorem Insert_err (sp : Value) (u n : ByteArray) (at_ : Int) (child : Bool) (a b : ByteArray) (lev0 E : Int) (W : World) (h1 : a.size ≤ 30) (h2 : b.size ≤ 400) (HU : UnitErr W sp u n at_ 2 E) :
    Calls Tryz.prog 30 #[sp, .string u, .string n, .int .i64 at_, .bool child, .agg #[.string a, .string b, .int .i64 lev0]] W fun e w' => e = .returned (.int .i64 E) ∧ Below W.heap.size W w' := by
  obtain ⟨hE, hu⟩ := HU
  have hb0 : Below W.heap.size W (W.alloc (.cells #[.string a, .string b, .int .i64 lev0] 29)) := (Below.refl _ _).alloc (Nat.le_refl _) _
  have CU := Aside0.mk (hu _ hb0)
  have HB0 := Aside0.mk hb0
  have g1 : decide ((30 : Int) < (a.size : Int)) = false := decide_eq_false (by omega)
  have g2 : decide ((400 : Int) < (b.size : Int)) = false := decide_eq_false (by omega)
  have hE' : (E == 0) = false := by simpa using hE
  clear hu hb0 h1 h2 hE
  go_enter Tryz.func30, Tryz.ntmps30
  go_wp2_with first | (go_at_call 69; refine CU.out.mono ?_; rintro e w2 ⟨dn, rfl, hb2⟩)
  go_ret
  exact ⟨rfl, HB0.out.trans (hb2.mono HB0.out.size)⟩
set_option maxRecDepth 100000 in
set_option maxHeartbeats 2000000 in
theorem Insert_ok (sp : Value) (u n : ByteArray) (i fb rc ub : Nat) (child : Bool) (a b : ByteArray) (lev0 dn : Int) (f : AF) (A : Option Addr) (uv : Value) (DU : DataW Unit) (ok : Nat → Prop) (W : World) (HU : UnitOk W sp u n (i : Int) 2 fb dn) (P : FileParts W ok fb f A rc uv ub DU)
    (hi : i < f.units.length) (hl : f.units.length ≤ 1000) (h1 : a.size ≤ 30) (h2 : b.size ≤ 400) (hlv : ∀ j, 0 ≤ lv f.units j ∧ lv f.units j ≤ 1000) (hroot : lv f.units 0 = 0) (hbad : insBad f.F.kind (insLev f.units i child) = false)
    (hcl : clashB f.units (kids f.units (aboveOf f.units (insLev f.units i child) i)) a = false) (hdn : dn = 0) (hfull : f.units.length < 100) :
    Calls Tryz.prog 30 #[sp, .string u, .string n, .int .i64 (i : Int), .bool child, .agg #[.string a, .string b, .int .i64 lev0]] W (InsEnd' W ok fb rc ub (f.ins u i ⟨a, b, insLev f.units i child⟩) A DU) := by
  subst hdn
  have hb0 : Below W.heap.size W (W.alloc (.cells #[.string a, .string b, .int .i64 lev0] 29)) := (Below.refl _ _).alloc (Nat.le_refl _) _
  have CU := Aside0.mk (HU _ hb0)
  have HP := Aside0.mk (P.below hb0)
  have HB0 := Aside0.mk hb0
  have hfl := blk_lt P.F
  have g1 : decide ((30 : Int) < (a.size : Int)) = false := decide_eq_false (by omega)
  have g2 : decide ((400 : Int) < (b.size : Int)) = false := decide_eq_false (by omega)
  obtain ⟨g, cu, huv, hlc, hcm⟩ := units_slice P.units (by omega)
  subst huv
  have HPW := Aside0.mk P
  have hgl : g < W.heap.size := own_lt (uRow_of_R P.units) g rfl
  have HBX := Aside0.mk (show (W.alloc (.cells #[.string a, .string b, .int .i64 lev0] 29)).heap[W.heap.size]? = some (.cells #[.string a, .string b, .int .i64 lev0] 29 (0, 0)) from heap_alloc_new _ _)
  have HSZ := Aside0.mk (show (W.alloc (.cells #[.string a, .string b, .int .i64 lev0] 29)).heap.size = W.heap.size + 1 by simp)
  clear hb0 P HU
  have HLV := Aside0.mk hlv
  have hlvi := hlv i
  have hlev0 : 0 ≤ lv f.units i := hlvi.1
  have hlev1 : lv f.units i ≤ 1000 := hlvi.2
  clear hlv hlvi
  go_enter Tryz.func30, Tryz.ntmps30
  go_wp2_with fail
  refine CU.out.mono ?_
  rintro e w2 ⟨rfl, hb2⟩
  have P2 := HP.out.below hb2
  have hbx2 : w2.heap[W.heap.size]? = some (.cells #[.string a, .string b, .int .i64 lev0] 29 (0, 0)) := (hb2.block _ (by rw [HSZ.out]; exact Nat.lt_succ_self _)).trans HBX.out
  have c8 : w2.cell? ⟨fb, 8, none⟩ = some (.slice (some ⟨g, 0, none⟩) f.units.length cu) := (blk_cell P2.F 8).trans rfl
  have b2 : w2.cell? ⟨W.heap.size, 2, none⟩ = some (.int .i64 lev0) := (blk_cell hbx2 2).trans rfl
  have fb2 := blk_frozen hbx2 2
  have xa : w2.cell? ⟨g, i * 3 + 2, none⟩ = some (.int .i64 (lv f.units i)) := by
    obtain ⟨_, _, hC⟩ := Kd.R_reads' P2.units
    obtain ⟨ad, he, _, _, h3⟩ := at_T29 (xs := f.units) hC (i : Int) (by omega) (by omega)
    cases he
    rw [Int.toNat_natCast, add_plain] at h3
    exact h3
  have hiz : (i : Int) < (f.units.length : Int) := by omega
  have HB2 := Aside0.mk (show Below W.heap.size W w2 from HB0.out.trans (hb2.mono HB0.out.size))
  have HX2 := Aside0.mk hbx2
  obtain ⟨lev, hlev⟩ : ∃ lev, lev = insLev f.units i child := ⟨_, rfl⟩
  have hbad' := hbad
  unfold insBad at hbad'
  rw [← hlev] at hbad'
  simp only [Bool.or_eq_false_iff, Bool.and_eq_false_iff, decide_eq_false_iff_not] at hbad'
  have hpos : 0 < lev := by
    have h0 : 0 ≤ lev := by rw [hlev]; unfold insLev; split <;> omega
    omega
  have HK : Aside0 (f.F.kind < 2 → ¬ lev > f.F.kind) := ⟨fun h => by rcases hbad'.2 with h2 | h2 <;> omega⟩
  have HLE := Lib.hid hlev
  have HCL := Lib.hid hcl
  have HFP := Aside0.mk (HP.out.below hb2)
  have hlev1000 : lev ≤ 1001 := by rw [hlev]; unfold insLev; split <;> omega
  clear hbad hbad' hlev hcl hb2 hbx2 P2 CU HBX
  cases child
  all_goals
    go_wp2_with fail
    first
    | (obtain ⟨w3, hw3⟩ : ∃ w3, w3 = (w2.setCell ⟨W.heap.size, 2, none⟩ (.int .i64 (lv f.units i))).setCell ⟨W.heap.size, 2, none⟩ (.int .i64 (lv f.units i + 1)) := ⟨_, rfl⟩
       rw [← hw3]
       have HX3 : Aside0 (w3.heap[W.heap.size]? = some (.cells #[.string a, .string b, .int .i64 lev] 29 (0, 0))) := ⟨by rw [hw3, HLE.out]; exact (blk_set (blk_set HX2.out 2 _) 2 _)⟩
       have HB3 : Aside0 (Below W.heap.size W w3) := ⟨by rw [hw3]; exact (HB2.out.setCell (p := ⟨W.heap.size, 2, none⟩) (Nat.le_refl _) _).setCell (p := ⟨W.heap.size, 2, none⟩) (Nat.le_refl _) _⟩)
    | (obtain ⟨w3, hw3⟩ : ∃ w3, w3 = w2.setCell ⟨W.heap.size, 2, none⟩ (.int .i64 (lv f.units i)) := ⟨_, rfl⟩
       rw [← hw3]
       have HX3 : Aside0 (w3.heap[W.heap.size]? = some (.cells #[.string a, .string b, .int .i64 lev] 29 (0, 0))) := ⟨by rw [hw3, HLE.out, show insLev f.units i false = lv f.units i by simp [insLev]]; exact (blk_set HX2.out 2 _)⟩
       have HB3 : Aside0 (Below W.heap.size W w3) := ⟨by rw [hw3]; exact HB2.out.setCell (p := ⟨W.heap.size, 2, none⟩) (Nat.le_refl _) _⟩)
    clear b2 fb2 xa c8 HX2 HB2 HFP hw3
    have P3 := HPW.out.below HB3.out
    have c8 : w3.cell? ⟨fb, 8, none⟩ = some (.slice (some ⟨g, 0, none⟩) f.units.length cu) := (blk_cell P3.F 8).trans rfl
    have c1 : w3.cell? ⟨fb, 1, none⟩ = some (.int .i64 f.F.kind) := (blk_cell P3.F 1).trans rfl
    have b2 : w3.cell? ⟨W.heap.size, 2, none⟩ = some (.int .i64 lev) := (blk_cell HX3.out 2).trans rfl
    have hl0 : (lev == 0) = false := beq_eq_false_iff_ne.2 (by omega)
    have HP3 := Aside0.mk P3
    clear P3
    have hkk : (decide (f.F.kind < 2) = true ∧ decide (f.F.kind < lev) = false) ∨ decide (f.F.kind < 2) = false := by
      rcases Decidable.em (f.F.kind < 2) with hk | hk
      · exact .inl ⟨decide_eq_true hk, decide_eq_false (by have := HK.out hk; omega)⟩
      · exact .inr (decide_eq_false hk)
    rcases hkk with ⟨hk1, hk2⟩ | hk1
    all_goals
      go_quiet (fail)
      clear hk1
      go_wp2_with fail
  all_goals
    have HWV := Aside0.mk (fun j => show wrap64 (lv f.units j + 1) = lv f.units j + 1 by have := HLV.out j; unfold wrap64; omega)
    clear c8 c1 b2
    go_loopw [16] (fun s wr => ∃ j : Nat, j ≤ i ∧ s = .int .i64 j ∧ Aside0 (Below w3.heap.size w3 wr) ∧ Aside0 (aboveOf f.units lev j = aboveOf f.units lev i)) (fun s _ => (intOf s).toNat)
    case atStart => exact ⟨i, Nat.le_refl _, rfl, ⟨pw_below_drewN (Below.refl _ _) _⟩, ⟨rfl⟩⟩
    case round =>
      obtain ⟨j, hji, rfl, HBR, HJ⟩ := hrel
      have HB4 := Aside0.mk (show Below W.heap.size W wr from HB3.out.trans (HBR.out.mono HB3.out.size))
      have HX4 := Aside0.mk ((HBR.out.block _ (blk_lt HX3.out)).trans HX3.out)
      have P4 := HPW.out.below HB4.out
      have c8 : wr.cell? ⟨fb, 8, none⟩ = some (.slice (some ⟨g, 0, none⟩) f.units.length cu) := (blk_cell P4.F 8).trans rfl
      have b2 : wr.cell? ⟨W.heap.size, 2, none⟩ = some (.int .i64 lev) := (blk_cell HX4.out 2).trans rfl
      have hjl : j < f.units.length := by omega
      have xj : wr.cell? ⟨g, j * 3 + 2, none⟩ = some (.int .i64 (lv f.units j)) := by
        obtain ⟨_, _, hC⟩ := Kd.R_reads' P4.units
        obtain ⟨ad, he, _, _, h3⟩ := at_T29 (xs := f.units) hC (j : Int) (by omega) (by omega)
        cases he
        rw [Int.toNat_natCast, add_plain] at h3
        exact h3
      have hjz : (j : Int) < (f.units.length : Int) := by omega
      have hjz0 : decide ((j : Int) < 0) = false := decide_eq_false (by omega)
      clear P4
      by_cases hge : lev ≤ lv f.units j
      · have hg1 : decide (lev ≤ lv f.units j) = true := decide_eq_true hge
        obtain ⟨j, rfl⟩ : ∃ j2, j = j2 + 1 := ⟨j - 1, by
          have : j ≠ 0 := fun e => by rw [e, hroot] at hge; omega
          omega⟩
        have HA := Aside0.mk (show aboveOf f.units lev (j + 1) = aboveOf f.units lev j by show (if lv f.units (j + 1) ≥ lev then _ else _) = _; rw [if_pos hge])
        clear hge
        go_wp2_with fail
        go_quiet (fail)
        go_wp2_with fail
        go_roundw
        case rel => exact ⟨j, by omega, by go_num, ⟨pw_below_drewN HBR.out _⟩, ⟨by rw [← HA.out]; exact HJ.out⟩⟩
        case measure => simp [intOf]
      · have hg1 : decide (lev ≤ lv f.units j) = false := decide_eq_false hge
        have HA := Aside0.mk (show aboveOf f.units lev j = j by
          cases j with
          | zero => rfl
          | succ j => show (if lv f.units (j + 1) ≥ lev then _ else _) = _; rw [if_neg hge])
        replace HJ := Aside0.mk (show j = aboveOf f.units lev i from HA.out.symm.trans HJ.out)
        clear hge
        go_wp2_with fail
        go_quiet (fail)
        have HB5 := Aside0.mk (show Below W.heap.size W (wr.drewN nq) from pw_below_drewN HB4.out _)
        have HX5 := Aside0.mk (show (wr.drewN nq).heap[W.heap.size]? = _ from HX4.out)
        generalize wr.drewN nq = w5 at HB5 HX5 ⊢
        go_wp2_with fail
        clear c8 b2 xj
        have hz8 : w5.cell? ⟨fb, 8, none⟩ = some (.slice (some ⟨g, 0, none⟩) f.units.length cu) := (blk_cell (HPW.out.below HB5.out).F 8).trans rfl
        have hz0 : w5.cell? ⟨W.heap.size, 0, none⟩ = some (.string a) := (blk_cell HX5.out 0).trans rfl
        refine start_ (n := 14) (S := fun w' => w'.cell? ⟨fb, 8, none⟩ = some (.slice (some ⟨g, 0, none⟩) f.units.length cu) ∧ w'.cell? ⟨W.heap.size, 0, none⟩ = some (.string a)) (ds := [12]) #[false, false, false, false, false, false, false, false, false, false, false, false, false, false] (by kernel_rfl) rfl rfl ⟨hz8, hz0⟩ (fun hHeld => ?_)
        refine with_tabW Ins.tab14 Ins.bits14 (fun HT_ HW_ => ?_)
        have HWD := Aside0.mk (show Below W.heap.size W w5.drew from HB5.out.drew)
        have HBL := Aside0.mk (show W.heap.size < w5.drew.heap.size from blk_lt HX5.out)
        have HXD := Aside0.mk (show w5.drew.heap[W.heap.size]? = _ from HX5.out)
        generalize w5.drew = wd at HWD HBL HXD hHeld ⊢
        refine pure_ (i := 0) (N := some 89) (v := ?_) (a' := ?_) #[true, false, false, false, false, false, false, false, false, false, false, false, false, false] rfl rfl (any_of HT_.out (by kernel_rfl)) (fun _ _ _ h => h) (Or.inl ⟨by rfl, ?_⟩) ?_ ?_
        rotate_left
        · intro w'
          go_simp
          with_reducible rfl
        rotate_left
        · simp only [Act.put, List.setIfInBounds_toArray, List.set_cons_zero, List.set_cons_succ, i64_w, i32_w]
          rfl
        refine pure_ (i := 1) (N := some 90) (v := ?_) (a' := ?_) #[true, true, false, false, false, false, false, false, false, false, false, false, false, false] rfl rfl (any_of HT_.out (by kernel_rfl)) (fun _ _ _ h => h) (Or.inl ⟨by rfl, ?_⟩) ?_ ?_
        rotate_left
        · intro w'
          go_simp
          with_reducible rfl
        rotate_left
        · simp only [Act.put, List.setIfInBounds_toArray, List.set_cons_zero, List.set_cons_succ, i64_w, i32_w]
          rfl
        refine pure_ (i := 2) (N := some 91) (v := ?_) (a' := ?_) #[true, true, true, false, false, false, false, false, false, false, false, false, false, false] rfl rfl (any_of HT_.out (by kernel_rfl)) (fun _ _ _ h => h) (Or.inl ⟨by rfl, ?_⟩) ?_ ?_
        rotate_left
        · intro w'
          go_simp
          with_reducible rfl
        rotate_left
        · simp only [Act.put, List.setIfInBounds_toArray, List.set_cons_zero, List.set_cons_succ, i64_w, i32_w]
          rfl
        refine pure_ (i := 4) (N := some 93) (v := ?_) (a' := ?_) #[true, true, true, false, true, false, false, false, false, false, false, false, false, false] rfl rfl (any_of HT_.out (by kernel_rfl)) (fun _ _ _ h => h) (Or.inl ⟨by rfl, ?_⟩) ?_ ?_
        rotate_left
        · intro w'
          go_simp
          with_reducible rfl
        rotate_left
        · simp only [Act.put, List.setIfInBounds_toArray, List.set_cons_zero, List.set_cons_succ, i64_w, i32_w]
          rfl
        refine pure_ (i := 5) (N := some 94) (v := ?_) (a' := ?_) #[true, true, true, false, true, true, false, false, false, false, false, false, false, false] rfl rfl (any_of HT_.out (by kernel_rfl)) (fun _ _ _ h => h) (Or.inl ⟨by rfl, ?_⟩) ?_ ?_
        rotate_left
        · intro w'
          go_simp
          with_reducible rfl
        rotate_left
        · simp only [Act.put, List.setIfInBounds_toArray, List.set_cons_zero, List.set_cons_succ, i64_w, i32_w]
          rfl
        refine pure_ (i := 6) (N := some 95) (v := ?_) (a' := ?_) #[true, true, true, false, true, true, true, false, false, false, false, false, false, false] rfl rfl (any_of HT_.out (by kernel_rfl)) (fun _ _ _ h => h) (Or.inl ⟨by rfl, ?_⟩) ?_ ?_
        rotate_left
        · intro w'
          go_simp
          with_reducible rfl
        rotate_left
        · simp only [Act.put, List.setIfInBounds_toArray, List.set_cons_zero, List.set_cons_succ, i64_w, i32_w]
          rfl
        refine pure_ (i := 8) (N := some 97) (v := ?_) (a' := ?_) #[true, true, true, false, true, true, true, false, true, false, false, false, false, false] rfl rfl (any_of HT_.out (by kernel_rfl)) (fun _ _ _ h => h) (Or.inl ⟨by rfl, ?_⟩) ?_ ?_
        rotate_left
        · intro w'
          go_simp
          with_reducible rfl
        rotate_left
        · simp only [Act.put, List.setIfInBounds_toArray, List.set_cons_zero, List.set_cons_succ, i64_w, i32_w]
          rfl
        refine pure_ (i := 10) (N := some 99) (v := ?_) (a' := ?_) #[true, true, true, false, true, true, true, false, true, false, true, false, false, false] rfl rfl (any_of HT_.out (by kernel_rfl)) (fun _ _ _ h => h) (Or.inl ⟨by rfl, ?_⟩) ?_ ?_
        rotate_left
        · intro w'
          go_simp
          with_reducible rfl
        rotate_left
        · simp only [Act.put, List.setIfInBounds_toArray, List.set_cons_zero, List.set_cons_succ, i64_w, i32_w]
          rfl
        refine take_ (i := 3) (N := some 92) (v := ?_) (a' := ?_) #[true, true, true, true, true, true, true, false, true, false, true, false, false, false] rfl rfl (take_ofW HT_.out HW_.out (by kernel_rfl)) (fun _ _ _ h => h) (Or.inl ⟨by rfl, ?_⟩) hHeld ?_ ?_
        rotate_left
        · rintro w' ⟨s0, s1⟩
          go_simp
          with_reducible rfl
        rotate_left
        · simp only [Act.put, List.setIfInBounds_toArray, List.set_cons_zero, List.set_cons_succ, i64_w, i32_w]
          rfl
        refine take_ (i := 7) (N := some 96) (v := ?_) (a' := ?_) #[true, true, true, true, true, true, true, true, true, false, true, false, false, false] rfl rfl (take_ofW HT_.out HW_.out (by kernel_rfl)) (fun _ _ _ h => h) (Or.inl ⟨by rfl, ?_⟩) hHeld ?_ ?_
        rotate_left
        · rintro w' ⟨s0, s1⟩
          go_simp
          with_reducible rfl
        rotate_left
        · simp only [Act.put, List.setIfInBounds_toArray, List.set_cons_zero, List.set_cons_succ, i64_w, i32_w]
          rfl
        refine take_ (i := 11) (N := some 100) (v := ?_) (a' := ?_) #[true, true, true, true, true, true, true, true, true, false, true, true, false, false] rfl rfl (take_ofW HT_.out HW_.out (by kernel_rfl)) (fun _ _ _ h => h) (Or.inl ⟨by rfl, ?_⟩) hHeld ?_ ?_
        rotate_left
        · rintro w' ⟨s0, s1⟩
          go_simp
          with_reducible rfl
        rotate_left
        · simp only [Act.put, List.setIfInBounds_toArray, List.set_cons_zero, List.set_cons_succ, i64_w, i32_w]
          rfl
        refine one_ (i := 9) (N := some 98) #[true, true, true, true, true, true, true, true, true, true, true, true, false, false] rfl rfl (one_of HT_.out (by kernel_rfl)) (by decide) (fun K hK => ?_)
        refine goes_ Tryz.func64 (by kernel_rfl) rfl #[.slice (some ⟨g, 0, none⟩) f.units.length cu, .int .i64 (j : Int)] (by rfl) rfl rfl (by (try simp only [List.map_toArray, List.map_cons, List.map_nil]); first | done | rfl | (simp only []; rfl)) ?_
        with_reducible refine (children_c (some ⟨g, 0, none⟩) cu j f.units _ (Kd.R_reads' (HPW.out.below HWD.out).units).2.2 hlc hjl (by omega) (HWV.out j)).mono ?_
        rintro e w6 ⟨v6, rfl, hr6, hb6⟩
        obtain ⟨A6, c6, rfl, hc6, hC6⟩ := Kd.R_reads hr6
        have HB6 := Aside0.mk hb6
        have HC6 := Aside0.mk hC6
        have HW6 := Aside0.mk (HWD.out.trans (hb6.mono HWD.out.size))
        have CC := Aside0.mk (clash_c cu c6 (some ⟨g, 0, none⟩) A6 f.units (kids f.units j) a w6 (Kd.R_reads' (HPW.out.below HW6.out).units).2.2 hlc hC6 hc6 (kids_in hjl))
        rw [show clashB f.units (kids f.units j) a = false by rw [HJ.out, HLE.out]; exact HCL.out] at CC
        clear hr6 hb6 hC6
        have hb6s := HB6.out.size
        refine ⟨_, rfl, ?_⟩
        refine hK.out _ _ ⟨pw_cell_below HB6.out hHeld.1, pw_cell_below HB6.out hHeld.2⟩ (fun hHeld => ?_)
        clear hK K
        refine norm_ (a' := ?_) ?_ ?_
        rotate_left
        · show Act.put _ (some 98) _ = _
          simp only [Act.put, List.setIfInBounds_toArray, List.set_cons_zero, List.set_cons_succ, i64_w, i32_w]
          rfl
        refine last_ (i := 12) (N := some 101) #[true, true, true, true, true, true, true, true, true, true, true, true, true, false] rfl rfl (one_of HT_.out (by kernel_rfl)) (by decide) (fun K hK => ?_)
        refine goes_ Tryz.func71 (by kernel_rfl) rfl #[.slice (some ⟨g, 0, none⟩) f.units.length cu, .slice A6 (kids f.units j).length c6, .string a] (by rfl) rfl rfl (by (try simp only [List.map_toArray, List.map_cons, List.map_nil]); first | done | rfl | (simp only []; rfl)) ?_
        with_reducible refine CC.out.mono ?_
        rintro e w7 ⟨rfl, hb7⟩
        have HB7 := Aside0.mk (HW6.out.trans (hb7.mono HW6.out.size))
        have HX7 := Aside0.mk ((hb7.block _ (Nat.lt_of_lt_of_le HBL.out hb6s)).trans ((HB6.out.block _ HBL.out).trans HXD.out))
        clear hb7
        refine ⟨_, rfl, ?_⟩
        refine hK.out _ _ ?_
        clear hK K
        refine norm_ (a' := ?_) ?_ ?_
        rotate_left
        · show Act.put _ (some 101) _ = _
          simp only [Act.put, List.setIfInBounds_toArray, List.set_cons_zero, List.set_cons_succ, i64_w, i32_w]
          rfl
        refine pure_ (i := 13) (N := some 88) (v := ?_) (a' := ?_) #[true, true, true, true, true, true, true, true, true, true, true, true, true, true] rfl rfl (any_of HT_.out (by kernel_rfl)) (fun _ _ _ h => h) (Or.inl ⟨by rfl, ?_⟩) ?_ ?_
        rotate_left
        · intro w'
          go_simp
          with_reducible rfl
        rotate_left
        · simp only [Act.put, List.setIfInBounds_toArray, List.set_cons_zero, List.set_cons_succ, i64_w, i32_w]
          rfl
        refine done_ (done_of HT_.out (by kernel_rfl)) ?_
        clear hz8 hz0
        have hz8 : w7.cell? ⟨fb, 8, none⟩ = some (.slice (some ⟨g, 0, none⟩) f.units.length cu) := (blk_cell (HPW.out.below HB7.out).F 8).trans rfl
        have hz0 : w7.cell? ⟨W.heap.size, 0, none⟩ = some (.string a) := (blk_cell HX7.out 0).trans rfl
        have hz1 : w7.cell? ⟨W.heap.size, 1, none⟩ = some (.string b) := (blk_cell HX7.out 1).trans rfl
        have hz2 : w7.cell? ⟨W.heap.size, 2, none⟩ = some (.int .i64 lev) := (blk_cell HX7.out 2).trans rfl
        have hfz : decide ((100 : Int) ≤ (f.units.length : Int)) = false := decide_eq_false (by omega)
        go_wp2_with fail
        refine start_ (n := 17) (S := fun w' => w'.cell? ⟨fb, 8, none⟩ = some (.slice (some ⟨g, 0, none⟩) f.units.length cu) ∧ w'.cell? ⟨W.heap.size, 0, none⟩ = some (.string a) ∧ w'.cell? ⟨W.heap.size, 1, none⟩ = some (.string b) ∧ w'.cell? ⟨W.heap.size, 2, none⟩ = some (.int .i64 lev)) (ds := [13, 16]) #[false, false, false, false, false, false, false, false, false, false, false, false, false, false, false, false, false] (by kernel_rfl) rfl rfl ⟨hz8, hz0, hz1, hz2⟩ (fun hHeld => ?_)
        refine with_tabW Ins.tab20 Ins.bits20 (fun HT_ HW_ => ?_)
        have HWD := Aside0.mk (show Below W.heap.size W w7.drew from HB7.out.drew)
        generalize w7.drew = wd at HWD hHeld ⊢
        refine pure_ (i := 0) (N := some 113) (v := ?_) (a' := ?_) #[true, false, false, false, false, false, false, false, false, false, false, false, false, false, false, false, false] rfl rfl (any_of HT_.out (by kernel_rfl)) (fun _ _ _ h => h) (Or.inl ⟨by rfl, ?_⟩) ?_ ?_
        rotate_left
        · intro w'
          go_simp
          with_reducible rfl
        rotate_left
        · simp only [Act.put, List.setIfInBounds_toArray, List.set_cons_zero, List.set_cons_succ, i64_w, i32_w]
          rfl
        refine pure_ (i := 1) (N := some 114) (v := ?_) (a' := ?_) #[true, true, false, false, false, false, false, false, false, false, false, false, false, false, false, false, false] rfl rfl (any_of HT_.out (by kernel_rfl)) (fun _ _ _ h => h) (Or.inl ⟨by rfl, ?_⟩) ?_ ?_
        rotate_left
        · intro w'
          go_simp
          with_reducible rfl
        rotate_left
        · simp only [Act.put, List.setIfInBounds_toArray, List.set_cons_zero, List.set_cons_succ, i64_w, i32_w]
          rfl
        refine pure_ (i := 2) (N := some 115) (v := ?_) (a' := ?_) #[true, true, true, false, false, false, false, false, false, false, false, false, false, false, false, false, false] rfl rfl (any_of HT_.out (by kernel_rfl)) (fun _ _ _ h => h) (Or.inl ⟨by rfl, ?_⟩) ?_ ?_
        rotate_left
        · intro w'
          go_simp
          with_reducible rfl
        rotate_left
        · simp only [Act.put, List.setIfInBounds_toArray, List.set_cons_zero, List.set_cons_succ, i64_w, i32_w]
          rfl
        refine pure_ (i := 3) (N := some 116) (v := ?_) (a' := ?_) #[true, true, true, true, false, false, false, false, false, false, false, false, false, false, false, false, false] rfl rfl (any_of HT_.out (by kernel_rfl)) (fun _ _ _ h => h) (Or.inl ⟨by rfl, ?_⟩) ?_ ?_
        rotate_left
        · intro w'
          go_simp
          with_reducible rfl
        rotate_left
        · simp only [Act.put, List.setIfInBounds_toArray, List.set_cons_zero, List.set_cons_succ, i64_w, i32_w]
          rfl
        refine pure_ (i := 5) (N := some 118) (v := ?_) (a' := ?_) #[true, true, true, true, false, true, false, false, false, false, false, false, false, false, false, false, false] rfl rfl (any_of HT_.out (by kernel_rfl)) (fun _ _ _ h => h) (Or.inl ⟨by rfl, ?_⟩) ?_ ?_
        rotate_left
        · intro w'
          go_simp
          with_reducible rfl
        rotate_left
        · simp only [Act.put, List.setIfInBounds_toArray, List.set_cons_zero, List.set_cons_succ, i64_w, i32_w]
          rfl
        refine pure_ (i := 6) (N := some 119) (v := ?_) (a' := ?_) #[true, true, true, true, false, true, true, false, false, false, false, false, false, false, false, false, false] rfl rfl (any_of HT_.out (by kernel_rfl)) (fun _ _ _ h => h) (Or.inl ⟨by rfl, ?_⟩) ?_ ?_
        rotate_left
        · intro w'
          go_simp
          with_reducible rfl
        rotate_left
        · simp only [Act.put, List.setIfInBounds_toArray, List.set_cons_zero, List.set_cons_succ, i64_w, i32_w]
          rfl
        refine pure_ (i := 7) (N := some 120) (v := ?_) (a' := ?_) #[true, true, true, true, false, true, true, true, false, false, false, false, false, false, false, false, false] rfl rfl (any_of HT_.out (by kernel_rfl)) (fun _ _ _ h => h) (Or.inl ⟨by rfl, ?_⟩) ?_ ?_
        rotate_left
        · intro w'
          go_simp
          with_reducible rfl
        rotate_left
        · simp only [Act.put, List.setIfInBounds_toArray, List.set_cons_zero, List.set_cons_succ, i64_w, i32_w]
          rfl
        refine pure_ (i := 9) (N := some 122) (v := ?_) (a' := ?_) #[true, true, true, true, false, true, true, true, false, true, false, false, false, false, false, false, false] rfl rfl (any_of HT_.out (by kernel_rfl)) (fun _ _ _ h => h) (Or.inl ⟨by rfl, ?_⟩) ?_ ?_
        rotate_left
        · intro w'
          go_simp
          with_reducible rfl
        rotate_left
        · simp only [Act.put, List.setIfInBounds_toArray, List.set_cons_zero, List.set_cons_succ, i64_w, i32_w]
          rfl
        refine take_ (i := 4) (N := some 117) (v := ?_) (a' := ?_) #[true, true, true, true, true, true, true, true, false, true, false, false, false, false, false, false, false] rfl rfl (take_ofW HT_.out HW_.out (by kernel_rfl)) (fun _ _ _ h => h) (Or.inl ⟨by rfl, ?_⟩) hHeld ?_ ?_
        rotate_left
        · rintro w' ⟨s0, s1, s2, s3⟩
          go_simp
          with_reducible rfl
        rotate_left
        · simp only [Act.put, List.setIfInBounds_toArray, List.set_cons_zero, List.set_cons_succ, i64_w, i32_w]
          rfl
        refine take_ (i := 8) (N := some 121) (v := ?_) (a' := ?_) #[true, true, true, true, true, true, true, true, true, true, false, false, false, false, false, false, false] rfl rfl (take_ofW HT_.out HW_.out (by kernel_rfl)) (fun _ _ _ h => h) (Or.inl ⟨by rfl, ?_⟩) hHeld ?_ ?_
        rotate_left
        · rintro w' ⟨s0, s1, s2, s3⟩
          go_simp
          with_reducible rfl
        rotate_left
        · simp only [Act.put, List.setIfInBounds_toArray, List.set_cons_zero, List.set_cons_succ, i64_w, i32_w]
          rfl
        refine take_ (i := 11) (N := some 124) (v := ?_) (a' := ?_) #[true, true, true, true, true, true, true, true, true, true, false, true, false, false, false, false, false] rfl rfl (take_ofW HT_.out HW_.out (by kernel_rfl)) (fun _ _ _ h => h) (Or.inl ⟨by rfl, ?_⟩) hHeld ?_ ?_
        rotate_left
        · rintro w' ⟨s0, s1, s2, s3⟩
          go_simp
          with_reducible rfl
        rotate_left
        · simp only [Act.put, List.setIfInBounds_toArray, List.set_cons_zero, List.set_cons_succ, i64_w, i32_w]
          rfl
        refine join_ (σ := Nat) 4 #[true, true, true, true, true, true, true, true, true, true, true, true, true, false, false, false, false] (fun s => [(123, .int .i64 (endOf f.units i : Int)), (125, .slice (some ⟨s, 0, none⟩) 1 1)]) (fun s w' => Below wd.heap.size wd w' ∧ w'.heap[s]? = some (.cells #[.string a, .string b, .int .i64 lev] 29 (0, 0)) ∧ wd.heap.size ≤ s ∧ w'.cell? ⟨fb, 8, none⟩ = some (.slice (some ⟨g, 0, none⟩) f.units.length cu) ∧ w'.cell? ⟨W.heap.size, 0, none⟩ = some (.string a) ∧ w'.cell? ⟨W.heap.size, 1, none⟩ = some (.string b) ∧ w'.cell? ⟨W.heap.size, 2, none⟩ = some (.int .i64 lev)) ?_ ?_
        rotate_left
        · intro hCont
          refine two_ (i := 10) (j := 12) (Ni := some 123) (Nj := some 125) #[true, true, true, true, true, true, true, true, true, true, true, true, false, false, false, false, false] #[true, true, true, true, true, true, true, true, true, true, false, true, true, false, false, false, false] rfl rfl rfl rfl (two_of HT_.out (by kernel_rfl)) (by decide) (by decide) (fun K hK => ?_) (fun K hK => ?_)
          · skip
            refine goes_ Tryz.func70 (by kernel_rfl) rfl #[.slice (some ⟨g, 0, none⟩) f.units.length cu, .int .i64 (i : Int)] (by rfl) rfl rfl (by (try simp only [List.map_toArray, List.map_cons, List.map_nil]); first | done | rfl | (simp only []; rfl)) ?_
            with_reducible refine (beyond_c (some ⟨g, 0, none⟩) cu i f.units _ (Kd.R_reads' (HPW.out.below HWD.out).units).2.2 hlc hi).mono ?_
            rintro e w10 ⟨rfl, hd10⟩
            have HB10 := Aside0.mk hd10.below
            clear hd10
            refine ⟨_, rfl, ?_⟩
            refine hK.out _ _ ⟨pw_cell_below HB10.out hHeld.1, pw_cell_below HB10.out hHeld.2.1, pw_cell_below HB10.out hHeld.2.2.1, pw_cell_below HB10.out hHeld.2.2.2⟩ (fun hHeld => ?_)
            clear hK K
            refine norm_ (a' := ?_) ?_ ?_
            rotate_left
            · show Act.put _ (some 123) _ = _
              simp only [Act.put, List.setIfInBounds_toArray, List.set_cons_zero, List.set_cons_succ, i64_w, i32_w]
              rfl
            refine one_ (i := 12) (N := some 125) #[true, true, true, true, true, true, true, true, true, true, true, true, true, false, false, false, false] rfl rfl (one_of HT_.out (by kernel_rfl)) (by decide) (fun K hK => ?_)
            refine value_ (w1 := w10.alloc (Obj.cells #[Value.string a, Value.string b, Value.int .i64 lev] 29)) (v := .slice (some ⟨w10.heap.size, 0, none⟩) 1 1) (by rfl) rfl ?_ ?_
            · go_simp
            have HB11 := Aside0.mk (show Below w10.heap.size w10 (w10.alloc (Obj.cells #[Value.string a, Value.string b, Value.int .i64 lev] 29)) from (Below.refl _ _).alloc (Nat.le_refl _) _)
            have HV11 := Aside0.mk (heap_alloc_new w10 (Obj.cells #[Value.string a, Value.string b, Value.int .i64 lev] 29))
            generalize w10.alloc (Obj.cells #[Value.string a, Value.string b, Value.int .i64 lev] 29) = w11 at HB11 HV11 ⊢
            refine hK.out _ _ ⟨pw_cell_below HB11.out hHeld.1, pw_cell_below HB11.out hHeld.2.1, pw_cell_below HB11.out hHeld.2.2.1, pw_cell_below HB11.out hHeld.2.2.2⟩ (fun hHeld => ?_)
            clear hK K
            refine norm_ (a' := ?_) ?_ ?_
            rotate_left
            · show Act.put _ (some 125) _ = _
              simp only [Act.put, List.setIfInBounds_toArray, List.set_cons_zero, List.set_cons_succ, i64_w, i32_w]
              rfl
            exact norm_ (by simp only [putAll, Act.put, List.setIfInBounds_toArray, List.set_cons_zero, List.set_cons_succ]) (hCont w10.heap.size _ ⟨HB10.out.trans (HB11.out.mono HB10.out.size), HV11.out, HB10.out.size, hHeld.1, hHeld.2.1, hHeld.2.2.1, hHeld.2.2.2⟩)
          · skip
            refine value_ (w1 := wd.alloc (Obj.cells #[Value.string a, Value.string b, Value.int .i64 lev] 29)) (v := .slice (some ⟨wd.heap.size, 0, none⟩) 1 1) (by rfl) rfl ?_ ?_
            · go_simp
            have HB11 := Aside0.mk (show Below wd.heap.size wd (wd.alloc (Obj.cells #[Value.string a, Value.string b, Value.int .i64 lev] 29)) from (Below.refl _ _).alloc (Nat.le_refl _) _)
            have HV11 := Aside0.mk (heap_alloc_new wd (Obj.cells #[Value.string a, Value.string b, Value.int .i64 lev] 29))
            generalize wd.alloc (Obj.cells #[Value.string a, Value.string b, Value.int .i64 lev] 29) = w11 at HB11 HV11 ⊢
            refine hK.out _ _ ⟨pw_cell_below HB11.out hHeld.1, pw_cell_below HB11.out hHeld.2.1, pw_cell_below HB11.out hHeld.2.2.1, pw_cell_below HB11.out hHeld.2.2.2⟩ (fun hHeld => ?_)
            clear hK K
            refine norm_ (a' := ?_) ?_ ?_
            rotate_left
            · show Act.put _ (some 125) _ = _
              simp only [Act.put, List.setIfInBounds_toArray, List.set_cons_zero, List.set_cons_succ, i64_w, i32_w]
              rfl
            refine one_ (i := 10) (N := some 123) #[true, true, true, true, true, true, true, true, true, true, true, true, true, false, false, false, false] rfl rfl (one_of HT_.out (by kernel_rfl)) (by decide) (fun K hK => ?_)
            refine goes_ Tryz.func70 (by kernel_rfl) rfl #[.slice (some ⟨g, 0, none⟩) f.units.length cu, .int .i64 (i : Int)] (by rfl) rfl rfl (by (try simp only [List.map_toArray, List.map_cons, List.map_nil]); first | done | rfl | (simp only []; rfl)) ?_
            with_reducible refine (beyond_c (some ⟨g, 0, none⟩) cu i f.units _ (Kd.R_reads' (HPW.out.below (HWD.out.trans (HB11.out.mono HWD.out.size))).units).2.2 hlc hi).mono ?_
            rintro e w10 ⟨rfl, hd10⟩
            have HB10 := Aside0.mk hd10.below
            clear hd10
            refine ⟨_, rfl, ?_⟩
            refine hK.out _ _ ⟨pw_cell_below HB10.out hHeld.1, pw_cell_below HB10.out hHeld.2.1, pw_cell_below HB10.out hHeld.2.2.1, pw_cell_below HB10.out hHeld.2.2.2⟩ (fun hHeld => ?_)
            clear hK K
            refine norm_ (a' := ?_) ?_ ?_
            rotate_left
            · show Act.put _ (some 123) _ = _
              simp only [Act.put, List.setIfInBounds_toArray, List.set_cons_zero, List.set_cons_succ, i64_w, i32_w]
              rfl
            exact norm_ (by simp only [putAll, Act.put, List.setIfInBounds_toArray, List.set_cons_zero, List.set_cons_succ]) (hCont wd.heap.size _ ⟨HB11.out.trans (HB10.out.mono HB11.out.size), (HB10.out.block _ (blk_lt HV11.out)).trans HV11.out, Nat.le_refl _, hHeld.1, hHeld.2.1, hHeld.2.2.1, hHeld.2.2.2⟩)
        rintro gb w12 ⟨hb12, hv12, hgb12, hs0, hs1, hs2, hs3⟩
        have hHeld : w12.cell? ⟨fb, 8, none⟩ = some (.slice (some ⟨g, 0, none⟩) f.units.length cu) ∧ w12.cell? ⟨W.heap.size, 0, none⟩ = some (.string a) ∧ w12.cell? ⟨W.heap.size, 1, none⟩ = some (.string b) ∧ w12.cell? ⟨W.heap.size, 2, none⟩ = some (.int .i64 lev) := ⟨hs0, hs1, hs2, hs3⟩
        have HB12 := Aside0.mk (HWD.out.trans (hb12.mono HWD.out.size))
        have HV12 := Aside0.mk hv12
        have HGB := Aside0.mk hgb12
        clear hb12 hv12 hgb12 hs0 hs1 hs2 hs3
        refine norm_ (a' := ?_) ?_ ?_
        rotate_left
        · simp only [putAll, Act.put, List.setIfInBounds_toArray, List.set_cons_zero, List.set_cons_succ]
          rfl
        refine last_ (i := 13) (N := some 126) #[true, true, true, true, true, true, true, true, true, true, true, true, true, true, false, false, false] rfl rfl (one_of HT_.out (by kernel_rfl)) (by decide) (fun K hK => ?_)
        refine goes_ Tryz.func72 (by kernel_rfl) rfl #[.slice (some ⟨g, 0, none⟩) f.units.length cu, .int .i64 (endOf f.units i : Int), .slice (some ⟨gb, 0, none⟩) 1 1] (by rfl) rfl rfl (by (try simp only [List.map_toArray, List.map_cons, List.map_nil]); first | done | rfl | (simp only []; rfl)) ?_
        with_reducible refine (Ins_units g cu (endOf f.units i) gb ok f.units ⟨a, b, lev⟩ _ (HPW.out.below HB12.out).units (endOf_le hi).2 hl HV12.out (by have := HGB.out; have := HWD.out.size; omega)).mono ?_
        rintro e w13 ⟨g13, c13, rfl, hr13, hg13, hor13, hc13⟩
        have P12 := HPW.out.below HB12.out
        have hfg : some fb ≠ some g := fun e_ => by injection e_ with e_; subst e_; obtain ⟨cells_, hcc_⟩ := own_typed (uRow_of_R P12.units) fb rfl; rw [P12.F] at hcc_; cases hcc_
        have F13 : FileAt w13 fb f.F (.slice A f.rules.length rc) (.slice (some ⟨g, 0, none⟩) f.units.length cu) ub := (hg13.block fb (blk_lt P12.F) hfg).trans P12.F
        have d8 : w13.cell? ⟨fb, 8, none⟩ = some (.slice (some ⟨g, 0, none⟩) f.units.length cu) := (blk_cell F13 8).trans rfl
        have f8 := blk_frozen F13 8
        have HR13 := Aside0.mk hr13
        have HG13 := Aside0.mk hg13
        have HO13 := Aside0.mk hor13
        have HF13 := Aside0.mk F13
        clear hr13 hg13 hor13 F13 P12 hfg hc13
        refine ⟨_, rfl, ?_⟩
        refine hK.out _ _ ?_
        clear hK K
        refine norm_ (a' := ?_) ?_ ?_
        rotate_left
        · show Act.put _ (some 126) _ = _
          simp only [Act.put, List.setIfInBounds_toArray, List.set_cons_zero, List.set_cons_succ, i64_w, i32_w]
          rfl
        refine pure_ (i := 14) (N := some 127) (v := ?_) (a' := ?_) #[true, true, true, true, true, true, true, true, true, true, true, true, true, true, true, false, false] rfl rfl (any_of HT_.out (by kernel_rfl)) (fun _ _ _ h => h) (Or.inl ⟨by rfl, ?_⟩) ?_ ?_
        rotate_left
        · intro w'
          go_simp
          with_reducible rfl
        rotate_left
        · simp only [Act.put, List.setIfInBounds_toArray, List.set_cons_zero, List.set_cons_succ, i64_w, i32_w]
          rfl
        refine pure_ (i := 15) (N := some 128) (v := ?_) (a' := ?_) #[true, true, true, true, true, true, true, true, true, true, true, true, true, true, true, true, false] rfl rfl (any_of HT_.out (by kernel_rfl)) (fun _ _ _ h => h) (Or.inl ⟨by rfl, ?_⟩) ?_ ?_
        rotate_left
        · intro w'
          go_simp
          with_reducible rfl
        rotate_left
        · simp only [Act.put, List.setIfInBounds_toArray, List.set_cons_zero, List.set_cons_succ, i64_w, i32_w]
          rfl
        refine last_ (i := 16) (N := none) #[true, true, true, true, true, true, true, true, true, true, true, true, true, true, true, true, true] rfl rfl (one_of HT_.out (by kernel_rfl)) (by decide) (fun K hK => ?_)
        refine skip_ (w1 := ?_) (by rfl) rfl ?_ ?_
        rotate_left
        · go_simp
          rfl
        refine hK.out _ _ ?_
        clear hK K
        refine done_ (done_of HT_.out (by kernel_rfl)) ?_
        go_wp2_with fail
        have HC13 := Aside0.mk (show Chg W w13 (fun k => some k = (Value.slice (some ⟨g, 0, none⟩) f.units.length cu).ownBlock) from (Chg.of_below HB12.out (fun _ => False)).mono (fun _ h => h.elim) |>.trans (Chg.of_grown HG13.out (fun k e => e)) (fun k e => .inl e))
        have PN := HPW.out.newUnits HC13.out HR13.out (fun k hk => by
          subst hk
          rcases HO13.out with e | e
          · exact .inl (HPW.out.units.1 k (by rw [e]; rfl))
          · exact .inr (by have := HB12.out.size; omega))
        have CG := Aside0.mk (changed_c fb ub f.F _ _ u _ PN.1.F)
        have HPN := Aside0.mk PN
        clear PN
        refine CG.out.mono ?_
        rintro e w14 ⟨rfl, rfl⟩
        go_wp2
        go_ret
        have h14 := HPN.out.1.noted u
        refine ⟨rfl, .slice (some ⟨g13, 0, none⟩) (f.units.length + 1) c13, ?_, HPN.out.2.trans h14.2 (fun k hk => hk)⟩
        have h15 := h14.1
        rw [HLE.out] at h15
        exact h15
end Go.Proofs.YtehlmkgldcfciaaGreat.Files
