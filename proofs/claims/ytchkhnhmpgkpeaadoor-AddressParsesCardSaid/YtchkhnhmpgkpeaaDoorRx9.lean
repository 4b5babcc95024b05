-- Written by this repo's wip/tools/myprint.py (the kit's print program, with contracts of our own beside). Lean checks it.
import Derived.Test.YtchkhnhmpgkpeaaDoorRx0
import Derived.Test.YtchkhnhmpgkpeaaDoorRx1
namespace Go.Proofs.YtchkhnhmpgkpeaaDoor.R
open Go.Proofs.YtchkhnhmpgkpeaaDoor.Common
open Go.RowKit Go.Proofs.YtchkhnhmpgkpeaaDoorW.PrintWords Go.Proofs.YtchkhnhmpgkpeaaDoorW.PrintLast Go.Proofs.YtchkhnhmpgkpeaaDoorW.PrintMore
attribute [local go_sem] max2_int min2_int max_two min_two max_three min_three max_four min_four   -- for this text's walks alone
set_option linter.unusedVariables false
set_option linter.unusedSimpArgs false

/-! ### address_Parse: function 20 (a contract of our own) -/
open Go.Shelf in
/-- What one piece says. -/
def address_Parse.num1 (x : ByteArray) : Option Int := match Go.Lib.atoiAll x.data.toList with
  | .ok n => if Split.bs (Go.Lib.itoa n) = x then some n else none
  | _ => none
def address_Parse.all : List ByteArray → Option (List Int)
  | [] => some []
  | x :: r => (address_Parse.num1 x).bind fun n => (address_Parse.all r).map (n :: ·)
theorem address_Parse.all_snoc : ∀ {pre : List ByteArray} {x : ByteArray} {ns : List Int} {n : Int}, address_Parse.all pre = some ns → address_Parse.num1 x = some n → address_Parse.all (pre ++ [x]) = some (ns ++ [n])
  | [], x, ns, n, h, hx => by
    obtain rfl := Option.some.inj h
    simp [address_Parse.all, hx]
  | y :: pre, x, ns, n, h, hx => by
    rw [address_Parse.all] at h
    obtain ⟨m, hm, h⟩ := Option.bind_eq_some_iff.1 h
    obtain ⟨ms, hms, rfl⟩ := Option.map_eq_some_iff.1 h
    rw [List.cons_append, address_Parse.all, hm, Option.bind_some, address_Parse.all_snoc hms hx]
    rfl
theorem address_Parse.all_bad : ∀ {l : List ByteArray} {x : ByteArray}, x ∈ l → address_Parse.num1 x = none → address_Parse.all l = none
  | y :: l, x, h, hx => by
    rw [address_Parse.all]
    rcases List.mem_cons.1 h with rfl | h
    · rw [hx]; rfl
    · rw [address_Parse.all_bad h hx]; cases address_Parse.num1 y <;> rfl
theorem address_Parse.all_len : ∀ {l : List ByteArray} {ns : List Int}, address_Parse.all l = some ns → ns.length = l.length
  | [], ns, h => by obtain rfl := Option.some.inj h; rfl
  | y :: l, ns, h => by
    rw [address_Parse.all] at h
    obtain ⟨m, hm, h⟩ := Option.bind_eq_some_iff.1 h
    obtain ⟨ms, hms, rfl⟩ := Option.map_eq_some_iff.1 h
    simp [address_Parse.all_len hms]
/-- What lies where, between two rounds. -/
structure address_Parse.Inv (w W : World) (ns : List Int) : Prop where
  low : Below w.heap.size w W
  big : w.heap.size + 6 ≤ W.heap.size
  res : Boxed W w.heap.size 22 (.slice none 0 0)
  err : Boxed W (w.heap.size + 1) 25 (.int .i64 0)
  row : ∃ v, Boxed W (w.heap.size + 2) 22 v ∧ W.ownsRow (w.heap.size + 6) 3 1 v ns.length (ns.map (Value.int .i64))
theorem address_Parse.Inv.keep {w W W' : World} {ns : List Int} (h : address_Parse.Inv w W ns) (hb : Below w.heap.size W W')
    (hk : ∀ k c t f, k ≠ w.heap.size + 3 → W.heap[k]? = some (.cells c t f) → W'.heap[k]? = some (.cells c t f)) : address_Parse.Inv w W' ns where
  low := h.low.trans hb
  big := Nat.le_trans h.big hb.size
  res := hk _ _ _ _ (by omega) h.res
  err := hk _ _ _ _ (by omega) h.err
  row := by
    obtain ⟨v, hv, h1, h2⟩ := h.row
    refine ⟨v, hk _ _ _ _ (by omega) hv, h1, ?_⟩
    rcases h2 with h2 | ⟨g, cap, cur, hv, hb, hg, r⟩
    · exact .inl h2
    · exact .inr ⟨g, cap, cur, hv, hb, hk _ _ _ _ (by omega) hg, r⟩
theorem address_Parse.Inv.below {w W W' : World} {ns : List Int} (h : address_Parse.Inv w W ns) (hb : Below W.heap.size W W') : address_Parse.Inv w W' ns :=
  h.keep (hb.mono h.low.size) (fun k c t f _ hk => (hb.block k (Array.getElem?_eq_some_iff.1 hk).1).trans hk)
theorem address_Parse.keeps {W W' : World} (hb : Below W.heap.size W W') : KeepsOthers W W' := ⟨hb.size, fun k o hk _ => (hb.block k (Array.getElem?_eq_some_iff.1 hk).1).trans hk⟩
theorem address_Parse.kept {W W' : World} {p s v : Nat} (hb : Below W.heap.size W W') (h1 : p < W.heap.size) (h2 : s < W.heap.size) (h3 : v < W.heap.size) : Split.Keep p s v W W' :=
  fun k hk => hb.block k (by rcases hk with rfl | rfl | rfl <;> assumption)
def address_Parse.In (w : World) (pre : List ByteArray) (W : World) : Prop := ∃ ns, address_Parse.all pre = some ns ∧ address_Parse.Inv w W ns
def address_Parse.Out (w : World) (pre : List ByteArray) (W : World) : Prop := (∃ x ∈ pre, address_Parse.num1 x = none) ∧ Below w.heap.size w W ∧ Boxed W w.heap.size 22 (.slice none 0 0) ∧ Boxed W (w.heap.size + 1) 25 (.int .i64 4)
theorem address_Parse.In.own (w : World) (B : Nat) (hB : w.heap.size ≤ B) : OwnFrom B (address_Parse.In w) := by
  rintro pre A A' row ⟨ns, h1, h2⟩ hg hr
  refine ⟨ns, h1, h2.keep ((Below.refl _ A).grown hg (h2.low.size) (fun k e => Nat.le_trans hB (hr k e).1)) (fun k c t f _ hk => (hg.block k (Array.getElem?_eq_some_iff.1 hk).1 (fun e => ?_)).trans hk)⟩
  obtain ⟨o, ho, hc⟩ := (hr k e.symm).2
  rw [hk] at ho; cases ho; cases hc
theorem address_Parse.Out.own (w : World) (B : Nat) (hB : w.heap.size ≤ B) : OwnFrom B (address_Parse.Out w) := by
  rintro pre A A' row ⟨h1, h2, h3, h4⟩ hg hr
  have hk : ∀ k c t f, A.heap[k]? = some (Obj.cells c t f) → A'.heap[k]? = some (Obj.cells c t f) := fun k c t f hk => (hg.block k (Array.getElem?_eq_some_iff.1 hk).1 (fun e => by
    obtain ⟨o, ho, hc⟩ := (hr k e.symm).2
    rw [hk] at ho; cases ho; cases hc)).trans hk
  exact ⟨h1, h2.trans ((Below.refl _ A).grown hg h2.size (fun k e => Nat.le_trans hB (hr k e).1)), hk _ _ _ _ h3, hk _ _ _ _ h4⟩
theorem address_Parse.In.set (w : World) (pre : List ByteArray) (A : World) (v : Value) (h : address_Parse.In w pre A) : address_Parse.In w pre (A.setCell ⟨w.heap.size + 3, 0, none⟩ v) := by
  obtain ⟨ns, h1, h2⟩ := h
  exact ⟨ns, h1, h2.keep ((Below.refl _ A).setCell (p := ⟨w.heap.size + 3, 0, none⟩) (by simp) v) (fun k c t f hne hk => (Below.heap_setCell A ⟨w.heap.size + 3, 0, none⟩ v k (by simpa using hne)).trans hk)⟩
def address_Parse.f (a0 : ByteArray) : Option (List Int × Int) := if a0.size ≤ 1000000 then
    some (if a0 = ⟨#[42]⟩ then ([], 0) else match address_Parse.all (Split.parts a0) with
      | some l => if decide (l.length ≤ 10) && !l.any fun n => decide (n < 0) || decide (n > 999) then (l, 0) else ([], 4)
      | none => ([], 4))
  else none
theorem address_Parse.six (w : World) (v0 v1 v2 v3 v4 v5 : Value) (t0 t1 t2 t3 t4 t5 : TypeId) : ∃ W0, ((((((w.alloc (.cells #[v0] t0)).alloc (.cells #[v1] t1)).alloc (.cells #[v2] t2)).alloc (.cells #[v3] t3)).alloc (.cells #[v4] t4)).alloc (.cells #[v5] t5)) = W0 ∧
    W0.heap.size = w.heap.size + 6 ∧ Below w.heap.size w W0 ∧ Boxed W0 w.heap.size t0 v0 ∧ Boxed W0 (w.heap.size + 1) t1 v1 ∧ Boxed W0 (w.heap.size + 2) t2 v2 ∧ Boxed W0 (w.heap.size + 3) t3 v3 ∧ Boxed W0 (w.heap.size + 4) t4 v4 ∧ Boxed W0 (w.heap.size + 5) t5 v5 := by
  have b0 := Boxed.new w t0 v0
  have b1 := Boxed.new (w.alloc (.cells #[v0] t0)) t1 v1
  have b2 := Boxed.new ((w.alloc (.cells #[v0] t0)).alloc (.cells #[v1] t1)) t2 v2
  have b3 := Boxed.new (((w.alloc (.cells #[v0] t0)).alloc (.cells #[v1] t1)).alloc (.cells #[v2] t2)) t3 v3
  have b4 := Boxed.new ((((w.alloc (.cells #[v0] t0)).alloc (.cells #[v1] t1)).alloc (.cells #[v2] t2)).alloc (.cells #[v3] t3)) t4 v4
  have b5 := Boxed.new (((((w.alloc (.cells #[v0] t0)).alloc (.cells #[v1] t1)).alloc (.cells #[v2] t2)).alloc (.cells #[v3] t3)).alloc (.cells #[v4] t4)) t5 v5
  simp only [World.size_alloc, Nat.add_assoc, Nat.reduceAdd] at b1 b2 b3 b4 b5
  refine ⟨_, rfl, by simp only [World.size_alloc], ?_, ((((b0.alloc _).alloc _).alloc _).alloc _).alloc _, (((b1.alloc _).alloc _).alloc _).alloc _, ((b2.alloc _).alloc _).alloc _, (b3.alloc _).alloc _, b4.alloc _, b5⟩
  exact ((((((Below.refl _ w).alloc (Nat.le_refl _) _).alloc (by simp only [World.size_alloc]; omega) _).alloc (by simp only [World.size_alloc]; omega) _).alloc (by simp only [World.size_alloc]; omega) _).alloc (by simp only [World.size_alloc]; omega) _).alloc (by simp only [World.size_alloc]; omega) _
theorem address_Parse.Inv.out {w W : World} {ns : List Int} {pre : List ByteArray} {x : ByteArray} (h : address_Parse.Inv w W ns) (hx : x ∈ pre) (hb : address_Parse.num1 x = none) :
    address_Parse.Out w pre ((W.setCell ⟨w.heap.size, 0, none⟩ (.slice none 0 0)).setCell ⟨w.heap.size + 1, 0, none⟩ (.int .i64 4)) := by
  refine ⟨⟨x, hx, hb⟩, (h.low.setCell (p := ⟨w.heap.size, 0, none⟩) (Nat.le_refl _) _).setCell (p := ⟨w.heap.size + 1, 0, none⟩) (by simp) _, ?_, ?_⟩
  · exact (h.res.set _).kept (grownBy_setCell' _ _ _) (by simp)
  · exact (h.err.kept (grownBy_setCell' _ _ _) (by simp)).set _
theorem address_Parse.Inv.next {w W W1 w1 : World} {ns : List Int} {n : Int} {v v' : Value} {o : Obj} (h : address_Parse.Inv w W1 ns) (hb : Below W.heap.size W W1) (hs : w.heap.size + 6 ≤ W.heap.size) (hv : Boxed W1 (w.heap.size + 2) 22 v) (hrow : W1.ownsRow (w.heap.size + 6) 3 1 v ns.length (ns.map (Value.int .i64)))
    (hown : w1.ownsRow (w.heap.size + 6) 3 1 v' (ns.length + 1) (ns.map (Value.int .i64) ++ [.int .i64 n])) (hg : (W1.alloc o).grownBy w1 v.ownBlock) :
    Boxed w1 (w.heap.size + 2) 22 v ∧ KeepsOthers W (w1.setCell ⟨w.heap.size + 2, 0, none⟩ v') ∧ Split.Keep (w.heap.size + 4) (w.heap.size + 3) (w.heap.size + 5) W (w1.setCell ⟨w.heap.size + 2, 0, none⟩ v') ∧ address_Parse.Inv w (w1.setCell ⟨w.heap.size + 2, 0, none⟩ v') (ns ++ [n]) := by
  obtain ⟨hv1, hv2, _, hk2, hb2⟩ := hv.appended (n₀ := w.heap.size) (by decide) (Go.Joins.ownsRow_le hrow (by omega)) h.low.size (by omega) (Go.Joins.ownsRow_le hown (by omega)) hg
  have hlt : ∀ k, k < w.heap.size + 6 → some k ≠ v.ownBlock := fun k hk e => by
    have := own_base hrow k e.symm
    omega
  have hsame : ∀ k, k < w.heap.size + 6 → k ≠ w.heap.size + 2 → (w1.setCell ⟨w.heap.size + 2, 0, none⟩ v').heap[k]? = W1.heap[k]? := fun k hk hne =>
    (Below.heap_setCell w1 ⟨w.heap.size + 2, 0, none⟩ v' k (by simpa using hne)).trans ((hg.block k (by have := h.big; simp; omega) (hlt k hk)).trans (Below.heap_alloc _ _ _ (by have := h.big; omega)))
  have hbs := hb.size
  refine ⟨hv1, (address_Parse.keeps hb).trans hk2, fun k hk => (hsame k (by omega) (by omega)).trans (hb.block k (by omega)), h.low.trans hb2, ?_, (hsame _ (by omega) (by omega)).trans h.res, (hsame _ (by omega) (by omega)).trans h.err, v', hv2, ?_⟩
  · have := hb2.size; have := h.big; omega
  · have hk := hown.kept (grownBy_setCell' w1 (w.heap.size + 2) v') (.inr (hv1.not_row (by decide) hown).symm)
    simpa using hk
theorem address_Parse.bytes {W W1 : World} (h : W1 = W ∨ ∃ t, W1 = Go.Lib.bytesWorld W 5 t) : Below W.heap.size W W1 := by
  rcases h with rfl | ⟨t, rfl⟩
  · exact Below.refl _ _
  · exact Go.Joins.below_bytesWorld _ _ _ _ (Nat.le_refl _)
theorem address_Parse.beq_no {a b : ByteArray} (h : a ≠ b) : (a.toList == b.toList) = false := by
  rw [beq_eq_false_iff_ne, ByteArray.toList_eq, ByteArray.toList_eq]
  exact fun e => h (Split.ext_bs (Array.ext' e))
theorem address_Parse.num_ok {x : ByteArray} {n : Int} (h : Go.Lib.atoiAll x.data.toList = .ok n) : address_Parse.num1 x = if Split.bs (Go.Lib.itoa n) = x then some n else none := by
  unfold address_Parse.num1
  rw [h]
theorem address_Parse.Inv.ends {w W : World} {ns : List Int} {m D : Nat} {k : Int} {v X : Value} (h : address_Parse.Inv w W ns) (hD : w.heap.size + 6 ≤ D) (hK : W.heap[D]? = some (.deferred (some []))) (hrow : W.ownsRow (w.heap.size + 6) 3 1 v ns.length (ns.map (Value.int .i64))) :
    ∃ W2, ((W.drewN m).setCell ⟨w.heap.size, 0, none⟩ X).setCell ⟨w.heap.size + 1, 0, none⟩ (.int .i64 k) = W2 ∧ W2.heap[D]? = some (.deferred (some [])) ∧ (W2.putObj D (.deferred none)).cell? ⟨w.heap.size, 0, none⟩ = some X ∧ (W2.putObj D (.deferred none)).cell? ⟨w.heap.size + 1, 0, none⟩ = some (.int .i64 k) ∧
      Below w.heap.size w (W2.putObj D (.deferred none)) ∧ (W2.putObj D (.deferred none)).ownsRow w.heap.size 3 1 v ns.length (ns.map (Value.int .i64)) := by
  have hd := Go.Joins.below_draws W.heap.size W m
  have hI := h.below hd
  have e0 : (((W.drewN m).setCell ⟨w.heap.size, 0, none⟩ X).setCell ⟨w.heap.size + 1, 0, none⟩ (.int .i64 k)).heap[D]? = some (.deferred (some [])) :=
    ((Below.heap_setCell _ ⟨w.heap.size + 1, 0, none⟩ _ D (by simp; omega)).trans (Below.heap_setCell _ ⟨w.heap.size, 0, none⟩ _ D (by simp; omega))).trans ((hd.block D (Array.getElem?_eq_some_iff.1 hK).1).trans hK)
  have b0 := (hI.res.set X).kept (grownBy_setCell' _ (w.heap.size + 1) (.int .i64 k)) (by simp)
  have b1 := (hI.err.kept (grownBy_setCell' _ w.heap.size X) (by simp)).set (.int .i64 k)
  have hne : ∀ j, j < w.heap.size + 6 → some j ≠ v.ownBlock := fun j hj e => by
    have := own_base hrow j e.symm
    omega
  refine ⟨_, rfl, e0, ?_, ?_, ?_, ?_⟩
  · exact (b0.kept (grownBy_putObj' _ D _) (by simp; omega)).cell
  · exact (b1.kept (grownBy_putObj' _ D _) (by simp; omega)).cell
  · exact ((hI.low.setCell (p := ⟨w.heap.size, 0, none⟩) (Nat.le_refl _) _).setCell (p := ⟨w.heap.size + 1, 0, none⟩) (by simp) _).trans (belowK_b (w := w) (Nat.le_refl _) _ D _ _ (by omega) e0 rfl rfl)
  · have h0 : (W.drewN m).ownsRow (w.heap.size + 6) 3 1 v ns.length (ns.map (Value.int .i64)) := hrow.kept (row := none) ⟨hd.os, hd.tape, hd.output, hd.size, fun j hj _ => hd.block j hj⟩ (Classical.em _)
    exact Go.Joins.ownsRow_le (ownsRow_putObj ((h0.kept (grownBy_setCell' _ w.heap.size X) (.inr (fun e => hne _ (by omega) e.symm))).kept (grownBy_setCell' _ (w.heap.size + 1) _) (.inr (fun e => hne _ (by omega) e.symm))) _ e0 rfl) (by omega)
attribute [local go_sem] Go.Oper.semAt_some in
set_option maxRecDepth 100000 in
set_option maxHeartbeats 4000000 in
theorem address_Parse.calls (a0 : ByteArray) (r1 : List Int) (r2 : Int) (w : World) (htab : Tab10 w) (h : address_Parse.f a0 = some (r1, r2)) :
    Calls Tryd.prog 20 #[.string a0] w fun e w' => ∃ v0_ : Value, e = .returned (.tuple #[v0_, .int .i64 r2]) ∧ Kd.R (Kd.int .i64) 3 w' w.heap.size (fun _ => True) v0_ r1 ∧ Below w.heap.size w w' := by
  unfold address_Parse.f at h
  split at h
  case isFalse => cases h
  rename_i hsz
  have h := Option.some.inj h
  obtain ⟨i0, hi, hz0, hz1, hz2⟩ := info_parts (P := Tryd.prog) (e := 3) (show (Tryd.prog.info? 3).map (fun i => (i.zero, i.size, i.bytes)) = some (some (.int .i64 0), 1, 8) by kernel_rfl)
  by_cases hstar : a0 = ⟨#[42]⟩
  · subst hstar
    rw [if_pos rfl] at h
    obtain ⟨rfl, rfl⟩ := Prod.mk.inj h
    clear h hsz
    go_enter Tryd.func20, Tryd.ntmps20
    go_wp2
    have b0 := (Boxed.new w 22 (.slice none 0 0)).alloc (.cells #[.int .i64 0] 25)
    have b1 := Boxed.new (w.alloc (.cells #[.slice none 0 0] 22)) 25 (.int .i64 0)
    rw [World.size_alloc] at b1
    have c0 := b0.cell
    have c1 := b1.cell
    refine bodyPost_ret (v := .tuple #[.slice none 0 0, .int .i64 0]) ?_ rfl ?_
    · simp [results, Tryd.f20, go_sem, c0, c1]
    · exact ⟨_, rfl, Kd.R_nil _ _ _ _ _, ((Below.refl _ w).alloc (Nat.le_refl _) _).alloc (by simp) _⟩
  rw [if_neg hstar] at h
  have hst : (a0.toList == [42]) = false := by
    rw [beq_eq_false_iff_ne, ByteArray.toList_eq]
    exact fun h => hstar (Split.ext_bs (Array.ext' h))
  refine (callsIn_wide (n := 5)).1 ?_
  refine callsIn_of_wp_marks Tryd.func20 rfl trivial ?_ rfl
  simp only [Tryd.ntmps20, List.size_toArray, List.length_cons, List.length_nil, Nat.reduceAdd, Nat.reduceSub, Array.replicate_succ, Array.replicate_zero, List.push_toArray, List.append_toArray, List.nil_append, List.cons_append]
  gi_wp2_with (refine ⟨trivial, ?_⟩; gi_at_call 32; refine (callsIn_wide.2 (Split.made _ _)).mono ?_; rintro e w' ⟨rfl, rfl⟩)
  obtain ⟨W0, hW0, hsize, hB0, b0, b1, b2, b3, b4, b5⟩ := address_Parse.six w (.slice none 0 0) (.int .i64 0) (.slice none 0 0) (.string a0) (.string ⟨#[46]⟩) (.int .i64 0) 22 25 22 9 9 3
  rw [hW0]
  clear hW0
  refine Split.loop (n := 5) (Bp := w.heap.size + 4) (Bs := w.heap.size + 3) (Bv := w.heap.size + 5) (s := a0) (by omega) (by rfl) (by omega) (by omega) (by omega) (by omega) (by omega) (by omega) b4.cell b3.cell b5.cell b3.frozen (by rfl) (address_Parse.In w) (address_Parse.Out w) (address_Parse.In.own w _ (by omega)) (address_Parse.Out.own w _ (by omega)) (fun pre A v h => address_Parse.In.set w pre A v h)
    ⟨[], rfl, hB0, by omega, b0, b1, _, b2, World.ownsRow_nil _ _ _ _⟩
    (fun x => { tmps := #[Value.string a0, undef, .pointer (some ⟨w.heap.size, 0, none⟩), .pointer (some ⟨w.heap.size + 1, 0, none⟩), .pointer (some ⟨w.heap.size + 2, 0, none⟩), .string x, undef, undef, .string a0, .bool false, .string a0,
      .func (.func 55) #[] #[.pointer (some ⟨w.heap.size + 4, 0, none⟩), .pointer (some ⟨w.heap.size + 3, 0, none⟩), .pointer (some ⟨w.heap.size + 5, 0, none⟩)],
      .string x, undef, undef, undef, undef, undef, undef, undef, undef, undef, undef, undef, undef, undef, undef, undef, undef, undef, undef, undef, undef, undef], defers := [] }) ?assign ?body ?done ?stop
  case assign =>
    intro l x W K hK
    gi_wp2
    exact hK
  case body =>
    rintro l pre x W ⟨ns, hns, hI⟩ hpx
    have hxs : x.size ≤ 1000000 := Nat.le_trans ((Split.parts_sizes a0).2 x (hpx.subset (by simp))) hsz
    have hnl : ns.length ≤ 1000000 := by
      have h1 := hpx.length_le
      have h2 := (Split.parts_sizes a0).1
      rw [address_Parse.all_len hns]
      simp at h1
      omega
    have hT := htab.below hI.low
    cases hA : Go.Lib.atoiAll x.data.toList
    case ok n =>
      have hnb := Go.Lib.atoiAll_bounds hA
      by_cases he : (⟨(Go.Lib.itoa n).toArray⟩ : ByteArray) = x
      · have hgood : address_Parse.num1 x = some n := (address_Parse.num_ok hA).trans (if_pos he)
        have hyes : (Go.Lib.itoa n == x.toList) = true := by rw [← he, ByteArray.toList_eq]; simp
        have hbig := hI.big
        gi_wp2_with first | (refine ⟨trivial, ?_⟩; gi_at_call 33; refine (CallsIn.inRound l (callsIn_wide.2 (Tryd.strconv_Atoi_ok x (by omega) n hA _))).mono ?_; rintro e w1 ⟨rfl, hw1⟩; obtain hb1 : Below W.heap.size W w1 := address_Parse.bytes hw1; clear hw1; have hI1 := hI.below hb1; have hT1 := htab.below hI1.low)  | (refine ⟨trivial, ?_⟩; gi_at_call 24; refine (CallsIn.inRound l (callsIn_wide.2 (Tryd.strconv_Itoa n hnb.1 hnb.2 _ hT1.tab))).mono ?_; rintro e w2 ⟨rfl, k2, os2, hw2⟩; obtain hb2 : Below w1.heap.size w1 w2 := (by subst hw2; exact Go.Lib.below_grow _ _ (Nat.le_refl _) _ _); clear hw2; have hI2 := hI1.below hb2; obtain ⟨v, hv, hrow⟩ := hI2.row; have c2 := hv.cell; have hbig2 := hI2.big)  | (gi_at_builtin; refine wpListIn_append_own _ rfl _ _ 22 rfl (w.heap.size + 6) 3 i0 (.int .i64 0) 1 8 Tryd.underlying22 hi hz0 hz1 hz2 rfl (by decide) _ _ _ rfl (hrow.alloc _) ⟨w2.heap.size, 0, none⟩ 1 1 [.int .i64 n] rfl rfl (cell_one_new _ _ _) (by simp [Value.oneCell']) (by simp [maxLen]; omega) (by omega) (by simp; omega) ?_; intro v' w3 hown' hgrow _; obtain ⟨g', cap', rfl⟩ := ownsRow_succ hown'; obtain ⟨hv1, hk3, hk4, hI3⟩ := hI2.next (hb1.trans (hb2.mono hb1.size)) hbig hv hrow hown' hgrow; have hc3 := hv1.cell; have hf3 := hv1.frozen)
        exact ⟨hk3, hk4, _, address_Parse.all_snoc hns hgood, hI3⟩
      · have hbad : address_Parse.num1 x = none := (address_Parse.num_ok hA).trans (if_neg he)
        have hne : (Go.Lib.itoa n == x.toList) = false := by have h := address_Parse.beq_no he; rw [ByteArray.toList_eq] at h; simpa using h
        gi_wp2_with first | (refine ⟨trivial, ?_⟩; gi_at_call 33; refine (CallsIn.inRound l (callsIn_wide.2 (Tryd.strconv_Atoi_ok x (by omega) n hA _))).mono ?_; rintro e w1 ⟨rfl, hw1⟩; obtain hb1 : Below W.heap.size W w1 := address_Parse.bytes hw1; clear hw1; have hI1 := hI.below hb1; have hT1 := htab.below hI1.low) | (refine ⟨trivial, ?_⟩; gi_at_call 24; refine (CallsIn.inRound l (callsIn_wide.2 (Tryd.strconv_Itoa n hnb.1 hnb.2 _ hT1.tab))).mono ?_; rintro e w2 ⟨rfl, k2, os2, hw2⟩; obtain hb2 : Below w1.heap.size w1 w2 := (by subst hw2; exact Go.Lib.below_grow _ _ (Nat.le_refl _) _ _); clear hw2; have hI2 := hI1.below hb2; have c0 := hI2.res.cell; have c1 := hI2.err.cell; have f0 := hI2.res.frozen; have f1 := hI2.err.frozen)
        exact ⟨(((address_Parse.keeps hb1).trans (address_Parse.keeps hb2)).trans (KeepsOthers.setCell _ _ _)).trans (KeepsOthers.setCell _ _ _), rfl, hI2.out (by simp) hbad⟩
    case range =>
      obtain ⟨tp, p, hp⟩ := hT.2.2
      have hbad : address_Parse.num1 x = none := by simp only [address_Parse.num1, hA]
      gi_wp2_with first | (refine ⟨trivial, ?_⟩; gi_at_call 33; refine (CallsIn.inRound l (callsIn_wide.2 (Tryd.strconv_Atoi_range_var x (by omega) hA tp p _ hp))).mono ?_; rintro e w1 ⟨N, rfl, -, -, hb1⟩; have hI1 := hI.below hb1; have c0 := hI1.res.cell; have c1 := hI1.err.cell; have f0 := hI1.res.frozen; have f1 := hI1.err.frozen) | (refine ⟨trivial, ?_⟩)
      exact ⟨((address_Parse.keeps hb1).trans (KeepsOthers.setCell _ _ _)).trans (KeepsOthers.setCell _ _ _), rfl, hI1.out (by simp) hbad⟩
    obtain ⟨tp, p, hp⟩ := hT.2.1
    have hbad : address_Parse.num1 x = none := by simp only [address_Parse.num1, hA]
    gi_wp2_with first | (refine ⟨trivial, ?_⟩; gi_at_call 33; refine (CallsIn.inRound l (callsIn_wide.2 (Tryd.strconv_Atoi_bad_var x (by omega) (fun v e => by rw [hA] at e; cases e) (fun e => by rw [hA] at e; cases e) tp p _ hp))).mono ?_; rintro e w1 ⟨N, rfl, -, -, hb1⟩; have hI1 := hI.below hb1; have c0 := hI1.res.cell; have c1 := hI1.err.cell; have f0 := hI1.res.frozen; have f1 := hI1.err.frozen) | (refine ⟨trivial, ?_⟩)
    exact ⟨((address_Parse.keeps hb1).trans (KeepsOthers.setCell _ _ _)).trans (KeepsOthers.setCell _ _ _), rfl, hI1.out (by simp) hbad⟩
  case done =>
    rintro D W hD ⟨ns, hns, hI⟩ hK
    rw [hns] at h
    obtain ⟨v, hv, hrow⟩ := hI.row
    have hR : (Kd.int .i64).R 3 W (w.heap.size + 6) (fun _ => True) v ns := Kd.R_of_own hrow (fun _ _ => trivial)
    obtain ⟨A, c, rfl, hlc, hC⟩ := Kd.R_reads hR
    have c2 := hv.cell
    have c0 := hI.res.cell
    have c1 := hI.err.cell
    have f0 := hI.res.frozen
    have f1 := hI.err.frozen
    by_cases hok : (decide (ns.length ≤ 10) && !ns.any fun n => decide (n < 0) || decide (n > 999)) = true
    · have h : (ns, (0 : Int)) = (r1, r2) := by simpa [hok] using h
      obtain ⟨rfl, rfl⟩ := Prod.mk.inj h
      gi_wp2_with (refine ⟨trivial, ?_⟩; gi_at_call 23; refine (callsIn_wide.2 (address_prefix.calls A c ns _ _ hC hlc (congrArg some hok))).mono ?_; rintro e w' ⟨rfl, m, rfl⟩)
      obtain ⟨W2, hW2, hK2, d0, d1, hB2, hrow2⟩ := hI.ends (m := m) (k := 0) (X := .slice A ns.length c) (by omega) hK hrow
      try rw [hW2]
      refine ⟨by simp, .inl ⟨_, _, rfl, run_takeDeferred hK2, ?_⟩⟩
      exact ⟨.tuple #[.slice A ns.length c, .int .i64 0], by simp [results, Tryd.f20, go_sem, d0, d1], _, rfl, Kd.R_of_own hrow2 (fun _ _ => trivial), hB2⟩
    · have h : (([] : List Int), (4 : Int)) = (r1, r2) := by simpa [hok] using h
      obtain ⟨rfl, rfl⟩ := Prod.mk.inj h
      gi_wp2_with (refine ⟨trivial, ?_⟩; gi_at_call 23; refine (callsIn_wide.2 (address_prefix.calls A c ns _ _ hC hlc (congrArg some (Bool.eq_false_iff.2 hok)))).mono ?_; rintro e w' ⟨rfl, m, rfl⟩)
      obtain ⟨W2, hW2, hK2, d0, d1, hB2, -⟩ := hI.ends (m := m) (k := 4) (X := .slice none 0 0) (by omega) hK hrow
      try rw [hW2]
      refine ⟨by simp, .inl ⟨_, _, rfl, run_takeDeferred hK2, ?_⟩⟩
      exact ⟨.tuple #[.slice none 0 0, .int .i64 4], by simp [results, Tryd.f20, go_sem, d0, d1], _, rfl, Kd.R_nil _ _ _ _ _, hB2⟩
  case stop =>
    rintro D pre W hD hpre ⟨⟨x, hx, hbad⟩, hlow, r0, r1'⟩ hK
    rw [address_Parse.all_bad (hpre.subset hx) hbad] at h
    obtain ⟨rfl, rfl⟩ := Prod.mk.inj h
    gi_wp2
    refine ⟨by simp, .inl ⟨_, _, rfl, run_takeDeferred hK, ?_⟩⟩
    have c0 := cell_kept r0.cell (grownBy_putObj' _ D (.deferred none)) (fun r e => by cases e; exact ⟨_, hK, rfl⟩)
    have c1 := cell_kept r1'.cell (grownBy_putObj' _ D (.deferred none)) (fun r e => by cases e; exact ⟨_, hK, rfl⟩)
    refine ⟨.tuple #[.slice none 0 0, .int .i64 4], ?_, .slice none 0 0, rfl, Kd.R_nil _ _ _ _ _, hlow.trans (belowK_b (w := w) (Nat.le_refl _) W D _ _ (by omega) hK rfl rfl)⟩
    simp [results, Tryd.f20, go_sem, c0, c1]


end Go.Proofs.YtchkhnhmpgkpeaaDoor.R
