/- Rows of the call's own as plain cells: an element put in. -/
import Derived.Test.YtehlmkgldcfciaaGreatRawRow
import Derived.Lib.Overlaps
import Derived.Lib.AppendZerosOnto
import Derived.Laws.NewBlocks
set_option linter.unusedVariables false
set_option linter.unusedSimpArgs false
namespace Go.Proofs.YtehlmkgldcfciaaGreat.Common
open Go.RowKit Go.Proofs.YtehlmkgldcfciaaGreatW.PrintWords Go.Proofs.YtehlmkgldcfciaaGreatW.PrintLast Go.Proofs.YtehlmkgldcfciaaGreatW.PrintMore
theorem run_copy_sz {P : Program} (w : World) (dT sT ty elem : TypeId) (b o dLen dCap : Nat) (a : Addr) (sLen sCap sz n : Nat) (cs : List Value)
    (hu : P.underlying dT = some (.slice elem)) (hs : (P.info? elem).map (·.size) = some sz) (hn : n = Nat.min sLen dLen) (hcl : cs.length = n * sz)
    (hsrc : ∀ j v, cs[j]? = some v → w.cell? (a.add j) = some v) (hc : ∀ j, j < cs.length → (w.cell? ⟨b, o + j, none⟩).isSome = true) (hf : ∀ j, j < cs.length → w.frozen? ⟨b, o + j, none⟩ = false) (h1 : ∀ v ∈ cs, v.oneCell' = true) :
    (Builtin.copy_ #[dT, sT] ty #[.slice (some ⟨b, o, none⟩) dLen dCap, .slice (some a) sLen sCap]).run P w = .ok (goInt n) (w.setCells b o cs) := by
  have hl := run_loadCells_list (P := P) w a cs hsrc
  have hst := run_storeCells_cells (P := P) b o cs 0 w (by simpa using hc) (by simpa using hf) h1
  cases hq : P.info? elem with
  | none => simp [hq] at hs
  | some i =>
    have hi : i.size = sz := by simpa [hq] using hs
    rw [hcl] at hl
    simp [Builtin.copy_, run_underlying hu, Builtin.lenOf, Builtin.firstCells, sizeOf, typeInfo, hq, hi, ← hn, hl, hst]
theorem own_more {W : World} {base e size g n m cap : Nat} {xs : List Value} (h : W.ownsRow base e size (.slice (some ⟨g, 0, none⟩) n cap) n xs) (hn : n ≤ m) (hm : m ≤ cap) :
    ∃ ys : List Value, ys.length = m * size ∧ ys.take (n * size) = xs ∧ W.ownsRow base e size (.slice (some ⟨g, 0, none⟩) m cap) m ys := by
  obtain ⟨h1, h2⟩ := h
  rcases h2 with ⟨h', _⟩ | ⟨g', cap', cur, hv, hb, hh, hnc, hcm, hcs, htk⟩
  · cases h'
  · injection hv with hv1 _ hv3
    injection hv1 with hv1
    injection hv1 with hv1
    subst hv1 hv3
    have hl : (cur.toList.take (m * size)).length = m * size := by
      rw [List.length_take, Array.length_toList, hcs, Nat.min_eq_left (Nat.mul_le_mul_right _ hm)]
    exact ⟨cur.toList.take (m * size), hl, by rw [List.take_take, Nat.min_eq_left (Nat.mul_le_mul_right _ hn)]; exact htk, hl, .inr ⟨g, cap, cur, rfl, hb, hh, hm, hcm, hcs, rfl⟩⟩
section
variable {css : List (List Value)} {sz i : Nat} {x ys : List Value}
theorem ins_lens (h : ∀ c ∈ css, c.length = sz) (hi : i ≤ css.length) : (css.take i).flatten.length = i * sz ∧ (css.drop i).flatten.length = (css.length - i) * sz ∧ i * sz + sz + (css.length - i) * sz = (css.length + 1) * sz := by
  refine ⟨by rw [flat_length (fun c hc => h c (List.mem_of_mem_take hc)), List.length_take, Nat.min_eq_left hi], by rw [flat_length (fun c hc => h c (List.mem_of_mem_drop hc)), List.length_drop], ?_⟩
  rw [show i * sz + sz = (i + 1) * sz by rw [Nat.add_mul, Nat.one_mul], ← Nat.add_mul]
  congr 1
  omega
theorem insert_flat1 (h : ∀ c ∈ css, c.length = sz) (hi : i ≤ css.length) (hx : x.length = sz) (hl : ys.length = (css.length + 1) * sz) (ht : ys.take (i * sz) = (css.take i).flatten) :
    layV (layV ys ((i + 1) * sz) (css.drop i).flatten) (i * sz) x = (css.take i ++ x :: css.drop i).flatten := by
  obtain ⟨hT, hD, hS⟩ := ins_lens h hi
  have h1 : (i + 1) * sz = i * sz + sz := by rw [Nat.add_mul, Nat.one_mul]
  rw [List.flatten_append, List.flatten_cons, h1]
  generalize (css.drop i).flatten = D at hD ⊢
  generalize (css.take i).flatten = T at hT ht ⊢
  have e1 := layV_eq D ys (i * sz + sz) (by rw [hD, hl]; omega)
  rw [List.drop_eq_nil_of_le (by rw [hD, hl]; omega), List.append_nil] at e1
  have hA : (ys.take (i * sz + sz)).length = i * sz + sz := by rw [List.length_take, hl]; omega
  rw [e1, layV_eq _ _ _ (by rw [List.length_append, hA, hx]; omega), hx, List.take_append_of_le_length (by omega), List.take_take, Nat.min_eq_left (by omega), ht]
  rw [show (ys.take (i * sz + sz) ++ D).drop (i * sz + sz) = D by rw [List.drop_append_of_le_length (by omega), List.drop_eq_nil_of_le (by omega), List.nil_append], List.append_assoc]
theorem insert_flat2 (h : ∀ c ∈ css, c.length = sz) (hi : i ≤ css.length) (hx : x.length = sz) (hl : ys.length = (css.length + 1) * sz) (ht : ys.take (i * sz) = (css.take i).flatten) :
    layV (layV ys (i * sz) x) ((i + 1) * sz) (css.drop i).flatten = (css.take i ++ x :: css.drop i).flatten := by
  obtain ⟨hT, hD, hS⟩ := ins_lens h hi
  have h1 : (i + 1) * sz = i * sz + sz := by rw [Nat.add_mul, Nat.one_mul]
  rw [List.flatten_append, List.flatten_cons, h1]
  generalize (css.drop i).flatten = D at hD ⊢
  generalize (css.take i).flatten = T at hT ht ⊢
  have e1 := layV_eq x ys (i * sz) (by rw [hx, hl]; omega)
  rw [ht, hx] at e1
  have hA : (T ++ x).length = i * sz + sz := by rw [List.length_append, hT, hx]
  have hE : (ys.drop (i * sz + sz)).length = (css.length - i) * sz := by rw [List.length_drop, hl]; omega
  rw [e1, layV_eq _ _ _ (by rw [List.length_append, hA, hE, hD]; omega), List.take_append_of_le_length (by omega), ← hA, List.take_length, List.drop_eq_nil_of_le (by rw [List.length_append, hA, hD, List.length_drop, hl]; omega), List.append_nil, List.append_assoc]
end
theorem setCells_some (b : Nat) (vs : List Value) (o : Nat) (w : World) (h : ∀ j, j < vs.length → (w.cell? ⟨b, o + j, none⟩).isSome = true) (k : Nat) (hk : (w.cell? ⟨b, k, none⟩).isSome = true) : ((w.setCells b o vs).cell? ⟨b, k, none⟩).isSome = true := by
  by_cases hin : o ≤ k ∧ k < o + vs.length
  · have := World.cell?_setCells_in b vs o w h (k - o) (by omega)
    rw [show o + (k - o) = k by omega] at this
    rw [this]; rfl
  · rw [World.cell?_setCells_out b vs o w ⟨b, k, none⟩ (fun _ _ => by show k < o ∨ o + vs.length ≤ k; omega)]
    exact hk
theorem copy_list {P : Program} (w : World) {ops : Array Oper} {rest : List Oper} {o : Oper} {a : Act} {Q : Exit → Act → World → Prop} (hgd : o.guard = none) (d s : Operand) (t t' : TypeId)
    (ho : o.op = .call { callee := .builtin .copy, args := #[d, s], argTypes := #[t, t'] }) (v u : Value) (hd : a.eval d = v) (hs : a.eval s = u) {v' : Value} {w' : World}
    (hr : (Builtin.copy_ #[t, t'] o.type #[v, u]).run P w = .ok v' w') (h : wpList P ops Q rest (a.put o.dst v') w') : wpList P ops Q (o :: rest) a w := by
  refine wpList_plain hgd fun _ hK => ?_
  unfold Oper.wp execOp
  simp only [ho, resolve, invoke, builtin, Sem.run_bind, Sem.run_pure, Result.andThen_ok, List.map_toArray, List.map_cons, List.map_nil, hd, hs, hr]
  exact hK _ _ h
theorem copy_step {P : Program} {ops : Array Oper} {o : Oper} {a : Act} {w : World} {K : Act → World → Prop} {Q : Exit → Act → World → Prop} {E : Prop}
    (hg : o.guard = none) (d x : Operand) (dT sT : TypeId) (hop : o.op = Op.call { callee := Callee.builtin Builtin.copy, args := #[d, x], argTypes := #[dT, sT] })
    (v u : Value) (hd : a.eval d = v) (hx : a.eval x = u) {v' : Value} {w' : World} (hr : (Builtin.copy_ #[dT, sT] o.type #[v, u]).run P w = .ok v' w') (hK : K (a.put o.dst v') w') :
    if Region.wanted o (yielded ops a.tmps) = true then Oper.wp P o a w K Q else E := by
  have hw : Region.wanted o (yielded ops a.tmps) = true := by simp [Region.wanted, hg]
  rw [if_pos hw]
  unfold Oper.wp
  simp [execOp, hop, resolve, invoke, builtin, hd, hx, hr, Result.andThen]
  exact hK
end Go.Proofs.YtehlmkgldcfciaaGreat.Common
