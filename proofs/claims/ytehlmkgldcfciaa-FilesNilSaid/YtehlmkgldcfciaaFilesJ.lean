/- The file store: one file's step is the store's step; a file made; a file opened. -/
import Derived.Test.YtehlmkgldcfciaaFilesI
import Derived.Test.YtehlmkgldcfciaaFx0
set_option linter.unusedVariables false
set_option linter.unusedSimpArgs false
namespace Go.Proofs.Ytehlmkgldcfciaa.Files
open Go.Proofs.Ytehlmkgldcfciaa.Common Go.Maps Go.ChangeMaps Go.WideMaps Go.Proofs.Ytehlmkgldcfciaa.F
open Go.RowKit Go.Proofs.YtehlmkgldcfciaaW.PrintWords Go.Proofs.YtehlmkgldcfciaaW.PrintLast Go.Proofs.YtehlmkgldcfciaaW.PrintMore
/-- What a store's step may have made its own. -/
def okP (ok : Nat → Prop) (W w' : World) : Nat → Prop := fun q => (ok q ∨ W.heap.size ≤ q) ∧ q < w'.heap.size
theorem filesL_look {L : List (Nat × AF)} {D : DataW Unit} (hm : MapIs D (L.map fun p => (p.2.key, .lit (.int .i64 p.1)))) (hn : (L.map (·.2.key)).Nodup) {fb : Nat} {f : AF} (hp : (fb, f) ∈ L) : D.atKey (.string f.F.name.data.toList) .nil = .lit (.int .i64 (fb : Nat)) := by
  rw [hm.at_]
  have h2 : ((L.map fun p => (p.2.key, (DataW.lit (.int .i64 (p.1 : Int)) : DataW Unit))).map (·.1)).Nodup := by
    rw [List.map_map]; exact hn
  have := look_of_mem h2 (p := (f.key, .lit (.int .i64 (fb : Int)))) (List.mem_map.2 ⟨(fb, f), hp, rfl⟩)
  rw [show f.F.name.data.toList = f.key from rfl, this]
  rfl
theorem filesL_none {L : List (Nat × AF)} {D : DataW Unit} (hm : MapIs D (L.map fun p => (p.2.key, .lit (.int .i64 p.1)))) {n : ByteArray} (hn : ∀ p ∈ L, p.2.F.name ≠ n) : look (L.map fun p => (p.2.key, (DataW.lit (.int .i64 (p.1 : Int)) : DataW Unit))) n.data.toList = none :=
  look_none.2 fun p hp => by
    obtain ⟨q, hq, rfl⟩ := List.mem_map.1 hp
    exact fun e => hn q hq (data_inj e)
theorem StoreParts.below {W w' : World} {ok : Nat → Prop} {sb mb : Nat} {L : List (Nat × AF)} {D : DataW Unit} {own : Nat → Nat} (h : StoreParts W ok sb L mb D own) (hb : Below W.heap.size W w') : StoreParts w' ok sb L mb D own :=
  ⟨h.oks, h.okm, (hb.block sb (h.lt sb h.oks)).trans h.S, (Chg.of_below hb (fun _ => False)).map h.M (fun h => h), h.mM, fun p hp => (h.files p hp).step (Chg.of_below hb (fun _ => False)) (fun _ _ h => h), h.ownm, fun k hk => Nat.lt_of_lt_of_le (h.lt k hk) hb.size, h.fbs, h.names⟩
/-- The store stays what it is while other blocks are written. -/
theorem StoreParts.other {W w' : World} {ok S : Nat → Prop} {sb mb : Nat} {L : List (Nat × AF)} {D : DataW Unit} {own : Nat → Nat} (h : StoreParts W ok sb L mb D own) (hc : Chg W w' S) (hs : ∀ k, ok k → ¬ S k) : StoreParts w' ok sb L mb D own :=
  ⟨h.oks, h.okm, (hc.block sb (h.lt sb h.oks) (hs sb h.oks)).trans h.S, hc.map h.M (hs mb h.okm), h.mM, fun p hp => (h.files p hp).step hc (fun k hk => hs k hk.1), h.ownm, fun k hk => Nat.lt_of_lt_of_le (h.lt k hk) hc.size, h.fbs, h.names⟩
theorem StoreRep.other {W w' : World} {ok S : Nat → Prop} {sb : Nat} {L : List (Nat × AF)} (h : StoreRep W ok sb L) (hc : Chg W w' S) (hs : ∀ k, ok k → ¬ S k) : StoreRep w' ok sb L := by
  obtain ⟨mb, D, own, h⟩ := h
  exact ⟨mb, D, own, h.other hc hs⟩
theorem set_same {α : Type} {l : List α} {k : Nat} {x : α} (h : l[k]? = some x) : l.set k x = l := by
  apply List.ext_getElem?
  intro j
  rw [List.getElem?_set]
  split
  · rename_i e
    subst e
    split
    · exact h.symm
    · rename_i h2
      rw [List.getElem?_eq_none (by omega)]
  · rfl
theorem mem_set_of {α : Type} {l : List α} {k : Nat} {x y : α} (h : x ∈ l.set k y) : x = y ∨ ∃ j, j ≠ k ∧ l[j]? = some x := by
  obtain ⟨j, hj, e⟩ := List.getElem_of_mem h
  rw [List.length_set] at hj
  by_cases hjk : j = k
  · subst hjk
    rw [List.getElem_set_self] at e
    exact .inl e.symm
  · rw [List.getElem_set_ne (Ne.symm hjk)] at e
    exact .inr ⟨j, hjk, by rw [List.getElem?_eq_getElem hj, e]⟩
theorem StoreParts.step {W w' : World} {ok : Nat → Prop} {sb mb fb k : Nat} {L : List (Nat × AF)} {D : DataW Unit} {own : Nat → Nat} {f f' : AF} (h : StoreParts W ok sb L mb D own) (hk : L[k]? = some (fb, f)) (hkey : f'.key = f.key)
    (hf : FileRep w' (fun q => (ok q ∧ own q = fb) ∨ W.heap.size ≤ q) fb f') (hc : Chg W w' (fun q => ok q ∧ own q = fb)) : StoreRep w' (okP ok W w') sb (L.set k (fb, f')) ∧ Chg W w' ok := by
  have hmem : (fb, f) ∈ L := List.mem_of_getElem? hk
  have hkl : k < L.length := (List.getElem?_eq_some_iff.1 hk).1
  have e1 : (L.set k (fb, f')).map (fun p => (p.2.key, (DataW.lit (.int .i64 (p.1 : Int)) : DataW Unit))) = L.map fun p => (p.2.key, .lit (.int .i64 p.1)) := by
    rw [List.map_set, hkey]
    refine set_same ?_
    rw [List.getElem?_map, hk]; rfl
  have e2 : (L.set k (fb, f')).map (·.1) = L.map (·.1) := by
    rw [List.map_set]
    refine set_same ?_
    rw [List.getElem?_map, hk]; rfl
  have e3 : (L.set k (fb, f')).map (·.2.key) = L.map (·.2.key) := by
    rw [List.map_set, hkey]
    refine set_same ?_
    rw [List.getElem?_map, hk]; rfl
  have hom := h.ownm _ hmem
  have hoks : okP ok W w' sb := ⟨.inl h.oks, Nat.lt_of_lt_of_le (h.lt sb h.oks) hc.size⟩
  have hokm : okP ok W w' mb := ⟨.inl h.okm, Nat.lt_of_lt_of_le (h.lt mb h.okm) hc.size⟩
  refine ⟨⟨mb, D, fun q => if q < W.heap.size then own q else fb, ⟨hoks, hokm, ?_, ?_, ?_, ?_, ?_, fun q hq => hq.2, ?_, ?_⟩⟩, hc.mono (fun q hq => hq.1)⟩
  · exact (hc.block sb (h.lt sb h.oks) (fun hq => hom.2 hq.2)).trans h.S
  · exact hc.map h.M (fun hq => hom.1 hq.2)
  · rw [e1]; exact h.mM
  · intro p hp
    rcases mem_set_of hp with rfl | ⟨j, hj, hjp⟩
    · obtain ⟨A, rc, uv, ub, DU, P⟩ := hf
      refine ⟨A, rc, uv, ub, DU, P.bound.mono (fun q hq => ?_)⟩
      obtain ⟨hq1 | hq1, hq2⟩ := hq
      · exact ⟨⟨.inl hq1.1, hq2⟩, by show (if q < W.heap.size then own q else fb) = fb; rw [if_pos (h.lt q hq1.1)]; exact hq1.2⟩
      · exact ⟨⟨.inr hq1, hq2⟩, by show (if q < W.heap.size then own q else fb) = fb; rw [if_neg (by omega)]⟩
    · have hjl : j < L.length := (List.getElem?_eq_some_iff.1 hjp).1
      have hne : p.1 ≠ fb := by
        intro e
        have h1 : (L.map (·.1))[j]? = some p.1 := by rw [List.getElem?_map, hjp]; rfl
        have h2 : (L.map (·.1))[k]? = some fb := by rw [List.getElem?_map, hk]; rfl
        have := (List.getElem?_inj (by rw [List.length_map]; exact hjl) h.fbs).1 (h1.trans (by rw [e]; exact h2.symm))
        exact hj this
      refine ((h.files p (List.mem_of_getElem? hjp)).step hc (fun q hq hq2 => hne (hq.2.symm.trans hq2.2))).mono (fun q hq => ?_)
      exact ⟨⟨.inl hq.1, Nat.lt_of_lt_of_le (h.lt q hq.1) hc.size⟩, by show (if q < W.heap.size then own q else fb) = p.1; rw [if_pos (h.lt q hq.1)]; exact hq.2⟩
  · intro p hp
    have hp1 : p.1 ∈ L.map (·.1) := by rw [← e2]; exact List.mem_map.2 ⟨p, hp, rfl⟩
    obtain ⟨q, hq, hqe⟩ := List.mem_map.1 hp1
    have := h.ownm q hq
    show (if mb < W.heap.size then own mb else fb) ≠ p.1 ∧ (if sb < W.heap.size then own sb else fb) ≠ p.1
    rw [if_pos (h.lt mb h.okm), if_pos (h.lt sb h.oks), ← hqe]
    exact this
  · rw [e2]; exact h.fbs
  · rw [e3]; exact h.names
/-- How a store's method ends. -/
def SOut (W : World) (ok : Nat → Prop) (sb : Nat) (v : Value) (st' : List AF) (e : Ending) (w' : World) : Prop := e = .returned v ∧ ∃ ok' L', StoreRep w' ok' sb L' ∧ L'.map (·.2) = st' ∧ Chg W w' ok ∧ ∀ q, ok' q → ok q ∨ W.heap.size ≤ q
theorem SOut.below {W w' : World} {ok : Nat → Prop} {sb : Nat} {L : List (Nat × AF)} {v : Value} (h : StoreRep W ok sb L) (hb : Below W.heap.size W w') : SOut W ok sb v (L.map (·.2)) (.returned v) w' :=
  ⟨rfl, ok, L, h.other (Chg.of_below hb (fun _ => False)) (fun _ _ h => h), rfl, Chg.of_below hb _, fun q hq => .inl hq⟩
theorem SOut.step {W w' : World} {ok : Nat → Prop} {sb mb fb k : Nat} {L : List (Nat × AF)} {D : DataW Unit} {own : Nat → Nat} {f f' : AF} {v : Value} (h : StoreParts W ok sb L mb D own) (hk : L[k]? = some (fb, f)) (hkey : f'.key = f.key)
    (hf : FileRep w' (fun q => (ok q ∧ own q = fb) ∨ W.heap.size ≤ q) fb f') (hc : Chg W w' (fun q => ok q ∧ own q = fb)) : SOut W ok sb v ((L.map (·.2)).set k f') (.returned v) w' := by
  obtain ⟨h1, h2⟩ := h.step hk hkey hf hc
  exact ⟨rfl, _, _, h1, by rw [List.map_set], h2, fun q hq => hq.1⟩
end Go.Proofs.Ytehlmkgldcfciaa.Files
