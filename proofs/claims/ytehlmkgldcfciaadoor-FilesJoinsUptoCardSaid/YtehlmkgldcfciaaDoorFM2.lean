/- The parts of this proof that lie in one text. -/
import Derived.Test.YtehlmkgldcfciaaDoorFM1
import Derived.Test.YtehlmkgldcfciaaDoorFx0
import Derived.Test.YtehlmkgldcfciaaDoorRows
import Derived.Test.YtehlmkgldcfciaaDoorOpen
/- The file store: one file's step is the store's step; a file made; a file opened. -/
set_option linter.unusedVariables false
set_option linter.unusedSimpArgs false
namespace Go.Proofs.YtehlmkgldcfciaaDoor.Files
open Go.Proofs.YtehlmkgldcfciaaDoor.Common Go.Maps Go.ChangeMaps Go.WideMaps Go.Proofs.YtehlmkgldcfciaaDoor.F
open Go.RowKit Go.Proofs.YtehlmkgldcfciaaDoorW.PrintWords Go.Proofs.YtehlmkgldcfciaaDoorW.PrintLast Go.Proofs.YtehlmkgldcfciaaDoorW.PrintMore
/-- What a store's step may have made its own. -/
def okP (ok : Nat → Prop) (W w' : World) : Nat → Prop := fun q => (ok q ∨ W.heap.size ≤ q) ∧ q < w'.heap.size
theorem filesL_look {L : List (Nat × AF)} {D : DataW Unit} (hm : MapIs D (L.map fun p => (p.2.key, .lit (.int .i64 p.1)))) (hn : (L.map (·.2.key)).Nodup) {fb : Nat} {f : AF} (hp : (fb, f) ∈ L) : D.atKey (.string f.F.name.data.toList) .nil = .lit (.int .i64 (fb : Nat)) := by
  rw [hm.at_]
  have h2 : ((L.map fun p => (p.2.key, (DataW.lit (.int .i64 (p.1 : Int)) : DataW Unit))).map (·.1)).Nodup := by
    rw [List.map_map]; exact hn
  have := look_of_mem h2 (p := (f.key, .lit (.int .i64 (fb : Int)))) (List.mem_map.2 ⟨(fb, f), hp, rfl⟩)
  rw [show f.F.name.data.toList = f.key from rfl, this]
  rfl
theorem filesL_none {L : List (Nat × AF)} {D : DataW Unit} (hm : MapIs D (L.map fun p => (p.2.key, .lit (.int .i64 p.1)))) {n : ByteArray} (hn : ∀ p ∈ L, p.2.F.name ≠ n) : look (L.map fun p => (p.2.key, (DataW.lit (.int .i64 (p.1 : Int)) : DataW Unit))) n.data.toList = none :=
  look_none.2 fun p hp => by
    obtain ⟨q, hq, rfl⟩ := List.mem_map.1 hp
    exact fun e => hn q hq (data_inj e)
theorem StoreParts.below {W w' : World} {ok : Nat → Prop} {sb mb : Nat} {L : List (Nat × AF)} {D : DataW Unit} {own : Nat → Nat} (h : StoreParts W ok sb L mb D own) (hb : Below W.heap.size W w') : StoreParts w' ok sb L mb D own :=
  ⟨h.oks, h.okm, (hb.block sb (h.lt sb h.oks)).trans h.S, (Chg.of_below hb (fun _ => False)).map h.M (fun h => h), h.mM, fun p hp => (h.files p hp).step (Chg.of_below hb (fun _ => False)) (fun _ _ h => h), h.ownm, fun k hk => Nat.lt_of_lt_of_le (h.lt k hk) hb.size, h.fbs, h.names⟩
/-- The store stays what it is while other blocks are written. -/
theorem StoreParts.other {W w' : World} {ok S : Nat → Prop} {sb mb : Nat} {L : List (Nat × AF)} {D : DataW Unit} {own : Nat → Nat} (h : StoreParts W ok sb L mb D own) (hc : Chg W w' S) (hs : ∀ k, ok k → ¬ S k) : StoreParts w' ok sb L mb D own :=
  ⟨h.oks, h.okm, (hc.block sb (h.lt sb h.oks) (hs sb h.oks)).trans h.S, hc.map h.M (hs mb h.okm), h.mM, fun p hp => (h.files p hp).step hc (fun k hk => hs k hk.1), h.ownm, fun k hk => Nat.lt_of_lt_of_le (h.lt k hk) hc.size, h.fbs, h.names⟩
theorem StoreRep.other {W w' : World} {ok S : Nat → Prop} {sb : Nat} {L : List (Nat × AF)} (h : StoreRep W ok sb L) (hc : Chg W w' S) (hs : ∀ k, ok k → ¬ S k) : StoreRep w' ok sb L := by
  obtain ⟨mb, D, own, h⟩ := h
  exact ⟨mb, D, own, h.other hc hs⟩
theorem set_same {α : Type} {l : List α} {k : Nat} {x : α} (h : l[k]? = some x) : l.set k x = l := by
  apply List.ext_getElem?
  intro j
  rw [List.getElem?_set]
  split
  · rename_i e
    subst e
    split
    · exact h.symm
    · rename_i h2
      rw [List.getElem?_eq_none (by omega)]
  · rfl
theorem mem_set_of {α : Type} {l : List α} {k : Nat} {x y : α} (h : x ∈ l.set k y) : x = y ∨ ∃ j, j ≠ k ∧ l[j]? = some x := by
  obtain ⟨j, hj, e⟩ := List.getElem_of_mem h
  rw [List.length_set] at hj
  by_cases hjk : j = k
  · subst hjk
    rw [List.getElem_set_self] at e
    exact .inl e.symm
  · rw [List.getElem_set_ne (Ne.symm hjk)] at e
    exact .inr ⟨j, hjk, by rw [List.getElem?_eq_getElem hj, e]⟩
theorem StoreParts.step {W w' : World} {ok : Nat → Prop} {sb mb fb k : Nat} {L : List (Nat × AF)} {D : DataW Unit} {own : Nat → Nat} {f f' : AF} (h : StoreParts W ok sb L mb D own) (hk : L[k]? = some (fb, f)) (hkey : f'.key = f.key)
    (hf : FileRep w' (fun q => (ok q ∧ own q = fb) ∨ W.heap.size ≤ q) fb f') (hc : Chg W w' (fun q => ok q ∧ own q = fb)) : StoreRep w' (okP ok W w') sb (L.set k (fb, f')) ∧ Chg W w' ok := by
  have hmem : (fb, f) ∈ L := List.mem_of_getElem? hk
  have hkl : k < L.length := (List.getElem?_eq_some_iff.1 hk).1
  have e1 : (L.set k (fb, f')).map (fun p => (p.2.key, (DataW.lit (.int .i64 (p.1 : Int)) : DataW Unit))) = L.map fun p => (p.2.key, .lit (.int .i64 p.1)) := by
    rw [List.map_set, hkey]
    refine set_same ?_
    rw [List.getElem?_map, hk]; rfl
  have e2 : (L.set k (fb, f')).map (·.1) = L.map (·.1) := by
    rw [List.map_set]
    refine set_same ?_
    rw [List.getElem?_map, hk]; rfl
  have e3 : (L.set k (fb, f')).map (·.2.key) = L.map (·.2.key) := by
    rw [List.map_set, hkey]
    refine set_same ?_
    rw [List.getElem?_map, hk]; rfl
  have hom := h.ownm _ hmem
  have hoks : okP ok W w' sb := ⟨.inl h.oks, Nat.lt_of_lt_of_le (h.lt sb h.oks) hc.size⟩
  have hokm : okP ok W w' mb := ⟨.inl h.okm, Nat.lt_of_lt_of_le (h.lt mb h.okm) hc.size⟩
  refine ⟨⟨mb, D, fun q => if q < W.heap.size then own q else fb, ⟨hoks, hokm, ?_, ?_, ?_, ?_, ?_, fun q hq => hq.2, ?_, ?_⟩⟩, hc.mono (fun q hq => hq.1)⟩
  · exact (hc.block sb (h.lt sb h.oks) (fun hq => hom.2 hq.2)).trans h.S
  · exact hc.map h.M (fun hq => hom.1 hq.2)
  · rw [e1]; exact h.mM
  · intro p hp
    rcases mem_set_of hp with rfl | ⟨j, hj, hjp⟩
    · obtain ⟨A, rc, uv, ub, DU, P⟩ := hf
      refine ⟨A, rc, uv, ub, DU, P.bound.mono (fun q hq => ?_)⟩
      obtain ⟨hq1 | hq1, hq2⟩ := hq
      · exact ⟨⟨.inl hq1.1, hq2⟩, by show (if q < W.heap.size then own q else fb) = fb; rw [if_pos (h.lt q hq1.1)]; exact hq1.2⟩
      · exact ⟨⟨.inr hq1, hq2⟩, by show (if q < W.heap.size then own q else fb) = fb; rw [if_neg (by omega)]⟩
    · have hjl : j < L.length := (List.getElem?_eq_some_iff.1 hjp).1
      have hne : p.1 ≠ fb := by
        intro e
        have h1 : (L.map (·.1))[j]? = some p.1 := by rw [List.getElem?_map, hjp]; rfl
        have h2 : (L.map (·.1))[k]? = some fb := by rw [List.getElem?_map, hk]; rfl
        have := (List.getElem?_inj (by rw [List.length_map]; exact hjl) h.fbs).1 (h1.trans (by rw [e]; exact h2.symm))
        exact hj this
      refine ((h.files p (List.mem_of_getElem? hjp)).step hc (fun q hq hq2 => hne (hq.2.symm.trans hq2.2))).mono (fun q hq => ?_)
      exact ⟨⟨.inl hq.1, Nat.lt_of_lt_of_le (h.lt q hq.1) hc.size⟩, by show (if q < W.heap.size then own q else fb) = p.1; rw [if_pos (h.lt q hq.1)]; exact hq.2⟩
  · intro p hp
    have hp1 : p.1 ∈ L.map (·.1) := by rw [← e2]; exact List.mem_map.2 ⟨p, hp, rfl⟩
    obtain ⟨q, hq, hqe⟩ := List.mem_map.1 hp1
    have := h.ownm q hq
    show (if mb < W.heap.size then own mb else fb) ≠ p.1 ∧ (if sb < W.heap.size then own sb else fb) ≠ p.1
    rw [if_pos (h.lt mb h.okm), if_pos (h.lt sb h.oks), ← hqe]
    exact this
  · rw [e2]; exact h.fbs
  · rw [e3]; exact h.names
/-- How a store's method ends. -/
def SOut (W : World) (ok : Nat → Prop) (sb : Nat) (v : Value) (st' : List AF) (e : Ending) (w' : World) : Prop := e = .returned v ∧ ∃ ok' L', StoreRep w' ok' sb L' ∧ L'.map (·.2) = st' ∧ Chg W w' ok ∧ ∀ q, ok' q → ok q ∨ W.heap.size ≤ q
theorem SOut.below {W w' : World} {ok : Nat → Prop} {sb : Nat} {L : List (Nat × AF)} {v : Value} (h : StoreRep W ok sb L) (hb : Below W.heap.size W w') : SOut W ok sb v (L.map (·.2)) (.returned v) w' :=
  ⟨rfl, ok, L, h.other (Chg.of_below hb (fun _ => False)) (fun _ _ h => h), rfl, Chg.of_below hb _, fun q hq => .inl hq⟩
theorem SOut.step {W w' : World} {ok : Nat → Prop} {sb mb fb k : Nat} {L : List (Nat × AF)} {D : DataW Unit} {own : Nat → Nat} {f f' : AF} {v : Value} (h : StoreParts W ok sb L mb D own) (hk : L[k]? = some (fb, f)) (hkey : f'.key = f.key)
    (hf : FileRep w' (fun q => (ok q ∧ own q = fb) ∨ W.heap.size ≤ q) fb f') (hc : Chg W w' (fun q => ok q ∧ own q = fb)) : SOut W ok sb v ((L.map (·.2)).set k f') (.returned v) w' := by
  obtain ⟨h1, h2⟩ := h.step hk hkey hf hc
  exact ⟨rfl, _, _, h1, by rw [List.map_set], h2, fun q hq => hq.1⟩
end Go.Proofs.YtehlmkgldcfciaaDoor.Files
/- The file store: New, Create and Open as steps of the store. -/
set_option linter.unusedVariables false
set_option linter.unusedSimpArgs false
namespace Go.Proofs.YtehlmkgldcfciaaDoor.Files
open Go.Proofs.YtehlmkgldcfciaaDoor.Common Go.Maps Go.ChangeMaps Go.WideMaps Go.Proofs.YtehlmkgldcfciaaDoor.F
open Go.RowKit Go.Proofs.YtehlmkgldcfciaaDoorW.PrintWords Go.Proofs.YtehlmkgldcfciaaDoorW.PrintLast Go.Proofs.YtehlmkgldcfciaaDoorW.PrintMore
def NewOut (w : World) (e : Ending) (w' : World) : Prop := ∃ sb ok, e = .returned (.pointer (some ⟨sb, 0, none⟩)) ∧ StoreRep w' ok sb [] ∧ Below w.heap.size w w' ∧ ∀ q, ok q → w.heap.size ≤ q
theorem S_New (w : World) : Calls Tryd.prog 18 #[] w (NewOut w) := by
  refine (New_c w).mono ?_
  rintro e w' ⟨rfl, rfl⟩
  have hM := (World.ownsMap_made w Tryd.prog 9 Rp).alloc (.cells #[.map (some w.heap.size)] 77)
  have hsz : ((w.alloc (.map #[] 0)).alloc (.cells #[.map (some w.heap.size)] 77)).heap.size = w.heap.size + 2 := by simp
  have hS : Boxed ((w.alloc (.map #[] 0)).alloc (.cells #[.map (some w.heap.size)] 77)) (w.heap.size + 1) 77 (.map (some w.heap.size)) := by
    have := Boxed.new (w.alloc (.map #[] 0)) 77 (.map (some w.heap.size))
    rwa [World.size_alloc] at this
  refine ⟨w.heap.size + 1, fun q => w.heap.size ≤ q ∧ q < w.heap.size + 2, rfl, ⟨w.heap.size, .map [], fun _ => 0, ?_⟩, ((Below.refl _ _).alloc (Nat.le_refl _) _).alloc (by simp) _, fun q hq => hq.1⟩
  exact ⟨⟨by omega, by omega⟩, ⟨by omega, by omega⟩, hS, ownsMap_tight hM, MapIs.nil, (fun p hp => by cases hp), (fun p hp => by cases hp), fun k hk => by rw [hsz]; exact hk.2, List.nodup_nil, List.nodup_nil⟩
/-- A file that has just been made. -/
def newF (u n : ByteArray) (kind perm : Int) : AF := ⟨⟨n, kind, perm, u, ByteArray.empty, 0, 0⟩, [], [⟨ByteArray.empty, ByteArray.empty, 0⟩], []⟩
theorem new_parts (W : World) (u n : ByteArray) (kind perm : Int) (W3 : World) (h : ((W.alloc (.cells #[.string ByteArray.empty, .string ByteArray.empty, .int .i64 0] 46)).alloc (.map #[] 0)).alloc (.cells (FS.cells ⟨n, kind, perm, u, ByteArray.empty, 0, 0⟩ (.slice none 0 0) (.slice (some ⟨W.heap.size, 0, none⟩) 1 1) (W.heap.size + 1)) 86) = W3) :
    FileParts W3 (fun q => W.heap.size ≤ q) (W.heap.size + 2) (newF u n kind perm) none 0 (.slice (some ⟨W.heap.size, 0, none⟩) 1 1) (W.heap.size + 1) (.map []) ∧ Below W.heap.size W W3 ∧ W3.heap.size = W.heap.size + 3 := by
  subst h
  have hU := (World.ownsMap_made (W.alloc (.cells #[.string ByteArray.empty, .string ByteArray.empty, .int .i64 0] 46)) Tryd.prog 9 Ro).alloc (.cells (FS.cells ⟨n, kind, perm, u, ByteArray.empty, 0, 0⟩ (.slice none 0 0) (.slice (some ⟨W.heap.size, 0, none⟩) 1 1) (W.heap.size + 1)) 86)
  rw [World.size_alloc] at hU
  have hF := heap_alloc_new ((W.alloc (.cells #[.string ByteArray.empty, .string ByteArray.empty, .int .i64 0] 46)).alloc (.map #[] 0)) (.cells (FS.cells ⟨n, kind, perm, u, ByteArray.empty, 0, 0⟩ (.slice none 0 0) (.slice (some ⟨W.heap.size, 0, none⟩) 1 1) (W.heap.size + 1)) 86)
  rw [World.size_alloc, World.size_alloc] at hF
  refine ⟨⟨by omega, hF, Kd.R_nil _ _ _ _ _, ?_, by omega, ownsMap_tight hU, MapIs.nil⟩, (((Below.refl _ _).alloc (Nat.le_refl _) _).alloc (by simp) _).alloc (by simp <;> omega) _, by simp⟩
  refine R_of_uRow' ⟨rfl, .inr ⟨W.heap.size, 1, #[.string ByteArray.empty, .string ByteArray.empty, .int .i64 0], rfl, Nat.zero_le _, ?_, Nat.le_refl _, by decide, rfl, rfl⟩⟩ (fun k hk => by
    have : W.heap.size = k := by simpa [Value.ownBlock] using hk
    omega)
  rw [Below.heap_alloc _ _ _ (by simp <;> omega), Below.heap_alloc _ _ _ (by simp)]
  exact heap_alloc_new W _
theorem S_Create_ok (sb : Nat) (ok : Nat → Prop) (L : List (Nat × AF)) (u n : ByteArray) (kind perm : Int) (W : World) (hR : StoreRep W ok sb L)
    (hu : 1 ≤ u.size ∧ u.size ≤ 20) (hn : 1 ≤ n.size ∧ n.size ≤ 30) (hkd : 0 ≤ kind ∧ kind ≤ 2) (hpm : 0 ≤ perm ∧ perm ≤ 255) (hno : ∀ p ∈ L, p.2.F.name ≠ n) (hlen : L.length < 30) :
    Calls Tryd.prog 19 #[.pointer (some ⟨sb, 0, none⟩), .string u, .string n, .int .i64 kind, .int .i64 perm] W (SOut W ok sb (.int .i64 0) (L.map (·.2) ++ [newF u n kind perm])) := by
  obtain ⟨mb, D, own, R⟩ := hR
  have hlook := filesL_none R.mM hno
  have hD : D.atKey (.string n.data.toList) .nil = .nil := by rw [R.mM.at_, hlook]; rfl
  have hsz : Maps.size D = L.length := by rw [R.mM.size, List.length_map]
  refine (Create_c sb mb _ D u n kind perm W R.S.cell R.M (by omega) hu hn hkd hpm hD (by omega)).mono ?_
  rintro e w' ⟨rfl, W3, hW3, hM', hT⟩
  obtain ⟨P3, hb3, hs3⟩ := new_parts W u n kind perm W3 hW3
  have hmb := R.M.lt
  have hsb := R.S.lt
  have hne : sb ≠ mb := fun e => by
    have h1 := R.S
    obtain ⟨es, clock, hb, _⟩ := R.M
    rw [← e] at hb
    exact absurd (h1.symm.trans hb) (by simp)
  have hcT : Chg W3 w' (fun q => q = mb) := Chg.of_turned hT rfl
  have hsz' : w'.heap.size = W3.heap.size := by
    obtain ⟨_, _, _, _, _, rfl⟩ := hT
    simp [setBlock]
  have hcW : Chg W w' ok := ((Chg.of_below hb3 (fun _ => False)).mono (fun _ h => h.elim)).trans hcT (fun q hq => .inl (by rw [hq]; exact R.okm))
  have hfbs : ∀ p ∈ L, p.1 < W.heap.size ∧ p.1 ≠ mb := fun p hp => by
    obtain ⟨A, rc, uv, ub, DU, P⟩ := R.files p hp
    exact ⟨blk_lt P.F, Ne.symm (blk_map_ne P.F R.M)⟩
  refine ⟨rfl, okP ok W w', L ++ [(W.heap.size + 2, newF u n kind perm)], ⟨mb, D.put (.string n.data.toList) (.lit (.int .i64 (W.heap.size + 2 : Nat))), fun q => if q = mb ∨ q = sb then mb else if q < W.heap.size then own q else W.heap.size + 2, ?_⟩, by simp, hcW, fun q hq => hq.1⟩
  have hmap : (L ++ [(W.heap.size + 2, newF u n kind perm)]).map (fun p => (p.2.key, (DataW.lit (.int .i64 (p.1 : Int)) : DataW Unit))) = L.map (fun p => (p.2.key, (DataW.lit (.int .i64 (p.1 : Int)) : DataW Unit))) ++ [(n.data.toList, .lit (.int .i64 (W.heap.size + 2 : Nat)))] := by
    rw [List.map_append]; rfl
  refine ⟨⟨.inl R.oks, by omega⟩, ⟨.inl R.okm, by omega⟩, ?_, ownsMap_tight hM', ?_, ?_, ?_, fun q hq => hq.2, ?_, ?_⟩
  · exact (hcT.block sb (by omega) hne).trans ((hb3.block sb hsb).trans R.S)
  · rw [hmap]
    exact R.mM.put _ _ hlook
  · intro p hp
    rcases List.mem_append.1 hp with hp | hp
    · refine (((R.files p hp).step (Chg.of_below hb3 (fun _ => False)) (fun _ _ h => h)).step hcT (fun q hq e => (R.ownm p hp).1 (by rw [← e]; exact hq.2))).mono (fun q hq => ?_)
      have hqlt := R.lt q hq.1
      refine ⟨⟨.inl hq.1, by omega⟩, ?_⟩
      have h1 : ¬ (q = mb ∨ q = sb) := fun h => h.elim (fun e => (R.ownm p hp).1 (by rw [← e]; exact hq.2)) (fun e => (R.ownm p hp).2 (by rw [← e]; exact hq.2))
      show (if q = mb ∨ q = sb then mb else if q < W.heap.size then own q else W.heap.size + 2) = p.1
      rw [if_neg h1, if_pos hqlt]
      exact hq.2
    · obtain rfl := List.mem_singleton.1 hp
      refine ⟨_, _, _, _, _, (P3.step hcT (fun q hq => by omega)).bound.mono (fun q hq => ⟨⟨.inr hq.1, hq.2⟩, ?_⟩)⟩
      show (if q = mb ∨ q = sb then mb else if q < W.heap.size then own q else W.heap.size + 2) = W.heap.size + 2
      have hq1 := hq.1
      rw [if_neg (by omega), if_neg (by omega)]
  · intro p hp
    have h2 : p.1 ≠ mb := by
      rcases List.mem_append.1 hp with hp | hp
      · exact (hfbs p hp).2
      · obtain rfl := List.mem_singleton.1 hp
        show W.heap.size + 2 ≠ mb
        omega
    show (if mb = mb ∨ mb = sb then mb else _) ≠ p.1 ∧ (if sb = mb ∨ sb = sb then mb else _) ≠ p.1
    rw [if_pos (.inl rfl), if_pos (.inr rfl)]
    exact ⟨Ne.symm h2, Ne.symm h2⟩
  · rw [List.map_append, List.nodup_append]
    refine ⟨R.fbs, by simp, fun a ha b hb e => ?_⟩
    obtain ⟨p, hp, rfl⟩ := List.mem_map.1 ha
    have := (hfbs p hp).1
    have hb' : b = W.heap.size + 2 := by simpa using hb
    omega
  · rw [List.map_append, List.nodup_append]
    refine ⟨R.names, by simp, fun a ha b hb e => ?_⟩
    obtain ⟨p, hp, rfl⟩ := List.mem_map.1 ha
    have hb' : b = n.data.toList := by simpa [newF, AF.key] using hb
    exact hno p hp (data_inj (e.trans hb'))
/-- Whether nobody's opening stands against another one. -/
def freeB (l : List (ByteArray × (Int × Int))) (actions exclusive : Int) : Bool := l.all fun p => decide (bits .and .i64 p.2.2 actions = 0) && decide (bits .and .i64 exclusive p.2.1 = 0)
theorem openD_inj {p q : Int × Int} (h : openD p = openD q) : p = q := by
  unfold openD at h
  simp only [DataW.agg.injEq, List.cons.injEq, DataW.lit.injEq, Lit.int.injEq, true_and, and_true] at h
  exact Prod.ext h.1 h.2
theorem users_keys (l : List (ByteArray × (Int × Int))) : (usersL l).map (·.1) = l.map (fun p => p.1.data.toList) := by simp [usersL]
theorem free_iff {DU : DataW Unit} {l : List (ByteArray × (Int × Int))} (h : MapIs DU (usersL l)) (hn : (l.map (fun p => p.1.data.toList)).Nodup) (actions exclusive : Int) : Free DU actions exclusive ↔ freeB l actions exclusive = true := by
  unfold Free freeB
  rw [List.all_eq_true]
  constructor
  · intro hf p hp
    have h1 : look (usersL l) p.1.data.toList = some (openD p.2) := look_of_mem (by rw [users_keys]; exact hn) (p := (p.1.data.toList, openD p.2)) (List.mem_map.2 ⟨p, hp, rfl⟩)
    have h2 := hf p.1.data.toList p.2.1 p.2.2 (fun zd => by rw [h.at_, h1]; rfl)
    simp [h2.1, h2.2]
  · intro hf k a b hz
    have h1 := hz .nil
    rw [h.at_] at h1
    cases hl : look (usersL l) k with
    | none => rw [hl] at h1; cases h1
    | some d =>
      rw [hl] at h1
      obtain ⟨p, hp, he⟩ := List.mem_map.1 (look_mem hl)
      injection he with he1 he2
      have h3 : openD p.2 = openD (a, b) := he2.trans h1
      have h4 := openD_inj h3
      have h5 := hf p hp
      rw [h4] at h5
      simpa using h5
def AF.opened (f : AF) (u : ByteArray) (a x : Int) : AF := { f with users := f.users ++ [(u, (a, x))] }
theorem S_Open (sb fb k : Nat) (ok : Nat → Prop) (L : List (Nat × AF)) (f : AF) (u n : ByteArray) (actions exclusive : Int) (W : World) (hR : StoreRep W ok sb L) (hk : L[k]? = some (fb, f)) (hnm : f.F.name = n)
    (hu : 1 ≤ u.size ∧ u.size ≤ 20) (hn : 1 ≤ n.size ∧ n.size ≤ 30) (hact : 0 ≤ actions ∧ actions ≤ 255) (hexc : 0 ≤ exclusive ∧ exclusive ≤ 255) (hsub : bits .andNot .i64 exclusive actions = 0)
    (hhas : lookU f.users u = none) (hmay : mayB f.F f.rules u actions = true) (hnd : (f.users.map (fun p => p.1.data.toList)).Nodup) (hul : f.users.length < 1000) :
    Calls Tryd.prog 20 #[.pointer (some ⟨sb, 0, none⟩), .string u, .string n, .int .i64 actions, .int .i64 exclusive] W
      (SOut W ok sb (.int .i64 (if freeB f.users actions exclusive then 0 else 12)) (if freeB f.users actions exclusive then (L.map (·.2)).set k (f.opened u actions exclusive) else L.map (·.2))) := by
  have hR0 := hR
  obtain ⟨mb, D, own, R⟩ := hR
  obtain ⟨A, rc, uv, ub, DU, P⟩ := R.files _ (List.mem_of_getElem? hk)
  have hD := filesL_look R.mM R.names (List.mem_of_getElem? hk)
  rw [hnm] at hD
  have hlook : look (usersL f.users) u.data.toList = none := by rw [look_users, hhas]; rfl
  have hh : Maps.has DU (.string u.data.toList) = false := by rw [P.mU.has, hlook]; rfl
  have hsz : Maps.size DU = f.users.length := by rw [P.mU.size]; simp [usersL]
  obtain ⟨_, hrc, hrC⟩ := Kd.R_reads' P.rules
  refine (Open_c sb mb _ fb ub _ rc D DU f.F A f.rules uv u n actions exclusive W R.S.cell R.M hu hn hD P.F P.U (by omega) hrC hrc hact hexc hsub hh hmay).mono ?_
  rintro e w' (⟨rfl, hf, hM', w3, hb3, hT⟩ | ⟨rfl, hf, hb⟩)
  · rw [(free_iff P.mU hnd actions exclusive).1 hf]
    have hcT : Chg w3 w' (fun q => q = ub) := Chg.of_turned hT rfl
    have hcW : Chg W w' (fun q => q = ub) := ((Chg.of_below hb3 (fun _ => False)).mono (fun _ h => h.elim)).trans hcT (fun q hq => .inl hq)
    have hF' : FileAt w' fb f.F (.slice A f.rules.length rc) uv ub := (hcW.block fb (blk_lt P.F) (Ne.symm (blk_map_ne P.F P.U))).trans P.F
    have hne : ∀ q cells t, W.heap[q]? = some (.cells cells t (0, 0)) → q ≠ ub := fun q cells t h => Ne.symm (blk_map_ne h P.U)
    have hrow : ∀ {α : Type} {d : Kd α} {e0 : Nat} {v : Value} {xs : List α}, d.R e0 W 0 (fun q => ok q ∧ own q = fb) v xs → d.R e0 w' 0 (fun q => ok q ∧ own q = fb) v xs := fun h =>
      Kd.R_mono (hcW.row (Kd.R_bound h) (fun q hq => by
        obtain ⟨_, _, _, t, _, cells, hc⟩ := hq
        exact hne q cells t hc)) (fun q hq => hq.1)
    have hput := P.mU.put u.data.toList (openD (actions, exclusive)) hlook
    have e : usersL (f.opened u actions exclusive).users = usersL f.users ++ [(u.data.toList, openD (actions, exclusive))] := by simp [usersL, AF.opened]
    have P' : FileParts w' (fun q => ok q ∧ own q = fb) fb (f.opened u actions exclusive) A rc uv ub _ := ⟨P.okb, hF', hrow P.rules, hrow P.units, P.oku, ownsMap_tight hM', by rw [e]; exact hput⟩
    exact SOut.step R hk rfl ⟨A, rc, uv, ub, _, P'.mono (fun q hq => .inl hq)⟩ (hcW.mono (fun q hq => by rw [hq]; exact P.oku))
  · have : freeB f.users actions exclusive = false := by
      cases h : freeB f.users actions exclusive with
      | false => rfl
      | true => exact absurd ((free_iff P.mU hnd actions exclusive).2 h) hf
    rw [this]
    exact SOut.below hR0 hb
end Go.Proofs.YtehlmkgldcfciaaDoor.Files
/- The file store: Insert and Read as steps of the store; the example of the chapter. -/
set_option linter.unusedVariables false
set_option linter.unusedSimpArgs false
namespace Go.Proofs.YtehlmkgldcfciaaDoor.Files
open Go.Proofs.YtehlmkgldcfciaaDoor.Common Go.Maps Go.ChangeMaps Go.WideMaps Go.Proofs.YtehlmkgldcfciaaDoor.F
open Go.RowKit Go.Proofs.YtehlmkgldcfciaaDoorW.PrintWords Go.Proofs.YtehlmkgldcfciaaDoorW.PrintLast Go.Proofs.YtehlmkgldcfciaaDoorW.PrintMore
theorem StoreParts.way {W : World} {ok : Nat → Prop} {sb mb fb k : Nat} {L : List (Nat × AF)} {D : DataW Unit} {own : Nat → Nat} {f : AF} {u n : ByteArray} (R : StoreParts W ok sb L mb D own) (hk : L[k]? = some (fb, f)) (hnm : f.F.name = n) (hu : 1 ≤ u.size ∧ u.size ≤ 20) (hn : 1 ≤ n.size ∧ n.size ≤ 30) :
    FoundOk W (.pointer (some ⟨sb, 0, none⟩)) u n fb ∧ FileRep W (fun q => ok q ∧ own q = fb) fb f := by
  have hD := filesL_look R.mM R.names (List.mem_of_getElem? hk)
  rw [hnm] at hD
  exact ⟨View.found ⟨R.S.cell, R.M, hu, hn⟩ hD, R.files _ (List.mem_of_getElem? hk)⟩
/-- What walks want of a file's units. -/
structure UOk (l : List S46) : Prop where
  pos : 1 ≤ l.length
  len : l.length ≤ 100
  lev : ∀ j, 0 ≤ lv l j ∧ lv l j ≤ 1000
  root : lv l 0 = 0
theorem S_Insert_ok (sb fb k i : Nat) (ok : Nat → Prop) (L : List (Nat × AF)) (f : AF) (u n : ByteArray) (child : Bool) (a b : ByteArray) (lev0 ac ex : Int) (W : World) (hR : StoreRep W ok sb L) (hk : L[k]? = some (fb, f)) (hnm : f.F.name = n)
    (hu : 1 ≤ u.size ∧ u.size ≤ 20) (hn : 1 ≤ n.size ∧ n.size ≤ 30) (hlook : lookU f.users u = some (ac, ex)) (hU : UOk f.units) (hi : i < f.units.length) (h1 : a.size ≤ 30) (h2 : b.size ≤ 400) (hbad : insBad f.F.kind (insLev f.units i child) = false)
    (hcl : clashB f.units (kids f.units (aboveOf f.units (insLev f.units i child) i)) a = false) (hdn : denied ac 2 = 0) (hfull : f.units.length < 100) :
    Calls Tryd.prog 21 #[.pointer (some ⟨sb, 0, none⟩), .string u, .string n, .int .i64 (i : Int), .bool child, .agg #[.string a, .string b, .int .i64 lev0]] W (SOut W ok sb (.int .i64 0) ((L.map (·.2)).set k (f.ins u i ⟨a, b, insLev f.units i child⟩))) := by
  obtain ⟨mb, D, own, R⟩ := hR
  obtain ⟨HF, A, rc, uv, ub, DU, P⟩ := R.way hk hnm hu hn
  have HO := opened_ok _ u n 2 W _ fb rc ub f A uv DU ac ex HF P (by omega) hlook
  rw [hdn] at HO
  have HU := unit_ok _ u n (i : Int) 2 0 W _ fb rc ub f A uv DU HO P (by omega) (by omega)
  refine (Insert_ok _ u n i fb rc ub child a b lev0 0 f A uv DU _ W HU P hi (by have := hU.len; omega) h1 h2 hU.lev hU.root hbad hcl rfl hfull).mono ?_
  rintro e w' ⟨rfl, uv', hP, hC⟩
  exact SOut.step R hk rfl ⟨A, rc, uv', ub, DU, hP⟩ hC
def RdOut (W : World) (ok : Nat → Prop) (sb : Nat) (l : List S46) (E : Int) (st' : List AF) (e : Ending) (w' : World) : Prop := ∃ v, SOut W ok sb (.tuple #[v, .int .i64 E]) st' e w' ∧ Kd.R k46 46 w' W.heap.size (fun _ => True) v l
theorem S_Read_ok (sb fb k i : Nat) (ok : Nat → Prop) (L : List (Nat × AF)) (f : AF) (u n : ByteArray) (whole : Bool) (ac ex : Int) (W : World) (hR : StoreRep W ok sb L) (hk : L[k]? = some (fb, f)) (hnm : f.F.name = n)
    (hu : 1 ≤ u.size ∧ u.size ≤ 20) (hn : 1 ≤ n.size ∧ n.size ≤ 30) (hlook : lookU f.users u = some (ac, ex)) (hU : UOk f.units) (hi : i < f.units.length) (hdn : denied ac 1 = 0) :
    Calls Tryd.prog 22 #[.pointer (some ⟨sb, 0, none⟩), .string u, .string n, .int .i64 (i : Int), .bool whole] W (RdOut W ok sb (readL f.units i whole) 0 ((L.map (·.2)).set k f.read)) := by
  obtain ⟨mb, D, own, R⟩ := hR
  obtain ⟨HF, A, rc, uv, ub, DU, P⟩ := R.way hk hnm hu hn
  have HO := opened_ok _ u n 1 W _ fb rc ub f A uv DU ac ex HF P (by omega) hlook
  rw [hdn] at HO
  have HU := unit_ok _ u n (i : Int) 1 0 W _ fb rc ub f A uv DU HO P (by omega) (by omega)
  refine (Read_ok _ u n i fb rc ub whole f A uv DU _ W HU P hi (by have := hU.len; omega)).mono ?_
  rintro e w' ⟨v, rfl, hr, hP, hC⟩
  exact ⟨v, SOut.step R hk rfl ⟨A, rc, uv, ub, DU, hP.mono (fun q hq => .inl hq)⟩ (hC.mono (fun q hq => by rw [hq]; exact P.okb)), hr⟩
/-! The example of the chapter. -/
def su : ByteArray := ⟨#[117]⟩
def sf : ByteArray := ⟨#[102]⟩
def sa : ByteArray := ⟨#[97]⟩
def sb_ : ByteArray := ⟨#[98]⟩
def s1 : ByteArray := ⟨#[49]⟩
def s2 : ByteArray := ⟨#[50]⟩
def F0 : AF := newF su sf 2 255
def F1 : AF := F0.opened su 255 0
def F2 : AF := F1.ins su 0 ⟨sa, s1, insLev F1.units 0 true⟩
def F3 : AF := F2.ins su 1 ⟨sb_, s2, insLev F2.units 1 false⟩
theorem F1_units : F1.units = [⟨ByteArray.empty, ByteArray.empty, 0⟩] := rfl
theorem F2_units : F2.units = [⟨ByteArray.empty, ByteArray.empty, 0⟩, ⟨sa, s1, 1⟩] := rfl
theorem F3_units : F3.units = [⟨ByteArray.empty, ByteArray.empty, 0⟩, ⟨sa, s1, 1⟩, ⟨sb_, s2, 1⟩] := rfl
theorem uok_of {l : List S46} (h0 : 1 ≤ l.length) (h1 : l.length ≤ 100) (h2 : ∀ x ∈ l, 0 ≤ x.f2 ∧ x.f2 ≤ 1000) (h3 : lv l 0 = 0) : UOk l := ⟨h0, h1, fun j => by
  unfold lv
  by_cases h : j < l.length
  · rw [rd_get l j h]; exact h2 _ (List.getElem_mem h)
  · have : rd_T46 l (j : Int) = z46 := by simp [rd_T46, List.getElem?_eq_none (by omega : l.length ≤ j)]
    rw [this]
    decide, h3⟩
end Go.Proofs.YtehlmkgldcfciaaDoor.Files
/- The file store: the example of the chapter is right. -/
set_option linter.unusedVariables false
set_option linter.unusedSimpArgs false
namespace Go.Proofs.YtehlmkgldcfciaaDoor.Files
open Go.Proofs.YtehlmkgldcfciaaDoor.Common Go.Maps Go.ChangeMaps Go.WideMaps Go.Proofs.YtehlmkgldcfciaaDoor.F
open Go.RowKit Go.Proofs.YtehlmkgldcfciaaDoorW.PrintWords Go.Proofs.YtehlmkgldcfciaaDoorW.PrintLast Go.Proofs.YtehlmkgldcfciaaDoorW.PrintMore
theorem SOut.one {W : World} {ok : Nat → Prop} {sb : Nat} {v : Value} {f : AF} {e : Ending} {w' : World} {base : Nat} (h : SOut W ok sb v [f] e w') (hB : base ≤ W.heap.size) (hok : ∀ q, ok q → base ≤ q) :
    e = .returned v ∧ ∃ ok' fb, StoreRep w' ok' sb [(fb, f)] ∧ Below base W w' ∧ (∀ q, ok' q → base ≤ q) ∧ base ≤ w'.heap.size := by
  obtain ⟨rfl, ok', L', hR, hL, hc, hq⟩ := h
  match L', hL with
  | [(fb, g)], hL =>
    have hg : g = f := by simpa using hL
    subst hg
    exact ⟨rfl, ok', fb, hR, hc.below hB hok, fun q h => (hq q h).elim (hok q) (fun h => by omega), by have := hc.size; omega⟩
theorem uok1 : UOk F1.units := uok_of (by decide) (by decide) (by rw [F1_units]; intro x hx; obtain rfl := List.mem_singleton.1 hx; decide) rfl
theorem uok2 : UOk F2.units := uok_of (by decide) (by decide) (by
  rw [F2_units]
  intro x hx
  rcases List.mem_cons.1 hx with rfl | hx
  · decide
  · obtain rfl := List.mem_singleton.1 hx
    decide) rfl
theorem uok3 : UOk F3.units := uok_of (by decide) (by decide) (by
  rw [F3_units]
  intro x hx
  rcases List.mem_cons.1 hx with rfl | hx
  · decide
  · rcases List.mem_cons.1 hx with rfl | hx
    · decide
    · obtain rfl := List.mem_singleton.1 hx
      decide) rfl
theorem read3 : readL F3.units 0 true = [⟨ByteArray.empty, ByteArray.empty, 0⟩, ⟨sa, s1, 1⟩, ⟨sb_, s2, 1⟩] := by
  rw [F3_units]
  simp [readL, endOf, runLen, lower, lv, rd_T46, wrap64]
set_option maxRecDepth 100000 in
set_option maxHeartbeats 1000000 in
theorem sane_c (w : World) : Calls Tryd.prog 6 #[] w fun e w' => e = .returned (.bool true) ∧ Below w.heap.size w w' := by
  go_enter Tryd.func6, Tryd.ntmps6
  go_wp2_with fail
  refine (S_New w).mono ?_
  rintro e w1 ⟨sb, ok1, rfl, hR1, hb1, hok1⟩
  have hz1 := hb1.size
  have HB1 := Aside0.mk hb1
  have CC := Aside0.mk (S_Create_ok sb ok1 [] su sf 2 255 w1 hR1 (by decide) (by decide) (by decide) (by decide) (fun p hp => by cases hp) (by decide))
  clear hb1 hR1
  go_wp2_with fail
  refine CC.out.mono ?_
  intro e w2 ho2
  obtain ⟨rfl, ok2, fb2, hR2, hb2, hok2, hz2⟩ := SOut.one (f := F0) ho2 hz1 hok1
  have HB2 := Aside0.mk (HB1.out.trans hb2)
  have CO := S_Open sb fb2 0 ok2 [(fb2, F0)] F0 su sf 255 0 w2 hR2 rfl rfl (by decide) (by decide) (by decide) (by decide) (by decide) rfl rfl (by decide) (by decide)
  rw [if_pos (show freeB F0.users 255 0 = true from rfl), if_pos (show freeB F0.users 255 0 = true from rfl)] at CO
  have CO' := Aside0.mk CO
  clear CC CO hb2 hR2 ho2 hok1 hz1
  go_wp2_with fail
  refine CO'.out.mono ?_
  intro e w3 ho3
  obtain ⟨rfl, ok3, fb3, hR3, hb3, hok3, hz3⟩ := SOut.one (f := F1) ho3 hz2 hok2
  have HB3 := Aside0.mk (HB2.out.trans hb3)
  have C1 := S_Insert_ok sb fb3 0 0 ok3 [(fb3, F1)] F1 su sf true sa s1 0 255 0 w3 hR3 rfl rfl (by decide) (by decide) rfl uok1 (by decide) (by decide) (by decide) rfl rfl rfl (by decide)
  have C1' := Aside0.mk C1
  clear CO' C1 hb3 hR3 ho3 hok2 hz2
  go_wp2_with fail
  refine C1'.out.mono ?_
  intro e w4 ho4
  obtain ⟨rfl, ok4, fb4, hR4, hb4, hok4, hz4⟩ := SOut.one (f := F2) ho4 hz3 hok3
  have HB4 := Aside0.mk (HB3.out.trans hb4)
  have C2 := Aside0.mk (S_Insert_ok sb fb4 0 1 ok4 [(fb4, F2)] F2 su sf false sb_ s2 0 255 0 w4 hR4 rfl rfl (by decide) (by decide) rfl uok2 (by decide) (by decide) (by decide) rfl rfl rfl (by decide))
  clear C1' hb4 hR4 ho4 hok3 hz3
  go_wp2_with fail
  refine C2.out.mono ?_
  intro e w5 ho5
  obtain ⟨rfl, ok5, fb5, hR5, hb5, hok5, hz5⟩ := SOut.one (f := F3) ho5 hz4 hok4
  have HB5 := Aside0.mk (HB4.out.trans hb5)
  have C3 := Aside0.mk (S_Read_ok sb fb5 0 0 ok5 [(fb5, F3)] F3 su sf true 255 0 w5 hR5 rfl rfl (by decide) (by decide) rfl uok3 (by decide) rfl)
  clear C2 hb5 hR5 ho5 hok4 hz4
  go_wp2_with fail
  refine C3.out.mono ?_
  rintro e w6 ⟨v, ho6, hr6⟩
  obtain ⟨rfl, ok6, fb6, hR6, hb6, hok6, hz6⟩ := SOut.one (f := F3.read) ho6 hz5 hok5
  have HB6 := Aside0.mk (HB5.out.trans hb6)
  have hr6' : Kd.R k46 46 w6 w5.heap.size (fun _ => True) v [⟨ByteArray.empty, ByteArray.empty, 0⟩, ⟨sa, s1, 1⟩, ⟨sb_, s2, 1⟩] := by rw [← read3]; exact hr6
  obtain ⟨g, c, rfl, hc, _⟩ := units_slice hr6' (by decide)
  obtain ⟨_, _, hC⟩ := Kd.R_reads' hr6'
  have x4 : w6.cell? ⟨g, 4, none⟩ = some (.string ⟨#[49]⟩) := by
    obtain ⟨ad, he, _, h2, _⟩ := at_T46 hC 1 (by decide) (by decide)
    cases he
    exact h2
  have x7 : w6.cell? ⟨g, 7, none⟩ = some (.string ⟨#[50]⟩) := by
    obtain ⟨ad, he, _, h2, _⟩ := at_T46 hC 2 (by decide) (by decide)
    cases he
    exact h2
  have x8 : w6.cell? ⟨g, 8, none⟩ = some (.int .i64 1) := by
    obtain ⟨ad, he, _, _, h2⟩ := at_T46 hC 2 (by decide) (by decide)
    cases he
    exact h2
  clear C3 hb6 hR6 ho6 hok5 hz5 hr6 hr6' hC
  go_wp2
  go_ret
  exact ⟨rfl, HB6.out⟩
end Go.Proofs.YtehlmkgldcfciaaDoor.Files
/- The law FilesJoins, walked. -/
set_option linter.unusedVariables false
set_option linter.unusedSimpArgs false
namespace Go.Proofs.YtehlmkgldcfciaaDoor.Files
open Go.Proofs.YtehlmkgldcfciaaDoor.Common Go.RowKit Go.Lib Go.Shelf Go.Proofs.YtehlmkgldcfciaaDoor.F Go.Proofs.YtehlmkgldcfciaaDoorW.PrintWords Go.Proofs.YtehlmkgldcfciaaDoorW.PrintLast Go.Proofs.YtehlmkgldcfciaaDoorW.PrintMore
set_option maxRecDepth 100000 in
set_option maxHeartbeats 2000000 in
theorem FilesJoins_c (A : Option Addr) (c : Nat) (parts : List ByteArray) (w : World) (hT : Tab10 w) (hr : Kd.C Kd.string w A parts.length parts) (hc : parts.length ≤ c) (hl : parts.length ≤ 140737488355328) (hs : (textOf parts).size ≤ 2000000) :
    Calls Tryd.prog 3 #[.slice A parts.length c] w fun e w' => e = .returned (.bool true) ∧ Below w.heap.size w w' := by
  have CJ := Aside0.mk (Join_c A c parts w hT hr hc hl hs)
  have HJV := Aside0.mk (fun r h => joinGo_valid ((textOf parts).size + 1) [] (textOf parts) r (.inl rfl) h)
  generalize joinGo ((textOf parts).size + 1) [] (textOf parts) = RES at *
  clear hT hr hs
  go_enter Tryd.func3, Tryd.ntmps3
  go_wp2_with fail
  refine CJ.out.mono ?_
  rintro e w1 (⟨rfl, rfl, hb1⟩ | ⟨out, v, rfl, rfl, hrow, hb1⟩)
  · have HB1 := Aside0.mk hb1
    have CS := Aside0.mk (sane_c w1)
    clear hb1 CJ HJV
    go_wp2_with fail
    refine CS.out.mono ?_
    rintro e w2 ⟨rfl, hb2⟩
    have HB2 := Aside0.mk (HB1.out.trans (hb2.mono HB1.out.size))
    clear hb2
    go_wp2
    go_ret
    exact ⟨rfl, HB2.out⟩
  · have HB1 := Aside0.mk hb1
    obtain ⟨A1, c1, hv1, hc1, hC1⟩ := Kd.R_reads hrow
    subst hv1
    have HC1 := Aside0.mk hC1
    have hval := HJV.out out rfl
    clear hb1 CJ HJV hrow hC1
    by_cases h0 : out.length = 0
    · have g0 : ((out.length : Int) == 0) = true := by simpa using h0
      have CS := Aside0.mk (sane_c w1)
      clear hval h0
      go_wp2_with fail
      refine CS.out.mono ?_
      rintro e w2 ⟨rfl, hb2⟩
      have HB2 := Aside0.mk (HB1.out.trans (hb2.mono HB1.out.size))
      clear hb2
      go_wp2
      go_ret
      exact ⟨rfl, HB2.out⟩
    · have g0 : ((out.length : Int) == 0) = false := by rw [beq_eq_false_iff_ne]; omega
      have hv : validB out 2 = true := hval.resolve_left (fun e => h0 (by rw [e]; rfl))
      have CV0 := Valid_c A1 c1 out 2 w1 HC1.out hc1
      rw [hv] at CV0
      have CV := Aside0.mk CV0
      clear CV0 hval h0 hv
      go_wp2_with fail
      refine CV.out.mono ?_
      rintro e w2 ⟨rfl, hb2⟩
      have HB2 := Aside0.mk (HB1.out.trans (hb2.mono HB1.out.size))
      have CS := Aside0.mk (sane_c w2)
      clear hb2 CV
      go_wp2_with fail
      refine CS.out.mono ?_
      rintro e w3 ⟨rfl, hb3⟩
      have HB3 := Aside0.mk (HB2.out.trans (hb3.mono HB2.out.size))
      clear hb3
      go_wp2
      go_ret
      exact ⟨rfl, HB3.out⟩
end Go.Proofs.YtehlmkgldcfciaaDoor.Files
/- The bulk of a slice of words, and the text that they make. -/
set_option linter.unusedVariables false
set_option linter.unusedSimpArgs false
namespace Go.Proofs.YtehlmkgldcfciaaDoor.Files
open Go.Proofs.YtehlmkgldcfciaaDoor.Common Go.RowKit Go.Lib Go.Shelf Go.Proofs.YtehlmkgldcfciaaDoor.F Go.Proofs.YtehlmkgldcfciaaDoorW.PrintWords
open Go.ChangeShapes Go.WideShapes Go.Deep
theorem bulk_strs {H : Type} (D : Nat → DataW H) (S : Nat → ByteArray) : ∀ (l : List Nat), (∀ i ∈ l, D i = .lit (.string (S i).data.toList)) → (l.map fun i => (S i).size + 1).sum = Rows.uptoBulkAll (l.map D)
  | [], _ => rfl
  | i :: r, h => by
    have ih := bulk_strs D S r (fun j hj => h j (List.mem_cons_of_mem _ hj))
    rw [List.map_cons, List.map_cons, List.sum_cons, ih, h i List.mem_cons_self]
    simp only [Rows.uptoBulkAll, Rows.uptoBulk]
    have := Lib.size_eq (S i)
    omega
theorem flat_len : ∀ (l : List ByteArray), ((l.map (·.data.toList)).map (([] : List UInt8) ++ ·)).flatten.length = (l.map (·.size)).sum
  | [] => rfl
  | x :: r => by
    rw [List.map_cons, List.map_cons, List.flatten_cons, List.length_append, flat_len r, List.map_cons, List.sum_cons, Lib.size_eq x]
    rfl
theorem join_len : ∀ (l : List ByteArray), (Lib.join (l.map (·.data.toList)) []).length = (l.map (·.size)).sum
  | [] => rfl
  | x :: r => by
    rw [List.map_cons, Lib.join_cons, List.length_append, List.map_cons, List.sum_cons, Lib.size_eq x]
    have := flat_len r
    unfold Lib.joinTail
    omega
theorem sum_range (x : List ByteArray) : ((List.range x.length).map fun i => (x.getD i ⟨#[]⟩).size + 1).sum = (x.map (·.size)).sum + x.length := by
  have e : ((List.range x.length).map fun i => (x.getD i ⟨#[]⟩).size + 1) = x.map (fun s => s.size + 1) := by
    apply List.ext_getElem?
    intro j
    rw [List.getElem?_map, List.getElem?_map]
    by_cases hj : j < x.length
    · rw [List.getElem?_range hj, List.getElem?_eq_getElem hj]
      simp [List.getD_eq_getElem?_getD, List.getElem?_eq_getElem hj]
    · rw [List.getElem?_eq_none (by simp; omega), List.getElem?_eq_none (by omega)]
      rfl
  rw [e]
  clear e
  induction x with
  | nil => rfl
  | cons a r ih => simp only [List.map_cons, List.sum_cons, List.length_cons, ih]; omega
/-- What is read as data of the type []string holds all its letters. -/
theorem bulk_words {H : Type} {enc : TypeId × Value → H} {W : World} {fuel : Nat} {cs : List Value} {dat : DataW H} {ps : List MemPlace} (h : DataW.trod enc Tryd.prog W 0 (fun _ => true) true fuel 22 cs = some (dat, ps)) {x : List ByteArray} (hk : (Kd.slice 9 Kd.string).K W x cs) :
    (x.map (·.size)).sum + x.length ≤ Rows.uptoBulk dat := by
  obtain ⟨A, c, hcs, hlc, hC⟩ := hk
  rcases open_slice Tryd.underlying22 h with ⟨rfl, hx⟩ | ⟨a, len, cap, m, n, D, Pl, rfl, _, hl, hm, hmm, hx, hi⟩
  · have h0 : x.length = 0 := by
      injection hcs with h1 _
      injection h1 with _ h2 _
      exact h2.symm
    obtain rfl := List.eq_nil_of_length_eq_zero h0
    simp
  · have hmc : m = cap := by rw [hmm]; rfl
    subst hmc
    injection hcs with h1 _
    injection h1 with hA hlen _
    subst hlen
    subst hA
    obtain ⟨rfl, _⟩ := Prod.mk.inj hx
    have hD : ∀ i ∈ List.range x.length, D i = .lit (.string (x.getD i ⟨#[]⟩).data.toList) := fun i hir => by
      have hil : i < x.length := List.mem_range.1 hir
      obtain ⟨cs', hc, ht'⟩ := hi i (by omega)
      obtain ⟨_, hcl, hat⟩ := World.cells?_some hc
      obtain ⟨s, rfl, hx', _⟩ := DataW.trod_string Tryd.underlying9 ht'
      obtain ⟨hDi, _⟩ := Prod.mk.inj hx'
      rw [hDi]
      have hc9 : Tryd.prog.cellsOf 9 = 1 := by kernel_rfl
      have h1 := hat 0 (by rw [hc9]; exact Nat.zero_lt_one)
      obtain ⟨ad, c', e, _, hK, hc2⟩ := Kd.C_get hC ⟨#[]⟩ (i : Int) (by omega) (by omega)
      cases e
      rw [Int.toNat_natCast] at hK hc2
      have hK' : c' = [.string (x.getD i ⟨#[]⟩)] := hK
      have h2 := hc2 0 _ (by rw [hK']; rfl)
      rw [hc9] at h1
      have e2 : (a.add (i * 1)).add 0 = a.add (i * Kd.string.sz + 0) := by
        rw [Go.Deep.add_add]
        rfl
      rw [e2] at h1
      rw [h2] at h1
      rw [Value.string.inj (Option.some.inj h1)]
    have := bulk_strs D (fun i => x.getD i ⟨#[]⟩) (List.range x.length) hD
    rw [sum_range] at this
    simp only [Rows.uptoBulk]
    omega
theorem textOf_data (x : List ByteArray) : (textOf x).data.toList = Lib.join (x.map (·.data.toList)) [] := by
  unfold textOf strings_Join.j
  exact List.toList_toArray
theorem textOf_size (x : List ByteArray) : (textOf x).size = (x.map (·.size)).sum := (Lib.size_eq (textOf x)).trans ((congrArg List.length (textOf_data x)).trans (join_len x))
end Go.Proofs.YtehlmkgldcfciaaDoor.Files
