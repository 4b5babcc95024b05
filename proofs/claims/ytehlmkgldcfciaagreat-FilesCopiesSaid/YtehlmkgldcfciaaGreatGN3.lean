/- The parts of this proof that lie in one text. -/
import Derived.Test.YtehlmkgldcfciaaGreatGN2
import Derived.Test.YtehlmkgldcfciaaGreatGN1
import Derived.Maps.OwnSet
/- The file store: one file's step is the store's step; a file made; a file opened. -/
set_option linter.unusedVariables false
set_option linter.unusedSimpArgs false
namespace Go.Proofs.YtehlmkgldcfciaaGreat.Files
open Go.Proofs.YtehlmkgldcfciaaGreat.Common Go.Maps Go.ChangeMaps Go.WideMaps Go.Proofs.YtehlmkgldcfciaaGreat.F
open Go.RowKit Go.Proofs.YtehlmkgldcfciaaGreatW.PrintWords Go.Proofs.YtehlmkgldcfciaaGreatW.PrintLast Go.Proofs.YtehlmkgldcfciaaGreatW.PrintMore
def okP (ok : Nat → Prop) (W w' : World) : Nat → Prop := fun q => (ok q ∨ W.heap.size ≤ q) ∧ q < w'.heap.size
theorem filesL_look {L : List (Nat × AF)} {D : DataW Unit} (hm : MapIs D (L.map fun p => (p.2.key, .lit (.int .i64 p.1)))) (hn : (L.map (·.2.key)).Nodup) {fb : Nat} {f : AF} (hp : (fb, f) ∈ L) : D.atKey (.string f.F.name.data.toList) .nil = .lit (.int .i64 (fb : Nat)) := by
  rw [hm.at_]
  have h2 : ((L.map fun p => (p.2.key, (DataW.lit (.int .i64 (p.1 : Int)) : DataW Unit))).map (·.1)).Nodup := by
    rw [List.map_map]; exact hn
  have := look_of_mem h2 (p := (f.key, .lit (.int .i64 (fb : Int)))) (List.mem_map.2 ⟨(fb, f), hp, rfl⟩)
  rw [show f.F.name.data.toList = f.key from rfl, this]
  all_goals rfl
theorem filesL_none {L : List (Nat × AF)} {D : DataW Unit} (hm : MapIs D (L.map fun p => (p.2.key, .lit (.int .i64 p.1)))) {n : ByteArray} (hn : ∀ p ∈ L, p.2.F.name ≠ n) : look (L.map fun p => (p.2.key, (DataW.lit (.int .i64 (p.1 : Int)) : DataW Unit))) n.data.toList = none :=
  look_none.2 fun p hp => by
    obtain ⟨q, hq, rfl⟩ := List.mem_map.1 hp
    exact fun e => hn q hq (data_inj e)
theorem StoreParts.below {W w' : World} {ok : Nat → Prop} {sb mb : Nat} {L : List (Nat × AF)} {D : DataW Unit} {own : Nat → Nat} (h : StoreParts W ok sb L mb D own) (hb : Below W.heap.size W w') : StoreParts w' ok sb L mb D own :=
  ⟨h.oks, h.okm, (hb.block sb (h.lt sb h.oks)).trans h.S, (Chg.of_below hb (fun _ => False)).map h.M (fun h => h), h.mM, fun p hp => (h.files p hp).step (Chg.of_below hb (fun _ => False)) (fun _ _ h => h), h.ownm, fun k hk => Nat.lt_of_lt_of_le (h.lt k hk) hb.size, h.fbs, h.names⟩
theorem StoreParts.other {W w' : World} {ok S : Nat → Prop} {sb mb : Nat} {L : List (Nat × AF)} {D : DataW Unit} {own : Nat → Nat} (h : StoreParts W ok sb L mb D own) (hc : Chg W w' S) (hs : ∀ k, ok k → ¬ S k) : StoreParts w' ok sb L mb D own :=
  ⟨h.oks, h.okm, (hc.block sb (h.lt sb h.oks) (hs sb h.oks)).trans h.S, hc.map h.M (hs mb h.okm), h.mM, fun p hp => (h.files p hp).step hc (fun k hk => hs k hk.1), h.ownm, fun k hk => Nat.lt_of_lt_of_le (h.lt k hk) hc.size, h.fbs, h.names⟩
theorem StoreRep.other {W w' : World} {ok S : Nat → Prop} {sb : Nat} {L : List (Nat × AF)} (h : StoreRep W ok sb L) (hc : Chg W w' S) (hs : ∀ k, ok k → ¬ S k) : StoreRep w' ok sb L := by
  obtain ⟨mb, D, own, h⟩ := h
  exact ⟨mb, D, own, h.other hc hs⟩
theorem set_same {α : Type} {l : List α} {k : Nat} {x : α} (h : l[k]? = some x) : l.set k x = l := by
  apply List.ext_getElem?
  intro j
  rw [List.getElem?_set]
  split
  · rename_i e
    subst e
    split
    · exact h.symm
    · rename_i h2
      rw [List.getElem?_eq_none (by omega)]
  · rfl
theorem mem_set_of {α : Type} {l : List α} {k : Nat} {x y : α} (h : x ∈ l.set k y) : x = y ∨ ∃ j, j ≠ k ∧ l[j]? = some x := by
  obtain ⟨j, hj, e⟩ := List.getElem_of_mem h
  rw [List.length_set] at hj
  by_cases hjk : j = k
  · subst hjk
    rw [List.getElem_set_self] at e
    exact .inl e.symm
  · rw [List.getElem_set_ne (Ne.symm hjk)] at e
    exact .inr ⟨j, hjk, by rw [List.getElem?_eq_getElem hj, e]⟩
theorem StoreParts.step {W w' : World} {ok : Nat → Prop} {sb mb fb k : Nat} {L : List (Nat × AF)} {D : DataW Unit} {own : Nat → Nat} {f f' : AF} (h : StoreParts W ok sb L mb D own) (hk : L[k]? = some (fb, f)) (hkey : f'.key = f.key)
    (hf : FileRep w' (fun q => (ok q ∧ own q = fb) ∨ W.heap.size ≤ q) fb f') (hc : Chg W w' (fun q => ok q ∧ own q = fb)) : StoreRep w' (okP ok W w') sb (L.set k (fb, f')) ∧ Chg W w' ok := by
  have hmem : (fb, f) ∈ L := List.mem_of_getElem? hk
  have hkl : k < L.length := (List.getElem?_eq_some_iff.1 hk).1
  have e1 : (L.set k (fb, f')).map (fun p => (p.2.key, (DataW.lit (.int .i64 (p.1 : Int)) : DataW Unit))) = L.map fun p => (p.2.key, .lit (.int .i64 p.1)) := by
    rw [List.map_set, hkey]
    refine set_same ?_
    rw [List.getElem?_map, hk]; rfl
  have e2 : (L.set k (fb, f')).map (·.1) = L.map (·.1) := by
    rw [List.map_set]
    refine set_same ?_
    rw [List.getElem?_map, hk]; rfl
  have e3 : (L.set k (fb, f')).map (·.2.key) = L.map (·.2.key) := by
    rw [List.map_set, hkey]
    refine set_same ?_
    rw [List.getElem?_map, hk]; rfl
  have hom := h.ownm _ hmem
  have hoks : okP ok W w' sb := ⟨.inl h.oks, Nat.lt_of_lt_of_le (h.lt sb h.oks) hc.size⟩
  have hokm : okP ok W w' mb := ⟨.inl h.okm, Nat.lt_of_lt_of_le (h.lt mb h.okm) hc.size⟩
  refine ⟨⟨mb, D, fun q => if q < W.heap.size then own q else fb, ⟨hoks, hokm, ?_, ?_, ?_, ?_, ?_, fun q hq => hq.2, ?_, ?_⟩⟩, hc.mono (fun q hq => hq.1)⟩
  · exact (hc.block sb (h.lt sb h.oks) (fun hq => hom.2 hq.2)).trans h.S
  · exact hc.map h.M (fun hq => hom.1 hq.2)
  · rw [e1]; exact h.mM
  · intro p hp
    rcases mem_set_of hp with rfl | ⟨j, hj, hjp⟩
    · obtain ⟨A, rc, uv, ub, DU, P⟩ := hf
      refine ⟨A, rc, uv, ub, DU, P.bound.mono (fun q hq => ?_)⟩
      obtain ⟨hq1 | hq1, hq2⟩ := hq
      · exact ⟨⟨.inl hq1.1, hq2⟩, by show (if q < W.heap.size then own q else fb) = fb; rw [if_pos (h.lt q hq1.1)]; exact hq1.2⟩
      · exact ⟨⟨.inr hq1, hq2⟩, by show (if q < W.heap.size then own q else fb) = fb; rw [if_neg (by omega)]⟩
    · have hjl : j < L.length := (List.getElem?_eq_some_iff.1 hjp).1
      have hne : p.1 ≠ fb := by
        intro e
        have h1 : (L.map (·.1))[j]? = some p.1 := by rw [List.getElem?_map, hjp]; rfl
        have h2 : (L.map (·.1))[k]? = some fb := by rw [List.getElem?_map, hk]; rfl
        have := (List.getElem?_inj (by rw [List.length_map]; exact hjl) h.fbs).1 (h1.trans (by rw [e]; exact h2.symm))
        exact hj this
      refine ((h.files p (List.mem_of_getElem? hjp)).step hc (fun q hq hq2 => hne (hq.2.symm.trans hq2.2))).mono (fun q hq => ?_)
      exact ⟨⟨.inl hq.1, Nat.lt_of_lt_of_le (h.lt q hq.1) hc.size⟩, by show (if q < W.heap.size then own q else fb) = p.1; rw [if_pos (h.lt q hq.1)]; exact hq.2⟩
  · intro p hp
    have hp1 : p.1 ∈ L.map (·.1) := by rw [← e2]; exact List.mem_map.2 ⟨p, hp, rfl⟩
    obtain ⟨q, hq, hqe⟩ := List.mem_map.1 hp1
    have := h.ownm q hq
    show (if mb < W.heap.size then own mb else fb) ≠ p.1 ∧ (if sb < W.heap.size then own sb else fb) ≠ p.1
    rw [if_pos (h.lt mb h.okm), if_pos (h.lt sb h.oks), ← hqe]
    exact this
  · rw [e2]; exact h.fbs
  · rw [e3]; exact h.names
def SOut (W : World) (ok : Nat → Prop) (sb : Nat) (v : Value) (st' : List AF) (e : Ending) (w' : World) : Prop := e = .returned v ∧ ∃ ok' L', StoreRep w' ok' sb L' ∧ L'.map (·.2) = st' ∧ Chg W w' ok ∧ ∀ q, ok' q → ok q ∨ W.heap.size ≤ q
theorem SOut.below {W w' : World} {ok : Nat → Prop} {sb : Nat} {L : List (Nat × AF)} {v : Value} (h : StoreRep W ok sb L) (hb : Below W.heap.size W w') : SOut W ok sb v (L.map (·.2)) (.returned v) w' :=
  ⟨rfl, ok, L, h.other (Chg.of_below hb (fun _ => False)) (fun _ _ h => h), rfl, Chg.of_below hb _, fun q hq => .inl hq⟩
theorem SOut.step {W w' : World} {ok : Nat → Prop} {sb mb fb k : Nat} {L : List (Nat × AF)} {D : DataW Unit} {own : Nat → Nat} {f f' : AF} {v : Value} (h : StoreParts W ok sb L mb D own) (hk : L[k]? = some (fb, f)) (hkey : f'.key = f.key)
    (hf : FileRep w' (fun q => (ok q ∧ own q = fb) ∨ W.heap.size ≤ q) fb f') (hc : Chg W w' (fun q => ok q ∧ own q = fb)) : SOut W ok sb v ((L.map (·.2)).set k f') (.returned v) w' := by
  obtain ⟨h1, h2⟩ := h.step hk hkey hf hc
  exact ⟨rfl, _, _, h1, by rw [List.map_set], h2, fun q hq => hq.1⟩
end Go.Proofs.YtehlmkgldcfciaaGreat.Files
/- The file store: New, Create and Open as steps of the store. -/
set_option linter.unusedVariables false
set_option linter.unusedSimpArgs false
namespace Go.Proofs.YtehlmkgldcfciaaGreat.Files
open Go.Proofs.YtehlmkgldcfciaaGreat.Common Go.Maps Go.ChangeMaps Go.WideMaps Go.Proofs.YtehlmkgldcfciaaGreat.F
open Go.RowKit Go.Proofs.YtehlmkgldcfciaaGreatW.PrintWords Go.Proofs.YtehlmkgldcfciaaGreatW.PrintLast Go.Proofs.YtehlmkgldcfciaaGreatW.PrintMore
def NewOut (w : World) (e : Ending) (w' : World) : Prop := ∃ sb ok, e = .returned (.pointer (some ⟨sb, 0, none⟩)) ∧ StoreRep w' ok sb [] ∧ Below w.heap.size w w' ∧ ∀ q, ok q → w.heap.size ≤ q
theorem S_New (w : World) : Calls Tryz.prog 5 #[] w (NewOut w) := by
  refine (New_c w).mono ?_
  rintro e w' ⟨rfl, rfl⟩
  have hM := (World.ownsMap_made w Tryz.prog 9 Rp).alloc (.cells #[.map (some w.heap.size)] 43)
  have hsz : ((w.alloc (.map #[] 0)).alloc (.cells #[.map (some w.heap.size)] 43)).heap.size = w.heap.size + 2 := by simp
  have hS : Boxed ((w.alloc (.map #[] 0)).alloc (.cells #[.map (some w.heap.size)] 43)) (w.heap.size + 1) 43 (.map (some w.heap.size)) := by
    have := Boxed.new (w.alloc (.map #[] 0)) 43 (.map (some w.heap.size))
    rwa [World.size_alloc] at this
  refine ⟨w.heap.size + 1, fun q => w.heap.size ≤ q ∧ q < w.heap.size + 2, rfl, ⟨w.heap.size, .map [], fun _ => 0, ?_⟩, ((Below.refl _ _).alloc (Nat.le_refl _) _).alloc (by simp) _, fun q hq => hq.1⟩
  exact ⟨⟨by omega, by omega⟩, ⟨by omega, by omega⟩, hS, ownsMap_tight hM, MapIs.nil, (fun p hp => by cases hp), (fun p hp => by cases hp), fun k hk => by rw [hsz]; exact hk.2, List.nodup_nil, List.nodup_nil⟩
def newF (u n : ByteArray) (kind perm : Int) : AF := ⟨⟨n, kind, perm, u, ByteArray.empty, 0, 0⟩, [], [⟨ByteArray.empty, ByteArray.empty, 0⟩], []⟩
theorem new_parts (W : World) (u n : ByteArray) (kind perm : Int) (W3 : World) (h : ((W.alloc (.cells #[.string ByteArray.empty, .string ByteArray.empty, .int .i64 0] 29)).alloc (.map #[] 0)).alloc (.cells (FS.cells ⟨n, kind, perm, u, ByteArray.empty, 0, 0⟩ (.slice none 0 0) (.slice (some ⟨W.heap.size, 0, none⟩) 1 1) (W.heap.size + 1)) 92) = W3) :
    FileParts W3 (fun q => W.heap.size ≤ q) (W.heap.size + 2) (newF u n kind perm) none 0 (.slice (some ⟨W.heap.size, 0, none⟩) 1 1) (W.heap.size + 1) (.map []) ∧ Below W.heap.size W W3 ∧ W3.heap.size = W.heap.size + 3 := by
  subst h
  have hU := (World.ownsMap_made (W.alloc (.cells #[.string ByteArray.empty, .string ByteArray.empty, .int .i64 0] 29)) Tryz.prog 9 Ro).alloc (.cells (FS.cells ⟨n, kind, perm, u, ByteArray.empty, 0, 0⟩ (.slice none 0 0) (.slice (some ⟨W.heap.size, 0, none⟩) 1 1) (W.heap.size + 1)) 92)
  rw [World.size_alloc] at hU
  have hF := heap_alloc_new ((W.alloc (.cells #[.string ByteArray.empty, .string ByteArray.empty, .int .i64 0] 29)).alloc (.map #[] 0)) (.cells (FS.cells ⟨n, kind, perm, u, ByteArray.empty, 0, 0⟩ (.slice none 0 0) (.slice (some ⟨W.heap.size, 0, none⟩) 1 1) (W.heap.size + 1)) 92)
  rw [World.size_alloc, World.size_alloc] at hF
  refine ⟨⟨by omega, hF, Kd.R_nil _ _ _ _ _, ?_, by omega, ownsMap_tight hU, MapIs.nil⟩, (((Below.refl _ _).alloc (Nat.le_refl _) _).alloc (by simp) _).alloc (by simp <;> omega) _, by simp⟩
  refine R_of_uRow' ⟨rfl, .inr ⟨W.heap.size, 1, #[.string ByteArray.empty, .string ByteArray.empty, .int .i64 0], rfl, Nat.zero_le _, ?_, Nat.le_refl _, by decide, rfl, rfl⟩⟩ (fun k hk => by
    have : W.heap.size = k := by simpa [Value.ownBlock] using hk
    omega)
  rw [Below.heap_alloc _ _ _ (by simp <;> omega), Below.heap_alloc _ _ _ (by simp)]
  exact heap_alloc_new W _
theorem S_Create_ok (sb : Nat) (ok : Nat → Prop) (L : List (Nat × AF)) (u n : ByteArray) (kind perm : Int) (W : World) (hR : StoreRep W ok sb L)
    (hu : 1 ≤ u.size ∧ u.size ≤ 20) (hn : 1 ≤ n.size ∧ n.size ≤ 30) (hkd : 0 ≤ kind ∧ kind ≤ 2) (hpm : 0 ≤ perm ∧ perm ≤ 255) (hno : ∀ p ∈ L, p.2.F.name ≠ n) (hlen : L.length < 30) :
    Calls Tryz.prog 16 #[.pointer (some ⟨sb, 0, none⟩), .string u, .string n, .int .i64 kind, .int .i64 perm] W (SOut W ok sb (.int .i64 0) (L.map (·.2) ++ [newF u n kind perm])) := by
  obtain ⟨mb, D, own, R⟩ := hR
  have hlook := filesL_none R.mM hno
  have hD : D.atKey (.string n.data.toList) .nil = .nil := by rw [R.mM.at_, hlook]; rfl
  have hsz : Maps.size D = L.length := by rw [R.mM.size, List.length_map]
  refine (Create_c sb mb _ D u n kind perm W R.S.cell R.M (by omega) hu hn hkd hpm hD (by omega)).mono ?_
  rintro e w' ⟨rfl, W3, hW3, hM', hT⟩
  obtain ⟨P3, hb3, hs3⟩ := new_parts W u n kind perm W3 hW3
  have hmb := R.M.lt
  have hsb := R.S.lt
  have hne : sb ≠ mb := fun e => by
    have h1 := R.S
    obtain ⟨es, clock, hb, _⟩ := R.M
    rw [← e] at hb
    exact absurd (h1.symm.trans hb) (by simp)
  have hcT : Chg W3 w' (fun q => q = mb) := Chg.of_turned hT rfl
  have hsz' : w'.heap.size = W3.heap.size := by
    obtain ⟨_, _, _, _, _, rfl⟩ := hT
    simp [setBlock]
  have hcW : Chg W w' ok := ((Chg.of_below hb3 (fun _ => False)).mono (fun _ h => h.elim)).trans hcT (fun q hq => .inl (by rw [hq]; exact R.okm))
  have hfbs : ∀ p ∈ L, p.1 < W.heap.size ∧ p.1 ≠ mb := fun p hp => by
    obtain ⟨A, rc, uv, ub, DU, P⟩ := R.files p hp
    exact ⟨blk_lt P.F, Ne.symm (blk_map_ne P.F R.M)⟩
  refine ⟨rfl, okP ok W w', L ++ [(W.heap.size + 2, newF u n kind perm)], ⟨mb, D.put (.string n.data.toList) (.lit (.int .i64 (W.heap.size + 2 : Nat))), fun q => if q = mb ∨ q = sb then mb else if q < W.heap.size then own q else W.heap.size + 2, ?_⟩, by simp, hcW, fun q hq => hq.1⟩
  have hmap : (L ++ [(W.heap.size + 2, newF u n kind perm)]).map (fun p => (p.2.key, (DataW.lit (.int .i64 (p.1 : Int)) : DataW Unit))) = L.map (fun p => (p.2.key, (DataW.lit (.int .i64 (p.1 : Int)) : DataW Unit))) ++ [(n.data.toList, .lit (.int .i64 (W.heap.size + 2 : Nat)))] := by
    rw [List.map_append]; rfl
  refine ⟨⟨.inl R.oks, by omega⟩, ⟨.inl R.okm, by omega⟩, ?_, ownsMap_tight hM', ?_, ?_, ?_, fun q hq => hq.2, ?_, ?_⟩
  · exact (hcT.block sb (by omega) hne).trans ((hb3.block sb hsb).trans R.S)
  · rw [hmap]
    exact R.mM.put _ _ hlook
  · intro p hp
    rcases List.mem_append.1 hp with hp | hp
    · refine (((R.files p hp).step (Chg.of_below hb3 (fun _ => False)) (fun _ _ h => h)).step hcT (fun q hq e => (R.ownm p hp).1 (by rw [← e]; exact hq.2))).mono (fun q hq => ?_)
      have hqlt := R.lt q hq.1
      refine ⟨⟨.inl hq.1, by omega⟩, ?_⟩
      have h1 : ¬ (q = mb ∨ q = sb) := fun h => h.elim (fun e => (R.ownm p hp).1 (by rw [← e]; exact hq.2)) (fun e => (R.ownm p hp).2 (by rw [← e]; exact hq.2))
      show (if q = mb ∨ q = sb then mb else if q < W.heap.size then own q else W.heap.size + 2) = p.1
      rw [if_neg h1, if_pos hqlt]
      exact hq.2
    · obtain rfl := List.mem_singleton.1 hp
      refine ⟨_, _, _, _, _, (P3.step hcT (fun q hq => by omega)).bound.mono (fun q hq => ⟨⟨.inr hq.1, hq.2⟩, ?_⟩)⟩
      show (if q = mb ∨ q = sb then mb else if q < W.heap.size then own q else W.heap.size + 2) = W.heap.size + 2
      have hq1 := hq.1
      rw [if_neg (by omega), if_neg (by omega)]
  · intro p hp
    have h2 : p.1 ≠ mb := by
      rcases List.mem_append.1 hp with hp | hp
      · exact (hfbs p hp).2
      · obtain rfl := List.mem_singleton.1 hp
        show W.heap.size + 2 ≠ mb
        omega
    show (if mb = mb ∨ mb = sb then mb else _) ≠ p.1 ∧ (if sb = mb ∨ sb = sb then mb else _) ≠ p.1
    rw [if_pos (.inl rfl), if_pos (.inr rfl)]
    exact ⟨Ne.symm h2, Ne.symm h2⟩
  · rw [List.map_append, List.nodup_append]
    refine ⟨R.fbs, by simp, fun a ha b hb e => ?_⟩
    obtain ⟨p, hp, rfl⟩ := List.mem_map.1 ha
    have := (hfbs p hp).1
    have hb' : b = W.heap.size + 2 := by simpa using hb
    omega
  · rw [List.map_append, List.nodup_append]
    refine ⟨R.names, by simp, fun a ha b hb e => ?_⟩
    obtain ⟨p, hp, rfl⟩ := List.mem_map.1 ha
    have hb' : b = n.data.toList := by simpa [newF, AF.key] using hb
    exact hno p hp (data_inj (e.trans hb'))
def freeB (l : List (ByteArray × (Int × Int))) (actions exclusive : Int) : Bool := l.all fun p => decide (bits .and .i64 p.2.2 actions = 0) && decide (bits .and .i64 exclusive p.2.1 = 0)
theorem openD_inj {p q : Int × Int} (h : openD p = openD q) : p = q := by
  unfold openD at h
  simp only [DataW.agg.injEq, List.cons.injEq, DataW.lit.injEq, Lit.int.injEq, true_and, and_true] at h
  exact Prod.ext h.1 h.2
theorem users_keys (l : List (ByteArray × (Int × Int))) : (usersL l).map (·.1) = l.map (fun p => p.1.data.toList) := by simp [usersL]
theorem free_iff {DU : DataW Unit} {l : List (ByteArray × (Int × Int))} (h : MapIs DU (usersL l)) (hn : (l.map (fun p => p.1.data.toList)).Nodup) (actions exclusive : Int) : Free DU actions exclusive ↔ freeB l actions exclusive = true := by
  unfold Free freeB
  rw [List.all_eq_true]
  constructor
  · intro hf p hp
    have h1 : look (usersL l) p.1.data.toList = some (openD p.2) := look_of_mem (by rw [users_keys]; exact hn) (p := (p.1.data.toList, openD p.2)) (List.mem_map.2 ⟨p, hp, rfl⟩)
    have h2 := hf p.1.data.toList p.2.1 p.2.2 (fun zd => by rw [h.at_, h1]; rfl)
    simp [h2.1, h2.2]
  · intro hf k a b hz
    have h1 := hz .nil
    rw [h.at_] at h1
    cases hl : look (usersL l) k with
    | none => rw [hl] at h1; cases h1
    | some d =>
      rw [hl] at h1
      obtain ⟨p, hp, he⟩ := List.mem_map.1 (look_mem hl)
      injection he with he1 he2
      have h3 : openD p.2 = openD (a, b) := he2.trans h1
      have h4 := openD_inj h3
      have h5 := hf p hp
      rw [h4] at h5
      simpa using h5
def AF.opened (f : AF) (u : ByteArray) (a x : Int) : AF := { f with users := f.users ++ [(u, (a, x))] }
theorem S_Open (sb fb k : Nat) (ok : Nat → Prop) (L : List (Nat × AF)) (f : AF) (u n : ByteArray) (actions exclusive : Int) (W : World) (hR : StoreRep W ok sb L) (hk : L[k]? = some (fb, f)) (hnm : f.F.name = n)
    (hu : 1 ≤ u.size ∧ u.size ≤ 20) (hn : 1 ≤ n.size ∧ n.size ≤ 30) (hact : 0 ≤ actions ∧ actions ≤ 255) (hexc : 0 ≤ exclusive ∧ exclusive ≤ 255) (hsub : bits .andNot .i64 exclusive actions = 0)
    (hhas : lookU f.users u = none) (hmay : mayB f.F f.rules u actions = true) (hnd : (f.users.map (fun p => p.1.data.toList)).Nodup) (hul : f.users.length < 1000) :
    Calls Tryz.prog 20 #[.pointer (some ⟨sb, 0, none⟩), .string u, .string n, .int .i64 actions, .int .i64 exclusive] W
      (SOut W ok sb (.int .i64 (if freeB f.users actions exclusive then 0 else 12)) (if freeB f.users actions exclusive then (L.map (·.2)).set k (f.opened u actions exclusive) else L.map (·.2))) := by
  have hR0 := hR
  obtain ⟨mb, D, own, R⟩ := hR
  obtain ⟨A, rc, uv, ub, DU, P⟩ := R.files _ (List.mem_of_getElem? hk)
  have hD := filesL_look R.mM R.names (List.mem_of_getElem? hk)
  rw [hnm] at hD
  have hlook : look (usersL f.users) u.data.toList = none := by rw [look_users, hhas]; rfl
  have hh : Maps.has DU (.string u.data.toList) = false := by rw [P.mU.has, hlook]; rfl
  have hsz : Maps.size DU = f.users.length := by rw [P.mU.size]; simp [usersL]
  obtain ⟨_, hrc, hrC⟩ := Kd.R_reads' P.rules
  refine (Open_c sb mb _ fb ub _ rc D DU f.F A f.rules uv u n actions exclusive W R.S.cell R.M hu hn hD P.F P.U (by omega) hrC hrc hact hexc hsub hh hmay).mono ?_
  rintro e w' (⟨rfl, hf, hM', w3, hb3, hT⟩ | ⟨rfl, hf, hb⟩)
  · rw [(free_iff P.mU hnd actions exclusive).1 hf]
    have hcT : Chg w3 w' (fun q => q = ub) := Chg.of_turned hT rfl
    have hcW : Chg W w' (fun q => q = ub) := ((Chg.of_below hb3 (fun _ => False)).mono (fun _ h => h.elim)).trans hcT (fun q hq => .inl hq)
    have hF' : FileAt w' fb f.F (.slice A f.rules.length rc) uv ub := (hcW.block fb (blk_lt P.F) (Ne.symm (blk_map_ne P.F P.U))).trans P.F
    have hne : ∀ q cells t, W.heap[q]? = some (.cells cells t (0, 0)) → q ≠ ub := fun q cells t h => Ne.symm (blk_map_ne h P.U)
    have hrow : ∀ {α : Type} {d : Kd α} {e0 : Nat} {v : Value} {xs : List α}, d.R e0 W 0 (fun q => ok q ∧ own q = fb) v xs → d.R e0 w' 0 (fun q => ok q ∧ own q = fb) v xs := fun h =>
      Kd.R_mono (hcW.row (Kd.R_bound h) (fun q hq => by
        obtain ⟨_, _, _, t, _, cells, hc⟩ := hq
        exact hne q cells t hc)) (fun q hq => hq.1)
    have hput := P.mU.put u.data.toList (openD (actions, exclusive)) hlook
    have e : usersL (f.opened u actions exclusive).users = usersL f.users ++ [(u.data.toList, openD (actions, exclusive))] := by simp [usersL, AF.opened]
    have P' : FileParts w' (fun q => ok q ∧ own q = fb) fb (f.opened u actions exclusive) A rc uv ub _ := ⟨P.okb, hF', hrow P.rules, hrow P.units, P.oku, ownsMap_tight hM', by rw [e]; exact hput⟩
    exact SOut.step R hk rfl ⟨A, rc, uv, ub, _, P'.mono (fun q hq => .inl hq)⟩ (hcW.mono (fun q hq => by rw [hq]; exact P.oku))
  · have : freeB f.users actions exclusive = false := by
      cases h : freeB f.users actions exclusive with
      | false => rfl
      | true => exact absurd ((free_iff P.mU hnd actions exclusive).2 h) hf
    rw [this]
    exact SOut.below hR0 hb
end Go.Proofs.YtehlmkgldcfciaaGreat.Files
/- The file store: Insert and Read as steps of the store; the example of the chapter. -/
set_option linter.unusedVariables false
set_option linter.unusedSimpArgs false
namespace Go.Proofs.YtehlmkgldcfciaaGreat.Files
open Go.Proofs.YtehlmkgldcfciaaGreat.Common Go.Maps Go.ChangeMaps Go.WideMaps Go.Proofs.YtehlmkgldcfciaaGreat.F
open Go.RowKit Go.Proofs.YtehlmkgldcfciaaGreatW.PrintWords Go.Proofs.YtehlmkgldcfciaaGreatW.PrintLast Go.Proofs.YtehlmkgldcfciaaGreatW.PrintMore
theorem StoreParts.way {W : World} {ok : Nat → Prop} {sb mb fb k : Nat} {L : List (Nat × AF)} {D : DataW Unit} {own : Nat → Nat} {f : AF} {u n : ByteArray} (R : StoreParts W ok sb L mb D own) (hk : L[k]? = some (fb, f)) (hnm : f.F.name = n) (hu : 1 ≤ u.size ∧ u.size ≤ 20) (hn : 1 ≤ n.size ∧ n.size ≤ 30) :
    FoundOk W (.pointer (some ⟨sb, 0, none⟩)) u n fb ∧ FileRep W (fun q => ok q ∧ own q = fb) fb f := by
  have hD := filesL_look R.mM R.names (List.mem_of_getElem? hk)
  rw [hnm] at hD
  exact ⟨View.found ⟨R.S.cell, R.M, hu, hn⟩ hD, R.files _ (List.mem_of_getElem? hk)⟩
structure UOk (l : List S29) : Prop where
  pos : 1 ≤ l.length
  len : l.length ≤ 100
  lev : ∀ j, 0 ≤ lv l j ∧ lv l j ≤ 1000
  root : lv l 0 = 0
theorem S_Insert_ok (sb fb k i : Nat) (ok : Nat → Prop) (L : List (Nat × AF)) (f : AF) (u n : ByteArray) (child : Bool) (a b : ByteArray) (lev0 ac ex : Int) (W : World) (hR : StoreRep W ok sb L) (hk : L[k]? = some (fb, f)) (hnm : f.F.name = n)
    (hu : 1 ≤ u.size ∧ u.size ≤ 20) (hn : 1 ≤ n.size ∧ n.size ≤ 30) (hlook : lookU f.users u = some (ac, ex)) (hU : UOk f.units) (hi : i < f.units.length) (h1 : a.size ≤ 30) (h2 : b.size ≤ 400) (hbad : insBad f.F.kind (insLev f.units i child) = false)
    (hcl : clashB f.units (kids f.units (aboveOf f.units (insLev f.units i child) i)) a = false) (hdn : denied ac 2 = 0) (hfull : f.units.length < 100) :
    Calls Tryz.prog 30 #[.pointer (some ⟨sb, 0, none⟩), .string u, .string n, .int .i64 (i : Int), .bool child, .agg #[.string a, .string b, .int .i64 lev0]] W (SOut W ok sb (.int .i64 0) ((L.map (·.2)).set k (f.ins u i ⟨a, b, insLev f.units i child⟩))) := by
  obtain ⟨mb, D, own, R⟩ := hR
  obtain ⟨HF, A, rc, uv, ub, DU, P⟩ := R.way hk hnm hu hn
  have HO := opened_ok _ u n 2 W _ fb rc ub f A uv DU ac ex HF P (by omega) hlook
  rw [hdn] at HO
  have HU := unit_ok _ u n (i : Int) 2 0 W _ fb rc ub f A uv DU HO P (by omega) (by omega)
  refine (Insert_ok _ u n i fb rc ub child a b lev0 0 f A uv DU _ W HU P hi (by have := hU.len; omega) h1 h2 hU.lev hU.root hbad hcl rfl hfull).mono ?_
  rintro e w' ⟨rfl, uv', hP, hC⟩
  exact SOut.step R hk rfl ⟨A, rc, uv', ub, DU, hP⟩ hC
def RdOut (W : World) (ok : Nat → Prop) (sb : Nat) (l : List S29) (E : Int) (st' : List AF) (e : Ending) (w' : World) : Prop := ∃ v, SOut W ok sb (.tuple #[v, .int .i64 E]) st' e w' ∧ Kd.R k29 29 w' W.heap.size (fun _ => True) v l
theorem S_Read_ok (sb fb k i : Nat) (ok : Nat → Prop) (L : List (Nat × AF)) (f : AF) (u n : ByteArray) (whole : Bool) (ac ex : Int) (W : World) (hR : StoreRep W ok sb L) (hk : L[k]? = some (fb, f)) (hnm : f.F.name = n)
    (hu : 1 ≤ u.size ∧ u.size ≤ 20) (hn : 1 ≤ n.size ∧ n.size ≤ 30) (hlook : lookU f.users u = some (ac, ex)) (hU : UOk f.units) (hi : i < f.units.length) (hdn : denied ac 1 = 0) :
    Calls Tryz.prog 26 #[.pointer (some ⟨sb, 0, none⟩), .string u, .string n, .int .i64 (i : Int), .bool whole] W (RdOut W ok sb (readL f.units i whole) 0 ((L.map (·.2)).set k f.read)) := by
  obtain ⟨mb, D, own, R⟩ := hR
  obtain ⟨HF, A, rc, uv, ub, DU, P⟩ := R.way hk hnm hu hn
  have HO := opened_ok _ u n 1 W _ fb rc ub f A uv DU ac ex HF P (by omega) hlook
  rw [hdn] at HO
  have HU := unit_ok _ u n (i : Int) 1 0 W _ fb rc ub f A uv DU HO P (by omega) (by omega)
  refine (Read_ok _ u n i fb rc ub whole f A uv DU _ W HU P hi (by have := hU.len; omega)).mono ?_
  rintro e w' ⟨v, rfl, hr, hP, hC⟩
  exact ⟨v, SOut.step R hk rfl ⟨A, rc, uv, ub, DU, hP.mono (fun q hq => .inl hq)⟩ (hC.mono (fun q hq => by rw [hq]; exact P.okb)), hr⟩
def su : ByteArray := ⟨#[117]⟩
def sf : ByteArray := ⟨#[102]⟩
def sa : ByteArray := ⟨#[97]⟩
def sb_ : ByteArray := ⟨#[98]⟩
def s1 : ByteArray := ⟨#[49]⟩
def s2 : ByteArray := ⟨#[50]⟩
def F0 : AF := newF su sf 2 255
def F1 : AF := F0.opened su 255 0
def F2 : AF := F1.ins su 0 ⟨sa, s1, insLev F1.units 0 true⟩
def F3 : AF := F2.ins su 1 ⟨sb_, s2, insLev F2.units 1 false⟩
theorem F1_units : F1.units = [⟨ByteArray.empty, ByteArray.empty, 0⟩] := rfl
theorem F2_units : F2.units = [⟨ByteArray.empty, ByteArray.empty, 0⟩, ⟨sa, s1, 1⟩] := rfl
theorem F3_units : F3.units = [⟨ByteArray.empty, ByteArray.empty, 0⟩, ⟨sa, s1, 1⟩, ⟨sb_, s2, 1⟩] := rfl
theorem uok_of {l : List S29} (h0 : 1 ≤ l.length) (h1 : l.length ≤ 100) (h2 : ∀ x ∈ l, 0 ≤ x.f2 ∧ x.f2 ≤ 1000) (h3 : lv l 0 = 0) : UOk l := ⟨h0, h1, fun j => by
  unfold lv
  by_cases h : j < l.length
  · rw [rd_get l j h]; exact h2 _ (List.getElem_mem h)
  · have : rd_T29 l (j : Int) = z29 := by simp [rd_T29, List.getElem?_eq_none (by omega : l.length ≤ j)]
    rw [this]
    decide, h3⟩
end Go.Proofs.YtehlmkgldcfciaaGreat.Files
/- The file store: Close, Change, and Open of what is no set. -/
set_option linter.unusedVariables false
set_option linter.unusedSimpArgs false
namespace Go.Proofs.YtehlmkgldcfciaaGreat.Files
open Go.Proofs.YtehlmkgldcfciaaGreat.Common Go.Maps Go.ChangeMaps Go.WideMaps Go.Proofs.YtehlmkgldcfciaaGreat.F
open Go.RowKit Go.Proofs.YtehlmkgldcfciaaGreatW.PrintWords Go.Proofs.YtehlmkgldcfciaaGreatW.PrintLast Go.Proofs.YtehlmkgldcfciaaGreatW.PrintMore
def setB (n : Int) : Bool := decide (0 ≤ n) && decide (n ≤ 255)
theorem Open_arg (sp : Value) (u n : ByteArray) (actions exclusive : Int) (W : World) (h : (setB actions && setB exclusive && decide (bits .andNot .i64 exclusive actions = 0)) = false) :
    Calls Tryz.prog 20 #[sp, .string u, .string n, .int .i64 actions, .int .i64 exclusive] W fun e w' => e = .returned (.int .i64 1) ∧ Below W.heap.size W w' := by
  have CA := Aside0.mk (set_c actions W)
  have CE := Aside0.mk (set_c exclusive W)
  by_cases h1 : setB actions = true
  · rw [show (decide (0 ≤ actions) && decide (actions ≤ 255)) = true from h1] at CA
    by_cases h2 : setB exclusive = true
    · rw [show (decide (0 ≤ exclusive) && decide (exclusive ≤ 255)) = true from h2] at CE
      rw [h1, h2] at h
      have h3 : ¬ bits .andNot .i64 exclusive actions = 0 := by simpa using h
      have g3 : (bits .andNot .i64 exclusive actions == 0) = false := by simpa using h3
      have g4 : (bits .andNot .i64 exclusive actions != 0) = true := by simpa using h3
      clear h h1 h2 h3
      go_enter Tryz.func20, Tryz.ntmps20
      go_wp2_with first | (go_at_call 55; first | ((with_reducible refine CA.out.mono ?_); rintro e w' ⟨rfl, rfl⟩) | ((with_reducible refine CE.out.mono ?_); rintro e w' ⟨rfl, rfl⟩))
      go_ret
      exact ⟨rfl, Below.refl _ _⟩
    · rw [show (decide (0 ≤ exclusive) && decide (exclusive ≤ 255)) = false from Bool.eq_false_iff.2 h2] at CE
      clear h h1 h2
      go_enter Tryz.func20, Tryz.ntmps20
      go_wp2_with first | (go_at_call 55; first | ((with_reducible refine CA.out.mono ?_); rintro e w' ⟨rfl, rfl⟩) | ((with_reducible refine CE.out.mono ?_); rintro e w' ⟨rfl, rfl⟩))
      go_ret
      exact ⟨rfl, Below.refl _ _⟩
  · rw [show (decide (0 ≤ actions) && decide (actions ≤ 255)) = false from Bool.eq_false_iff.2 h1] at CA
    clear h h1 CE
    go_enter Tryz.func20, Tryz.ntmps20
    go_wp2_with first | (go_at_call 55; refine CA.out.mono ?_; rintro e w' ⟨rfl, rfl⟩)
    go_ret
    exact ⟨rfl, Below.refl _ _⟩
def AF.closed (f : AF) (u : ByteArray) : AF := { f with users := f.users.filter fun p => !decide (p.1 = u) }
theorem usersL_closed (l : List (ByteArray × (Int × Int))) (u : ByteArray) : usersL (l.filter fun p => !decide (p.1 = u)) = drop_ (usersL l) u.data.toList := by
  induction l with
  | nil => rfl
  | cons p l ih =>
    unfold drop_ usersL at *
    rw [List.filter_cons, List.map_cons, List.filter_cons]
    by_cases h : p.1 = u
    · rw [if_neg (by simp [h]), if_neg (by simp [h])]; exact ih
    · have h2 : ¬ p.1.data.toList = u.data.toList := fun e => h (data_inj e)
      rw [if_pos (by simp [h]), if_pos (by simp [h2]), List.map_cons, ih]
theorem FileParts.newUsers {W w1 w' : World} {ok : Nat → Prop} {fb rc ub n : Nat} {f : AF} {A : Option Addr} {uv : Value} {DU DU' : DataW Unit} (P : FileParts W ok fb f A rc uv ub DU) (hb : Below W.heap.size W w1) (hT : w1.mapTurned w' ub) (hM : w'.ownsMap Tryz.prog 9 Ro ub n DU') (us : List (ByteArray × (Int × Int))) (hm : MapIs DU' (usersL us)) :
    FileParts w' ok fb { f with users := us } A rc uv ub DU' ∧ Chg W w' (fun q => q = ub) := by
  have hcT : Chg w1 w' (fun q => q = ub) := Chg.of_turned hT rfl
  have hcW : Chg W w' (fun q => q = ub) := ((Chg.of_below hb (fun _ => False)).mono (fun _ h => h.elim)).trans hcT (fun q hq => .inl hq)
  have hF' : FileAt w' fb f.F (.slice A f.rules.length rc) uv ub := (hcW.block fb (blk_lt P.F) (Ne.symm (blk_map_ne P.F P.U))).trans P.F
  have hrow : ∀ {α : Type} {d : Kd α} {e0 : Nat} {v : Value} {xs : List α}, d.R e0 W 0 ok v xs → d.R e0 w' 0 ok v xs := fun h =>
    Kd.R_mono (hcW.row (Kd.R_bound h) (fun q hq => by
      obtain ⟨_, _, _, t, _, cells, hc⟩ := hq
      exact Ne.symm (blk_map_ne hc P.U))) (fun q hq => hq.1)
  exact ⟨⟨P.okb, hF', hrow P.rules, hrow P.units, P.oku, ownsMap_tight hM, hm⟩, hcW⟩
def CloseEnd (W : World) (ok : Nat → Prop) (fb rc ub : Nat) (f : AF) (A : Option Addr) (uv : Value) (e : Ending) (w' : World) : Prop :=
  e = .returned (.int .i64 0) ∧ ∃ DU, FileParts w' ok fb f A rc uv ub DU ∧ Chg W w' (fun q => q = ub)
set_option maxRecDepth 100000 in
theorem Close_ok (sp : Value) (u n : ByteArray) (W : World) (ok : Nat → Prop) (fb rc ub : Nat) (f : AF) (A : Option Addr) (uv : Value) (DU : DataW Unit) (a b : Int) (HF : FoundOk W sp u n fb) (P : FileParts W ok fb f A rc uv ub DU) (hu : u.size ≤ 30) (hl : lookU f.users u = some (a, b)) (hnd : (f.users.map (fun p => p.1.data.toList)).Nodup) :
    Calls Tryz.prog 22 #[sp, .string u, .string n] W (CloseEnd W ok fb rc ub (f.closed u) A uv) := by
  have hkey := key_of hu
  obtain ⟨v, ps, hrun, hv⟩ := P.U.look_ok law9 Tryz.underlying88 (zeroO _) (zd := .agg [.lit (.int .i64 0), .lit (.int .i64 0)]) (zp := []) rfl hkey
  have hh : Maps.has DU (.string u.data.toList) = true := by rw [P.mU.has, look_users, hl]; rfl
  have hat : DU.atKey (.string u.data.toList) (.agg [.lit (.int .i64 0), .lit (.int .i64 0)]) = .agg [.lit (.int .i64 a), .lit (.int .i64 b)] := by rw [P.mU.at_, look_users, hl]; rfl
  rw [hat] at hv
  obtain rfl := Ro_at hv
  rw [hh] at hrun
  have c9 : W.cell? ⟨fb, 9, none⟩ = some (.map (some ub)) := (blk_cell P.F 9).trans rfl
  have c9' : (W.alloc (.cells #[.int .i64 a, .int .i64 b] 90)).cell? ⟨fb, 9, none⟩ = some (.map (some ub)) := Lib.cell?_alloc_some _ c9
  have CF := Aside0.mk (HF W (Below.refl _ _))
  have HP := Aside0.mk P
  have hM := P.U.alloc (.cells #[.int .i64 a, .int .i64 b] 90)
  have HMD := Aside0.mk (P.mU.del (by rw [users_keys]; exact hnd) u.data.toList)
  clear HF P hh hv hl hat
  go_enter Tryz.func22, Tryz.ntmps22
  go_wp2_with first | (go_at_call 58; refine CF.out.mono ?_; rintro e w' ⟨rfl, rfl⟩) | (at_delete; refine wpList_delete_own _ rfl _ _ 88 9 rfl 90 law9 Tryz.underlying88 _ ub _ DU rfl hM _ _ rfl hkey ?_; intro w4 hown4 hturn4)
  go_ret
  obtain ⟨h1, h2⟩ := HP.out.newUsers ((Below.refl _ _).alloc (Nat.le_refl _) _) hturn4 hown4 (f.users.filter fun p => !decide (p.1 = u)) (by rw [usersL_closed]; exact HMD.out)
  exact ⟨rfl, _, h1, h2⟩
theorem S_Close_ok (sb fb k : Nat) (ok : Nat → Prop) (L : List (Nat × AF)) (f : AF) (u n : ByteArray) (a b : Int) (W : World) (hR : StoreRep W ok sb L) (hk : L[k]? = some (fb, f)) (hnm : f.F.name = n)
    (hu : 1 ≤ u.size ∧ u.size ≤ 20) (hn : 1 ≤ n.size ∧ n.size ≤ 30) (hl : lookU f.users u = some (a, b)) (hnd : (f.users.map (fun p => p.1.data.toList)).Nodup) :
    Calls Tryz.prog 22 #[.pointer (some ⟨sb, 0, none⟩), .string u, .string n] W (SOut W ok sb (.int .i64 0) ((L.map (·.2)).set k (f.closed u))) := by
  obtain ⟨mb, D, own, R⟩ := hR
  obtain ⟨HF, A, rc, uv, ub, DU, P⟩ := R.way hk hnm hu hn
  refine (Close_ok _ u n W _ fb rc ub f A uv DU a b HF P (by omega) hl hnd).mono ?_
  rintro e w' ⟨rfl, DU', hP, hC⟩
  exact SOut.step R hk rfl ⟨A, rc, uv, ub, DU', hP.mono (fun q hq => .inl hq)⟩ (hC.mono (fun q hq => by rw [hq]; exact P.oku))
def badRule (x : S100) : Bool := !(userB x.f0 && setB x.f1)
set_option maxRecDepth 100000 in
theorem Change1_c (x : S100) (W : World) : Calls Tryz.prog 79 #[.agg #[.string x.f0, .int .i64 x.f1]] W fun e w' => e = .returned (.bool (badRule x)) ∧ Below W.heap.size W w' := by
  have CU := Aside0.mk (user_c x.f0 (W.alloc (.cells #[.string x.f0, .int .i64 x.f1] 100)))
  have CS := Aside0.mk (set_c x.f1 (W.alloc (.cells #[.string x.f0, .int .i64 x.f1] 100)))
  unfold badRule
  cases h1 : userB x.f0 with
  | false =>
    rw [show (decide (1 ≤ x.f0.size) && decide (x.f0.size ≤ 20)) = false from h1] at CU
    clear h1
    go_enter Tryz.func79, Tryz.ntmps79
    go_wp2_with first | (go_at_call 53; refine CU.out.mono ?_; rintro e w' ⟨rfl, rfl⟩) | (go_at_call 55; refine CS.out.mono ?_; rintro e w' ⟨rfl, rfl⟩)
    go_ret
    exact ⟨rfl, (Below.refl _ _).alloc (Nat.le_refl _) _⟩
  | true =>
    rw [show (decide (1 ≤ x.f0.size) && decide (x.f0.size ≤ 20)) = true from h1] at CU
    clear h1
    cases h2 : setB x.f1 with
    | false =>
      rw [show (decide (0 ≤ x.f1) && decide (x.f1 ≤ 255)) = false from h2] at CS
      clear h2
      go_enter Tryz.func79, Tryz.ntmps79
      go_wp2_with first | (go_at_call 53; refine CU.out.mono ?_; rintro e w' ⟨rfl, rfl⟩) | (go_at_call 55; refine CS.out.mono ?_; rintro e w' ⟨rfl, rfl⟩)
      go_ret
      exact ⟨rfl, (Below.refl _ _).alloc (Nat.le_refl _) _⟩
    | true =>
      rw [show (decide (0 ≤ x.f1) && decide (x.f1 ≤ 255)) = true from h2] at CS
      clear h2
      go_enter Tryz.func79, Tryz.ntmps79
      go_wp2_with first | (go_at_call 53; refine CU.out.mono ?_; rintro e w' ⟨rfl, rfl⟩) | (go_at_call 55; refine CS.out.mono ?_; rintro e w' ⟨rfl, rfl⟩)
      go_ret
      exact ⟨rfl, (Below.refl _ _).alloc (Nat.le_refl _) _⟩
theorem idx_any {α : Type} (p : α → Bool) (l : List α) : ∃ r, idxM (fun x => some (p x)) l = some r ∧ decide (0 ≤ r) = l.any p := by
  obtain ⟨r, h1, h2⟩ := idx_find p l
  refine ⟨r, h1, ?_⟩
  rcases h2 with ⟨rfl, hn⟩ | ⟨i, rfl, _, x, _, hf⟩
  · rw [List.find?_eq_none] at hn
    symm
    show l.any p = false
    rw [List.any_eq_false]
    exact hn
  · have : l.any p = true := List.any_eq_true.2 ⟨x, List.mem_of_find?_eq_some hf, List.find?_some hf⟩
    rw [this]
    simp
theorem badRules_c (A : Option Addr) (c : Nat) (l : List S100) (W : World) (hr : Kd.C k100 W A l.length l) (hc : l.length ≤ c) :
    Calls Tryz.prog 78 #[.slice A l.length c, .func (.func 79) #[] #[]] W fun e w' => e = .returned (.bool (l.any badRule)) ∧ Below W.heap.size W w' := by
  obtain ⟨r, h1, h2⟩ := idx_any badRule l
  have HI := Aside0.mk (files_Rule_87.calls 79 #[] (enters_of Tryz.func79 (by kernel_rfl) rfl) (fun x => some (badRule x)) A c l r W hr hc h1 (fun W2 x cs b hb hk hx => by
    obtain rfl := Option.some.inj hx
    rw [k100_open hk]
    exact Change1_c x W2))
  have H2 := Aside0.mk h2
  clear hr h1 h2
  go_enter Tryz.func78, Tryz.ntmps78
  go_wp2_with (go_at_call 87; refine HI.out.mono ?_; rintro e w2 ⟨rfl, hb2⟩)
  go_ret
  exact ⟨by rw [← H2.out]; rfl, hb2⟩
end Go.Proofs.YtehlmkgldcfciaaGreat.Files
-- Written by this repo's wip/tools/myprint.py (the kit's print program, with contracts of our own beside). Lean checks it.
namespace Go.Proofs.YtehlmkgldcfciaaGreat.F
open Go.Proofs.YtehlmkgldcfciaaGreat.Common
open Go.RowKit Go.Proofs.YtehlmkgldcfciaaGreatW.PrintWords Go.Proofs.YtehlmkgldcfciaaGreatW.PrintLast Go.Proofs.YtehlmkgldcfciaaGreatW.PrintMore
set_option linter.unusedVariables false
set_option linter.unusedSimpArgs false
set_option maxHeartbeats 1000000 in
theorem files_Rule_52.raw (A0 : Option Addr) (c0 n0 : Nat) (css : List (List Value)) (w : World) (hr0 : Kd.C (Kd.raw 2) w A0 n0 css) (hl : n0 * 24 ≤ 140737488355328) :
    Calls Tryz.prog 52 #[.slice A0 n0 c0] w fun e w' => ∃ v : Value, e = .returned v ∧ Kd.R (Kd.raw 2) 100 w' w.heap.size (fun _ => True) v css ∧ Below w.heap.size w w' := by
  have HL := Aside0.mk hl
  cases A0 with
  | none =>
    have h0 : n0 = 0 := by
      rcases Nat.eq_zero_or_pos n0 with h | h
      · exact h
      · obtain ⟨ad, h2, _⟩ := hr0.2.2 h
        cases h2
    subst h0
    obtain rfl : css = [] := List.eq_nil_of_length_eq_zero hr0.1
    clear hr0 hl
    have hn : ∀ W : World, (binOp .eql 31 (.slice none 0 c0) (.slice none 0 0)).run Tryz.prog W = .ok (.bool true) W := fun W => Lib.run_eql_slice_nil W 31 100 none 0 c0 0 0 Tryz.underlying31
    go_enter Tryz.func52, Tryz.ntmps52
    go_wp2
    go_ret
    exact ⟨_, rfl, Kd.R_nil _ _ _ _ _, Below.refl _ _⟩
  | some ad =>
    have HR := Aside0.mk hr0
    clear hr0 hl
    have hn : ∀ W : World, (binOp .eql 31 (.slice (some ad) n0 c0) (.slice none 0 0)).run Tryz.prog W = .ok (.bool false) W := fun W => Lib.run_eql_slice_nil W 31 100 (some ad) n0 c0 0 0 Tryz.underlying31
    go_enter Tryz.func52, Tryz.ntmps52
    go_wp2_with (first | ((with_reducible refine gate_dst (N := 5) rfl ?_); refine Kd.R_lit (Kd.raw 2) w.heap.size 100 ?hg (N := 5) ?hd (xs := ([] : List (List Value))) (inner := []) (ok := fun _ => True) (okp := fun _ => True) ?hr ?hp (fun _ hk => hk) trivial (Below.refl _ _) (Nat.le_refl _) (by simp) ?_; (case hd => rfl); (case hg => rfl); (case hr => first | (go_simp; done) | (go_simp; rfl)); (case hp => exact (Reps.none _ _)); intro v1 w1 ho hb _ _; have HO := Aside0.mk ho; have HB := Aside0.mk hb; clear ho hb) | ((with_reducible refine gate_builtin (b := .append) (xs := #[.tmp 5, .tmp 6]) rfl ?_); at_builtin; refine Kd.R_append_rows (Kd.raw 2) (Rr := (Kd.raw 2).K w) (w0 := w) w.heap.size rfl (.tmp 5) (.tmp 6) 31 100 (.agg #[(.string ⟨#[]⟩), (.int .i64 0)]) 24 rfl Tryz.underlying31 info100 rfl (by decide) (by omega) v1 [] css _ _ _ (fun _ => True) (fun _ => False) rfl rfl HO.out (Kd.C_below HR.out HB.out) (fun _ _ h => h) (fun _ h => h.elim) (fun _ _ => trivial) HB.out HB.out.size (by have := HL.out; simp only [List.length_nil]; omega) ?_; intro v2 w2 ho hb _ _; have HO2 := Aside0.mk ho; have HB2 := Aside0.mk hb; clear ho hb))
    go_ret
    exact ⟨v2, rfl, HO2.out, HB2.out⟩
end Go.Proofs.YtehlmkgldcfciaaGreat.F
/- The file store: Change. -/
set_option linter.unusedVariables false
set_option linter.unusedSimpArgs false
namespace Go.Proofs.YtehlmkgldcfciaaGreat.Files
open Go.Proofs.YtehlmkgldcfciaaGreat.Common Go.Maps Go.ChangeMaps Go.WideMaps Go.Proofs.YtehlmkgldcfciaaGreat.F
open Go.RowKit Go.Proofs.YtehlmkgldcfciaaGreatW.PrintWords Go.Proofs.YtehlmkgldcfciaaGreatW.PrintLast Go.Proofs.YtehlmkgldcfciaaGreatW.PrintMore
def changeOk (perm : Int) (rules : List S100) : Bool := setB perm && decide (rules.length ≤ 10) && !rules.any badRule
theorem Change_arg (sp : Value) (u n : ByteArray) (perm : Int) (A : Option Addr) (c : Nat) (rules : List S100) (W : World) (hr : Kd.C k100 W A rules.length rules) (hc : rules.length ≤ c) (h : changeOk perm rules = false) :
    Calls Tryz.prog 42 #[sp, .string u, .string n, .int .i64 perm, .slice A rules.length c] W fun e w' => e = .returned (.int .i64 1) ∧ Below W.heap.size W w' := by
  have CS := Aside0.mk (set_c perm W)
  have CB := Aside0.mk (badRules_c A c rules W hr hc)
  unfold changeOk at h
  clear hr
  cases h1 : setB perm with
  | false =>
    rw [show (decide (0 ≤ perm) && decide (perm ≤ 255)) = false from h1] at CS
    clear h h1
    go_enter Tryz.func42, Tryz.ntmps42
    go_wp2_with first | (go_at_call 55; refine CS.out.mono ?_; rintro e w' ⟨rfl, rfl⟩)
    go_ret
    exact ⟨rfl, Below.refl _ _⟩
  | true =>
    rw [show (decide (0 ≤ perm) && decide (perm ≤ 255)) = true from h1] at CS
    by_cases h2 : rules.length ≤ 10
    · have h3 : rules.any badRule = true := by simpa [h1, h2] using h
      rw [h3] at CB
      have g1 : decide ((10 : Int) < (rules.length : Int)) = false := decide_eq_false (by omega)
      clear h h1 h2 h3
      go_enter Tryz.func42, Tryz.ntmps42
      go_wp2_with first | (go_at_call 55; refine CS.out.mono ?_; rintro e w' ⟨rfl, rfl⟩) | (go_at_call 78; refine CB.out.mono ?_; rintro e w2 ⟨rfl, hb2⟩)
      go_ret
      exact ⟨rfl, hb2⟩
    · have g1 : decide ((10 : Int) < (rules.length : Int)) = true := decide_eq_true (by omega)
      clear h h1 h2
      go_enter Tryz.func42, Tryz.ntmps42
      go_wp2_with first | (go_at_call 55; refine CS.out.mono ?_; rintro e w' ⟨rfl, rfl⟩)
      go_ret
      exact ⟨rfl, Below.refl _ _⟩
theorem changeOk_parts {perm : Int} {rules : List S100} (h : changeOk perm rules = true) : setB perm = true ∧ rules.length ≤ 10 ∧ rules.any badRule = false := by
  unfold changeOk at h
  simp only [Bool.and_eq_true, decide_eq_true_eq, Bool.not_eq_true'] at h
  exact ⟨h.1.1, h.1.2, h.2⟩
theorem Change_err (sp : Value) (u n : ByteArray) (perm E : Int) (A : Option Addr) (c : Nat) (rules : List S100) (W : World) (hr : Kd.C k100 W A rules.length rules) (hc : rules.length ≤ c) (h : changeOk perm rules = true) (HO : OpenedErr W sp u n 64 E) :
    Calls Tryz.prog 42 #[sp, .string u, .string n, .int .i64 perm, .slice A rules.length c] W fun e w' => e = .returned (.int .i64 E) ∧ Below W.heap.size W w' := by
  obtain ⟨h1, h2, h3⟩ := changeOk_parts h
  obtain ⟨hE, ho⟩ := HO
  have CS := Aside0.mk (set_c perm W)
  have CB := Aside0.mk (badRules_c A c rules W hr hc)
  have CO := Aside0.mk ho
  rw [show (decide (0 ≤ perm) && decide (perm ≤ 255)) = true from h1] at CS
  rw [h3] at CB
  have g1 : decide ((10 : Int) < (rules.length : Int)) = false := decide_eq_false (by omega)
  have hE' : (E == 0) = false := by simpa using hE
  clear h h1 h2 h3 hr ho hE
  go_enter Tryz.func42, Tryz.ntmps42
  go_wp2_with first | (go_at_call 55; refine CS.out.mono ?_; rintro e w' ⟨rfl, rfl⟩) | (go_at_call 78; refine CB.out.mono ?_; rintro e w2 ⟨rfl, hb2⟩; have HB2 := Aside0.mk hb2; clear hb2) | (go_at_call 63; refine (CO.out _ HB2.out).mono ?_; rintro e w3 ⟨rfl, hb3⟩)
  go_ret
  exact ⟨rfl, HB2.out.trans (hb3.mono HB2.out.size)⟩
theorem Change_denied (sp : Value) (u n : ByteArray) (perm : Int) (fb : Nat) (A : Option Addr) (c : Nat) (rules : List S100) (W : World) (hr : Kd.C k100 W A rules.length rules) (hc : rules.length ≤ c) (h : changeOk perm rules = true) (HO : OpenedOk W sp u n 64 fb 12) :
    Calls Tryz.prog 42 #[sp, .string u, .string n, .int .i64 perm, .slice A rules.length c] W fun e w' => e = .returned (.int .i64 12) ∧ Below W.heap.size W w' := by
  obtain ⟨h1, h2, h3⟩ := changeOk_parts h
  have CS := Aside0.mk (set_c perm W)
  have CB := Aside0.mk (badRules_c A c rules W hr hc)
  have CO := Aside0.mk (show ∀ W', Below W.heap.size W W' → _ from HO)
  rw [show (decide (0 ≤ perm) && decide (perm ≤ 255)) = true from h1] at CS
  rw [h3] at CB
  have g1 : decide ((10 : Int) < (rules.length : Int)) = false := decide_eq_false (by omega)
  clear h h1 h2 h3 hr HO
  go_enter Tryz.func42, Tryz.ntmps42
  go_wp2_with first | (go_at_call 55; refine CS.out.mono ?_; rintro e w' ⟨rfl, rfl⟩) | (go_at_call 78; refine CB.out.mono ?_; rintro e w2 ⟨rfl, hb2⟩; have HB2 := Aside0.mk hb2; clear hb2) | (go_at_call 63; refine (CO.out _ HB2.out).mono ?_; rintro e w3 ⟨rfl, hb3⟩)
  go_ret
  exact ⟨rfl, HB2.out.trans (hb3.mono HB2.out.size)⟩
def AF.change (f : AF) (perm : Int) (rules : List S100) : AF := { f with F := { f.F with perm := perm }, rules := rules }
def ChangeEnd (W : World) (ok : Nat → Prop) (fb ub : Nat) (f' : AF) (uv : Value) (DU : DataW Unit) (e : Ending) (w' : World) : Prop :=
  e = .returned (.int .i64 0) ∧ ∃ A rc, FileParts w' (fun k => ok k ∨ W.heap.size ≤ k) fb f' A rc uv ub DU ∧ Chg W w' ok
theorem FileParts.newRules {W w1 : World} {ok : Nat → Prop} {fb rc ub : Nat} {f : AF} {A : Option Addr} {uv v : Value} {DU : DataW Unit} {rules : List S100} (P : FileParts W ok fb f A rc uv ub DU) (hb : Below W.heap.size W w1) (hr : Kd.R k100 100 w1 W.heap.size (fun _ => True) v rules) (perm : Int) :
    ∃ A' rc', FileParts ((w1.setCell ⟨fb, 2, none⟩ (.int .i64 perm)).setCell ⟨fb, 7, none⟩ v) (fun k => ok k ∨ W.heap.size ≤ k) fb (f.change perm rules) A' rc' uv ub DU ∧ Chg W ((w1.setCell ⟨fb, 2, none⟩ (.int .i64 perm)).setCell ⟨fb, 7, none⟩ v) ok := by
  obtain ⟨A', rc', rfl⟩ := Kd.R_slice hr
  have P1 := P.below hb
  have F1 : FileAt (w1.setCell ⟨fb, 2, none⟩ (.int .i64 perm)) fb { f.F with perm := perm } (.slice A f.rules.length rc) uv ub := file_set P1.F 2 _ rfl
  have F2 : FileAt ((w1.setCell ⟨fb, 2, none⟩ (.int .i64 perm)).setCell ⟨fb, 7, none⟩ (.slice A' rules.length rc')) fb { f.F with perm := perm } (.slice A' rules.length rc') uv ub := file_set F1 7 _ rfl
  have hr' : Kd.R k100 100 w1 0 (fun k => ok k ∨ W.heap.size ≤ k) (.slice A' rules.length rc') rules := Kd.R_mono (Kd.R_lower (Kd.R_bound hr) (Nat.zero_le _)) (fun k hk => .inr hk.2.1)
  refine ⟨A', rc', ⟨.inl P.okb, F2, Kd.R_set (Kd.R_set hr' P1.F (by decide) 2 _) F1 (by decide) 7 _, Kd.R_mono (Kd.R_set (Kd.R_set P1.units P1.F (by decide) 2 _) F1 (by decide) 7 _) (fun k hk => .inl hk), .inl P.oku,
    (P1.U.setCell (a := ⟨fb, 2, none⟩) (blk_map_ne P1.F P1.U) _).setCell (a := ⟨fb, 7, none⟩) (blk_map_ne P1.F P1.U) _, P.mU⟩, ?_⟩
  exact (((Chg.of_below hb (fun _ => False)).mono (fun _ h => h.elim)).trans (Chg.of_set _ ⟨fb, 2, none⟩ _ (S := ok) P.okb) (fun i hi => .inl hi)).trans (Chg.of_set _ ⟨fb, 7, none⟩ _ (S := ok) P.okb) (fun i hi => .inl hi)
set_option maxRecDepth 100000 in
theorem Change_ok (sp : Value) (u n : ByteArray) (perm : Int) (fb rc ub : Nat) (A : Option Addr) (c : Nat) (rules : List S100) (f : AF) (Ar : Option Addr) (uv : Value) (DU : DataW Unit) (ok : Nat → Prop) (W : World) (hr : Kd.C k100 W A rules.length rules) (hc : rules.length ≤ c) (h : changeOk perm rules = true) (HO : OpenedOk W sp u n 64 fb 0) (P : FileParts W ok fb f Ar rc uv ub DU) :
    Calls Tryz.prog 42 #[sp, .string u, .string n, .int .i64 perm, .slice A rules.length c] W (ChangeEnd W ok fb ub (f.change perm rules) uv DU) := by
  obtain ⟨h1, h2, h3⟩ := changeOk_parts h
  have CS := Aside0.mk (set_c perm W)
  have CB := Aside0.mk (badRules_c A c rules W hr hc)
  have CO := Aside0.mk (show ∀ W', Below W.heap.size W W' → _ from HO)
  rw [show (decide (0 ≤ perm) && decide (perm ≤ 255)) = true from h1] at CS
  rw [h3] at CB
  have g1 : decide ((10 : Int) < (rules.length : Int)) = false := decide_eq_false (by omega)
  have HP := Aside0.mk P
  have HR := Aside0.mk hr
  have HL := Aside0.mk (show rules.length * 24 ≤ 140737488355328 by omega)
  clear h h1 h2 h3 hr HO P
  go_enter Tryz.func42, Tryz.ntmps42
  go_wp2_with fail
  refine CS.out.mono ?_
  rintro e w' ⟨rfl, rfl⟩
  go_wp2_with fail
  refine CB.out.mono ?_
  rintro e w2 ⟨rfl, hb2⟩
  have HB2 := Aside0.mk hb2
  clear hb2
  go_wp2_with fail
  refine (CO.out _ HB2.out).mono ?_
  rintro e w3 ⟨rfl, hb3⟩
  have HB3 := Aside0.mk (show Below W.heap.size W w3 from HB2.out.trans (hb3.mono HB2.out.size))
  obtain ⟨css, hcl, hcr, hck⟩ := C_raw (Kd.C_below HR.out HB3.out)
  have CC := Aside0.mk (files_Rule_52.raw A c rules.length css w3 hcr HL.out)
  have HCK := Aside0.mk hck
  have HCL := Lib.hid hcl
  clear hb3 hcl hcr hck
  go_wp2_with fail
  refine CC.out.mono ?_
  rintro e w4 ⟨v, rfl, hr4, hb4⟩
  have HB4 := Aside0.mk (show Below W.heap.size W w4 from HB3.out.trans (hb4.mono HB3.out.size))
  have hr5 : Kd.R k100 100 w4 w3.heap.size (fun _ => True) v rules := R_of_raw (d := k100) hr4 HCL.out (fun j x cs hj hcs => by
    obtain ⟨c0, h0, hK⟩ := HCK.out j x hj
    rw [hcs] at h0
    injection h0 with h0
    rw [h0, k100_open hK]
    exact k100_mkM _ _ _ x)
  obtain ⟨A5, c5, hv5⟩ := Kd.R_slice hr5
  subst hv5
  have HR5 := Aside0.mk (Kd.R_lower hr5 HB3.out.size)
  have P4 := HP.out.below HB4.out
  have f2 := blk_frozen P4.F 2
  have f7 := blk_frozen P4.F 7
  have d2 : w4.cell? ⟨fb, 2, none⟩ = some (.int .i64 f.F.perm) := (blk_cell P4.F 2).trans rfl
  have d7 : w4.cell? ⟨fb, 7, none⟩ = some (.slice Ar f.rules.length rc) := (blk_cell P4.F 7).trans rfl
  clear hr4 hb4 hr5 P4
  go_wp2
  go_ret
  exact ⟨rfl, HP.out.newRules HB4.out HR5.out perm⟩
end Go.Proofs.YtehlmkgldcfciaaGreat.Files
/- The file store: how each method fails where there is no store, no file, no opening, no unit; what is refused to who may not. -/
set_option linter.unusedVariables false
set_option linter.unusedSimpArgs false
namespace Go.Proofs.YtehlmkgldcfciaaGreat.Files
open Go.Proofs.YtehlmkgldcfciaaGreat.Common Go.Maps Go.ChangeMaps Go.WideMaps Go.Proofs.YtehlmkgldcfciaaGreat.F
open Go.RowKit Go.Proofs.YtehlmkgldcfciaaGreatW.PrintWords Go.Proofs.YtehlmkgldcfciaaGreatW.PrintLast Go.Proofs.YtehlmkgldcfciaaGreatW.PrintMore
theorem Delete_err (sp : Value) (u n : ByteArray) (E : Int) (W : World) (HF : FoundErr W sp u n E) :
    Calls Tryz.prog 18 #[sp, .string u, .string n] W fun e w' => e = .returned (.int .i64 E) ∧ Below W.heap.size W w' := by
  obtain ⟨hE, hf⟩ := HF
  have CF := Aside0.mk (hf W (Below.refl _ _))
  have hE' : (E == 0) = false := by simpa using hE
  clear hf hE
  go_enter Tryz.func18, Tryz.ntmps18
  go_wp2_with first | (go_at_call 58; refine CF.out.mono ?_; rintro e w' ⟨rfl, rfl⟩)
  go_ret
  exact ⟨rfl, Below.refl _ _⟩
theorem Close_err (sp : Value) (u n : ByteArray) (E : Int) (W : World) (HF : FoundErr W sp u n E) :
    Calls Tryz.prog 22 #[sp, .string u, .string n] W fun e w' => e = .returned (.int .i64 E) ∧ Below W.heap.size W w' := by
  obtain ⟨hE, hf⟩ := HF
  have CF := Aside0.mk (hf W (Below.refl _ _))
  have hE' : (E == 0) = false := by simpa using hE
  clear hf hE
  go_enter Tryz.func22, Tryz.ntmps22
  go_wp2_with first | (go_at_call 58; refine CF.out.mono ?_; rintro e w' ⟨rfl, rfl⟩)
  go_ret
  exact ⟨rfl, Below.refl _ _⟩
theorem Open_err (sp : Value) (u n : ByteArray) (actions exclusive : Int) (E : Int) (W : World) (ha : setB actions = true) (hx : setB exclusive = true) (hs : bits .andNot .i64 exclusive actions = 0) (HF : FoundErr W sp u n E) :
    Calls Tryz.prog 20 #[sp, .string u, .string n, .int .i64 actions, .int .i64 exclusive] W fun e w' => e = .returned (.int .i64 E) ∧ Below W.heap.size W w' := by
  obtain ⟨hE, hf⟩ := HF
  have CF := Aside0.mk (hf W (Below.refl _ _))
  have hE' : (E == 0) = false := by simpa using hE
  have CA := Aside0.mk (set_c actions W)
  have CE := Aside0.mk (set_c exclusive W)
  rw [show (decide (0 ≤ actions) && decide (actions ≤ 255)) = true from ha] at CA
  rw [show (decide (0 ≤ exclusive) && decide (exclusive ≤ 255)) = true from hx] at CE
  have g3 : (bits .andNot .i64 exclusive actions == 0) = true := by simpa using hs
  have g4 : (bits .andNot .i64 exclusive actions != 0) = false := by simpa using hs
  clear ha hx hs
  clear hf hE
  go_enter Tryz.func20, Tryz.ntmps20
  go_wp2_with first | (go_at_call 58; refine CF.out.mono ?_; rintro e w' ⟨rfl, rfl⟩) | (go_at_call 55; first | ((with_reducible refine CA.out.mono ?_); rintro e w' ⟨rfl, rfl⟩) | ((with_reducible refine CE.out.mono ?_); rintro e w' ⟨rfl, rfl⟩))
  go_ret
  exact ⟨rfl, Below.refl _ _⟩
theorem Replace_arg (sp : Value) (u n : ByteArray) (at_ : Int) (data : ByteArray) (W : World) (hd : ¬ data.size ≤ 400) :
    Calls Tryz.prog 32 #[sp, .string u, .string n, .int .i64 at_, .string data] W fun e w' => e = .returned (.int .i64 1) ∧ Below W.heap.size W w' := by
  have g1 : decide ((400 : Int) < (data.size : Int)) = true := decide_eq_true (by omega)
  clear hd
  go_enter Tryz.func32, Tryz.ntmps32
  go_wp2
  go_ret
  exact ⟨rfl, Below.refl _ _⟩
theorem Replace_err (sp : Value) (u n : ByteArray) (at_ E : Int) (data : ByteArray) (W : World) (hd : data.size ≤ 400) (HU : UnitErr W sp u n at_ 4 E) :
    Calls Tryz.prog 32 #[sp, .string u, .string n, .int .i64 at_, .string data] W fun e w' => e = .returned (.int .i64 E) ∧ Below W.heap.size W w' := by
  obtain ⟨hE, hu⟩ := HU
  have hE' : (E == 0) = false := by simpa using hE
  have CU := Aside0.mk (hu W (Below.refl _ _))
  have g1 : decide ((400 : Int) < (data.size : Int)) = false := decide_eq_false (by omega)
  clear hd
  clear hu hE
  go_enter Tryz.func32, Tryz.ntmps32
  go_wp2_with first | (go_at_call 69; refine CU.out.mono ?_; rintro e w2 ⟨dn, rfl, hb2⟩)
  go_ret
  exact ⟨rfl, hb2⟩
theorem Replace_denied (sp : Value) (u n : ByteArray) (at_ : Int) (fb : Nat) (data : ByteArray) (W : World) (hd : data.size ≤ 400) (HU : UnitOk W sp u n at_ 4 fb 12) :
    Calls Tryz.prog 32 #[sp, .string u, .string n, .int .i64 at_, .string data] W fun e w' => e = .returned (.int .i64 12) ∧ Below W.heap.size W w' := by
  have CU := Aside0.mk (HU W (Below.refl _ _))
  have g1 : decide ((400 : Int) < (data.size : Int)) = false := decide_eq_false (by omega)
  clear hd
  clear HU
  go_enter Tryz.func32, Tryz.ntmps32
  go_wp2_with first | (go_at_call 69; refine CU.out.mono ?_; rintro e w2 ⟨rfl, hb2⟩)
  go_ret
  exact ⟨rfl, hb2⟩
theorem Extend_arg (sp : Value) (u n : ByteArray) (at_ : Int) (data : ByteArray) (W : World) (hd : ¬ data.size ≤ 400) :
    Calls Tryz.prog 34 #[sp, .string u, .string n, .int .i64 at_, .string data] W fun e w' => e = .returned (.int .i64 1) ∧ Below W.heap.size W w' := by
  have g1 : decide ((400 : Int) < (data.size : Int)) = true := decide_eq_true (by omega)
  clear hd
  go_enter Tryz.func34, Tryz.ntmps34
  go_wp2
  go_ret
  exact ⟨rfl, Below.refl _ _⟩
theorem Extend_err (sp : Value) (u n : ByteArray) (at_ E : Int) (data : ByteArray) (W : World) (hd : data.size ≤ 400) (HU : UnitErr W sp u n at_ 8 E) :
    Calls Tryz.prog 34 #[sp, .string u, .string n, .int .i64 at_, .string data] W fun e w' => e = .returned (.int .i64 E) ∧ Below W.heap.size W w' := by
  obtain ⟨hE, hu⟩ := HU
  have hE' : (E == 0) = false := by simpa using hE
  have CU := Aside0.mk (hu W (Below.refl _ _))
  have g1 : decide ((400 : Int) < (data.size : Int)) = false := decide_eq_false (by omega)
  clear hd
  clear hu hE
  go_enter Tryz.func34, Tryz.ntmps34
  go_wp2_with first | (go_at_call 69; refine CU.out.mono ?_; rintro e w2 ⟨dn, rfl, hb2⟩)
  go_ret
  exact ⟨rfl, hb2⟩
theorem Extend_denied (sp : Value) (u n : ByteArray) (at_ : Int) (fb : Nat) (data : ByteArray) (W : World) (hd : data.size ≤ 400) (HU : UnitOk W sp u n at_ 8 fb 12) :
    Calls Tryz.prog 34 #[sp, .string u, .string n, .int .i64 at_, .string data] W fun e w' => e = .returned (.int .i64 12) ∧ Below W.heap.size W w' := by
  have CU := Aside0.mk (HU W (Below.refl _ _))
  have g1 : decide ((400 : Int) < (data.size : Int)) = false := decide_eq_false (by omega)
  clear hd
  clear HU
  go_enter Tryz.func34, Tryz.ntmps34
  go_wp2_with first | (go_at_call 69; refine CU.out.mono ?_; rintro e w2 ⟨rfl, hb2⟩)
  go_ret
  exact ⟨rfl, hb2⟩
theorem Erase_err (sp : Value) (u n : ByteArray) (at_ E : Int) (W : World) (HU : UnitErr W sp u n at_ 16 E) :
    Calls Tryz.prog 36 #[sp, .string u, .string n, .int .i64 at_] W fun e w' => e = .returned (.int .i64 E) ∧ Below W.heap.size W w' := by
  obtain ⟨hE, hu⟩ := HU
  have hE' : (E == 0) = false := by simpa using hE
  have CU := Aside0.mk (hu W (Below.refl _ _))
  clear hu hE
  go_enter Tryz.func36, Tryz.ntmps36
  go_wp2_with first | (go_at_call 69; refine CU.out.mono ?_; rintro e w2 ⟨dn, rfl, hb2⟩)
  go_ret
  exact ⟨rfl, hb2⟩
theorem Erase_denied (sp : Value) (u n : ByteArray) (at_ : Int) (fb : Nat) (W : World) (HU : UnitOk W sp u n at_ 16 fb 12) :
    Calls Tryz.prog 36 #[sp, .string u, .string n, .int .i64 at_] W fun e w' => e = .returned (.int .i64 12) ∧ Below W.heap.size W w' := by
  have CU := Aside0.mk (HU W (Below.refl _ _))
  clear HU
  go_enter Tryz.func36, Tryz.ntmps36
  go_wp2_with first | (go_at_call 69; refine CU.out.mono ?_; rintro e w2 ⟨rfl, hb2⟩)
  go_ret
  exact ⟨rfl, hb2⟩
theorem Locate_err (sp : Value) (u n : ByteArray) (pv : Value) (E : Int) (W : World) (HO : OpenedErr W sp u n 1 E) :
    Calls Tryz.prog 24 #[sp, .string u, .string n, pv] W fun e w' => e = .returned (.tuple #[.int .i64 0, .int .i64 E]) ∧ Below W.heap.size W w' := by
  obtain ⟨hE, ho⟩ := HO
  have hE' : (E == 0) = false := by simpa using hE
  have CO := Aside0.mk (ho W (Below.refl _ _))
  clear ho hE
  go_enter Tryz.func24, Tryz.ntmps24
  go_wp2_with first | (go_at_call 63; refine CO.out.mono ?_; rintro e w2 ⟨rfl, hb2⟩)
  go_ret2
  exact ⟨rfl, hb2.trans (((Below.refl _ _).alloc hb2.size _))⟩
theorem setCell_id {w : World} {a : Addr} {v : Value} (h : w.cell? a = some v) : w.setCell a v = w := by
  have : (w.setCell a v).heap = w.heap := by
    unfold World.setCell
    apply Array.ext_getElem?
    intro i
    simp only [Array.getElem?_modify]
    by_cases hi : a.block = i
    · subst hi
      simp only [if_pos]
      unfold World.cell? at h
      cases hb : w.heap[a.block]? with
      | none => rfl
      | some o =>
        cases o with
        | cells c el fr =>
          rw [hb] at h
          simp only at h
          split at h
          · cases h
          · rename_i hs
            have hs' : a.spot.isSome = false := by simpa using hs
            simp only [Option.map_some, hs', Bool.false_eq_true, if_false, Option.some.injEq, Obj.cells.injEq, and_true]
            apply Array.ext_getElem?
            intro j
            rw [Array.getElem?_setIfInBounds]
            by_cases hj : a.off = j
            · subst hj; rw [if_pos rfl, h]; split <;> rename_i hl
              · rfl
              · rw [Array.getElem?_eq_none (by omega)] at h; cases h
            · rw [if_neg hj]
        | _ => rfl
    · rw [if_neg hi]
  have e : w.setCell a v = { w with heap := (w.setCell a v).heap } := rfl
  rw [e, this]
def zeroInfo : Value := .agg #[.string ByteArray.empty, .int .i64 0, .int .i64 0, .string ByteArray.empty, .string ByteArray.empty, .int .i64 0, .int .i64 0, .slice none 0 0]
theorem Info_arg (sp : Value) (u n : ByteArray) (group : Int) (W : World) (h : group < 0 ∨ 2 < group) :
    Calls Tryz.prog 38 #[sp, .string u, .string n, .int .i64 group] W fun e w' => e = .returned (.tuple #[zeroInfo, .int .i64 1]) ∧ Below W.heap.size W w' := by
  unfold zeroInfo
  rcases h with h | h
  · have g1 : decide (group < 0) = true := decide_eq_true h
    clear h
    go_enter Tryz.func38, Tryz.ntmps38
    go_wp2
    refine bodyPost_ret (v := .tuple #[.agg #[.string ByteArray.empty, .int .i64 0, .int .i64 0, .string ByteArray.empty, .string ByteArray.empty, .int .i64 0, .int .i64 0, .slice none 0 0], .int .i64 1]) (by simp [results, Tryz.f38, go_sem]; rfl) rfl ?_
    exact ⟨rfl, (Below.refl _ _).alloc (Nat.le_refl _) _⟩
  · have g1 : decide (group < 0) = false := decide_eq_false (by omega)
    have g2 : decide (2 < group) = true := decide_eq_true h
    clear h
    go_enter Tryz.func38, Tryz.ntmps38
    go_wp2
    refine bodyPost_ret (v := .tuple #[.agg #[.string ByteArray.empty, .int .i64 0, .int .i64 0, .string ByteArray.empty, .string ByteArray.empty, .int .i64 0, .int .i64 0, .slice none 0 0], .int .i64 1]) (by simp [results, Tryz.f38, go_sem]; rfl) rfl ?_
    exact ⟨rfl, (Below.refl _ _).alloc (Nat.le_refl _) _⟩
theorem Info_err (sp : Value) (u n : ByteArray) (group E : Int) (W : World) (h0 : 0 ≤ group) (h2 : group ≤ 2) (HO : OpenedErr W sp u n 32 E) :
    Calls Tryz.prog 38 #[sp, .string u, .string n, .int .i64 group] W fun e w' => e = .returned (.tuple #[zeroInfo, .int .i64 E]) ∧ Below W.heap.size W w' := by
  obtain ⟨hE, ho⟩ := HO
  have hE' : (E == 0) = false := by simpa using hE
  have g1 : decide (group < 0) = false := decide_eq_false (by omega)
  have g2 : decide (2 < group) = false := decide_eq_false (by omega)
  have hb0 : Below W.heap.size W (W.alloc (.cells #[.string ByteArray.empty, .int .i64 0, .int .i64 0, .string ByteArray.empty, .string ByteArray.empty, .int .i64 0, .int .i64 0, .slice none 0 0] 66)) := (Below.refl _ _).alloc (Nat.le_refl _) _
  have HB0 := Aside0.mk hb0
  have HBX := Aside0.mk (heap_alloc_new W (.cells #[.string ByteArray.empty, .int .i64 0, .int .i64 0, .string ByteArray.empty, .string ByteArray.empty, .int .i64 0, .int .i64 0, .slice none 0 0] 66))
  have CO := Aside0.mk (ho _ hb0)
  unfold zeroInfo
  clear ho hE h0 h2 hb0
  go_enter Tryz.func38, Tryz.ntmps38
  go_wp2_with fail
  refine CO.out.mono ?_
  rintro e w2 ⟨rfl, hb2⟩
  have hx := (hb2.block _ (by simp)).trans HBX.out
  have x0 := (blk_cell hx 0).trans (show _ = some (Value.string ByteArray.empty) from rfl)
  have x1 := (blk_cell hx 1).trans (show _ = some (Value.int .i64 0) from rfl)
  have x2 := (blk_cell hx 2).trans (show _ = some (Value.int .i64 0) from rfl)
  have x3 := (blk_cell hx 3).trans (show _ = some (Value.string ByteArray.empty) from rfl)
  have x4 := (blk_cell hx 4).trans (show _ = some (Value.string ByteArray.empty) from rfl)
  have x5 := (blk_cell hx 5).trans (show _ = some (Value.int .i64 0) from rfl)
  have x6 := (blk_cell hx 6).trans (show _ = some (Value.int .i64 0) from rfl)
  have x7 := (blk_cell hx 7).trans (show _ = some (Value.slice none 0 0) from rfl)
  have y0 := blk_frozen hx 0
  have y1 := blk_frozen hx 1
  have y2 := blk_frozen hx 2
  have y3 := blk_frozen hx 3
  have y4 := blk_frozen hx 4
  have y5 := blk_frozen hx 5
  have y6 := blk_frozen hx 6
  have y7 := blk_frozen hx 7
  clear hx
  go_wp2
  have e : (⟨#[]⟩ : ByteArray) = ByteArray.empty := rfl
  rw [e, setCell_id x0, setCell_id x1, setCell_id x2, setCell_id x3, setCell_id x4, setCell_id x5, setCell_id x6, setCell_id x7]
  refine bodyPost_ret (v := .tuple #[.agg #[.string ByteArray.empty, .int .i64 0, .int .i64 0, .string ByteArray.empty, .string ByteArray.empty, .int .i64 0, .int .i64 0, .slice none 0 0], .int .i64 E]) (by simp [results, Tryz.f38, go_sem, x0, x1, x2, x3, x4, x5, x6, x7]) rfl ?_
  exact ⟨rfl, HB0.out.trans (hb2.mono (by simp))⟩
end Go.Proofs.YtehlmkgldcfciaaGreat.Files
