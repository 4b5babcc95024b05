/- The file store: New, Create and Open as steps of the store. -/
import Derived.Test.YtehlmkgldcfciaaFilesJ
import Derived.Test.YtehlmkgldcfciaaFx0
set_option linter.unusedVariables false
set_option linter.unusedSimpArgs false
namespace Go.Proofs.Ytehlmkgldcfciaa.Files
open Go.Proofs.Ytehlmkgldcfciaa.Common Go.Maps Go.ChangeMaps Go.WideMaps Go.Proofs.Ytehlmkgldcfciaa.F
open Go.RowKit Go.Proofs.YtehlmkgldcfciaaW.PrintWords Go.Proofs.YtehlmkgldcfciaaW.PrintLast Go.Proofs.YtehlmkgldcfciaaW.PrintMore
def NewOut (w : World) (e : Ending) (w' : World) : Prop := ∃ sb ok, e = .returned (.pointer (some ⟨sb, 0, none⟩)) ∧ StoreRep w' ok sb [] ∧ Below w.heap.size w w' ∧ ∀ q, ok q → w.heap.size ≤ q
theorem S_New (w : World) : Calls Try.prog 11 #[] w (NewOut w) := by
  refine (New_c w).mono ?_
  rintro e w' ⟨rfl, rfl⟩
  have hM := (World.ownsMap_made w Try.prog 9 Rp).alloc (.cells #[.map (some w.heap.size)] 52)
  have hsz : ((w.alloc (.map #[] 0)).alloc (.cells #[.map (some w.heap.size)] 52)).heap.size = w.heap.size + 2 := by simp
  have hS : Boxed ((w.alloc (.map #[] 0)).alloc (.cells #[.map (some w.heap.size)] 52)) (w.heap.size + 1) 52 (.map (some w.heap.size)) := by
    have := Boxed.new (w.alloc (.map #[] 0)) 52 (.map (some w.heap.size))
    rwa [World.size_alloc] at this
  refine ⟨w.heap.size + 1, fun q => w.heap.size ≤ q ∧ q < w.heap.size + 2, rfl, ⟨w.heap.size, .map [], fun _ => 0, ?_⟩, ((Below.refl _ _).alloc (Nat.le_refl _) _).alloc (by simp) _, fun q hq => hq.1⟩
  exact ⟨⟨by omega, by omega⟩, ⟨by omega, by omega⟩, hS, ownsMap_tight hM, MapIs.nil, (fun p hp => by cases hp), (fun p hp => by cases hp), fun k hk => by rw [hsz]; exact hk.2, List.nodup_nil, List.nodup_nil⟩
/-- A file that has just been made. -/
def newF (u n : ByteArray) (kind perm : Int) : AF := ⟨⟨n, kind, perm, u, ByteArray.empty, 0, 0⟩, [], [⟨ByteArray.empty, ByteArray.empty, 0⟩], []⟩
theorem new_parts (W : World) (u n : ByteArray) (kind perm : Int) (W3 : World) (h : ((W.alloc (.cells #[.string ByteArray.empty, .string ByteArray.empty, .int .i64 0] 41)).alloc (.map #[] 0)).alloc (.cells (FS.cells ⟨n, kind, perm, u, ByteArray.empty, 0, 0⟩ (.slice none 0 0) (.slice (some ⟨W.heap.size, 0, none⟩) 1 1) (W.heap.size + 1)) 74) = W3) :
    FileParts W3 (fun q => W.heap.size ≤ q) (W.heap.size + 2) (newF u n kind perm) none 0 (.slice (some ⟨W.heap.size, 0, none⟩) 1 1) (W.heap.size + 1) (.map []) ∧ Below W.heap.size W W3 ∧ W3.heap.size = W.heap.size + 3 := by
  subst h
  have hU := (World.ownsMap_made (W.alloc (.cells #[.string ByteArray.empty, .string ByteArray.empty, .int .i64 0] 41)) Try.prog 9 Ro).alloc (.cells (FS.cells ⟨n, kind, perm, u, ByteArray.empty, 0, 0⟩ (.slice none 0 0) (.slice (some ⟨W.heap.size, 0, none⟩) 1 1) (W.heap.size + 1)) 74)
  rw [World.size_alloc] at hU
  have hF := heap_alloc_new ((W.alloc (.cells #[.string ByteArray.empty, .string ByteArray.empty, .int .i64 0] 41)).alloc (.map #[] 0)) (.cells (FS.cells ⟨n, kind, perm, u, ByteArray.empty, 0, 0⟩ (.slice none 0 0) (.slice (some ⟨W.heap.size, 0, none⟩) 1 1) (W.heap.size + 1)) 74)
  rw [World.size_alloc, World.size_alloc] at hF
  refine ⟨⟨by omega, hF, Kd.R_nil _ _ _ _ _, ?_, by omega, ownsMap_tight hU, MapIs.nil⟩, (((Below.refl _ _).alloc (Nat.le_refl _) _).alloc (by simp) _).alloc (by simp <;> omega) _, by simp⟩
  refine R_of_uRow' ⟨rfl, .inr ⟨W.heap.size, 1, #[.string ByteArray.empty, .string ByteArray.empty, .int .i64 0], rfl, Nat.zero_le _, ?_, Nat.le_refl _, by decide, rfl, rfl⟩⟩ (fun k hk => by
    have : W.heap.size = k := by simpa [Value.ownBlock] using hk
    omega)
  rw [Below.heap_alloc _ _ _ (by simp <;> omega), Below.heap_alloc _ _ _ (by simp)]
  exact heap_alloc_new W _
theorem S_Create_ok (sb : Nat) (ok : Nat → Prop) (L : List (Nat × AF)) (u n : ByteArray) (kind perm : Int) (W : World) (hR : StoreRep W ok sb L)
    (hu : 1 ≤ u.size ∧ u.size ≤ 20) (hn : 1 ≤ n.size ∧ n.size ≤ 30) (hkd : 0 ≤ kind ∧ kind ≤ 2) (hpm : 0 ≤ perm ∧ perm ≤ 255) (hno : ∀ p ∈ L, p.2.F.name ≠ n) (hlen : L.length < 30) :
    Calls Try.prog 12 #[.pointer (some ⟨sb, 0, none⟩), .string u, .string n, .int .i64 kind, .int .i64 perm] W (SOut W ok sb (.int .i64 0) (L.map (·.2) ++ [newF u n kind perm])) := by
  obtain ⟨mb, D, own, R⟩ := hR
  have hlook := filesL_none R.mM hno
  have hD : D.atKey (.string n.data.toList) .nil = .nil := by rw [R.mM.at_, hlook]; rfl
  have hsz : Maps.size D = L.length := by rw [R.mM.size, List.length_map]
  refine (Create_c sb mb _ D u n kind perm W R.S.cell R.M (by omega) hu hn hkd hpm hD (by omega)).mono ?_
  rintro e w' ⟨rfl, W3, hW3, hM', hT⟩
  obtain ⟨P3, hb3, hs3⟩ := new_parts W u n kind perm W3 hW3
  have hmb := R.M.lt
  have hsb := R.S.lt
  have hne : sb ≠ mb := fun e => by
    have h1 := R.S
    obtain ⟨es, clock, hb, _⟩ := R.M
    rw [← e] at hb
    exact absurd (h1.symm.trans hb) (by simp)
  have hcT : Chg W3 w' (fun q => q = mb) := Chg.of_turned hT rfl
  have hsz' : w'.heap.size = W3.heap.size := by
    obtain ⟨_, _, _, _, _, rfl⟩ := hT
    simp [setBlock]
  have hcW : Chg W w' ok := ((Chg.of_below hb3 (fun _ => False)).mono (fun _ h => h.elim)).trans hcT (fun q hq => .inl (by rw [hq]; exact R.okm))
  have hfbs : ∀ p ∈ L, p.1 < W.heap.size ∧ p.1 ≠ mb := fun p hp => by
    obtain ⟨A, rc, uv, ub, DU, P⟩ := R.files p hp
    exact ⟨blk_lt P.F, Ne.symm (blk_map_ne P.F R.M)⟩
  refine ⟨rfl, okP ok W w', L ++ [(W.heap.size + 2, newF u n kind perm)], ⟨mb, D.put (.string n.data.toList) (.lit (.int .i64 (W.heap.size + 2 : Nat))), fun q => if q = mb ∨ q = sb then mb else if q < W.heap.size then own q else W.heap.size + 2, ?_⟩, by simp, hcW, fun q hq => hq.1⟩
  have hmap : (L ++ [(W.heap.size + 2, newF u n kind perm)]).map (fun p => (p.2.key, (DataW.lit (.int .i64 (p.1 : Int)) : DataW Unit))) = L.map (fun p => (p.2.key, (DataW.lit (.int .i64 (p.1 : Int)) : DataW Unit))) ++ [(n.data.toList, .lit (.int .i64 (W.heap.size + 2 : Nat)))] := by
    rw [List.map_append]; rfl
  refine ⟨⟨.inl R.oks, by omega⟩, ⟨.inl R.okm, by omega⟩, ?_, ownsMap_tight hM', ?_, ?_, ?_, fun q hq => hq.2, ?_, ?_⟩
  · exact (hcT.block sb (by omega) hne).trans ((hb3.block sb hsb).trans R.S)
  · rw [hmap]
    exact R.mM.put _ _ hlook
  · intro p hp
    rcases List.mem_append.1 hp with hp | hp
    · refine (((R.files p hp).step (Chg.of_below hb3 (fun _ => False)) (fun _ _ h => h)).step hcT (fun q hq e => (R.ownm p hp).1 (by rw [← e]; exact hq.2))).mono (fun q hq => ?_)
      have hqlt := R.lt q hq.1
      refine ⟨⟨.inl hq.1, by omega⟩, ?_⟩
      have h1 : ¬ (q = mb ∨ q = sb) := fun h => h.elim (fun e => (R.ownm p hp).1 (by rw [← e]; exact hq.2)) (fun e => (R.ownm p hp).2 (by rw [← e]; exact hq.2))
      show (if q = mb ∨ q = sb then mb else if q < W.heap.size then own q else W.heap.size + 2) = p.1
      rw [if_neg h1, if_pos hqlt]
      exact hq.2
    · obtain rfl := List.mem_singleton.1 hp
      refine ⟨_, _, _, _, _, (P3.step hcT (fun q hq => by omega)).bound.mono (fun q hq => ⟨⟨.inr hq.1, hq.2⟩, ?_⟩)⟩
      show (if q = mb ∨ q = sb then mb else if q < W.heap.size then own q else W.heap.size + 2) = W.heap.size + 2
      have hq1 := hq.1
      rw [if_neg (by omega), if_neg (by omega)]
  · intro p hp
    have h2 : p.1 ≠ mb := by
      rcases List.mem_append.1 hp with hp | hp
      · exact (hfbs p hp).2
      · obtain rfl := List.mem_singleton.1 hp
        show W.heap.size + 2 ≠ mb
        omega
    show (if mb = mb ∨ mb = sb then mb else _) ≠ p.1 ∧ (if sb = mb ∨ sb = sb then mb else _) ≠ p.1
    rw [if_pos (.inl rfl), if_pos (.inr rfl)]
    exact ⟨Ne.symm h2, Ne.symm h2⟩
  · rw [List.map_append, List.nodup_append]
    refine ⟨R.fbs, by simp, fun a ha b hb e => ?_⟩
    obtain ⟨p, hp, rfl⟩ := List.mem_map.1 ha
    have := (hfbs p hp).1
    have hb' : b = W.heap.size + 2 := by simpa using hb
    omega
  · rw [List.map_append, List.nodup_append]
    refine ⟨R.names, by simp, fun a ha b hb e => ?_⟩
    obtain ⟨p, hp, rfl⟩ := List.mem_map.1 ha
    have hb' : b = n.data.toList := by simpa [newF, AF.key] using hb
    exact hno p hp (data_inj (e.trans hb'))
/-- Whether nobody's opening stands against another one. -/
def freeB (l : List (ByteArray × (Int × Int))) (actions exclusive : Int) : Bool := l.all fun p => decide (bits .and .i64 p.2.2 actions = 0) && decide (bits .and .i64 exclusive p.2.1 = 0)
theorem openD_inj {p q : Int × Int} (h : openD p = openD q) : p = q := by
  unfold openD at h
  simp only [DataW.agg.injEq, List.cons.injEq, DataW.lit.injEq, Lit.int.injEq, true_and, and_true] at h
  exact Prod.ext h.1 h.2
theorem users_keys (l : List (ByteArray × (Int × Int))) : (usersL l).map (·.1) = l.map (fun p => p.1.data.toList) := by simp [usersL]
theorem free_iff {DU : DataW Unit} {l : List (ByteArray × (Int × Int))} (h : MapIs DU (usersL l)) (hn : (l.map (fun p => p.1.data.toList)).Nodup) (actions exclusive : Int) : Free DU actions exclusive ↔ freeB l actions exclusive = true := by
  unfold Free freeB
  rw [List.all_eq_true]
  constructor
  · intro hf p hp
    have h1 : look (usersL l) p.1.data.toList = some (openD p.2) := look_of_mem (by rw [users_keys]; exact hn) (p := (p.1.data.toList, openD p.2)) (List.mem_map.2 ⟨p, hp, rfl⟩)
    have h2 := hf p.1.data.toList p.2.1 p.2.2 (fun zd => by rw [h.at_, h1]; rfl)
    simp [h2.1, h2.2]
  · intro hf k a b hz
    have h1 := hz .nil
    rw [h.at_] at h1
    cases hl : look (usersL l) k with
    | none => rw [hl] at h1; cases h1
    | some d =>
      rw [hl] at h1
      obtain ⟨p, hp, he⟩ := List.mem_map.1 (look_mem hl)
      injection he with he1 he2
      have h3 : openD p.2 = openD (a, b) := he2.trans h1
      have h4 := openD_inj h3
      have h5 := hf p hp
      rw [h4] at h5
      simpa using h5
def AF.opened (f : AF) (u : ByteArray) (a x : Int) : AF := { f with users := f.users ++ [(u, (a, x))] }
theorem S_Open (sb fb k : Nat) (ok : Nat → Prop) (L : List (Nat × AF)) (f : AF) (u n : ByteArray) (actions exclusive : Int) (W : World) (hR : StoreRep W ok sb L) (hk : L[k]? = some (fb, f)) (hnm : f.F.name = n)
    (hu : 1 ≤ u.size ∧ u.size ≤ 20) (hn : 1 ≤ n.size ∧ n.size ≤ 30) (hact : 0 ≤ actions ∧ actions ≤ 255) (hexc : 0 ≤ exclusive ∧ exclusive ≤ 255) (hsub : bits .andNot .i64 exclusive actions = 0)
    (hhas : lookU f.users u = none) (hmay : mayB f.F f.rules u actions = true) (hnd : (f.users.map (fun p => p.1.data.toList)).Nodup) (hul : f.users.length < 1000) :
    Calls Try.prog 13 #[.pointer (some ⟨sb, 0, none⟩), .string u, .string n, .int .i64 actions, .int .i64 exclusive] W
      (SOut W ok sb (.int .i64 (if freeB f.users actions exclusive then 0 else 12)) (if freeB f.users actions exclusive then (L.map (·.2)).set k (f.opened u actions exclusive) else L.map (·.2))) := by
  have hR0 := hR
  obtain ⟨mb, D, own, R⟩ := hR
  obtain ⟨A, rc, uv, ub, DU, P⟩ := R.files _ (List.mem_of_getElem? hk)
  have hD := filesL_look R.mM R.names (List.mem_of_getElem? hk)
  rw [hnm] at hD
  have hlook : look (usersL f.users) u.data.toList = none := by rw [look_users, hhas]; rfl
  have hh : Maps.has DU (.string u.data.toList) = false := by rw [P.mU.has, hlook]; rfl
  have hsz : Maps.size DU = f.users.length := by rw [P.mU.size]; simp [usersL]
  obtain ⟨_, hrc, hrC⟩ := Kd.R_reads' P.rules
  refine (Open_c sb mb _ fb ub _ rc D DU f.F A f.rules uv u n actions exclusive W R.S.cell R.M hu hn hD P.F P.U (by omega) hrC hrc hact hexc hsub hh hmay).mono ?_
  rintro e w' (⟨rfl, hf, hM', w3, hb3, hT⟩ | ⟨rfl, hf, hb⟩)
  · rw [(free_iff P.mU hnd actions exclusive).1 hf]
    have hcT : Chg w3 w' (fun q => q = ub) := Chg.of_turned hT rfl
    have hcW : Chg W w' (fun q => q = ub) := ((Chg.of_below hb3 (fun _ => False)).mono (fun _ h => h.elim)).trans hcT (fun q hq => .inl hq)
    have hF' : FileAt w' fb f.F (.slice A f.rules.length rc) uv ub := (hcW.block fb (blk_lt P.F) (Ne.symm (blk_map_ne P.F P.U))).trans P.F
    have hne : ∀ q cells t, W.heap[q]? = some (.cells cells t (0, 0)) → q ≠ ub := fun q cells t h => Ne.symm (blk_map_ne h P.U)
    have hrow : ∀ {α : Type} {d : Kd α} {e0 : Nat} {v : Value} {xs : List α}, d.R e0 W 0 (fun q => ok q ∧ own q = fb) v xs → d.R e0 w' 0 (fun q => ok q ∧ own q = fb) v xs := fun h =>
      Kd.R_mono (hcW.row (Kd.R_bound h) (fun q hq => by
        obtain ⟨_, _, _, t, _, cells, hc⟩ := hq
        exact hne q cells t hc)) (fun q hq => hq.1)
    have hput := P.mU.put u.data.toList (openD (actions, exclusive)) hlook
    have e : usersL (f.opened u actions exclusive).users = usersL f.users ++ [(u.data.toList, openD (actions, exclusive))] := by simp [usersL, AF.opened]
    have P' : FileParts w' (fun q => ok q ∧ own q = fb) fb (f.opened u actions exclusive) A rc uv ub _ := ⟨P.okb, hF', hrow P.rules, hrow P.units, P.oku, ownsMap_tight hM', by rw [e]; exact hput⟩
    exact SOut.step R hk rfl ⟨A, rc, uv, ub, _, P'.mono (fun q hq => .inl hq)⟩ (hcW.mono (fun q hq => by rw [hq]; exact P.oku))
  · have : freeB f.users actions exclusive = false := by
      cases h : freeB f.users actions exclusive with
      | false => rfl
      | true => exact absurd ((free_iff P.mU hnd actions exclusive).2 h) hf
    rw [this]
    exact SOut.below hR0 hb
end Go.Proofs.Ytehlmkgldcfciaa.Files
