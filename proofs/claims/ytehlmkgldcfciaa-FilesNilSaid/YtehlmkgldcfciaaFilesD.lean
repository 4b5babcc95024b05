/- The file store as data: maps as lists, what a step may turn, a file and the store in memory. -/
import Derived.Test.YtehlmkgldcfciaaFilesA
import Derived.Maps.Ext
import Derived.Test.YtehlmkgldcfciaaFx0
set_option linter.unusedVariables false
set_option linter.unusedSimpArgs false
namespace Go.Proofs.Ytehlmkgldcfciaa.Files
open Go.Proofs.Ytehlmkgldcfciaa.Common Go.Maps Go.ChangeMaps Go.WideMaps Go.Proofs.Ytehlmkgldcfciaa.F
open Go.RowKit Go.Proofs.YtehlmkgldcfciaaW.PrintWords Go.Proofs.YtehlmkgldcfciaaW.PrintLast Go.Proofs.YtehlmkgldcfciaaW.PrintMore
/-! Maps as lists of keys and elements. -/
abbrev Key := List UInt8
def look {α : Type} (l : List (Key × α)) (k : Key) : Option α := (l.find? fun p => decide (p.1 = k)).map (·.2)
theorem look_nil {α : Type} (k : Key) : look ([] : List (Key × α)) k = none := rfl
theorem look_cons {α : Type} (p : Key × α) (l : List (Key × α)) (k : Key) : look (p :: l) k = if p.1 = k then some p.2 else look l k := by
  unfold look
  by_cases h : p.1 = k
  · rw [List.find?_cons_of_pos (by simp [h]), if_pos h]; rfl
  · rw [List.find?_cons_of_neg (by simp [h]), if_neg h]
theorem look_snoc {α : Type} (l : List (Key × α)) (p : Key × α) (k : Key) : look (l ++ [p]) k = match look l k with | some x => some x | none => if p.1 = k then some p.2 else none := by
  induction l with
  | nil => rw [List.nil_append, look_cons]; rfl
  | cons q l ih =>
    rw [List.cons_append, look_cons, look_cons]
    by_cases h : q.1 = k
    · rw [if_pos h, if_pos h]
    · rw [if_neg h, if_neg h, ih]
theorem look_none {α : Type} {l : List (Key × α)} {k : Key} : look l k = none ↔ ∀ p ∈ l, p.1 ≠ k := by
  induction l with
  | nil => simp [look_nil]
  | cons q l ih =>
    rw [look_cons]
    by_cases h : q.1 = k
    · rw [if_pos h]; simp [h]
    · rw [if_neg h, ih]; simp [h]
theorem look_mem {α : Type} {l : List (Key × α)} {k : Key} {x : α} (h : look l k = some x) : (k, x) ∈ l := by
  unfold look at h
  obtain ⟨p, hp, rfl⟩ := Option.map_eq_some_iff.1 h
  have h1 := List.find?_some hp
  have h2 := List.mem_of_find?_eq_some hp
  have h3 : p.1 = k := by simpa using h1
  rw [← h3]
  exact h2
theorem look_of_mem {α : Type} {l : List (Key × α)} (hn : (l.map (·.1)).Nodup) {p : Key × α} (hp : p ∈ l) : look l p.1 = some p.2 := by
  induction l with
  | nil => cases hp
  | cons q l ih =>
    rw [look_cons]
    simp only [List.map_cons, List.nodup_cons] at hn
    rcases List.mem_cons.1 hp with rfl | hp
    · rw [if_pos rfl]
    · rw [if_neg (fun e => hn.1 (by rw [e]; exact List.mem_map.2 ⟨p, hp, rfl⟩)), ih hn.2 hp]
def drop_ {α : Type} (l : List (Key × α)) (k : Key) : List (Key × α) := l.filter fun p => !decide (p.1 = k)
theorem look_drop {α : Type} (l : List (Key × α)) (k k' : Key) : look (drop_ l k) k' = if k' = k then none else look l k' := by
  induction l with
  | nil => simp [drop_, look_nil]
  | cons q l ih =>
    have e : drop_ (q :: l) k = if q.1 = k then drop_ l k else q :: drop_ l k := by
      unfold drop_
      rw [List.filter_cons]
      by_cases h : q.1 = k <;> simp [h]
    rw [e, look_cons]
    by_cases h : q.1 = k
    · rw [if_pos h, ih]
      by_cases h2 : k' = k
      · rw [if_pos h2, if_pos h2]
      · rw [if_neg h2, if_neg h2, if_neg (fun e => h2 (e.symm.trans h))]
    · rw [if_neg h, look_cons, ih]
      by_cases h3 : q.1 = k'
      · rw [if_pos h3, if_pos h3, if_neg (fun e => h (h3.trans e))]
      · rw [if_neg h3, if_neg h3]
theorem drop_length {α : Type} {l : List (Key × α)} (hn : (l.map (·.1)).Nodup) (k : Key) : (drop_ l k).length + (if (look l k).isSome = true then 1 else 0) = l.length := by
  induction l with
  | nil => simp [drop_, look_nil]
  | cons q l ih =>
    simp only [List.map_cons, List.nodup_cons] at hn
    have e : drop_ (q :: l) k = if q.1 = k then drop_ l k else q :: drop_ l k := by
      unfold drop_
      rw [List.filter_cons]
      by_cases h : q.1 = k <;> simp [h]
    have := ih hn.2
    rw [e, look_cons]
    by_cases h : q.1 = k
    · have h0 : look l k = none := look_none.2 fun p hp e2 => hn.1 (by rw [h, ← e2]; exact List.mem_map.2 ⟨p, hp, rfl⟩)
      rw [if_pos h, if_pos h]
      rw [h0] at this
      simp at this ⊢
      omega
    · rw [if_neg h, if_neg h, List.length_cons, List.length_cons]
      omega
structure MapIs (D : DataW Unit) (l : List (Key × DataW Unit)) : Prop where
  at_ : ∀ k z, D.atKey (.string k) z = (look l k).getD z
  has : ∀ k, Maps.has D (.string k) = (look l k).isSome
  size : Maps.size D = l.length
  tidy : Maps.Tidy D
theorem MapIs.nil : MapIs (.map []) [] := ⟨fun k z => rfl, fun k => rfl, rfl, tidy_empty⟩
theorem key_ne {k k' : Key} (h : k' ≠ k) : (Lit.string k') ≠ (Lit.string k) := fun e => h (by injection e)
theorem MapIs.put {D : DataW Unit} {l : List (Key × DataW Unit)} (h : MapIs D l) (k : Key) (d : DataW Unit) (hn : look l k = none) : MapIs (D.put (.string k) d) (l ++ [(k, d)]) := by
  have hk : WideAt.IsKeyLit (.string k) := trivial
  refine ⟨fun k' z => ?_, fun k' => ?_, ?_, h.tidy.put hk d⟩
  · rw [look_snoc]
    by_cases e : k' = k
    · subst e
      rw [atKey_put_same h.tidy.isMap hk, hn]
      simp
    · rw [atKey_put_other (key_ne e), h.at_]
      cases look l k' with
      | some x => rfl
      | none => show z = (if k = k' then some d else none).getD z; rw [if_neg (fun e2 => e (Eq.symm e2))]; rfl
  · rw [look_snoc]
    by_cases e : k' = k
    · subst e
      rw [has_put_same h.tidy.isMap hk, hn]
      simp
    · rw [has_put_other (key_ne e), h.has]
      cases look l k' with
      | some x => rfl
      | none => show false = (if k = k' then some d else none).isSome; rw [if_neg (fun e2 => e (Eq.symm e2))]; rfl
  · rw [size_put h.tidy, h.has, hn, h.size]
    simp
theorem MapIs.del {D : DataW Unit} {l : List (Key × DataW Unit)} (h : MapIs D l) (hn : (l.map (·.1)).Nodup) (k : Key) : MapIs (D.del (.string k)) (drop_ l k) := by
  refine ⟨fun k' z => ?_, fun k' => ?_, ?_, h.tidy.del _⟩
  · rw [look_drop]
    by_cases e : k' = k
    · subst e
      rw [atKey_del_same, if_pos rfl]; rfl
    · rw [atKey_del_other (key_ne e), h.at_, if_neg e]
  · rw [look_drop]
    by_cases e : k' = k
    · subst e
      rw [has_del_same, if_pos rfl]; rfl
    · rw [has_del_other (key_ne e), h.has, if_neg e]
  · have h1 := size_del (k := .string k) h.tidy
    have h2 := drop_length hn k
    rw [h.has, h.size] at h1
    omega
theorem ownsMap_tight {w : World} {k b n : Nat} {R : Value → Option (DataW Unit × List MemPlace)} {D : DataW Unit} (h : w.ownsMap Try.prog k R b n D) : w.ownsMap Try.prog k R b (Maps.size D) D := by
  obtain ⟨es, clock, hb, F, hs, rfl⟩ := h
  exact ⟨es, clock, hb, F, by simp [Maps.size, length_sorted], rfl⟩
/-! What a step may turn. -/
structure Chg (W W' : World) (S : Nat → Prop) : Prop where
  os : W'.os = W.os
  tape : W'.tape = W.tape
  output : W'.output = W.output
  size : W.heap.size ≤ W'.heap.size
  block : ∀ k, k < W.heap.size → ¬ S k → W'.heap[k]? = W.heap[k]?
theorem Chg.refl (W : World) (S : Nat → Prop) : Chg W W S := ⟨rfl, rfl, rfl, Nat.le_refl _, fun _ _ _ => rfl⟩
theorem Chg.of_below {W W' : World} (h : Below W.heap.size W W') (S : Nat → Prop) : Chg W W' S := ⟨h.os, h.tape, h.output, h.size, fun k hk _ => h.block k hk⟩
theorem Chg.below0 {W W' : World} {S : Nat → Prop} (h : Chg W W' S) (hS : ∀ k, ¬ S k) : Below W.heap.size W W' := ⟨h.os, h.tape, h.output, h.size, fun k hk => h.block k hk (hS k)⟩
theorem Chg.below {B : Nat} {W W' : World} {S : Nat → Prop} (h : Chg W W' S) (hB : B ≤ W.heap.size) (hS : ∀ k, S k → B ≤ k) : Below B W W' := ⟨h.os, h.tape, h.output, h.size, fun k hk => h.block k (by omega) (fun hs => by have := hS k hs; omega)⟩
theorem Chg.of_grown {W W' : World} {row : Option Nat} (h : W.grownBy W' row) {S : Nat → Prop} (hS : ∀ k, some k = row → S k) : Chg W W' S := ⟨h.os, h.tape, h.output, h.size, fun k hk hs => h.block k hk (fun e => hs (hS k e))⟩
theorem Chg.of_set (W : World) (p : Addr) (u : Value) {S : Nat → Prop} (hS : S p.block) : Chg W (W.setCell p u) S := ⟨rfl, rfl, rfl, by simp [World.setCell], fun k _ hs => Below.heap_setCell _ _ _ _ (fun e => hs (by rw [e]; exact hS))⟩
theorem Chg.of_turned {W W' : World} {b : Nat} (h : W.mapTurned W' b) {S : Nat → Prop} (hS : S b) : Chg W W' S := Chg.of_grown h.grown (fun k e => by injection e with e; rw [e]; exact hS)
theorem Chg.mono {W W' : World} {S T : Nat → Prop} (h : Chg W W' S) (hST : ∀ k, S k → T k) : Chg W W' T := ⟨h.os, h.tape, h.output, h.size, fun k hk ht => h.block k hk (fun hs => ht (hST k hs))⟩
theorem Chg.trans {W W1 W2 : World} {S T : Nat → Prop} (h : Chg W W1 S) (k : Chg W1 W2 T) (hT : ∀ i, T i → S i ∨ W.heap.size ≤ i) : Chg W W2 S :=
  ⟨k.os.trans h.os, k.tape.trans h.tape, k.output.trans h.output, Nat.le_trans h.size k.size, fun i hi hs =>
    (k.block i (Nat.lt_of_lt_of_le hi h.size) (fun ht => (hT i ht).elim hs (fun hle => absurd hi (Nat.not_lt.2 hle)))).trans (h.block i hi hs)⟩
theorem Chg.cell {W W' : World} {S : Nat → Prop} (h : Chg W W' S) {p : Addr} (hp : p.block < W.heap.size) (hs : ¬ S p.block) : W'.cell? p = W.cell? p := World.cell?_of_block (w := W) (h.block p.block hp hs)
theorem Chg.map {W W' : World} {S : Nat → Prop} (h : Chg W W' S) {k : Nat} {R : Value → Option (DataW Unit × List MemPlace)} {b n : Nat} {D : DataW Unit} (ho : W.ownsMap Try.prog k R b n D) (hs : ¬ S b) : W'.ownsMap Try.prog k R b n D := by
  have hlt := ho.lt
  obtain ⟨es, clock, hb, F, hs', hD⟩ := ho
  exact ⟨es, clock, (h.block b hlt hs).trans hb, F, hs', hD⟩
theorem Chg.row {α : Type} {d : Kd α} {e base : Nat} {ok : Nat → Prop} {v : Value} {xs : List α} {W W' : World} {S : Nat → Prop} (h : Chg W W' S) (hr : d.R e W base ok v xs) (hs : ∀ k, ok k → ¬ S k) : d.R e W' base ok v xs :=
  Kd.R_step hr (fun k hk hlt => h.block k hlt (hs k hk))
/-! A file. -/
structure AF where
  F : FS
  rules : List S34
  units : List S41
  users : List (ByteArray × (Int × Int))
def AF.key (f : AF) : Key := f.F.name.data.toList
def openD (p : Int × Int) : DataW Unit := .agg [.lit (.int .i64 p.1), .lit (.int .i64 p.2)]
def usersL (l : List (ByteArray × (Int × Int))) : List (Key × DataW Unit) := l.map fun p => (p.1.data.toList, openD p.2)
def lookU (l : List (ByteArray × (Int × Int))) (u : ByteArray) : Option (Int × Int) := (l.find? fun p => decide (p.1 = u)).map (·.2)
theorem data_inj {a b : ByteArray} (h : a.data.toList = b.data.toList) : a = b := by
  cases a; cases b
  simpa using h
theorem look_users (l : List (ByteArray × (Int × Int))) (u : ByteArray) : look (usersL l) u.data.toList = (lookU l u).map openD := by
  induction l with
  | nil => rfl
  | cons p l ih =>
    show look ((p.1.data.toList, openD p.2) :: usersL l) _ = _
    rw [look_cons]
    unfold lookU at ih ⊢
    by_cases h : p.1 = u
    · rw [if_pos (by rw [h]), List.find?_cons_of_pos (by simp [h])]; rfl
    · rw [if_neg (fun e => h (data_inj e)), List.find?_cons_of_neg (by simp [h]), ih]
structure FileParts (W : World) (ok : Nat → Prop) (fb : Nat) (f : AF) (A : Option Addr) (rc : Nat) (uv : Value) (ub : Nat) (DU : DataW Unit) : Prop where
  okb : ok fb
  F : FileAt W fb f.F (.slice A f.rules.length rc) uv ub
  rules : Kd.R k34 34 W 0 ok (.slice A f.rules.length rc) f.rules
  units : Kd.R k41 41 W 0 ok uv f.units
  oku : ok ub
  U : W.ownsMap Try.prog 9 Ro ub (Maps.size DU) DU
  mU : MapIs DU (usersL f.users)
def FileRep (W : World) (ok : Nat → Prop) (fb : Nat) (f : AF) : Prop := ∃ A rc uv ub DU, FileParts W ok fb f A rc uv ub DU
theorem FileParts.step {W W' : World} {S ok : Nat → Prop} {fb rc ub : Nat} {f : AF} {A : Option Addr} {uv : Value} {DU : DataW Unit} (h : FileParts W ok fb f A rc uv ub DU) (hc : Chg W W' S) (hs : ∀ k, ok k → ¬ S k) : FileParts W' ok fb f A rc uv ub DU :=
  ⟨h.okb, (hc.block fb (blk_lt h.F) (hs fb h.okb)).trans h.F, hc.row h.rules hs, hc.row h.units hs, h.oku, hc.map h.U (hs ub h.oku), h.mU⟩
theorem FileParts.mono {W : World} {ok ok' : Nat → Prop} {fb rc ub : Nat} {f : AF} {A : Option Addr} {uv : Value} {DU : DataW Unit} (h : FileParts W ok fb f A rc uv ub DU) (hs : ∀ k, ok k → ok' k) : FileParts W ok' fb f A rc uv ub DU :=
  ⟨hs _ h.okb, h.F, Kd.R_mono h.rules hs, Kd.R_mono h.units hs, hs _ h.oku, h.U, h.mU⟩
theorem FileParts.below {W W' : World} {ok : Nat → Prop} {fb rc ub : Nat} {f : AF} {A : Option Addr} {uv : Value} {DU : DataW Unit} (h : FileParts W ok fb f A rc uv ub DU) (hb : Below W.heap.size W W') : FileParts W' ok fb f A rc uv ub DU :=
  h.step (Chg.of_below hb (fun _ => False)) (fun _ _ h => h)
theorem FileRep.step {W W' : World} {S ok : Nat → Prop} {fb : Nat} {f : AF} (h : FileRep W ok fb f) (hc : Chg W W' S) (hs : ∀ k, ok k → ¬ S k) : FileRep W' ok fb f := by
  obtain ⟨A, rc, uv, ub, DU, h⟩ := h
  exact ⟨A, rc, uv, ub, DU, h.step hc hs⟩
theorem FileRep.mono {W : World} {ok ok' : Nat → Prop} {fb : Nat} {f : AF} (h : FileRep W ok fb f) (hs : ∀ k, ok k → ok' k) : FileRep W ok' fb f := by
  obtain ⟨A, rc, uv, ub, DU, h⟩ := h
  exact ⟨A, rc, uv, ub, DU, h.mono hs⟩
/-! The way to a file, and the store. -/
structure View (W : World) (sb mb : Nat) (D : DataW Unit) (u n : ByteArray) : Prop where
  c0 : W.cell? ⟨sb, 0, none⟩ = some (.map (some mb))
  M : W.ownsMap Try.prog 9 Rp mb (Maps.size D) D
  hu : 1 ≤ u.size ∧ u.size ≤ 20
  hn : 1 ≤ n.size ∧ n.size ≤ 30
theorem View.below {W W' : World} {sb mb : Nat} {D : DataW Unit} {u n : ByteArray} (h : View W sb mb D u n) (hb : Below W.heap.size W W') : View W' sb mb D u n :=
  ⟨pw_cell_below hb h.c0, (Chg.of_below hb (fun _ => False)).map h.M (fun h => h), h.hu, h.hn⟩
structure StoreParts (W : World) (ok : Nat → Prop) (sb : Nat) (L : List (Nat × AF)) (mb : Nat) (D : DataW Unit) (own : Nat → Nat) : Prop where
  oks : ok sb
  okm : ok mb
  S : Boxed W sb 52 (.map (some mb))
  M : W.ownsMap Try.prog 9 Rp mb (Maps.size D) D
  mM : MapIs D (L.map fun p => (p.2.key, .lit (.int .i64 p.1)))
  files : ∀ p ∈ L, FileRep W (fun k => ok k ∧ own k = p.1) p.1 p.2
  ownm : ∀ p ∈ L, own mb ≠ p.1 ∧ own sb ≠ p.1
  lt : ∀ k, ok k → k < W.heap.size
  fbs : (L.map (·.1)).Nodup
  names : (L.map (·.2.key)).Nodup
def StoreRep (W : World) (ok : Nat → Prop) (sb : Nat) (L : List (Nat × AF)) : Prop := ∃ mb D own, StoreParts W ok sb L mb D own
end Go.Proofs.Ytehlmkgldcfciaa.Files
