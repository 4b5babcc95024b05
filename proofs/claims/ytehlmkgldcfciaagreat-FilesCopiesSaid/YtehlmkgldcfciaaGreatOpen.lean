/- What can be read as data at a type is a value of that type's kind; with the sizes that the row's reach gives. For rows of laws with arguments of any plain type. -/
import Derived.Test.YtehlmkgldcfciaaGreatWWords
import Derived.SizedLaws
import Derived.ChangeSlices
import Derived.ChangeArms
import Derived.Deep.Slices
import Derived.DataReads
set_option linter.unusedVariables false
set_option linter.unusedSimpArgs false
namespace Go.Proofs.YtehlmkgldcfciaaGreat.Open
open Go.RowKit Go.Proofs.YtehlmkgldcfciaaGreatW.PrintWords Go.ChangeShapes Go.WideShapes Go.Deep
def Opens (P : Program) (t : TypeId) {α : Type} (d : Kd α) (B : α → Prop) : Prop :=
  ∀ {H : Type} (enc : TypeId × Value → H) (W : World) (fuel : Nat) (cs : List Value) (dat : DataW H) (ps : List MemPlace),
    DataW.trod enc P W 0 (fun _ => true) true fuel t cs = some (dat, ps) → (∀ n ∈ dat.weights P t, n ≤ reachBytes) → ∃ a, d.K W a cs ∧ B a
theorem Opens.int {P : Program} {t : TypeId} {k : IntKind} (ht : P.underlying t = some (.int k)) : Opens P t (Kd.int k) (fun n => (Lit.int k n).wf = true) := by
  intro H enc W fuel cs dat ps h _
  obtain ⟨n, rfl, _, hw⟩ := DataW.trod_int ht h
  exact ⟨n, rfl, hw⟩
theorem Opens.bool {P : Program} {t : TypeId} (ht : P.underlying t = some .bool) : Opens P t Kd.bool (fun _ => True) := by
  intro H enc W fuel cs dat ps h _
  obtain ⟨b, rfl, _⟩ := DataW.trod_bool ht h
  exact ⟨b, rfl, trivial⟩
theorem Opens.string {P : Program} {t : TypeId} (ht : P.underlying t = some .string) : Opens P t Kd.string (fun s => s.size ≤ 140737488351232) := by
  intro H enc W fuel cs dat ps h hs
  obtain ⟨s, rfl, hx, _⟩ := DataW.trod_string ht h
  obtain ⟨rfl, _⟩ := Prod.mk.inj hx
  refine ⟨s, rfl, ?_⟩
  have := hs s.data.toList.length (by simp [DataW.weights])
  rw [data_length] at this
  exact this
theorem weights_all {H : Type} {P : Program} {e : TypeId} {l : List (DataW H)} {d : DataW H} (hd : d ∈ l) {n : Nat} (hn : n ∈ d.weights P e) : n ∈ DataW.weightsAll P e l := by
  induction l with
  | nil => simp at hd
  | cons x l ih =>
    rw [DataW.weightsAll, List.mem_append]
    rcases List.mem_cons.1 hd with rfl | hd
    · exact .inl hn
    · exact .inr (ih hd)
theorem Opens.slice {P : Program} {t e : TypeId} {α : Type} {d : Kd α} {B : α → Prop} (by_ : Nat) (ht : P.underlying t = some (.slice e)) (hC : P.cellsOf e = d.sz) (hby : P.bytesOf e = by_) (he : Opens P e d B) :
    Opens P t (Kd.slice e d) (fun xs => xs.length ≤ 9223372036854775807 ∧ xs.length * by_ ≤ 140737488351232 ∧ ∀ x ∈ xs, B x) := by
  subst hby
  intro H enc W fuel cs dat ps h hs
  rcases open_slice ht h with ⟨rfl, hx⟩ | ⟨a, len, cap, m, n, D, Pl, rfl, _, hl, hm, hmm, hx, hi⟩
  · refine ⟨[], ⟨none, 0, rfl, Nat.le_refl _, ⟨rfl, by simp, fun h0 => absurd h0 (by simp)⟩⟩, by simp, by simp, by simp⟩
  · obtain ⟨rfl, _⟩ := Prod.mk.inj hx
    have hmc : m = cap := by rw [hmm]; rfl
    subst hmc
    have hel : ∀ i, i < len → ∃ (x : α) (c : List Value), c.length = d.sz ∧ d.K W x c ∧ B x ∧ ∀ j u, c[j]? = some u → W.cell? (a.add (i * d.sz + j)) = some u := by
      intro i hil
      obtain ⟨cs', hc, ht'⟩ := hi i (by omega)
      obtain ⟨_, hcl, hat⟩ := World.cells?_some hc
      obtain ⟨x, hk, hb⟩ := he enc W n cs' (D i) (Pl i) ht' (fun q hq => hs q (by
        rw [DataW.weights, ht]
        refine List.mem_cons_of_mem _ (List.mem_append_left _ (weights_all (d := D i) ?_ hq))
        exact List.mem_map.2 ⟨i, List.mem_range.2 hil, rfl⟩))
      refine ⟨x, cs', by rw [hcl, hC], hk, hb, fun j u hu => ?_⟩
      have hj : j < P.cellsOf e := by rw [← hcl]; exact (List.getElem?_eq_some_iff.1 hu).1
      have := hat j hj
      rw [hu] at this
      rw [← hC, ← Go.Deep.add_add]
      exact this
    have hch : ∀ i : Fin len, ∃ x : α, ∃ c : List Value, c.length = d.sz ∧ d.K W x c ∧ B x ∧ ∀ j u, c[j]? = some u → W.cell? (a.add (i.val * d.sz + j)) = some u := fun i => hel i.val i.isLt
    have hf := fun i : Fin len => Classical.choose_spec (hch i)
    refine ⟨List.ofFn (fun i : Fin len => Classical.choose (hch i)), ⟨some a, m, by simp, by simpa using hl, ⟨by simp, ?_, fun hp => ⟨a, rfl, fun j p hj => ?_⟩⟩⟩, ?_, ?_, ?_⟩
    · simp only [List.length_ofFn]; unfold maxLen at hm; omega
    · rw [List.getElem?_ofFn] at hj
      split at hj
      · rename_i hjl
        injection hj with hj
        subst hj
        obtain ⟨c, h1, h2, _, h4⟩ := hf ⟨j, hjl⟩
        exact ⟨c, h1, h2, h4⟩
      · cases hj
    · simp only [List.length_ofFn]; unfold maxLen at hm; omega
    · simp only [List.length_ofFn]
      have := hs ((((List.range len).map D).length + ((List.range (m - len)).map fun j => D (len + j)).length) * P.bytesOf e) (by rw [DataW.weights, ht]; exact List.mem_cons_self)
      simp only [List.length_map, List.length_range] at this
      refine Nat.le_trans (Nat.mul_le_mul_right _ ?_) this
      omega
    · intro x hx
      obtain ⟨i, rfl⟩ := (List.mem_ofFn).1 hx
      obtain ⟨c, _, _, h3, _⟩ := hf i
      exact h3
def OpensF (P : Program) (fs : List Field) (off : Nat) {α : Type} (d : Kd α) (B : α → Prop) : Prop :=
  ∀ {H : Type} (enc : TypeId × Value → H) (W : World) (n : Nat) (cs : List Value) (xs : List (DataW H × List MemPlace)), xs.length = fs.length →
    (∀ (i : Nat) (f : Field), fs[i]? = some f → DataW.trod enc P W 0 (fun _ => true) true n f.type ((cs.drop f.offset).take (P.cellsOf f.type)) = xs[i]?) →
    (∀ q ∈ DataW.weightsEach P (fs.map (·.type)) (xs.map (·.1)), q ≤ reachBytes) → ∃ a, d.K W a ((cs.drop off).take d.sz) ∧ B a
theorem OpensF.one {P : Program} {f : Field} {off : Nat} {α : Type} {d : Kd α} {B : α → Prop} (ho : f.offset = off) (hC : P.cellsOf f.type = d.sz) (h : Opens P f.type d B) : OpensF P [f] off d B := by
  intro H enc W n cs xs hl hx hs
  match xs, hl with
  | [y], _ =>
    have h0 := hx 0 f rfl
    rw [ho, hC] at h0
    exact h enc W n _ y.1 y.2 h0 (fun q hq => hs q (by simp [DataW.weightsEach, hq]))
theorem OpensF.cons {P : Program} {f : Field} {fs : List Field} {off : Nat} {α β : Type} {d : Kd α} {d' : Kd β} {B : α → Prop} {B' : β → Prop} (ho : f.offset = off) (hC : P.cellsOf f.type = d.sz) (h : Opens P f.type d B) (h' : OpensF P fs (off + d.sz) d' B') :
    OpensF P (f :: fs) off (Kd.pair d d') (fun x => B x.1 ∧ B' x.2) := by
  intro H enc W n cs xs hl hx hs
  match xs, hl with
  | y :: ys, hl =>
    have h0 := hx 0 f rfl
    rw [ho, hC] at h0
    obtain ⟨a, hk, hb⟩ := h enc W n _ y.1 y.2 h0 (fun q hq => hs q (by simp [DataW.weightsEach, hq]))
    obtain ⟨b, hk', hb'⟩ := h' enc W n cs ys (by simpa using hl) (fun i g hg => by simpa using hx (i + 1) g (by simpa using hg)) (fun q hq => hs q (by
      rw [List.map_cons, List.map_cons, DataW.weightsEach]; exact List.mem_append_right _ hq))
    refine ⟨(a, b), ⟨_, _, ?_, hk, hk'⟩, hb, hb'⟩
    show List.take (d.sz + d'.sz) (cs.drop off) = _
    rw [List.take_add, List.drop_drop]
theorem Opens.struct {P : Program} {t : TypeId} {fs : Array Field} {α : Type} {d : Kd α} {B : α → Prop} (ht : P.underlying t = some (.struct fs)) (hC : P.cellsOf t = d.sz) (h : OpensF P fs.toList 0 d B) : Opens P t d B := by
  intro H enc W fuel cs dat ps hd hs
  obtain ⟨xs, n, _, hx, hcl, hlen, hf⟩ := DataW.trod_struct ht hd
  obtain ⟨rfl, _⟩ := Prod.mk.inj hx
  obtain ⟨a, hk, hb⟩ := h enc W n cs xs (by rw [hlen]; simp) (fun i f hi => hf i f (by simpa using hi)) (fun q hq => hs q (by rw [DataW.weights, ht]; exact hq))
  rw [List.drop_zero, List.take_of_length_le (by rw [hcl, hC]; exact Nat.le_refl _)] at hk
  exact ⟨a, hk, hb⟩
theorem Opens.iso {P : Program} {t : TypeId} {α β : Type} {d : Kd α} {B : α → Prop} {f : β → α} (g : α → β) (hg : ∀ x, f (g x) = x) (h : Opens P t d B) : Opens P t (Kd.iso d f) (fun x => B (f x)) := by
  intro H enc W fuel cs dat ps hd hs
  obtain ⟨a, hk, hb⟩ := h enc W fuel cs dat ps hd hs
  exact ⟨g a, by show d.K W (f (g a)) cs; rw [hg]; exact hk, by show B (f (g a)); rw [hg]; exact hb⟩
theorem Opens.arg {P : Program} {t : TypeId} {α : Type} {d : Kd α} {B : α → Prop} (h : Opens P t d B) {H : Type} {enc : TypeId × Value → H} {W : World} {v : Value} {dat : DataW H} {ps : List MemPlace}
    (ht : DataW.Trod enc P W 0 (fun _ => true) true t v dat ps) {ts : List TypeId} {ds : List (DataW H)} (hsz : (DataW.weightsEach P ts ds).all (· ≤ reachBytes) = true) {j : Nat} (h1 : ts[j]? = some t) (h2 : ds[j]? = some dat) :
    ∃ a, d.K W a v.cells.toList ∧ B a := by
  obtain ⟨fuel, hf⟩ := ht
  exact h enc W fuel _ dat ps hf (fun n hn => by simpa using List.all_eq_true.1 hsz n (DataW.weights_mem_each h1 h2 n hn))
theorem K_slice {α : Type} {d : Kd α} {e : Nat} {W : World} {xs : List α} {A : Option Addr} {n c : Nat} (h : (Kd.slice e d).K W xs (Value.slice A n c).cells.toList) : n = xs.length ∧ xs.length ≤ c ∧ d.C W A xs.length xs := by
  obtain ⟨A', c', he, hl, hC⟩ := h
  simp [Value.cells] at he
  obtain ⟨rfl, rfl, rfl⟩ := he
  exact ⟨rfl, hl, hC⟩
end Go.Proofs.YtehlmkgldcfciaaGreat.Open
