/- Tables of addresses: what is found, and what Brief leaves. Plain lists. -/
import Derived.Test.YtchkhnhmpgkpeaaLib11
import Derived.Test.YtchkhnhmpgkpeaaPx0
import Derived.Test.YtchkhnhmpgkpeaaPx9
import Derived.Test.YtchkhnhmpgkpeaaPx18
import Derived.Test.YtchkhnhmpgkpeaaPx19
import Derived.Test.YtchkhnhmpgkpeaaPx21
set_option linter.unusedVariables false
set_option linter.unusedSimpArgs false
namespace Go.Proofs.Ytchkhnhmpgkpeaa.P
open Go.RowKit Go.Proofs.YtchkhnhmpgkpeaaW.PrintWords Go.Proofs.Ytchkhnhmpgkpeaa.EvLib Go.Proofs.Ytchkhnhmpgkpeaa.Common

theorem beg_iff {p a : List Int} : beg p a = true ↔ p.length ≤ a.length ∧ a.take p.length = p := by simp [beg]
theorem beg_trans {p q a : List Int} (h : beg p q = true) (k : beg q a = true) : beg p a = true := by
  rw [beg_iff] at *
  obtain ⟨h1, h2⟩ := h
  obtain ⟨k1, k2⟩ := k
  refine ⟨by omega, ?_⟩
  rw [← k2, List.take_take, Nat.min_eq_left h1] at h2
  exact h2
theorem beg_of {p q a : List Int} (h : beg p a = true) (k : beg q a = true) (hl : p.length ≤ q.length) : beg p q = true := by
  rw [beg_iff] at *
  obtain ⟨h1, h2⟩ := h
  obtain ⟨k1, k2⟩ := k
  refine ⟨hl, ?_⟩
  have e : q.take p.length = (a.take q.length).take p.length := by rw [k2]
  rw [e, List.take_take, Nat.min_eq_left hl]
  exact h2
theorem beg_len_eq {p q a : List Int} (h : beg p a = true) (k : beg q a = true) (hl : p.length = q.length) : p = q := by
  rw [beg_iff] at *
  rw [← h.2, ← k.2, hl]

/-- A table. -/
def Tab (t : List S35) : Prop := t.length ≤ 100 ∧ (∀ x ∈ t, okE x.f0 x.f1 = true) ∧ t.Pairwise fun x y => cmpL x.f0 y.f0 < 0
theorem tab_of {t : List S35} (h : isTab t = true) : Tab t := by
  simp only [isTab, Bool.and_eq_true, decide_eq_true_eq] at h
  obtain ⟨h1, h2⟩ := h
  refine ⟨h1, fun x hx => ?_, ?_⟩
  · obtain ⟨i, hi, rfl⟩ := mem_getD z35 hx
    have := h2 i hi
    simp only [okAt, Bool.and_eq_true] at this
    exact this.1
  · have adj : ∀ j, j + 1 < t.length → cmpL (t.getD j z35).f0 (t.getD (j + 1) z35).f0 < 0 := fun j hj => by
      have := h2 (j + 1) hj
      simp only [okAt, Bool.and_eq_true, Bool.or_eq_true, decide_eq_true_eq] at this
      rcases this.2 with h | h
      · omega
      · exact h
    have far : ∀ d i, i + d + 1 < t.length → cmpL (t.getD i z35).f0 (t.getD (i + d + 1) z35).f0 < 0 := by
      intro d
      induction d with
      | zero => exact fun i hi => adj i hi
      | succ d ih => exact fun i hi => cmpL_trans (ih i (by omega)) (adj (i + d + 1) (by omega))
    rw [List.pairwise_iff_getElem]
    intro i j hi hj hij
    have := far (j - i - 1) i (by omega)
    rw [show i + (j - i - 1) + 1 = j by omega, getD_lt hi, getD_lt hj] at this
    exact this
theorem of_tab {t : List S35} (h : Tab t) : isTab t = true := by
  obtain ⟨h1, h2, h3⟩ := h
  simp only [isTab, Bool.and_eq_true, decide_eq_true_eq]
  refine ⟨h1, fun j hj => ?_⟩
  simp only [okAt, Bool.and_eq_true, Bool.or_eq_true, decide_eq_true_eq]
  refine ⟨h2 _ (getD_mem hj), ?_⟩
  by_cases h0 : j = 0
  · exact .inl h0
  · right
    have := List.pairwise_iff_getElem.1 h3 (j - 1) j (by omega) hj (by omega)
    rw [getD_lt (show j - 1 < t.length by omega), getD_lt hj]
    exact this
theorem Tab.erase {t : List S35} (h : Tab t) (i : Nat) : Tab (t.eraseIdx i) :=
  ⟨Nat.le_trans (List.length_eraseIdx_le _ _) h.1, fun x hx => h.2.1 x (List.mem_of_mem_eraseIdx hx), h.2.2.sublist (List.eraseIdx_sublist _ _)⟩
theorem Tab.pre {t : List S35} (h : Tab t) {x : S35} (hx : x ∈ t) : x.f0.length ≤ 10 := by
  have := h.2.1 x hx
  simp only [okE, Bool.and_eq_true] at this
  exact isPre_len this.1
theorem Tab.place {t : List S35} (h : Tab t) {i j : Nat} (hi : i < t.length) (hj : j < t.length) (he : t[i].f0 = t[j].f0) : i = j := by
  have hp := List.pairwise_iff_getElem.1 h.2.2
  rcases Nat.lt_trichotomy i j with hl | hl | hl
  · have := hp i j hi hj hl
    rw [he, cmpL_zero.2 rfl] at this
    omega
  · exact hl
  · have := hp j i hj hi hl
    rw [he, cmpL_zero.2 rfl] at this
    omega
theorem Tab.inj {t : List S35} (h : Tab t) {x y : S35} (hx : x ∈ t) (hy : y ∈ t) (he : x.f0 = y.f0) : x = y := by
  obtain ⟨i, hi, rfl⟩ := List.getElem_of_mem hx
  obtain ⟨j, hj, rfl⟩ := List.getElem_of_mem hy
  obtain rfl := h.place hi hj he
  rfl
theorem Tab.mem_erase {t : List S35} (h : Tab t) {i : Nat} (hi : i < t.length) {y : S35} : y ∈ t.eraseIdx i ↔ y ∈ t ∧ y ≠ t[i] := by
  constructor
  · intro hy
    refine ⟨List.mem_of_mem_eraseIdx hy, fun e => ?_⟩
    obtain ⟨j, hji, hj⟩ := List.mem_eraseIdx_iff_getElem?.1 hy
    obtain ⟨hjl, hj⟩ := List.getElem?_eq_some_iff.1 hj
    exact hji (h.place hjl hi (by rw [hj, e]))
  · rintro ⟨hy, hne⟩
    obtain ⟨j, hj, rfl⟩ := List.getElem_of_mem hy
    exact List.mem_eraseIdx_iff_getElem?.2 ⟨j, fun e => hne (by subst e; rfl), List.getElem?_eq_getElem hj⟩

/-- The longest of the entries whose lists begin a. -/
def Best (t : List S35) (a : List Int) (x : S35) : Prop := x ∈ t ∧ beg x.f0 a = true ∧ ∀ y ∈ t, beg y.f0 a = true → y.f0.length ≤ x.f0.length
def Found (t : List S35) (a : List Int) (o : Option Int) : Prop := (o = none ∧ ∀ y ∈ t, beg y.f0 a = false) ∨ ∃ x, Best t a x ∧ o = some x.f1
theorem Found.one {t : List S35} (h : Tab t) {a : List Int} {o o' : Option Int} (k : Found t a o) (k' : Found t a o') : o = o' := by
  rcases k with ⟨rfl, hn⟩ | ⟨x, ⟨h1, h2, h3⟩, rfl⟩ <;> rcases k' with ⟨rfl, hn'⟩ | ⟨y, ⟨g1, g2, g3⟩, rfl⟩
  · rfl
  · rw [hn y g1] at g2; cases g2
  · rw [hn' x h1] at h2; cases h2
  · have e1 := h3 y g1 g2
    have e2 := g3 x h1 h2
    rw [h.inj h1 g1 (beg_len_eq h2 g2 (by omega))]
/-- An entry changes nothing: the longest of those that are proper beginnings of it leads where it leads. -/
def Rem (t : List S35) (x : S35) : Prop := ∃ y, y ∈ t ∧ beg y.f0 x.f0 = true ∧ y.f0.length < x.f0.length ∧ (∀ z ∈ t, beg z.f0 x.f0 = true → z.f0.length < x.f0.length → z.f0.length ≤ y.f0.length) ∧ y.f1 = x.f1
theorem Found.erase {t : List S35} (h : Tab t) {i : Nat} (hi : i < t.length) (hr : Rem t t[i]) {a : List Int} {o : Option Int} (k : Found t a o) : Found (t.eraseIdx i) a o := by
  rcases k with ⟨rfl, hn⟩ | ⟨x, ⟨h1, h2, h3⟩, rfl⟩
  · exact .inl ⟨rfl, fun y hy => hn y (List.mem_of_mem_eraseIdx hy)⟩
  · by_cases e : x = t[i]
    · subst e
      obtain ⟨y, y1, y2, y3, y4, y5⟩ := hr
      refine .inr ⟨y, ⟨(h.mem_erase hi).2 ⟨y1, fun e => by rw [e] at y3; omega⟩, beg_trans y2 h2, fun z hz hb => ?_⟩, by rw [y5]⟩
      obtain ⟨z1, z2⟩ := (h.mem_erase hi).1 hz
      have z3 := h3 z z1 hb
      have z4 : z.f0.length ≠ t[i].f0.length := fun e => z2 (h.inj z1 h1 (beg_len_eq hb h2 e))
      exact y4 z z1 (beg_of hb h2 z3) (by omega)
    · exact .inr ⟨x, ⟨(h.mem_erase hi).2 ⟨h1, e⟩, h2, fun y hy => h3 y (List.mem_of_mem_eraseIdx hy)⟩, rfl⟩

/-- A search's best place, as an entry. -/
theorem best_entry {t : List S35} {a : List Int} {most : Int} {m : Nat} (h : IsBest (candAt t a most) (lenAt t) t.length m) : ∃ hm : m < t.length, beg t[m].f0 a = true ∧ (t[m].f0.length : Int) ≤ most ∧
    ∀ y ∈ t, beg y.f0 a = true → (y.f0.length : Int) ≤ most → y.f0.length ≤ t[m].f0.length := by
  rcases h with ⟨h1, _⟩ | ⟨m', h1, h2, h3, _, h5⟩
  · omega
  · obtain rfl : m = m' := by omega
    simp only [candAt, lenAt, getD_lt h2] at h3
    refine ⟨h2, h3.2, h3.1, fun y hy hb hl => ?_⟩
    obtain ⟨j, hj, rfl⟩ := List.getElem_of_mem hy
    have := h5 j hj ⟨by rw [getD_lt hj]; exact hl, by rw [getD_lt hj]; exact hb⟩
    simp only [lenAt, getD_lt hj, getD_lt h2] at this
    exact this
theorem best_none {t : List S35} {a : List Int} {most : Int} {r : Int} (h : IsBest (candAt t a most) (lenAt t) t.length r) (hr : r < 0) : ∀ y ∈ t, beg y.f0 a = true → ¬ (y.f0.length : Int) ≤ most := by
  rcases h with ⟨_, h2⟩ | ⟨m, h1, _⟩
  · intro y hy hb hl
    obtain ⟨j, hj, rfl⟩ := List.getElem_of_mem hy
    exact h2 j hj ⟨by rw [getD_lt hj]; exact hl, by rw [getD_lt hj]; exact hb⟩
  · omega
/-- What Find answers, of a table and an address. -/
theorem Find_found (t : List S35) (a : List Int) (ht : Tab t) (ha : isPre a = true) (ha0 : 0 < a.length) :
    ∃ o, Found t a o ∧ ∃ p n e, Ev (fun k => address_Find.f k (t.map e28) a) (p, n, e) ∧ ((o = none ∧ n = 0 ∧ e = 3) ∨ (o = some n ∧ e = 0)) := by
  obtain ⟨r, hb, hF⟩ := Find_ev t a (of_tab ht) ha ha0
  have hal := isPre_len ha
  by_cases hr : r < 0
  · rw [if_pos hr] at hF
    exact ⟨none, .inl ⟨rfl, fun y hy => by
      have := best_none hb hr y hy
      cases hbg : beg y.f0 a with
      | false => rfl
      | true =>
        have h1 := beg_len hbg
        exact absurd (by omega) (this hbg)⟩, _, _, _, hF, .inl ⟨rfl, rfl, rfl⟩⟩
  · rw [if_neg hr] at hF
    obtain ⟨m, rfl, hm⟩ := best_nat hb hr
    rw [Int.toNat_natCast, getD_lt hm] at hF
    obtain ⟨_, h1, _, h3⟩ := best_entry hb
    exact ⟨some t[m].f1, .inr ⟨t[m], ⟨List.getElem_mem hm, h1, fun y hy hbg => h3 y hy hbg (by have := beg_len hbg; omega)⟩, rfl⟩, _, _, _, hF, .inr ⟨rfl, rfl⟩⟩

/-- A search by a question that answers from some rounds on. -/
theorem ev_idxM {α : Type} {p : Nat → α → Option Bool} {b : α → Bool} : ∀ {l : List α}, (∀ x ∈ l, Ev (fun k => p k x) (b x)) → Ev (fun k => idxM (p k) l) (idxP b l)
  | [], _ => ev_some _
  | x :: xs, h => by
    have ih := ev_idxM (l := xs) (fun y hy => h y (List.mem_cons_of_mem _ hy))
    refine ev_eq (fun k => by rw [idxM]) (ev_bind (h x List.mem_cons_self) ?_)
    rw [idxP]
    cases b x with
    | true => exact ev_pos rfl (ev_some _)
    | false => exact ev_neg (by simp) (ev_bind ih (ev_some_eq (by simp)))
open Classical in
theorem lit_ev (t : List S35) (ht : Tab t) (x : S35) (hx : x ∈ t) : Ev (fun k => address_Brief_1.f k (t.map e28) x.f0 x.f1) (decide (Rem t x)) := by
  have hxl := ht.pre hx
  obtain ⟨r, hr, hb⟩ := find_ev t x.f0 ((x.f0.length : Int) - 1) (by have := ht.1; omega) (by omega)
  unfold address_Brief_1.f
  refine ev_bind hr ?_
  by_cases h0 : 0 ≤ r
  · obtain ⟨m, rfl, hm⟩ := best_nat hb (by omega)
    obtain ⟨_, h1, h2, h3⟩ := best_entry hb
    refine ev_pos h0 (ev_pos (by simp; omega) (ev_some_eq ?_))
    rw [rd28, map28, getD_lt hm, Bool.eq_iff_iff, beq_iff_eq, decide_eq_true_iff]
    show t[m].f1 = x.f1 ↔ _
    constructor
    · exact fun e => ⟨t[m], List.getElem_mem hm, h1, by omega, fun z hz hbz hl => h3 z hz hbz (by omega), e⟩
    · rintro ⟨y, y1, y2, y3, y4, y5⟩
      have a1 := y4 t[m] (List.getElem_mem hm) h1 (by omega)
      have a2 := h3 y y1 y2 (by omega)
      rw [ht.inj (List.getElem_mem hm) y1 (beg_len_eq h1 y2 (by omega)), y5]
  · refine ev_neg h0 (ev_some_eq ?_)
    symm
    rw [decide_eq_false_iff_not]
    rintro ⟨y, y1, y2, y3, _⟩
    exact best_none hb (by omega) y y1 y2 (by omega)
theorem erase_map (t : List S35) (i : Nat) : (t.map e28).eraseIdx i = (t.eraseIdx i).map e28 := by
  rw [List.eraseIdx_eq_take_drop_succ, List.eraseIdx_eq_take_drop_succ, List.map_append, List.map_take, List.map_drop]
open Classical in
/-- What Brief's loop leaves of a table. -/
theorem brief_ev : ∀ (n : Nat) (t : List S35), t.length = n → Tab t → ∃ l, Ev (fun k => address_Brief.l0 k (t.map e28)) (l.map e28) ∧ Tab l ∧ l.length ≤ t.length ∧ (∀ a o, Found t a o → Found l a o) ∧ ∀ x ∈ l, ¬ Rem l x
  | n, t, hn, ht => by
    have hp : Ev (fun k => idxM (fun x : S28 => address_Brief_1.f k (t.map e28) x.f0 x.f1) (t.map e28)) (idxP (fun x : S28 => decide (Rem t ⟨x.f0, x.f1⟩)) (t.map e28)) :=
      ev_idxM (p := fun (k : Nat) (x : S28) => address_Brief_1.f k (t.map e28) x.f0 x.f1) (b := fun x : S28 => decide (Rem t ⟨x.f0, x.f1⟩)) (fun x hx => by
        obtain ⟨y, hy, rfl⟩ := List.mem_map.1 hx
        exact lit_ev t ht y hy)
    have hrange := idxP_range (fun x : S28 => decide (Rem t ⟨x.f0, x.f1⟩)) (t.map e28)
    have hhit := idxP_spec (fun x : S28 => decide (Rem t ⟨x.f0, x.f1⟩)) (t.map e28)
    generalize idxP (fun x : S28 => decide (Rem t ⟨x.f0, x.f1⟩)) (t.map e28) = i at hp hrange hhit
    rw [List.length_map] at hrange
    by_cases hneg : i < 0
    · refine ⟨t, ev_step (fun k => address_Brief.l0.eq_2 _ k) (ev_bind hp (ev_pos hneg (ev_some _))), ht, Nat.le_refl _, fun _ _ h => h, fun x hx => ?_⟩
      have := hhit.1 hneg (e28 x) (List.mem_map.2 ⟨x, hx, rfl⟩)
      exact of_decide_eq_false (p := Rem t x) this
    · obtain ⟨m, rfl⟩ : ∃ m : Nat, i = m := ⟨i.toNat, by omega⟩
      have hm : m < t.length := by omega
      have hrem : Rem t t[m] := by
        have := hhit.2 m rfl (e28 t[m]) (by rw [List.getElem?_map, List.getElem?_eq_getElem hm]; rfl)
        exact of_decide_eq_true (p := Rem t t[m]) this
      have hlen : (t.eraseIdx m).length = n - 1 := by rw [List.length_eraseIdx_of_lt hm, hn]
      obtain ⟨l, h1, h2, h3, h4, h5⟩ := brief_ev (n - 1) (t.eraseIdx m) hlen (ht.erase m)
      refine ⟨l, ?_, h2, by omega, fun a o k => h4 a o (k.erase ht hm hrem), h5⟩
      refine ev_step (fun k => address_Brief.l0.eq_2 _ k) (ev_bind hp (ev_neg hneg ?_))
      rw [Int.toNat_natCast, erase_map]
      exact h1
  termination_by n => n
  decreasing_by omega
theorem Brief_ev (t : List S35) (ht : Tab t) : ∃ l, Ev (fun k => address_Brief.f k (t.map e28)) (l.map e28, 0) ∧ Tab l ∧ l.length ≤ t.length ∧ (∀ a o, Found t a o → Found l a o) ∧ ∀ x ∈ l, ¬ Rem l x := by
  obtain ⟨l, h1, h2, h3, h4, h5⟩ := brief_ev t.length t rfl ht
  refine ⟨l, ?_, h2, h3, h4, h5⟩
  unfold address_Brief.f
  refine ev_bind (entries_ev t (by have := ht.1; omega) (fun x hx => by have := ht.pre hx; omega)) ?_
  rw [if_pos (of_tab ht)]
  refine ev_pos rfl (ev_bind0 (a := t.map e28) ?_ (ev_bind h1 (ev_some _)))
  unfold address_own.f
  rw [if_pos]
  refine ⟨by rw [List.length_map]; have := ht.1; omega, fun x hx => ?_⟩
  obtain ⟨y, hy, rfl⟩ := List.mem_map.1 hx
  have := ht.pre hy
  show y.f0.length * 8 ≤ _
  omega
theorem back_ev (t : List S35) (ht : t.length < 4398046511104) : Ev (fun k => heptadlaw11_back.f k (t.map e28)) t := by
  have loop : ∀ i, i ≤ t.length → Ev (fun k => heptadlaw11_back.l0 k (t.map e28) (t.take i) (i : Int)) t := by
    refine up_ind ?_ ?_
    · exact ev_step (fun k => heptadlaw11_back.l0.eq_2 _ _ _ k) (ev_neg (by simp) (ev_some_eq (by rw [List.take_of_length_le (Nat.le_refl _)])))
    · intro i hi ih
      refine ev_step (fun k => heptadlaw11_back.l0.eq_2 _ _ _ k) (ev_pos (by simp; omega) (ev_pos (by omega) (ev_pos (by simp; omega) ?_)))
      rw [rd28, map28, wrap_succ hi (by omega)]
      have e : t.take i ++ [(⟨(e28 (t.getD i z35)).f0, (e28 (t.getD i z35)).f1⟩ : S35)] = t.take (i + 1) := by
        rw [List.take_succ_eq_append_getElem hi, getD_lt hi]
        rfl
      rw [e]
      exact ih
  exact loop 0 (by omega)
end Go.Proofs.Ytchkhnhmpgkpeaa.P
