/- What the printed functions of AddressChanges answer is true, for all tables, entries and lists. -/
import Derived.Test.YtchkhnhmpgkpeaaLib11e
import Derived.Test.YtchkhnhmpgkpeaaBoundAddressChanges
set_option linter.unusedVariables false
set_option linter.unusedSimpArgs false
namespace Go.Proofs.Ytchkhnhmpgkpeaa.P
open Go.RowKit Go.Proofs.YtchkhnhmpgkpeaaW.PrintWords Go.Proofs.Ytchkhnhmpgkpeaa.EvLib Go.Proofs.Ytchkhnhmpgkpeaa.Common

instance : DecidableEq S35 := fun x y =>
 if h : x.f0 = y.f0 ∧ x.f1 = y.f1 then isTrue (by cases x; cases y; simp at h; simp [h]) else isFalse (by rintro rfl; exact h ⟨rfl, rfl⟩)
/-- Finitely many answers, from one number of rounds on. -/
theorem ev_upto {α : Type} {g : Nat → Nat → Option α} {c : Nat → α} : ∀ n, (∀ i, i < n → Ev (fun k => g k i) (c i)) → ∃ K, ∀ k, K ≤ k → ∀ i, i < n → g k i = some (c i)
 | 0, _ => ⟨0, fun k _ i hi => absurd hi (Nat.not_lt_zero _)⟩
 | n + 1, h => by
  obtain ⟨K, hK⟩ := ev_upto n (fun i hi => h i (by omega))
  obtain ⟨L, hL⟩ := h n (by omega)
  refine ⟨max K L, fun k hk i hi => lt_succ_elim hi (fun h => hK k (by omega) i h) (fun e => ?_)⟩
  subst e
  exact hL k (by omega)
theorem bsf_loop {q : S28 → Option Int} {t : List S28} {c : Nat → Int} {d : Nat} (hq : ∀ i, i < t.length → q (t.getD i z28) = some (c i)) (h1 : ∀ i, i < d → c i < 0) (h2 : ∀ i, d ≤ i → i < t.length → ¬ c i < 0) :
  ∀ m i j, j ≤ t.length → i ≤ d → d ≤ j → j - i < m → address_Entry_41.l0 q t m i j = some d
 | 0, i, j, _, _, _, h => by omega
 | m + 1, i, j, hj, hi, hd, hm => by
  rw [address_Entry_41.l0]
  by_cases hlt : i < j
  ·rw [if_pos hlt, hq _ (by omega), Option.bind_some]
   by_cases hc : c ((i + j) / 2) < 0
   ·rw [if_pos hc]
    have : (i + j) / 2 < d := by
     rcases Nat.lt_or_ge ((i + j) / 2) d with h | h
     ·exact h
     ·exact absurd hc (h2 _ h (by omega))
    exact bsf_loop hq h1 h2 m _ _ hj (by omega) hd (by omega)
   ·rw [if_neg hc]
    have : d ≤ (i + j) / 2 := by
     rcases Nat.lt_or_ge ((i + j) / 2) d with h | h
     ·exact absurd (h1 _ h) hc
     ·exact h
    exact bsf_loop hq h1 h2 m _ _ (by omega) hi (by omega) (by omega)
  ·rw [if_neg hlt]
   congr 1
   omega
theorem bsf_spec {q : S28 → Option Int} {t : List S28} {c : Nat → Int} {d : Nat} (hq : ∀ i, i < t.length → q (t.getD i z28) = some (c i)) (hd : d ≤ t.length) (h1 : ∀ i, i < d → c i < 0) (h2 : ∀ i, d ≤ i → i < t.length → ¬ c i < 0) :
  address_Entry_41.f q t = some ((d : Int), decide (d < t.length ∧ c d = 0)) := by
 unfold address_Entry_41.f
 rw [bsf_loop hq h1 h2 (t.length + 1) 0 t.length (Nat.le_refl _) (Nat.zero_le _) hd (by omega), Option.bind_some]
 by_cases h : d < t.length
 ·rw [if_pos h, hq d h, Option.bind_some]
  simp [h]
 ·rw [if_neg h]
  simp [h]

/-- A list's place in a table. -/
theorem split_at : ∀ {t : List S35} (p : List Int), t.Pairwise (fun x y => cmpL x.f0 y.f0 < 0) → ∃ A B, t = A ++ B ∧ (∀ a ∈ A, cmpL a.f0 p < 0) ∧ ∀ b ∈ B, ¬ cmpL b.f0 p < 0
 | [], p, _ => ⟨[], [], rfl, by simp, by simp⟩
 | x :: xs, p, h => by
  obtain ⟨h1, h2⟩ := List.pairwise_cons.1 h
  by_cases hx : cmpL x.f0 p < 0
  ·obtain ⟨A, B, e, ha, hb⟩ := split_at p h2
   refine ⟨x :: A, B, by rw [e]; rfl, fun a hm => ?_, hb⟩
   rcases List.mem_cons.1 hm with rfl | hm
   ·exact hx
   ·exact ha a hm
  ·refine ⟨[], x :: xs, rfl, by simp, fun b hm => ?_⟩
   rcases List.mem_cons.1 hm with rfl | hm
   ·exact hx
   ·exact fun hb => hx (cmpL_trans (h1 b hm) hb)
/-- The entry is there. -/
def there (B : List S35) (p : List Int) : Bool := match B with
 | [] => false
 | b :: _ => decide (cmpL b.f0 p = 0)
theorem own_ok {t : List S28} (h1 : t.length * 32 ≤ 140737488355328) (h2 : ∀ x ∈ t, x.f0.length * 8 ≤ 140737488355328) : address_own.f t = some t := by
 unfold address_own.f
 rw [if_pos ⟨h1, h2⟩]
theorem Add_ev {t A B : List S35} (p : List Int) (n : Int) (hT : Tab t) (hp : okE p n = true) (e : t = A ++ B) (hA : ∀ a ∈ A, cmpL a.f0 p < 0) (hB : ∀ b ∈ B, ¬ cmpL b.f0 p < 0) :
  Ev (fun k => address_Add.f k (t.map e28) p n) (if t.length = 100 then ([], 2) else if there B p = true then ([], 7) else ((A ++ ⟨p, n⟩ :: B).map e28, 0)) := by
 have hl := hT.1
 have hpl : p.length ≤ 10 := by
  simp only [okE, Bool.and_eq_true] at hp
  exact isPre_len hp.1
 unfold address_Add.f
 refine ev_bind0 (valid_ev p n) ?_
 rw [hp]
 refine ev_pos rfl (ev_bind (entries_ev t (by omega) (fun x hx => by have := hT.pre hx; omega)) ?_)
 rw [if_pos (of_tab hT)]
 refine ev_pos rfl (ev_pos (by simp; omega) ?_)
 have hget : ∀ i, i < (t.map e28).length → (t.map e28).getD i z28 = e28 (t.getD i z35) := fun i _ => map28 t i
 have hb : Ev (fun k => address_Entry_41.f (fun x => address_Add_1.f k x.f0 p) (t.map e28)) ((A.length : Int), there B p) := by
  obtain ⟨K, hK⟩ := ev_upto (g := fun k i => address_Add_1.f k (t.getD i z35).f0 p) (c := fun i => cmpL (t.getD i z35).f0 p) t.length (fun i hi => by
   unfold address_Add_1.f
   exact compare_ev _ _ (by have := hT.pre (getD_mem (d := z35) hi); omega))
  refine ⟨K, fun k hk => ?_⟩
  have := bsf_spec (q := fun x => address_Add_1.f k x.f0 p) (t := t.map e28) (c := fun i => cmpL (t.getD i z35).f0 p) (d := A.length) (fun i hi => by
   rw [hget i hi]
   exact hK k hk i (by simpa using hi)) (by rw [e]; simp) (fun i hi => by
    show cmpL (t.getD i z35).f0 p < 0
    rw [e, getD_lt (by simp; omega), List.getElem_append_left hi]
    exact hA _ (List.getElem_mem _)) (fun i h1 h2 => by
    show ¬ cmpL (t.getD i z35).f0 p < 0
    have h3 : i < (A ++ B).length := by rw [← e]; simpa using h2
    rw [e, getD_lt h3, List.getElem_append_right h1]
    exact hB _ (List.getElem_mem _))
  show address_Entry_41.f _ _ = _
  rw [this]
  congr 2
  subst e
  cases B with
  | nil => simp [there]
  | cons b B => simp [there, List.getD_eq_getElem?_getD]
 refine ev_bind hb ?_
 rw [List.length_map]
 refine ev_ite (fun h => ev_some_eq (by rw [if_pos h])) (fun h => ?_)
 rw [if_neg h]
 refine ev_ite (fun h => ev_some_eq (by rw [if_pos h])) (fun h => ?_)
 rw [if_neg h]
 have ei : ((t.map e28).take (A.length : Int).toNat ++ (⟨p, n⟩ : S28) :: (t.map e28).drop (A.length : Int).toNat) = (A ++ ⟨p, n⟩ :: B).map e28 := by
  rw [e, Int.toNat_natCast, ← List.map_take, ← List.map_drop, List.take_left, List.drop_left, List.map_append, List.map_cons]
  rfl
 show Ev (fun k => (address_own.f ((t.map e28).take (A.length : Int).toNat ++ (⟨p, n⟩ : S28) :: (t.map e28).drop (A.length : Int).toNat)).bind _) _
 rw [ei]
 have hlen : A.length + B.length = t.length := by rw [e]; simp
 refine ev_bind0 (own_ok (by simp only [List.length_map, List.length_append, List.length_cons]; omega) (fun x hx => ?_)) (ev_some _)
 obtain ⟨y, hy, rfl⟩ := List.mem_map.1 hx
 show y.f0.length * 8 ≤ _
 rcases List.mem_append.1 hy with h | h
 ·have := hT.pre (x := y) (by rw [e]; exact List.mem_append_left _ h); omega
 ·rcases List.mem_cons.1 h with rfl | h
  ·show p.length * 8 ≤ _; omega
  ·have := hT.pre (x := y) (by rw [e]; exact List.mem_append_right _ h); omega
theorem RefAdd_ev {t A B : List S35} (p : List Int) (n : Int) (hT : Tab t) (hp : okE p n = true) (e : t = A ++ B) (hA : ∀ a ∈ A, cmpL a.f0 p < 0) (hB : ∀ b ∈ B, ¬ cmpL b.f0 p < 0) :
  Ev (fun k => heptadref11_Add.f k t p n) (if t.length = 100 then ([], 2) else if there B p = true then ([], 7) else (A ++ ⟨p, n⟩ :: B, 0)) := by
 have hl := hT.1
 have hpl : p.length ≤ 10 := by
  simp only [okE, Bool.and_eq_true] at hp
  exact isPre_len hp.1
 unfold heptadref11_Add.f
 refine ev_bind (refTable_ev t (by omega) (fun x hx => by have := hT.pre hx; omega)) ?_
 rw [of_tab hT]
 refine ev_pos rfl (ev_bind (refEntry_ev p n (by omega)) ?_)
 rw [hp]
 refine ev_step (fun k => heptadref11_Add.j0.eq_2 _ _ _ _ k) (ev_neg (by simp) ?_)
 refine ev_ite (fun h => ev_some_eq (by rw [if_pos (by omega)])) (fun h => ?_)
 rw [if_neg (by omega)]
 have hlen : A.length + B.length = t.length := by rw [e]; simp
 have hown : ∀ i, i < t.length → heptadref11_own.f (t.getD i z35).f0 (t.getD i z35).f1 = some ((t.getD i z35).f0, (t.getD i z35).f1) := fun i hi => refOwn _ _ (by have := hT.pre (getD_mem (d := z35) hi); omega)
 -- behind the entry's place
 have behind : there B p = false → ∀ i, i ≤ t.length → A.length < i → Ev (fun k => heptadref11_Add.l0 k t (A ++ ⟨p, n⟩ :: (t.take i).drop A.length) true (i : Int) p n) (A ++ ⟨p, n⟩ :: B, 0) := by
  intro hth
  refine up_ind (P := fun i => A.length < i → Ev (fun k => heptadref11_Add.l0 k t (A ++ ⟨p, n⟩ :: (t.take i).drop A.length) true (i : Int) p n) (A ++ ⟨p, n⟩ :: B, 0)) ?_ ?_
  ·intro _
   refine ev_step (fun k => heptadref11_Add.l0.eq_2 _ _ _ _ _ _ k) (ev_neg (by omega) (ev_pos rfl (ev_some_eq ?_)))
   rw [List.take_of_length_le (Nat.le_refl _), e, List.drop_left]
  ·intro i hi ih hAi
   refine ev_step (fun k => heptadref11_Add.l0.eq_2 _ _ _ _ _ _ k) (ev_pos (by omega) (ev_pos (by omega) ?_))
   rw [rd35]
   refine ev_bind (compare2_ev _ _ (by omega)) ?_
   have hc : cmpL p (t.getD i z35).f0 < 0 := by
    cases B with
    | nil => simp at hlen; omega
    | cons b B' =>
     have h0 : ¬ cmpL b.f0 p = 0 := by simpa [there] using hth
     have h1 := hB b List.mem_cons_self
     have h2 : cmpL p b.f0 < 0 := by rw [cmpL_swap]; omega
     have h3 : A.length < t.length := by omega
     have h4 := List.pairwise_iff_getElem.1 hT.2.2 A.length i h3 hi hAi
     have h5 : t[A.length] = b := by subst e; simp
     rw [h5] at h4
     rw [getD_lt hi]
     exact cmpL_trans h2 h4
   refine ev_neg (by omega) (ev_pos hc ?_)
   refine ev_step (fun k => heptadref11_Add.j2.eq_2 _ _ _ _ _ _ _ k) (ev_neg (by simp) (ev_pos (by omega) (ev_pos (by omega) ?_)))
   rw [rd35]
   refine ev_bind0 (hown i hi) (ev_pos ?_ ?_)
   ·simp only [List.length_append, List.length_cons, List.length_drop, List.length_take]; omega
   ·rw [wrap_succ hi (by omega)]
    have e2 : A ++ ⟨p, n⟩ :: (t.take i).drop A.length ++ [(⟨(t.getD i z35).f0, (t.getD i z35).f1⟩ : S35)] = A ++ ⟨p, n⟩ :: (t.take (i + 1)).drop A.length := by
     rw [List.take_succ_eq_append_getElem hi, List.drop_append_of_le_length (by simp; omega), getD_lt hi]
     simp
    show Ev (fun k => heptadref11_Add.l0 k t (A ++ ⟨p, n⟩ :: (t.take i).drop A.length ++ [(⟨(t.getD i z35).f0, (t.getD i z35).f1⟩ : S35)]) true ((i + 1 : Nat) : Int) p n) _
    rw [e2]
    exact ih (by omega)
 have at_place : Ev (fun k => heptadref11_Add.l0 k t A false (A.length : Int) p n) (if there B p = true then ([], 7) else (A ++ ⟨p, n⟩ :: B, 0)) := by
  cases B with
  | nil =>
   have hl2 : A.length = t.length := by simpa using hlen
   refine ev_step (fun k => heptadref11_Add.l0.eq_2 _ _ _ _ _ _ k) (ev_neg (by omega) (ev_neg (by simp) (ev_bind0 (refOwn _ _ (by omega)) (ev_pos (by omega) (ev_some_eq ?_)))))
   simp [there]
  | cons b B' =>
   have h3 : A.length < t.length := by simp at hlen; omega
   have h5 : t.getD A.length z35 = b := by rw [getD_lt h3]; subst e; simp
   refine ev_step (fun k => heptadref11_Add.l0.eq_2 _ _ _ _ _ _ k) (ev_pos (by omega) (ev_pos (by omega) ?_))
   rw [rd35, h5]
   refine ev_bind (compare2_ev _ _ (by omega)) ?_
   have hsw := cmpL_swap b.f0 p
   refine ev_ite (fun h0 => ev_some_eq ?_) (fun h0 => ?_)
   ·rw [if_pos (by simp only [there, decide_eq_true_eq]; omega)]
   ·have hth : there (b :: B') p = false := by simp only [there, decide_eq_false_iff_not]; omega
    have hneg := hB b List.mem_cons_self
    rw [hth, if_neg (by simp)]
    refine ev_pos (by omega) ?_
    refine ev_step (fun k => heptadref11_Add.j2.eq_2 _ _ _ _ _ _ _ k) (ev_pos rfl (ev_bind0 (refOwn _ _ (by omega)) (ev_pos (by omega) ?_)))
    refine ev_bind0 rfl (ev_pos (by omega) (ev_pos (by omega) ?_))
    rw [rd35]
    refine ev_bind0 (hown _ h3) (ev_pos (by simp; omega) ?_)
    rw [wrap_succ h3 (by omega)]
    have e2 : A ++ [(⟨p, n⟩ : S35)] ++ [(⟨(t.getD A.length z35).f0, (t.getD A.length z35).f1⟩ : S35)] = A ++ ⟨p, n⟩ :: (t.take (A.length + 1)).drop A.length := by
     rw [List.take_succ_eq_append_getElem h3, List.drop_append_of_le_length (by simp; omega), getD_lt h3, List.drop_eq_nil_of_le (by rw [List.length_take]; omega)]
     simp
    show Ev (fun k => heptadref11_Add.l0 k t (A ++ [(⟨p, n⟩ : S35)] ++ [(⟨(t.getD A.length z35).f0, (t.getD A.length z35).f1⟩ : S35)]) true ((A.length + 1 : Nat) : Int) p n) _
    rw [e2]
    exact behind hth (A.length + 1) (by omega) (by omega)
 have ahead : ∀ i, i ≤ A.length → Ev (fun k => heptadref11_Add.l0 k t (A.take i) false (i : Int) p n) (if there B p = true then ([], 7) else (A ++ ⟨p, n⟩ :: B, 0)) := by
  refine up_ind ?_ ?_
  ·rw [List.take_of_length_le (Nat.le_refl _)]
   exact at_place
  ·intro i hi ih
   have hit : i < t.length := by omega
   have h5 : t.getD i z35 = A[i] := by rw [getD_lt hit]; subst e; rw [List.getElem_append_left hi]
   refine ev_step (fun k => heptadref11_Add.l0.eq_2 _ _ _ _ _ _ k) (ev_pos (by omega) (ev_pos (by omega) ?_))
   rw [rd35]
   refine ev_bind (compare2_ev _ _ (by omega)) ?_
   have hc := hA A[i] (List.getElem_mem hi)
   rw [cmpL_swap, h5]
   refine ev_neg (by omega) (ev_neg (by omega) ?_)
   refine ev_step (fun k => heptadref11_Add.j2.eq_2 _ _ _ _ _ _ _ k) (ev_neg (by simp) (ev_pos (by omega) (ev_pos (by omega) ?_)))
   rw [rd35]
   refine ev_bind0 (hown i hit) (ev_pos (by simp; omega) ?_)
   rw [wrap_succ hit (by omega)]
   have e2 : A.take i ++ [(⟨(t.getD i z35).f0, (t.getD i z35).f1⟩ : S35)] = A.take (i + 1) := by
    rw [List.take_succ_eq_append_getElem hi, h5]
   show Ev (fun k => heptadref11_Add.l0 k t (A.take i ++ [(⟨(t.getD i z35).f0, (t.getD i z35).f1⟩ : S35)]) false ((i + 1 : Nat) : Int) p n) _
   rw [e2]
   exact ih
 exact ahead 0 (Nat.zero_le _)
/-- With the entry put in it is a table still. -/
theorem Tab.insert {t A B : List S35} {p : List Int} {n : Int} (hT : Tab t) (hl : t.length ≠ 100) (hp : okE p n = true) (e : t = A ++ B) (hA : ∀ a ∈ A, cmpL a.f0 p < 0) (hB : ∀ b ∈ B, ¬ cmpL b.f0 p < 0) (hth : there B p = false) : Tab (A ++ ⟨p, n⟩ :: B) := by
 obtain ⟨h1, h2, h3⟩ := hT
 have hlen : A.length + B.length = t.length := by rw [e]; simp
 rw [e] at h2 h3
 obtain ⟨g1, g2, g3⟩ := List.pairwise_append.1 h3
 have hlt : ∀ b ∈ B, cmpL p b.f0 < 0 := by
  cases B with
  | nil => simp
  | cons b B' =>
   have k0 : ¬ cmpL b.f0 p = 0 := by simpa [there] using hth
   have k1 := hB b List.mem_cons_self
   have k2 : cmpL p b.f0 < 0 := by rw [cmpL_swap]; omega
   intro x hx
   rcases List.mem_cons.1 hx with rfl | hx
   ·exact k2
   ·exact cmpL_trans k2 ((List.pairwise_cons.1 g2).1 x hx)
 refine ⟨by simp only [List.length_append, List.length_cons]; omega, fun x hx => ?_, ?_⟩
 ·rcases List.mem_append.1 hx with h | h
  ·exact h2 x (List.mem_append_left _ h)
  ·rcases List.mem_cons.1 h with rfl | h
   ·exact hp
   ·exact h2 x (List.mem_append_right _ h)
 ·refine List.pairwise_append.2 ⟨g1, List.pairwise_cons.2 ⟨hlt, g2⟩, fun a ha b hb => ?_⟩
  rcases List.mem_cons.1 hb with rfl | hb
  ·exact hA a ha
  ·exact g3 a ha b hb
/-- The first entry of a list, or none. -/
theorem first_at {t : List S35} (p : List Int) : (∀ x ∈ t, x.f0 ≠ p) ∨ ∃ m, ∃ hm : m < t.length, t[m].f0 = p ∧ ∀ j, (hj : j < m) → t[j].f0 ≠ p := by
 induction t with
 | nil => exact .inl (by simp)
 | cons x xs ih =>
  by_cases hx : x.f0 = p
  ·exact .inr ⟨0, by simp, hx, fun j hj => by omega⟩
  ·rcases ih with h | ⟨m, hm, h1, h2⟩
   ·exact .inl (fun y hy => by rcases List.mem_cons.1 hy with rfl | hy; exact hx; exact h y hy)
   ·refine .inr ⟨m + 1, by simp; omega, by simpa using h1, fun j hj => ?_⟩
    cases j with
    | zero => simpa using hx
    | succ j => simpa using h2 j (by omega)
theorem idx_at (t : List S35) (p : List Int) {m : Nat} (hm : m < t.length) (h1 : t[m].f0 = p) (h2 : ∀ j, (hj : j < m) → t[j].f0 ≠ p) : idxP (fun x : S28 => decide (x.f0 = p)) (t.map e28) = m := by
 induction t generalizing m with
 | nil => simp at hm
 | cons x xs ih =>
  rw [List.map_cons, idxP]
  cases m with
  | zero =>
   rw [if_pos (decide_eq_true (show (e28 x).f0 = p from h1))]
   rfl
  | succ m =>
   have hx : ¬ x.f0 = p := h2 0 (by omega)
   rw [if_neg (by rw [decide_eq_true_iff]; exact hx), ih (m := m) (by simpa using hm) (by simpa using h1) (fun j hj => by simpa using h2 (j + 1) (by omega)), if_neg (by omega)]
   omega
theorem idx_none (t : List S35) (p : List Int) (h : ∀ x ∈ t, x.f0 ≠ p) : idxP (fun x : S28 => decide (x.f0 = p)) (t.map e28) < 0 := by
 have hr := idxP_range (fun x : S28 => decide (x.f0 = p)) (t.map e28)
 have hs := (idxP_spec (fun x : S28 => decide (x.f0 = p)) (t.map e28)).2
 generalize idxP (fun x : S28 => decide (x.f0 = p)) (t.map e28) = i at hr hs
 rcases (show i < 0 ∨ 0 ≤ i by omega) with h0 | h0
 ·exact h0
 ·exfalso
  have hlt : i.toNat < (t.map e28).length := by omega
  have := hs i.toNat (by omega) _ (List.getElem?_eq_getElem hlt)
  rw [List.getElem_map, decide_eq_true_iff] at this
  exact h _ (List.getElem_mem (by simpa using hlt)) this
theorem Remove_ev (t : List S35) (p : List Int) (hT : Tab t) (hp : isPre p = true) {i : Int} (hi : idxP (fun x : S28 => decide (x.f0 = p)) (t.map e28) = i) :
  Ev (fun k => address_Remove.f k (t.map e28) p) (if i < 0 then ([], 3) else ((t.eraseIdx i.toNat).map e28, 0)) := by
 have hl := hT.1
 unfold address_Remove.f
 refine ev_bind0 (prefix_ev p) ?_
 rw [hp]
 refine ev_pos rfl (ev_bind (entries_ev t (by omega) (fun x hx => by have := hT.pre hx; omega)) ?_)
 rw [if_pos (of_tab hT)]
 refine ev_pos rfl (ev_bind (a := i) ?_ ?_)
 ·rw [← hi]
  refine ev_idxM (p := fun (k : Nat) (x : S28) => address_Remove_1.f k p x.f0 x.f1) (b := fun x : S28 => decide (x.f0 = p)) (fun x hx => ?_)
  obtain ⟨y, hy, rfl⟩ := List.mem_map.1 hx
  unfold address_Remove_1.f
  exact equal_ev _ _ (by have := hT.pre hy; show y.f0.length ≤ _; omega)
 ·refine ev_ite (fun h => ev_some_eq (by rw [if_pos h])) (fun h => ?_)
  rw [if_neg h]
  refine ev_pos (by rw [List.length_map]; omega) ?_
  rw [erase_map]
  have h3 := List.length_eraseIdx_le t i.toNat
  refine ev_bind0 (own_ok (by rw [List.length_map]; omega) (fun x hx => ?_)) (ev_some _)
  obtain ⟨y, hy, rfl⟩ := List.mem_map.1 hx
  have := hT.pre (List.mem_of_mem_eraseIdx hy)
  show y.f0.length * 8 ≤ _
  omega
theorem removes_alike (t : List S35) (p : List Int) (ht : t.length ≤ 4000) (hin : ∀ x ∈ t, x.f0.length ≤ 4000) (hpl : p.length ≤ 1000) :
  ∃ l e, Ev (fun k => address_Remove.f k (t.map e28) p) (l.map e28, e) ∧ Ev (fun k => heptadref11_Remove.f k t p) (l, e) ∧ l.length ≤ 4000 ∧ ∀ x ∈ l, x.f0.length ≤ 4000 := by
 have hin2 : ∀ x ∈ t, x.f0.length ≤ 9223372036854775807 := fun x hx => by have := hin x hx; omega
 have bad : Ev (fun k => heptadref11_Remove.j0 k t p true) ([], 1) := ev_step (fun k => heptadref11_Remove.j0.eq_2 _ _ _ k) (ev_pos rfl (ev_some _))
 by_cases hp : isPre p = true
 ·by_cases h : isTab t = true
  ·have hT := tab_of h
   have go : ∀ r, Ev (fun k => heptadref11_Remove.l0 k t p (((0 : Nat)) : Int)) r → Ev (fun k => heptadref11_Remove.f k t p) r := fun r hr => by
    unfold heptadref11_Remove.f
    refine ev_bind (refTable_ev t (by omega) hin2) ?_
    rw [h]
    refine ev_pos rfl (ev_bind (refPrefix_ev p (by omega)) ?_)
    rw [hp]
    exact ev_step (fun k => heptadref11_Remove.j0.eq_2 _ _ _ k) (ev_neg (by simp) hr)
   have pass : ∀ j, (hj : j < t.length) → t[j].f0 ≠ p → ∀ r, Ev (fun k => heptadref11_Remove.l0 k t p ((j + 1 : Nat) : Int)) r → Ev (fun k => heptadref11_Remove.l0 k t p (j : Int)) r := fun j hj hne r hr => by
    refine ev_step (fun k => heptadref11_Remove.l0.eq_2 _ _ _ k) (ev_pos (by omega) (ev_pos (by omega) ?_))
    rw [rd35, getD_lt hj, wrap_succ hj (by omega)]
    exact ev_bind (compare2_ev _ _ (hin2 _ (List.getElem_mem hj))) (ev_neg (fun e => hne (cmpL_zero.1 e)) hr)
   rcases first_at (t := t) p with hno | ⟨m, hm, h1, h2⟩
   ·have hR := Remove_ev t p hT hp rfl
    rw [if_pos (idx_none t p hno)] at hR
    refine ⟨[], 3, hR, go _ ?_, by simp, by simp⟩
    refine up_ind (n := t.length) (P := fun j => Ev (fun k => heptadref11_Remove.l0 k t p (j : Int)) ([], 3)) ?_ ?_ 0 (Nat.zero_le _)
    ·exact ev_step (fun k => heptadref11_Remove.l0.eq_2 _ _ _ k) (ev_neg (by omega) (ev_some _))
    ·exact fun j hj ih => pass j hj (hno _ (List.getElem_mem hj)) _ ih
   ·have hR := Remove_ev t p hT hp (idx_at t p hm h1 h2)
    rw [if_neg (by omega), Int.toNat_natCast] at hR
    have h3 := List.length_eraseIdx_le t m
    refine ⟨t.eraseIdx m, 0, hR, go _ ?_, by omega, fun x hx => hin x (List.mem_of_mem_eraseIdx hx)⟩
    refine up_ind (n := m) (P := fun j => Ev (fun k => heptadref11_Remove.l0 k t p (j : Int)) (t.eraseIdx m, 0)) ?_ ?_ 0 (Nat.zero_le _)
    ·refine ev_step (fun k => heptadref11_Remove.l0.eq_2 _ _ _ k) (ev_pos (by omega) (ev_pos (by omega) ?_))
     rw [rd35, getD_lt hm]
     refine ev_bind (compare2_ev _ _ (hin2 _ (List.getElem_mem hm))) (ev_pos (cmpL_zero.2 h1) ?_)
     exact ev_bind (without_ev t m m (fun i _ => by omega) (by omega) (fun x hx => by have := hin x hx; omega)) (ev_some _)
    ·exact fun j hj ih => pass j (by omega) (h2 j hj) _ ih
  ·refine ⟨[], 1, ?_, ?_, by simp, by simp⟩
   ·unfold address_Remove.f
    refine ev_bind0 (prefix_ev p) ?_
    rw [hp]
    refine ev_pos rfl (ev_bind (entries_ev t (by omega) hin2) ?_)
    rw [if_neg h]
    exact ev_neg (by decide) (ev_some _)
   ·unfold heptadref11_Remove.f
    exact ev_bind (refTable_ev t (by omega) hin2) (ev_neg h bad)
 ·refine ⟨[], 1, ?_, ?_, by simp, by simp⟩
  ·unfold address_Remove.f
   exact ev_bind0 (prefix_ev p) (ev_neg hp (ev_some _))
  ·unfold heptadref11_Remove.f
   refine ev_bind (refTable_ev t (by omega) hin2) (ev_ite (fun _ => ev_bind (refPrefix_ev p (by omega)) ?_) (fun _ => bad))
   rw [Bool.not_eq_true] at hp
   rw [hp]
   exact bad
theorem adds_alike (t : List S35) (p : List Int) (n : Int) (ht : t.length ≤ 4000) (hin : ∀ x ∈ t, x.f0.length ≤ 4000) (hpl : p.length ≤ 1000) :
  ∃ l e, Ev (fun k => address_Add.f k (t.map e28) p n) (l.map e28, e) ∧ Ev (fun k => heptadref11_Add.f k t p n) (l, e) ∧ l.length ≤ 4000 ∧ (∀ x ∈ l, x.f0.length ≤ 4000) ∧ (e = 0 → Ev (fun k => address_Remove.f k (l.map e28) p) (t.map e28, 0)) := by
 have hin2 : ∀ x ∈ t, x.f0.length ≤ 9223372036854775807 := fun x hx => by have := hin x hx; omega
 have bad : Ev (fun k => heptadref11_Add.j0 k t true p n) ([], 1) := ev_step (fun k => heptadref11_Add.j0.eq_2 _ _ _ _ k) (ev_pos rfl (ev_some _))
 by_cases hp : okE p n = true
 ·by_cases h : isTab t = true
  ·have hT := tab_of h
   obtain ⟨A, B, e, hA, hB⟩ := split_at p hT.2.2
   have h1 := Add_ev p n hT hp e hA hB
   have h2 := RefAdd_ev p n hT hp e hA hB
   by_cases hf : t.length = 100
   ·rw [if_pos hf] at h1 h2
    exact ⟨[], 2, h1, h2, by simp, by simp, fun h => by omega⟩
   ·rw [if_neg hf] at h1 h2
    cases hth : there B p with
    | true =>
     rw [hth, if_pos rfl] at h1 h2
     exact ⟨[], 7, h1, h2, by simp, by simp, fun h => by omega⟩
    | false =>
     rw [hth, if_neg (by simp)] at h1 h2
     have hI := Tab.insert hT hf hp e hA hB hth
     refine ⟨_, 0, h1, h2, by have := hI.1; omega, fun x hx => by have := hI.pre hx; omega, fun _ => ?_⟩
     have hpre : isPre p = true := by simp only [okE, Bool.and_eq_true] at hp; exact hp.1
     have hm : A.length < (A ++ (⟨p, n⟩ : S35) :: B).length := by simp
     have hR := Remove_ev (A ++ ⟨p, n⟩ :: B) p hI hpre (idx_at _ p hm (by simp) (fun j hj => by
      rw [List.getElem_append_left hj]
      intro he
      have := hA _ (List.getElem_mem hj)
      rw [he, cmpL_zero.2 rfl] at this
      omega))
     rw [if_neg (by omega), Int.toNat_natCast, List.eraseIdx_append_of_length_le (Nat.le_refl _), Nat.sub_self, List.eraseIdx_cons_zero, ← e] at hR
     exact hR
  ·refine ⟨[], 1, ?_, ?_, by simp, by simp, fun h => by omega⟩
   ·unfold address_Add.f
    refine ev_bind0 (valid_ev p n) ?_
    rw [hp]
    refine ev_pos rfl (ev_bind (entries_ev t (by omega) hin2) ?_)
    rw [if_neg h]
    exact ev_neg (by decide) (ev_some _)
   ·unfold heptadref11_Add.f
    exact ev_bind (refTable_ev t (by omega) hin2) (ev_neg h bad)
 ·refine ⟨[], 1, ?_, ?_, by simp, by simp, fun h => by omega⟩
  ·unfold address_Add.f
   exact ev_bind0 (valid_ev p n) (ev_neg hp (ev_some _))
  ·unfold heptadref11_Add.f
   refine ev_bind (refTable_ev t (by omega) hin2) (ev_ite (fun _ => ev_bind (refEntry_ev p n (by omega)) ?_) (fun _ => bad))
   rw [Bool.not_eq_true] at hp
   rw [hp]
   exact bad
theorem refSame2_ev (s t : List S35) (hs : s.length ≤ 9223372036854775807) (hin : ∀ x ∈ s, x.f0.length ≤ 9223372036854775807) : Ev (fun k => heptadref11_Same.f k s t) (decide (s = t)) := by
 unfold heptadref11_Same.f
 refine ev_ite (fun hl => ?_) (fun h => ev_some_eq (by symm; rw [decide_eq_false_iff_not]; rintro rfl; exact h rfl))
 have hl2 : s.length = t.length := by omega
 have loop : ∀ i, i ≤ s.length → Ev (fun k => heptadref11_Same.l0 k s t (i : Int)) (decide (s.drop i = t.drop i)) := by
  refine up_ind ?_ ?_
  ·refine ev_step (fun k => heptadref11_Same.l0.eq_2 _ _ _ k) (ev_neg (by omega) (ev_some_eq ?_))
   rw [List.drop_eq_nil_of_le (Nat.le_refl _), List.drop_eq_nil_of_le (by omega)]
   rfl
  ·intro i hi ih
   have ht : i < t.length := by omega
   refine ev_step (fun k => heptadref11_Same.l0.eq_2 _ _ _ k) (ev_pos (by omega) (ev_pos (by omega) (ev_pos (by omega) ?_)))
   rw [rd35, rd35, getD_lt hi, getD_lt ht, wrap_succ hi hs, List.drop_eq_getElem_cons hi, List.drop_eq_getElem_cons ht]
   refine ev_ite (fun h1 => ev_bind (compare2_ev _ _ (hin _ (List.getElem_mem hi))) ?_) (fun h1 => ev_some_eq (by symm; rw [decide_eq_false_iff_not]; intro e; injection e with e _; exact h1 (by rw [e])))
   refine ev_ite (fun h2 => ?_) (fun h2 => ev_some_eq (by symm; rw [decide_eq_false_iff_not]; intro e; injection e with e _; exact h2 (by rw [e]; exact cmpL_zero.2 rfl)))
   refine ev_cast ih ?_
   have he : s[i] = t[i] := by
    have h3 := cmpL_zero.1 h2
    generalize s[i] = a at h1 h3
    generalize t[i] = b at h1 h3
    cases a
    cases b
    simp at h1 h3
    rw [h1, h3]
   rw [he, Bool.eq_iff_iff, decide_eq_true_iff, decide_eq_true_iff, List.cons.injEq]
   exact ⟨fun h => ⟨rfl, h⟩, fun h => h.2⟩
 exact loop 0 (Nat.zero_le _)
theorem same_lists (k : Nat) : ∀ (s t : List S35), (∀ x ∈ s, ∀ y ∈ t, address_Same_1.f k x.f0 x.f1 y.f0 y.f1 = some (decide (x = y))) → s.length = t.length → address_Entry_49.l0 (fun x y => address_Same_1.f k x.f0 x.f1 y.f0 y.f1) (s.map e28) (t.map e28) = some (decide (s = t))
 | [], [], _, _ => by simp [address_Entry_49.l0]
 | [], _ :: _, _, h => by simp at h
 | _ :: _, [], _, h => by simp at h
 | x :: s, y :: t, h, hl => by
  rw [List.map_cons, List.map_cons, address_Entry_49.l0]
  have h1 := h x List.mem_cons_self y List.mem_cons_self
  have h2 := same_lists k s t (fun a ha b hb => h a (List.mem_cons_of_mem _ ha) b (List.mem_cons_of_mem _ hb)) (by simpa using hl)
  show (address_Same_1.f k x.f0 x.f1 y.f0 y.f1).bind _ = _
  rw [h1, Option.bind_some]
  by_cases e : x = y
  ·subst e
   simpa using h2
  ·simp [e]
theorem Same_ev (s t : List S35) (hin : ∀ x ∈ s, x.f0.length ≤ 9223372036854775807) : Ev (fun k => address_Same.f k (s.map e28) (t.map e28)) (decide (s = t)) := by
 unfold address_Same.f address_Entry_49.f
 rw [List.length_map, List.length_map]
 refine ev_ite (fun hl => ?_) (fun h => ev_some_eq (by symm; rw [decide_eq_false_iff_not]; rintro rfl; exact h rfl))
 have one : ∀ x ∈ s, ∀ y ∈ t, Ev (fun k => address_Same_1.f k x.f0 x.f1 y.f0 y.f1) (decide (x = y)) := fun x hx y hy => by
  unfold address_Same_1.f
  refine ev_ite (fun h => ev_cast (equal_ev _ _ (hin x hx)) ?_) (fun h => ev_some_eq (by symm; rw [decide_eq_false_iff_not]; rintro rfl; exact h rfl))
  cases x
  cases y
  simp at h
  simp [h]
 obtain ⟨K, hK⟩ := ev_upto (g := fun k i => if i < s.length * t.length then address_Same_1.f k (s.getD (i / t.length) z35).f0 (s.getD (i / t.length) z35).f1 (t.getD (i % t.length) z35).f0 (t.getD (i % t.length) z35).f1 else none) (c := fun i => decide (s.getD (i / t.length) z35 = t.getD (i % t.length) z35)) (s.length * t.length) (fun i hi => by
  have h0 : 0 < t.length := Nat.pos_of_ne_zero (fun h => by rw [h, Nat.mul_zero] at hi; omega)
  exact ev_pos hi (one _ (getD_mem (Nat.div_lt_of_lt_mul (by rw [Nat.mul_comm]; exact hi))) _ (getD_mem (Nat.mod_lt _ h0))))
 refine ⟨K, fun k hk => same_lists k s t (fun x hx y hy => ?_) hl⟩
 obtain ⟨i, hi, rfl⟩ := mem_getD z35 hx
 obtain ⟨j, hj, rfl⟩ := mem_getD z35 hy
 have h0 : 0 < t.length := by omega
 have hlt : i * t.length + j < s.length * t.length := by
  have := Nat.mul_le_mul_right t.length (Nat.succ_le_of_lt hi)
  rw [Nat.succ_mul] at this
  omega
 have := hK k hk (i * t.length + j) hlt
 rw [if_pos hlt, show (i * t.length + j) / t.length = i by rw [Nat.mul_comm, Nat.mul_add_div h0, Nat.div_eq_of_lt hj, Nat.add_zero], show (i * t.length + j) % t.length = j by rw [Nat.mul_comm, Nat.mul_add_mod, Nat.mod_eq_of_lt hj]] at this
 exact this
end Go.Proofs.Ytchkhnhmpgkpeaa.P
namespace Go.Proofs.Ytchkhnhmpgkpeaa.Pure
open Go.RowKit Go.Proofs.Ytchkhnhmpgkpeaa.P Go.Proofs.YtchkhnhmpgkpeaaW.PrintWords Go.Proofs.Ytchkhnhmpgkpeaa.EvLib

theorem changes_sane (t : List S35) (a p : List Int) (n : Int) : Ev (fun k => heptadlaw11_AddressChanges.j0 k t a true p n) true :=
 ev_step (fun k => heptadlaw11_AddressChanges.j0.eq_2 _ _ _ _ _ k) (ev_pos rfl (ev_bind sane_ev (ev_some _)))
theorem changes_go (t : List S35) (a p : List Int) (n : Int) (ht : t.length ≤ 4000) (hin : ∀ x ∈ t, x.f0.length ≤ 4000) (ha : a.length ≤ 1000) (hp : p.length ≤ 1000) : Ev (fun k => heptadlaw11_AddressChanges.j0 k t a false p n) true := by
 have same : ∀ l : List S35, l.length ≤ 4000 → (∀ x ∈ l, x.f0.length ≤ 4000) → Ev (fun k => heptadref11_Same.f k l l) true := fun l h1 h2 => ev_cast (refSame2_ev l l (by omega) (fun x hx => by have := h2 x hx; omega)) (by simp)
 refine ev_step (fun k => heptadlaw11_AddressChanges.j0.eq_2 _ _ _ _ _ k) (ev_neg (by simp) ?_)
 refine ev_bind (table_ev t (by omega) (fun x hx => by have := hin x hx; omega)) ?_
 obtain ⟨l, e, h1, h2, h3, h4, h5⟩ := adds_alike t p n ht hin hp
 refine ev_bind h1 (ev_bind h2 (ev_pos rfl (ev_bind (back_ev l (by omega)) (ev_bind (same l h3 h4) ?_))))
 have j2 : Ev (fun k => heptadlaw11_AddressChanges.j2 k t a (t.map e28)) true := by
  obtain ⟨m, f, g1, g2, g3, g4⟩ := removes_alike t a ht hin ha
  refine ev_step (fun k => heptadlaw11_AddressChanges.j2.eq_2 _ _ _ k) (ev_bind g1 (ev_bind g2 (ev_pos rfl (ev_bind (back_ev m (by omega)) (ev_bind (same m g3 g4) ?_)))))
  refine ev_step (fun k => heptadlaw11_AddressChanges.j3.eq_2 _ _ _ _ _ k) (ev_neg (by simp) ?_)
  refine ev_bind (Same_ev t m (fun x hx => by have := hin x hx; omega)) (ev_bind (refSame2_ev t m (by omega) (fun x hx => by have := hin x hx; omega)) (ev_pos (by simp) ?_))
  exact ev_bind (back_ev t (by omega)) (ev_bind (same t ht hin) (ev_pos rfl (ev_bind sane_ev (ev_some _))))
 refine ev_step (fun k => heptadlaw11_AddressChanges.j1.eq_2 _ _ _ _ _ _ _ _ k) (ev_neg (by simp) (ev_ite (fun h => ?_) (fun _ => j2)))
 exact ev_bind (h5 h) (ev_pos rfl (ev_bind (back_ev t (by omega)) (ev_bind (same t ht hin) (ev_pos rfl j2))))

theorem AddressChanges : heptadlaw11_AddressChanges.Pure := by
 intro t x a ht hx ha
 obtain ⟨ht1, ht2, ht3⟩ := ht
 have hin8 : ∀ x ∈ t, x.f0.length * 8 ≤ 140737488351232 := fun x hx => (ht3 x hx).1.2.1
 refine ev_at ?_
 unfold heptadlaw11_AddressChanges.f
 obtain ⟨b, hb, hs⟩ := large_ev t ht2 hin8
 refine ev_bind hb ?_
 cases b with
 | true => exact ev_pos rfl (changes_sane t a x.f0 x.f1)
 | false =>
  obtain ⟨s1, s2⟩ := hs rfl
  refine ev_neg (by simp) (ev_ite (fun _ => changes_sane t a x.f0 x.f1) (fun h1 => ?_))
  by_cases h : (a.length : Int) > 1000
  ·rw [decide_eq_true h]
   exact changes_sane t a x.f0 x.f1
  ·rw [decide_eq_false h]
   exact changes_go t a x.f0 x.f1 (by omega) (fun x hx => by have := s2 x hx; omega) (by omega) (by omega)
end Go.Proofs.Ytchkhnhmpgkpeaa.Pure
