/- What the printed functions of AddressLists answer is true, for all lists and numbers. -/
import Derived.Test.YtchkhnhmpgkpeaaDoorLib11q
import Derived.Test.YtchkhnhmpgkpeaaDoorBoundAddressLists
import Derived.Lib.ItoaLen
set_option linter.unusedVariables false
set_option linter.unusedSimpArgs false
namespace Go.Proofs.YtchkhnhmpgkpeaaDoor.Q
open Go.RowKit Go.Proofs.YtchkhnhmpgkpeaaDoorW.PrintWords Go.Proofs.YtchkhnhmpgkpeaaDoor.EvLib Go.Proofs.YtchkhnhmpgkpeaaDoor.Common

theorem copy_ok (l : List Int) (h : l.length < 17592186044416) : heptadref01_Copy.f l = some l := by
  unfold heptadref01_Copy.f
  rw [Option.bind_some, if_pos (by simpa using h)]
  rfl
theorem clone_ok (l : List Int) (h : l.length ≤ 17592186044416) : slices_Clone_int_int.f l = some l := by
  unfold slices_Clone_int_int.f
  rw [if_pos (by omega)]
theorem ints_ev (l : List Int) (h : l.length ≤ 9223372036854775807) : Ev (fun k => heptadref01_Ints.f k l l) true := by
  have loop : ∀ i, i ≤ l.length → Ev (fun k => heptadref01_Ints.l0 k l l (i : Int)) true := by
    refine up_ind ?_ ?_
    · exact ev_step (fun k => heptadref01_Ints.l0.eq_2 _ _ _ k) (ev_neg (by omega) (ev_some _))
    · intro i hi ih
      refine ev_step (fun k => heptadref01_Ints.l0.eq_2 _ _ _ k) (ev_pos (by omega) (ev_pos (by omega) (ev_pos (by omega) (ev_pos rfl ?_))))
      rw [wrap_succ hi h]
      exact ih
  unfold heptadref01_Ints.f
  exact ev_pos rfl (loop 0 (Nat.zero_le _))

/-! Numbers in a row, with dots between. -/
def bs (l : List UInt8) : ByteArray := ⟨l.toArray⟩
theorem bs_append (a b : List UInt8) : bs a ++ bs b = bs (a ++ b) := by
  have h : ∀ x y : ByteArray, x.data = y.data → x = y := fun x y h => by cases x; cases y; simpa using h
  refine h _ _ ?_
  simp [bs]
theorem bs_size (a : List UInt8) : (bs a).size = a.length := by simp [bs, ByteArray.size]
theorem bs_list (a : List UInt8) : (bs a).data.toList = a := by simp [bs]
def dot : ByteArray := ⟨#[46]⟩
theorem dot_bs : dot = bs [46] := rfl
theorem itoa_ok (n : Int) (h0 : 0 ≤ n) (h1 : n ≤ 999) : strconv_Itoa.f n = some (bs (Go.Lib.itoa n)) := by
  unfold strconv_Itoa.f
  rw [if_pos ⟨by omega, by omega⟩]
  rfl
theorem pre_in {p : List Int} (h : isPre p = true) {x : Int} (hx : x ∈ p) : 0 ≤ x ∧ x ≤ 999 := by
  simp only [isPre, Bool.and_eq_true, Bool.not_eq_true', List.any_eq_false] at h
  have := h.2 x hx
  simp only [badN, Bool.or_eq_true, decide_eq_true_eq] at this
  omega
/-- The texts of numbers. -/
def its (p : List Int) : List (List UInt8) := p.map Go.Lib.itoa
theorem tail_snoc (r : List (List UInt8)) (x : List UInt8) : Go.Lib.joinTail [46] (r ++ [x]) = Go.Lib.joinTail [46] r ++ ([46] ++ x) := by simp [Go.Lib.joinTail]
theorem tail_len : ∀ (r : List Int), (∀ x ∈ r, 0 ≤ x ∧ x ≤ 999) → (Go.Lib.joinTail [46] (its r)).length ≤ 22 * r.length
  | [], _ => by simp [Go.Lib.joinTail, its]
  | x :: r, h => by
    have h1 := h x List.mem_cons_self
    have h2 := Go.Lib.itoa_length_le x (by omega) (by omega)
    have h3 := tail_len r (fun y hy => h y (List.mem_cons_of_mem _ hy))
    have e : (Go.Lib.joinTail [46] (its (x :: r))).length = 1 + (Go.Lib.itoa x).length + (Go.Lib.joinTail [46] (its r)).length := by
      simp [Go.Lib.joinTail, its]
      omega
    rw [e, List.length_cons]
    omega
/-- What both Texts write. -/
def said (x : Int) (r : List Int) : List UInt8 := Go.Lib.itoa x ++ Go.Lib.joinTail [46] (its r)
theorem said_len {x : Int} {r : List Int} (h : ∀ y ∈ x :: r, 0 ≤ y ∧ y ≤ 999) : (said x r).length ≤ 21 + 22 * r.length := by
  have h1 := h x List.mem_cons_self
  have h2 := Go.Lib.itoa_length_le x (by omega) (by omega)
  have h3 := tail_len r (fun y hy => h y (List.mem_cons_of_mem _ hy))
  unfold said
  rw [List.length_append]
  omega
theorem Text_ev (x : Int) (r : List Int) (hp : isPre (x :: r) = true) : Ev (fun k => address_Text.f k (x :: r)) (bs (said x r), 0) := by
  have hl := isPre_len hp
  have hin : ∀ y ∈ x :: r, 0 ≤ y ∧ y ≤ 999 := fun y hy => pre_in hp hy
  unfold address_Text.f
  refine ev_bind0 (prefix_ev _) ?_
  rw [hp]
  refine ev_pos rfl (ev_neg (by simp; omega) ?_)
  have loop : ∀ i, i ≤ (x :: r).length → Ev (fun k => address_Text.l0 k (((x :: r).take i).map fun n => bs (Go.Lib.itoa n)) (x :: r) ((x :: r).length : Int) (i : Int)) (bs (said x r), 0) := by
    refine up_ind ?_ ?_
    · refine ev_step (fun k => address_Text.l0.eq_2 _ _ _ _ k) (ev_neg (by omega) ?_)
      rw [List.take_of_length_le (Nat.le_refl _)]
      have hj : strings_Join.j ((x :: r).map fun n => bs (Go.Lib.itoa n)) (⟨#[46]⟩ : ByteArray) = said x r := by
        unfold strings_Join.j said
        rw [List.map_map, show ((fun b : ByteArray => b.data.toList) ∘ fun n => bs (Go.Lib.itoa n)) = Go.Lib.itoa from by funext n; simp [bs], List.map_cons, Go.Lib.join_cons]
        rfl
      have hs := said_len hin
      have hjf : strings_Join.f ((x :: r).map fun n => bs (Go.Lib.itoa n)) (⟨#[46]⟩ : ByteArray) = some (bs (said x r)) := by
        unfold strings_Join.f
        rw [hj, if_pos ⟨by rw [List.length_map]; omega, by simp only [List.length_cons] at hl; omega⟩]
        rfl
      exact ev_bind0 hjf (ev_some _)
    · intro i hi ih
      refine ev_step (fun k => address_Text.l0.eq_2 _ _ _ _ k) (ev_pos (by omega) (ev_pos (by omega) (ev_pos (by omega) ?_)))
      rw [rd_nat]
      have h1 := hin _ (getD_mem (d := 0) hi)
      refine ev_bind0 (itoa_ok _ h1.1 h1.2) (ev_pos (by rw [List.length_map, List.length_take]; omega) ?_)
      rw [wrap_succ hi (by omega)]
      have e : ((x :: r).take i).map (fun n => bs (Go.Lib.itoa n)) ++ [bs (Go.Lib.itoa ((x :: r).getD i 0))] = ((x :: r).take (i + 1)).map fun n => bs (Go.Lib.itoa n) := by
        rw [List.take_succ_eq_append_getElem hi, List.map_append, getD_lt hi]
        rfl
      rw [e]
      exact ih
  exact loop 0 (Nat.zero_le _)
theorem RefText_ev (x : Int) (r : List Int) (hp : isPre (x :: r) = true) : Ev (fun k => heptadref11_Text.f k (x :: r)) (bs (said x r), 0) := by
  have hl := isPre_len hp
  have hl2 : r.length ≤ 9 := by simp only [List.length_cons] at hl; omega
  have hin : ∀ y ∈ x :: r, 0 ≤ y ∧ y ≤ 999 := fun y hy => pre_in hp hy
  have hx := hin x List.mem_cons_self
  unfold heptadref11_Text.f
  refine ev_bind (refPrefix_ev _ (by omega)) ?_
  rw [hp]
  refine ev_pos rfl (ev_neg (by simp; omega) (ev_pos (by simp) ?_))
  refine ev_bind0 (a := bs (Go.Lib.itoa x)) (itoa_ok x hx.1 hx.2) ?_
  have loop : ∀ i, i ≤ r.length → Ev (fun k => heptadref11_Text.l0 k (x :: r) (bs (said x (r.take i))) ((i + 1 : Nat) : Int)) (bs (said x r), 0) := by
    refine up_ind ?_ ?_
    · refine ev_step (fun k => heptadref11_Text.l0.eq_2 _ _ _ k) (ev_neg (by simp only [List.length_cons]; omega) (ev_some_eq ?_))
      rw [List.take_of_length_le (Nat.le_refl _)]
    · intro i hi ih
      have hs : (said x (r.take i)).length ≤ 21 + 22 * (r.take i).length := said_len (fun y hy => hin y (by
        rcases List.mem_cons.1 hy with rfl | hy
        · exact List.mem_cons_self
        · exact List.mem_cons_of_mem _ (List.mem_of_mem_take hy)))
      have ht : (r.take i).length = i := by rw [List.length_take]; omega
      have hri := hin r[i] (List.mem_cons_of_mem _ (List.getElem_mem hi))
      have hil := Go.Lib.itoa_length_le r[i] (by omega) (by omega)
      have hg : (x :: r).getD (i + 1) 0 = r[i] := by rw [getD_lt (by simp only [List.length_cons]; omega)]; simp
      refine ev_step (fun k => heptadref11_Text.l0.eq_2 _ _ _ k) (ev_pos (by simp only [List.length_cons]; omega) (ev_pos (by rw [bs_size]; omega) (ev_pos (by omega) ?_)))
      rw [rd_nat, hg]
      refine ev_bind0 (itoa_ok _ hri.1 hri.2) ?_
      have e1 : bs (said x (r.take i)) ++ (⟨#[46]⟩ : ByteArray) = bs (said x (r.take i) ++ [46]) := bs_append _ [46]
      rw [e1]
      refine ev_pos (by rw [bs_size, bs_size, List.length_append]; simp only [List.length_cons, List.length_nil]; omega) ?_
      rw [bs_append, wrap_succ (n := 100) (by omega) (by omega)]
      have e2 : said x (r.take i) ++ [46] ++ Go.Lib.itoa r[i] = said x (r.take (i + 1)) := by
        rw [List.take_succ_eq_append_getElem hi]
        unfold said its
        rw [List.map_append, List.map_cons, List.map_nil, tail_snoc]
        simp only [List.append_assoc]
      rw [e2]
      exact ih
  have h0 := loop 0 (Nat.zero_le _)
  have e0 : said x (r.take 0) = Go.Lib.itoa x := by simp [said, its, Go.Lib.joinTail]
  rw [e0] at h0
  exact h0
theorem texts_alike (p : List Int) (hpl : p.length ≤ 1000) : ∃ s e, Ev (fun k => address_Text.f k p) (s, e) ∧ Ev (fun k => heptadref11_Text.f k p) (s, e) := by
  by_cases hp : isPre p = true
  · cases p with
    | nil =>
      refine ⟨⟨#[42]⟩, 0, ?_, ?_⟩
      · unfold address_Text.f
        refine ev_bind0 (prefix_ev _) ?_
        rw [hp]
        exact ev_pos rfl (ev_pos rfl (ev_some _))
      · unfold heptadref11_Text.f
        refine ev_bind (refPrefix_ev _ (by simp)) ?_
        rw [hp]
        exact ev_pos rfl (ev_pos rfl (ev_some _))
    | cons x r => exact ⟨_, _, Text_ev x r hp, RefText_ev x r hp⟩
  · refine ⟨⟨#[]⟩, 1, ?_, ?_⟩
    · unfold address_Text.f
      exact ev_bind0 (prefix_ev _) (ev_neg hp (ev_some _))
    · unfold heptadref11_Text.f
      exact ev_bind (refPrefix_ev _ (by omega)) (ev_neg hp (ev_some _))
theorem has_alike (p a : List Int) (hp : p.length ≤ 1000) (ha : a.length ≤ 1000) : ∃ b e, Ev (fun k => address_Has.f k p a) (b, e) ∧ Ev (fun k => heptadref11_Has.f k p a) (b, e) := by
  unfold address_Has.f heptadref11_Has.f
  by_cases h1 : isPre p = true
  · by_cases h2 : (decide (0 < a.length) && isPre a) = true
    · exact ⟨beg p a, 0, ev_bind0 (prefix_ev _) (ev_pos h1 (ev_bind0 (Valid_ev a) (ev_pos h2 (ev_bind (begins_ev a p (by omega)) (ev_some _))))), ev_bind (refPrefix_ev p (by omega)) (ev_pos h1 (ev_bind (refValid_ev a (by omega)) (ev_pos h2 (ev_bind (refBegins_ev p a (by omega)) (ev_some _)))))⟩
    · exact ⟨false, 1, ev_bind0 (prefix_ev _) (ev_pos h1 (ev_bind0 (Valid_ev a) (ev_neg h2 (ev_some _)))), ev_bind (refPrefix_ev p (by omega)) (ev_pos h1 (ev_bind (refValid_ev a (by omega)) (ev_neg h2 (ev_some _))))⟩
  · exact ⟨false, 1, ev_bind0 (prefix_ev _) (ev_neg h1 (ev_some _)), ev_bind (refPrefix_ev p (by omega)) (ev_neg h1 (ev_some _))⟩
theorem compares_alike (p a : List Int) (hp : p.length ≤ 1000) (ha : a.length ≤ 1000) : ∃ b e, Ev (fun k => address_Compare.f k p a) (b, e) ∧ Ev (fun k => heptadref11_Compare.f k p a) (b, e) := by
  unfold address_Compare.f heptadref11_Compare.f
  by_cases h1 : isPre p = true
  · by_cases h2 : isPre a = true
    · exact ⟨cmpL p a, 0, ev_bind0 (prefix_ev _) (ev_pos h1 (ev_bind0 (prefix_ev a) (ev_pos h2 (ev_bind (compare_ev p a (by omega)) (ev_some _))))), ev_bind (refPrefix_ev p (by omega)) (ev_pos h1 (ev_bind (refPrefix_ev a (by omega)) (ev_pos h2 (ev_bind (compare2_ev p a (by omega)) (ev_some _)))))⟩
    · exact ⟨0, 1, ev_bind0 (prefix_ev _) (ev_pos h1 (ev_bind0 (prefix_ev a) (ev_neg h2 (ev_some _)))), ev_bind (refPrefix_ev p (by omega)) (ev_pos h1 (ev_bind (refPrefix_ev a (by omega)) (ev_neg h2 (ev_some _))))⟩
  · exact ⟨0, 1, ev_bind0 (prefix_ev _) (ev_neg h1 (ev_some _)), ev_bind (refPrefix_ev p (by omega)) (ev_neg h1 (ev_some _))⟩
theorem commons_alike (p a : List Int) (hp : p.length ≤ 1000) (ha : a.length ≤ 1000) : ∃ l e, Ev (fun k => address_Common.f k p a) (l, e) ∧ Ev (fun k => heptadref11_Common.f k p a) (l, e) ∧ l.length ≤ 1000 := by
  have loop : ∀ i, i ≤ p.length → ∃ n : Nat, n ≤ p.length ∧ Ev (fun k => address_Common.l0 k p a (i : Int)) (p.take n, 0) ∧ Ev (fun k => heptadref11_Common.l0 k p a (p.take i) (i : Int)) (p.take n, 0) := by
    have cl : ∀ n, n ≤ p.length → slices_Clone_int_int.f (p.take (n : Int).toNat) = some (p.take n) := fun n hn => by
      rw [Int.toNat_natCast]
      exact clone_ok _ (by rw [List.length_take]; omega)
    refine up_ind (P := fun i => ∃ n : Nat, n ≤ p.length ∧ Ev (fun k => address_Common.l0 k p a (i : Int)) (p.take n, 0) ∧ Ev (fun k => heptadref11_Common.l0 k p a (p.take i) (i : Int)) (p.take n, 0)) ?_ ?_
    · refine ⟨p.length, Nat.le_refl _, ?_, ?_⟩
      · exact ev_step (fun k => address_Common.l0.eq_2 _ _ _ k) (ev_neg (by omega) (ev_pos (by omega) (ev_pos (by omega) (ev_bind0 (cl _ (Nat.le_refl _)) (ev_some _)))))
      · exact ev_step (fun k => heptadref11_Common.l0.eq_2 _ _ _ _ k) (ev_neg (by omega) (ev_some _))
    · intro i hi ih
      obtain ⟨n, hn, h1, h2⟩ := ih
      by_cases ha2 : i < a.length
      · by_cases he : rd p (i : Int) = rd a (i : Int)
        · refine ⟨n, hn, ?_, ?_⟩
          · refine ev_step (fun k => address_Common.l0.eq_2 _ _ _ k) (ev_pos (by omega) (ev_pos (by omega) (ev_pos (by omega) (ev_pos he ?_))))
            rw [wrap_succ hi (by omega)]
            exact h1
          · refine ev_step (fun k => heptadref11_Common.l0.eq_2 _ _ _ _ k) (ev_pos (by omega) (ev_pos (by omega) (ev_pos (by omega) (ev_pos he (ev_pos (by rw [List.length_take]; omega) ?_)))))
            rw [wrap_succ hi (by omega), rd_nat]
            rw [List.take_succ_eq_append_getElem hi] at h2
            rw [getD_lt hi]
            exact h2
        · refine ⟨i, by omega, ?_, ?_⟩
          · exact ev_step (fun k => address_Common.l0.eq_2 _ _ _ k) (ev_pos (by omega) (ev_pos (by omega) (ev_pos (by omega) (ev_neg he (ev_pos (by omega) (ev_bind0 (cl i (by omega)) (ev_some _)))))))
          · exact ev_step (fun k => heptadref11_Common.l0.eq_2 _ _ _ _ k) (ev_pos (by omega) (ev_pos (by omega) (ev_pos (by omega) (ev_neg he (ev_some _)))))
      · refine ⟨i, by omega, ?_, ?_⟩
        · exact ev_step (fun k => address_Common.l0.eq_2 _ _ _ k) (ev_pos (by omega) (ev_neg (by omega) (ev_pos (by omega) (ev_pos (by omega) (ev_bind0 (cl i (by omega)) (ev_some _))))))
        · exact ev_step (fun k => heptadref11_Common.l0.eq_2 _ _ _ _ k) (ev_pos (by omega) (ev_neg (by omega) (ev_some _)))
  obtain ⟨n, hn, g1, g2⟩ := loop 0 (Nat.zero_le _)
  have b1 : Ev (fun k => address_Common.j0 k p a true) ([], 1) := ev_step (fun k => address_Common.j0.eq_2 _ _ _ k) (ev_pos rfl (ev_some _))
  have b2 : Ev (fun k => heptadref11_Common.j0 k p a true) ([], 1) := ev_step (fun k => heptadref11_Common.j0.eq_2 _ _ _ k) (ev_pos rfl (ev_some _))
  unfold address_Common.f heptadref11_Common.f
  by_cases h1 : isPre p = true
  · by_cases h2 : isPre a = true
    · refine ⟨p.take n, 0, ev_bind0 (prefix_ev _) (ev_pos h1 (ev_bind0 (prefix_ev a) ?_)), ev_bind (refPrefix_ev p (by omega)) (ev_pos h1 (ev_bind (refPrefix_ev a (by omega)) ?_)), by rw [List.length_take]; omega⟩
      · rw [h2]
        exact ev_step (fun k => address_Common.j0.eq_2 _ _ _ k) (ev_neg (by simp) g1)
      · rw [h2]
        exact ev_step (fun k => heptadref11_Common.j0.eq_2 _ _ _ k) (ev_neg (by simp) g2)
    · rw [Bool.not_eq_true] at h2
      refine ⟨[], 1, ev_bind0 (prefix_ev _) (ev_pos h1 (ev_bind0 (prefix_ev a) ?_)), ev_bind (refPrefix_ev p (by omega)) (ev_pos h1 (ev_bind (refPrefix_ev a (by omega)) ?_)), by simp⟩
      · rw [h2]
        exact b1
      · rw [h2]
        exact b2
  · exact ⟨[], 1, ev_bind0 (prefix_ev _) (ev_neg h1 b1), ev_bind (refPrefix_ev p (by omega)) (ev_neg h1 b2), by simp⟩
theorem areas_alike (a : List Int) (n : Int) (ha : a.length ≤ 1000) : ∃ l e, address_Area.f a n = some (l, e) ∧ Ev (fun k => heptadref11_Area.f k a n) (l, e) ∧ l.length ≤ 1000 := by
  unfold address_Area.f heptadref11_Area.f
  rw [Valid_ev a, Option.bind_some]
  by_cases h1 : (decide (0 < a.length) && isPre a) = true
  · rw [if_pos h1]
    by_cases h2 : n < 0
    · rw [if_pos h2]
      exact ⟨[], 1, rfl, ev_bind (refValid_ev a (by omega)) (ev_pos h1 (ev_pos h2 (ev_some _))), by simp⟩
    · rw [if_neg h2]
      by_cases h3 : n ≥ (a.length : Int)
      · rw [if_pos h3]
        exact ⟨[], 1, rfl, ev_bind (refValid_ev a (by omega)) (ev_pos h1 (ev_neg h2 (ev_pos h3 (ev_some _)))), by simp⟩
      · rw [if_neg h3, if_pos (by omega), if_pos (by omega), clone_ok _ (by rw [List.length_take]; omega)]
        refine ⟨a.take n.toNat, 0, rfl, ev_bind (refValid_ev a (by omega)) (ev_pos h1 (ev_neg h2 (ev_neg h3 (ev_bind0 rfl (ev_pos (by omega) (ev_pos (by omega) (ev_pos (by rw [List.length_take]; simp; omega) (ev_some_eq ?_)))))))), by rw [List.length_take]; omega⟩
        simp
  · rw [if_neg h1]
    exact ⟨[], 1, rfl, ev_bind (refValid_ev a (by omega)) (ev_neg h1 (ev_some _)), by simp⟩
end Go.Proofs.YtchkhnhmpgkpeaaDoor.Q
namespace Go.Proofs.YtchkhnhmpgkpeaaDoor.Pure
open Go.RowKit Go.Proofs.YtchkhnhmpgkpeaaDoor.Q Go.Proofs.YtchkhnhmpgkpeaaDoorW.PrintWords Go.Proofs.YtchkhnhmpgkpeaaDoor.EvLib

theorem lists_sane (p a : List Int) (n : Int) : Ev (fun k => heptadlaw11_AddressLists.j0 k p a n true) true :=
  ev_step (fun k => heptadlaw11_AddressLists.j0.eq_2 _ _ _ _ k) (ev_pos rfl (ev_bind sane_ev (ev_some _)))
theorem lists_go (p a : List Int) (n : Int) (hp : p.length ≤ 1000) (ha : a.length ≤ 1000) : Ev (fun k => heptadlaw11_AddressLists.j0 k p a n false) true := by
  refine ev_step (fun k => heptadlaw11_AddressLists.j0.eq_2 _ _ _ _ k) (ev_neg (by simp) (ev_bind0 (copy_ok p (by omega)) (ev_bind0 (copy_ok a (by omega)) ?_)))
  obtain ⟨s, e, h1, h2⟩ := texts_alike p hp
  refine ev_bind h1 (ev_bind h2 (ev_pos rfl ?_))
  refine ev_step (fun k => heptadlaw11_AddressLists.j1.eq_2 _ _ _ _ _ _ k) (ev_neg (by simp) ?_)
  obtain ⟨b, e, h1, h2⟩ := has_alike p a hp ha
  refine ev_bind h1 (ev_bind h2 (ev_neg (by simp) ?_))
  refine ev_step (fun k => heptadlaw11_AddressLists.j2.eq_2 _ _ _ _ _ _ k) (ev_neg (by simp) ?_)
  obtain ⟨c, e, h1, h2⟩ := compares_alike p a hp ha
  refine ev_bind h1 (ev_bind h2 (ev_pos rfl ?_))
  refine ev_step (fun k => heptadlaw11_AddressLists.j3.eq_2 _ _ _ _ _ _ k) (ev_neg (by simp) ?_)
  obtain ⟨l, e, h1, h2, h3⟩ := commons_alike p a hp ha
  refine ev_bind h1 (ev_bind h2 (ev_bind (ints_ev l (by omega)) (ev_pos rfl ?_)))
  refine ev_step (fun k => heptadlaw11_AddressLists.j4.eq_2 _ _ _ _ _ _ k) (ev_neg (by simp) ?_)
  obtain ⟨l, e, h1, h2, h3⟩ := areas_alike a n ha
  refine ev_bind0 h1 (ev_bind h2 (ev_bind0 (Valid_ev a) (ev_bind (ints_ev l (by omega)) (ev_pos rfl (ev_pos rfl (ev_bind (refValid_ev a (by omega)) (ev_pos (by simp) ?_)))))))
  exact ev_bind (ints_ev p (by omega)) (ev_pos rfl (ev_bind (ints_ev a (by omega)) (ev_pos rfl (ev_bind sane_ev (ev_some _)))))
theorem AddressLists : heptadlaw11_AddressLists.PureA := by
  intro p a n hp ha hn
  refine ev_at ?_
  unfold heptadlaw11_AddressLists.f
  refine ev_ite (fun _ => lists_sane p a n) (fun h1 => ?_)
  by_cases h : (a.length : Int) > 1000
  · rw [decide_eq_true h]
    exact lists_sane p a n
  · rw [decide_eq_false h]
    exact lists_go p a n (by omega) (by omega)
end Go.Proofs.YtchkhnhmpgkpeaaDoor.Pure
