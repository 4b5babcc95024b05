/- What the printed functions of AddressParses answer is true, for all texts. -/
import Derived.Test.YtchkhnhmpgkpeaaDoorLib11r
import Derived.Test.YtchkhnhmpgkpeaaDoorBoundAddressParses
import Derived.Lib.AtoiAllCases
import Derived.Lib.ItoaLen
set_option linter.unusedVariables false
set_option linter.unusedSimpArgs false
namespace Go.Proofs.YtchkhnhmpgkpeaaDoor.R
open Go.RowKit Go.Proofs.YtchkhnhmpgkpeaaDoorW.PrintWords Go.Proofs.YtchkhnhmpgkpeaaDoor.EvLib Go.Proofs.YtchkhnhmpgkpeaaDoor.Common
open Go.Proofs.YtchkhnhmpgkpeaaDoor.Split (bs pieces parts list_bs bs_list ext_bs)

theorem ints_ev (l : List Int) (h : l.length ≤ 9223372036854775807) : Ev (fun k => heptadref01_Ints.f k l l) true := by
  have loop : ∀ i, i ≤ l.length → Ev (fun k => heptadref01_Ints.l0 k l l (i : Int)) true := by
    refine up_ind ?_ ?_
    · exact ev_step (fun k => heptadref01_Ints.l0.eq_2 _ _ _ k) (ev_neg (by omega) (ev_some _))
    · intro i hi ih
      refine ev_step (fun k => heptadref01_Ints.l0.eq_2 _ _ _ k) (ev_pos (by omega) (ev_pos (by omega) (ev_pos (by omega) (ev_pos rfl ?_))))
      rw [wrap_succ hi h]
      exact ih
  unfold heptadref01_Ints.f
  exact ev_pos rfl (loop 0 (Nat.zero_le _))

theorem bs_append (a b : List UInt8) : bs a ++ bs b = bs (a ++ b) := by
  have h : ∀ x y : ByteArray, x.data = y.data → x = y := fun x y h => by cases x; cases y; simpa using h
  refine h _ _ ?_
  simp [bs]
theorem bs_size (a : List UInt8) : (bs a).size = a.length := by simp [bs, ByteArray.size]
theorem itoa_ok (n : Int) (h0 : 0 ≤ n) (h1 : n ≤ 999) : strconv_Itoa.f n = some (bs (Go.Lib.itoa n)) := by
  unfold strconv_Itoa.f
  rw [if_pos ⟨by omega, by omega⟩]
  rfl
theorem pre_in {p : List Int} (h : isPre p = true) {x : Int} (hx : x ∈ p) : 0 ≤ x ∧ x ≤ 999 := by
  simp only [isPre, Bool.and_eq_true, Bool.not_eq_true', List.any_eq_false] at h
  have := h.2 x hx
  simp only [badN, Bool.or_eq_true, decide_eq_true_eq] at this
  omega
/-- The texts of numbers. -/
def its (p : List Int) : List (List UInt8) := p.map Go.Lib.itoa
theorem tail_snoc (r : List (List UInt8)) (x : List UInt8) : Go.Lib.joinTail [46] (r ++ [x]) = Go.Lib.joinTail [46] r ++ ([46] ++ x) := by simp [Go.Lib.joinTail]
theorem tail_len : ∀ (r : List Int), (∀ x ∈ r, 0 ≤ x ∧ x ≤ 999) → (Go.Lib.joinTail [46] (its r)).length ≤ 22 * r.length
  | [], _ => by simp [Go.Lib.joinTail, its]
  | x :: r, h => by
    have h1 := h x List.mem_cons_self
    have h2 := Go.Lib.itoa_length_le x (by omega) (by omega)
    have h3 := tail_len r (fun y hy => h y (List.mem_cons_of_mem _ hy))
    have e : (Go.Lib.joinTail [46] (its (x :: r))).length = 1 + (Go.Lib.itoa x).length + (Go.Lib.joinTail [46] (its r)).length := by
      simp [Go.Lib.joinTail, its]
      omega
    rw [e, List.length_cons]
    omega
/-- What both Texts write. -/
def said (x : Int) (r : List Int) : List UInt8 := Go.Lib.itoa x ++ Go.Lib.joinTail [46] (its r)
theorem said_len {x : Int} {r : List Int} (h : ∀ y ∈ x :: r, 0 ≤ y ∧ y ≤ 999) : (said x r).length ≤ 21 + 22 * r.length := by
  have h1 := h x List.mem_cons_self
  have h2 := Go.Lib.itoa_length_le x (by omega) (by omega)
  have h3 := tail_len r (fun y hy => h y (List.mem_cons_of_mem _ hy))
  unfold said
  rw [List.length_append]
  omega
theorem Text_ev (x : Int) (r : List Int) (hp : isPre (x :: r) = true) : Ev (fun k => address_Text.f k (x :: r)) (bs (said x r), 0) := by
  have hl := isPre_len hp
  have hin : ∀ y ∈ x :: r, 0 ≤ y ∧ y ≤ 999 := fun y hy => pre_in hp hy
  unfold address_Text.f
  refine ev_bind0 (prefix_ev _) ?_
  rw [hp]
  refine ev_pos rfl (ev_neg (by simp; omega) ?_)
  have loop : ∀ i, i ≤ (x :: r).length → Ev (fun k => address_Text.l0 k (((x :: r).take i).map fun n => bs (Go.Lib.itoa n)) (x :: r) ((x :: r).length : Int) (i : Int)) (bs (said x r), 0) := by
    refine up_ind ?_ ?_
    · refine ev_step (fun k => address_Text.l0.eq_2 _ _ _ _ k) (ev_neg (by omega) ?_)
      rw [List.take_of_length_le (Nat.le_refl _)]
      have hj : strings_Join.j ((x :: r).map fun n => bs (Go.Lib.itoa n)) (⟨#[46]⟩ : ByteArray) = said x r := by
        unfold strings_Join.j said
        rw [List.map_map, show ((fun b : ByteArray => b.data.toList) ∘ fun n => bs (Go.Lib.itoa n)) = Go.Lib.itoa from by funext n; simp [bs], List.map_cons, Go.Lib.join_cons]
        rfl
      have hs := said_len hin
      have hjf : strings_Join.f ((x :: r).map fun n => bs (Go.Lib.itoa n)) (⟨#[46]⟩ : ByteArray) = some (bs (said x r)) := by
        unfold strings_Join.f
        rw [hj, if_pos ⟨by rw [List.length_map]; omega, by simp only [List.length_cons] at hl; omega⟩]
        rfl
      exact ev_bind0 hjf (ev_some _)
    · intro i hi ih
      refine ev_step (fun k => address_Text.l0.eq_2 _ _ _ _ k) (ev_pos (by omega) (ev_pos (by omega) (ev_pos (by omega) ?_)))
      rw [rd_nat]
      have h1 := hin _ (getD_mem (d := 0) hi)
      refine ev_bind0 (itoa_ok _ h1.1 h1.2) (ev_pos (by rw [List.length_map, List.length_take]; omega) ?_)
      rw [wrap_succ hi (by omega)]
      have e : ((x :: r).take i).map (fun n => bs (Go.Lib.itoa n)) ++ [bs (Go.Lib.itoa ((x :: r).getD i 0))] = ((x :: r).take (i + 1)).map fun n => bs (Go.Lib.itoa n) := by
        rw [List.take_succ_eq_append_getElem hi, List.map_append, getD_lt hi]
        rfl
      rw [e]
      exact ih
  exact loop 0 (Nat.zero_le _)
theorem RefText_ev (x : Int) (r : List Int) (hp : isPre (x :: r) = true) : Ev (fun k => heptadref11_Text.f k (x :: r)) (bs (said x r), 0) := by
  have hl := isPre_len hp
  have hl2 : r.length ≤ 9 := by simp only [List.length_cons] at hl; omega
  have hin : ∀ y ∈ x :: r, 0 ≤ y ∧ y ≤ 999 := fun y hy => pre_in hp hy
  have hx := hin x List.mem_cons_self
  unfold heptadref11_Text.f
  refine ev_bind (refPrefix_ev _ (by omega)) ?_
  rw [hp]
  refine ev_pos rfl (ev_neg (by simp; omega) (ev_pos (by simp) ?_))
  refine ev_bind0 (a := bs (Go.Lib.itoa x)) (itoa_ok x hx.1 hx.2) ?_
  have loop : ∀ i, i ≤ r.length → Ev (fun k => heptadref11_Text.l0 k (x :: r) (bs (said x (r.take i))) ((i + 1 : Nat) : Int)) (bs (said x r), 0) := by
    refine up_ind ?_ ?_
    · refine ev_step (fun k => heptadref11_Text.l0.eq_2 _ _ _ k) (ev_neg (by simp only [List.length_cons]; omega) (ev_some_eq ?_))
      rw [List.take_of_length_le (Nat.le_refl _)]
    · intro i hi ih
      have hs : (said x (r.take i)).length ≤ 21 + 22 * (r.take i).length := said_len (fun y hy => hin y (by
        rcases List.mem_cons.1 hy with rfl | hy
        · exact List.mem_cons_self
        · exact List.mem_cons_of_mem _ (List.mem_of_mem_take hy)))
      have ht : (r.take i).length = i := by rw [List.length_take]; omega
      have hri := hin r[i] (List.mem_cons_of_mem _ (List.getElem_mem hi))
      have hil := Go.Lib.itoa_length_le r[i] (by omega) (by omega)
      have hg : (x :: r).getD (i + 1) 0 = r[i] := by rw [getD_lt (by simp only [List.length_cons]; omega)]; simp
      refine ev_step (fun k => heptadref11_Text.l0.eq_2 _ _ _ k) (ev_pos (by simp only [List.length_cons]; omega) (ev_pos (by rw [bs_size]; omega) (ev_pos (by omega) ?_)))
      rw [rd_nat, hg]
      refine ev_bind0 (itoa_ok _ hri.1 hri.2) ?_
      have e1 : bs (said x (r.take i)) ++ (⟨#[46]⟩ : ByteArray) = bs (said x (r.take i) ++ [46]) := bs_append _ [46]
      rw [e1]
      refine ev_pos (by rw [bs_size, bs_size, List.length_append]; simp only [List.length_cons, List.length_nil]; omega) ?_
      rw [bs_append, wrap_succ (n := 100) (by omega) (by omega)]
      have e2 : said x (r.take i) ++ [46] ++ Go.Lib.itoa r[i] = said x (r.take (i + 1)) := by
        rw [List.take_succ_eq_append_getElem hi]
        unfold said its
        rw [List.map_append, List.map_cons, List.map_nil, tail_snoc]
        simp only [List.append_assoc]
      rw [e2]
      exact ih
  have h0 := loop 0 (Nat.zero_le _)
  have e0 : said x (r.take 0) = Go.Lib.itoa x := by simp [said, its, Go.Lib.joinTail]
  rw [e0] at h0
  exact h0

/-! The two readings of a text. -/
theorem said_cons (x y : Int) (r : List Int) : said x (y :: r) = Go.Lib.itoa x ++ 46 :: said y r := by simp [said, its, Go.Lib.joinTail]
theorem said_one (x : Int) : said x [] = Go.Lib.itoa x := by simp [said, its, Go.Lib.joinTail]
def digs (l : List UInt8) (n : Int) : Int := l.foldl (fun a c => a * 10 + ((c.toNat : Int) - 48)) n
def okNum (x : Nat) : Bool := (match Go.Lib.atoiAll (Go.Lib.itoa x) with | .ok n => decide (n = (x : Int)) | _ => false) && (Go.Lib.itoa x).all (fun c => decide (48 ≤ c.toNat ∧ c.toNat ≤ 57)) && decide ((Go.Lib.itoa x).length ≤ 3) && decide (0 < (Go.Lib.itoa x).length) && decide (digs (Go.Lib.itoa x) 0 = (x : Int))
theorem okNums : ∀ x, x < 1000 → okNum x = true := by decide +kernel
theorem num_facts {x : Int} (h0 : 0 ≤ x) (h1 : x ≤ 999) : Go.Lib.atoiAll (Go.Lib.itoa x) = .ok x ∧ (∀ c ∈ Go.Lib.itoa x, 48 ≤ c.toNat ∧ c.toNat ≤ 57) ∧ (Go.Lib.itoa x).length ≤ 3 ∧ 0 < (Go.Lib.itoa x).length ∧ digs (Go.Lib.itoa x) 0 = x := by
  obtain ⟨u, rfl⟩ : ∃ u : Nat, x = u := ⟨x.toNat, by omega⟩
  have h := okNums u (by omega)
  simp only [okNum, Bool.and_eq_true, decide_eq_true_eq, List.all_eq_true] at h
  obtain ⟨⟨⟨⟨ha, hb⟩, hc⟩, hd⟩, he⟩ := h
  refine ⟨?_, hb, hc, hd, he⟩
  cases hA : Go.Lib.atoiAll (Go.Lib.itoa (u : Int))
  · rw [hA] at ha; rw [of_decide_eq_true ha]
  · rw [hA] at ha; cases ha
  · rw [hA] at ha; cases ha
theorem pieces_plain : ∀ {p : List UInt8}, (∀ c ∈ p, c ≠ 46) → pieces p = [p]
  | [], _ => rfl
  | c :: p, h => by rw [pieces, if_neg (h c (by simp)), pieces_plain (fun d hd => h d (by simp [hd]))]
theorem pieces_dot : ∀ {p : List UInt8} (r : List UInt8), (∀ c ∈ p, c ≠ 46) → pieces (p ++ 46 :: r) = p :: pieces r
  | [], r, _ => by rw [List.nil_append, pieces, if_pos rfl]
  | c :: p, r, h => by rw [List.cons_append, pieces, if_neg (h c (by simp)), pieces_dot r (fun d hd => h d (by simp [hd]))]
theorem no_dot {x : Int} (h0 : 0 ≤ x) (h1 : x ≤ 999) : ∀ c ∈ Go.Lib.itoa x, c ≠ 46 := by
  rintro c hc rfl
  have := (num_facts h0 h1).2.1 _ hc
  simp at this
theorem pieces_said : ∀ (r : List Int) (x : Int), (∀ y ∈ x :: r, 0 ≤ y ∧ y ≤ 999) → pieces (said x r) = its (x :: r)
  | [], x, h => by
    have hx := h x (by simp)
    rw [said_one, pieces_plain (no_dot hx.1 hx.2)]; rfl
  | y :: r, x, h => by
    have hx := h x (by simp)
    rw [said_cons, pieces_dot _ (no_dot hx.1 hx.2), pieces_said r y (fun z hz => h z (by simp [List.mem_cons.1 hz]))]; rfl
theorem pieces_cat : ∀ (l p : List UInt8) (ps : List (List UInt8)), pieces l = p :: ps → p ++ Go.Lib.joinTail [46] ps = l
  | [], p, ps, h => by
    obtain ⟨rfl, rfl⟩ := List.cons.inj h
    rfl
  | c :: l, p, ps, h => by
    rw [pieces] at h
    split at h
    · rename_i hc
      obtain ⟨rfl, rfl⟩ := List.cons.inj h
      cases hp : pieces l with
      | nil => exact absurd hp (Split.pieces_ne l)
      | cons q qs =>
        have := pieces_cat l q qs hp
        simp [Go.Lib.joinTail] at this ⊢
        exact ⟨hc.symm, this⟩
    · cases hp : pieces l with
      | nil => exact absurd hp (Split.pieces_ne l)
      | cons q qs =>
        rw [hp] at h
        obtain ⟨rfl, rfl⟩ := List.cons.inj h
        rw [List.cons_append, pieces_cat l q _ hp]
theorem bs_inj {a b : List UInt8} (h : bs a = bs b) : a = b := by rw [← list_bs a, h, list_bs]
theorem num1_said {p : List UInt8} {n : Int} (h : address_Parse.num1 (bs p) = some n) : p = Go.Lib.itoa n := by
  unfold address_Parse.num1 at h
  split at h
  · split at h
    · rename_i m hm he
      injection h with h
      subst h
      exact (bs_inj he).symm
    · cases h
  · cases h
theorem num1_ok {x : Int} (h0 : 0 ≤ x) (h1 : x ≤ 999) : address_Parse.num1 (bs (Go.Lib.itoa x)) = some x := by
  rw [address_Parse.num_ok (n := x) (by rw [list_bs]; exact (num_facts h0 h1).1), if_pos rfl]
theorem all_said : ∀ {ls : List (List UInt8)} {ns : List Int}, address_Parse.all (ls.map bs) = some ns → ls = its ns
  | [], ns, h => by obtain rfl := Option.some.inj h; rfl
  | p :: ls, ns, h => by
    rw [List.map_cons, address_Parse.all] at h
    obtain ⟨m, hm, h⟩ := Option.bind_eq_some_iff.1 h
    obtain ⟨ms, hms, rfl⟩ := Option.map_eq_some_iff.1 h
    rw [num1_said hm, all_said hms]; rfl
theorem all_ok : ∀ {ns : List Int}, (∀ y ∈ ns, 0 ≤ y ∧ y ≤ 999) → address_Parse.all ((its ns).map bs) = some ns
  | [], _ => rfl
  | x :: ns, h => by
    have hx := h x (by simp)
    show address_Parse.all (bs (Go.Lib.itoa x) :: (its ns).map bs) = _
    rw [address_Parse.all, num1_ok hx.1 hx.2, Option.bind_some, all_ok (fun y hy => h y (by simp [hy]))]; rfl
/-- The text is one that Text writes of numbers. -/
def Writes (s : ByteArray) (l : List Int) : Prop := ∃ x r, l = x :: r ∧ isPre l = true ∧ s = bs (said x r)
theorem parse_ok {s : ByteArray} {l : List Int} (hs : s.size ≤ 10000) (hne : s ≠ ⟨#[42]⟩) (h : Writes s l) : address_Parse.f s = some (l, 0) := by
  obtain ⟨x, r, rfl, hp, hw⟩ := h
  have hin : ∀ y ∈ x :: r, 0 ≤ y ∧ y ≤ 999 := fun y hy => pre_in hp hy
  have ha : address_Parse.all (parts s) = some (x :: r) := by
    rw [parts, hw, list_bs, pieces_said r x hin, all_ok hin]
  unfold address_Parse.f
  rw [if_pos (by omega), if_neg hne, ha]
  exact congrArg some (if_pos hp)
theorem parse_bad {s : ByteArray} (hs : s.size ≤ 10000) (hne : s ≠ ⟨#[42]⟩) (h : ¬ ∃ l, Writes s l) : address_Parse.f s = some ([], 4) := by
  unfold address_Parse.f
  rw [if_pos (by omega), if_neg hne]
  cases ha : address_Parse.all (parts s) with
  | none => rfl
  | some l =>
    refine congrArg some (if_neg (fun hp => h ⟨l, ?_⟩))
    have hl : pieces s.data.toList = its l := all_said ha
    cases l with
    | nil => exact absurd hl (Split.pieces_ne _)
    | cons x r =>
      refine ⟨x, r, rfl, hp, ?_⟩
      have := pieces_cat _ _ _ hl
      rw [← bs_list s, ← this]
      rfl
/-! The reference's loop, over what is left of the text. -/
def refL : List UInt8 → List Int → Int → Nat → Option (List Int)
  | [], out, n, d => if d = 0 ∨ out.length = 10 then none else some (out ++ [n])
  | c :: r, out, n, d => if 48 ≤ c.toNat ∧ c.toNat ≤ 57 ∧ d < 3 then refL r out (n * 10 + ((c.toNat : Int) - 48)) (d + 1) else
    if d = 0 ∨ c.toNat ≠ 46 ∨ out.length = 10 then none else refL r (out ++ [n]) 0 0
structure Inv (out : List Int) (n : Int) (d : Nat) : Prop where
  len : out.length ≤ 10
  all : ∀ y ∈ out, 0 ≤ y ∧ y ≤ 999
  lo : 0 ≤ n
  hi : d = 0 ∧ n = 0 ∨ d = 1 ∧ n ≤ 9 ∨ d = 2 ∧ n ≤ 99 ∨ d = 3 ∧ n ≤ 999
theorem Inv.digit {out : List Int} {n : Int} {d : Nat} (h : Inv out n d) (hd : d < 3) {c : UInt8} (h1 : 48 ≤ c.toNat) (h2 : c.toNat ≤ 57) : Inv out (n * 10 + ((c.toNat : Int) - 48)) (d + 1) :=
  ⟨h.len, h.all, by have := h.lo; omega, by have := h.lo; have := h.hi; omega⟩
theorem Inv.push {out : List Int} {n : Int} {d : Nat} (h : Inv out n d) (h10 : out.length ≠ 10) : Inv (out ++ [n]) 0 0 := by
  refine ⟨by have := h.len; simp; omega, fun y hy => ?_, by omega, .inl ⟨rfl, rfl⟩⟩
  rcases List.mem_append.1 hy with hy | hy
  · exact h.all y hy
  · rw [List.mem_singleton.1 hy]
    have := h.lo
    have := h.hi
    omega
theorem pre_of {l : List Int} (h : l.length ≤ 10) (ha : ∀ y ∈ l, 0 ≤ y ∧ y ≤ 999) : isPre l = true := by
  unfold isPre
  rw [Bool.and_eq_true, Bool.not_eq_true', List.any_eq_false]
  refine ⟨decide_eq_true h, fun y hy => ?_⟩
  have := ha y hy
  simp [badN]
  omega
theorem refL_pre : ∀ (t : List UInt8) (out : List Int) (n : Int) (d : Nat) (l : List Int), Inv out n d → refL t out n d = some l → l ≠ [] ∧ isPre l = true
  | [], out, n, d, l, hi, h => by
    rw [refL] at h
    split at h
    · cases h
    · rename_i hc
      obtain rfl := Option.some.inj h
      have hp := hi.push (fun e => hc (.inr e))
      exact ⟨by simp, pre_of hp.len hp.all⟩
  | c :: r, out, n, d, l, hi, h => by
    rw [refL] at h
    split at h
    · rename_i hc
      exact refL_pre r _ _ _ l (hi.digit hc.2.2 hc.1 hc.2.1) h
    · split at h
      · cases h
      · rename_i hc
        exact refL_pre r _ _ _ l (hi.push (fun e => hc (.inr (.inr e)))) h
theorem refL_digs : ∀ (ds rest : List UInt8) (out : List Int) (n : Int) (d : Nat), (∀ c ∈ ds, 48 ≤ c.toNat ∧ c.toNat ≤ 57) → d + ds.length ≤ 3 → refL (ds ++ rest) out n d = refL rest out (digs ds n) (d + ds.length)
  | [], rest, out, n, d, _, _ => rfl
  | c :: ds, rest, out, n, d, h, hl => by
    have hc := h c (by simp)
    simp only [List.length_cons] at hl
    rw [List.cons_append, refL, if_pos ⟨hc.1, hc.2, by omega⟩, refL_digs ds rest out _ _ (fun y hy => h y (by simp [hy])) (by omega)]
    show refL rest out (digs ds (n * 10 + ((c.toNat : Int) - 48))) (d + 1 + ds.length) = refL rest out (digs ds (n * 10 + ((c.toNat : Int) - 48))) (d + (ds.length + 1))
    rw [Nat.add_assoc, Nat.add_comm 1]
theorem refL_all : ∀ (r : List Int) (x : Int) (out : List Int), (∀ y ∈ x :: r, 0 ≤ y ∧ y ≤ 999) → out.length + (r.length + 1) ≤ 10 → refL (said x r) out 0 0 = some (out ++ x :: r)
  | [], x, out, h, hl => by
    have hx := h x (by simp)
    obtain ⟨_, h1, h2, h3, h4⟩ := num_facts hx.1 hx.2
    simp only [List.length_nil] at hl
    rw [said_one, ← List.append_nil (Go.Lib.itoa x), refL_digs _ _ _ _ _ h1 (by omega), h4, refL, if_neg (by omega)]
  | y :: r, x, out, h, hl => by
    have hx := h x (by simp)
    obtain ⟨_, h1, h2, h3, h4⟩ := num_facts hx.1 hx.2
    simp only [List.length_cons] at hl
    rw [said_cons, refL_digs _ _ _ _ _ h1 (by omega), h4, refL, if_neg (by simp), if_neg (by have e : (46 : UInt8).toNat = 46 := rfl; omega), refL_all r y _ (fun z hz => h z (by simp [List.mem_cons.1 hz])) (by simp; omega)]
    simp
/-- What the reference answers of what its loop has gathered. -/
def told (s : ByteArray) : Option (List Int) → List Int × Int
  | some (x :: r) => if (bs (said x r)).toList = s.toList then (x :: r, 0) else ([], 4)
  | _ => ([], 4)
theorem bt_in (s : ByteArray) (i : Nat) (h : i < s.size) : ∃ c, s.data.toList.drop i = c :: s.data.toList.drop (i + 1) ∧ bt s (i : Int) = c.toNat := by
  have hl : s.data.toList.length = s.size := Array.length_toList
  refine ⟨s.data.toList[i]'(by omega), List.drop_eq_getElem_cons (by omega), ?_⟩
  unfold bt
  rw [dif_pos (by simpa using h)]
  simp
  rfl
theorem ref_loop (s : ByteArray) (hs : s.size ≤ 10000) : ∀ i, i ≤ s.size → ∀ (out : List Int) (n : Int) (d : Nat), Inv out n d → Ev (fun k => heptadref11_Parse.l0 k s out n (d : Int) (i : Int)) (told s (refL (s.data.toList.drop i) out n d)) := by
  refine up_ind ?_ ?_
  · intro out n d hi
    have hl : s.data.toList.length = s.size := Array.length_toList
    rw [List.drop_of_length_le (by omega), refL]
    refine ev_step (fun k => heptadref11_Parse.l0.eq_2 _ _ _ _ _ k) (ev_pos (by omega) (ev_neg (by omega) ?_))
    refine ev_step (fun k => heptadref11_Parse.j1.eq_2 _ _ _ _ _ _ k) (ev_neg (by simp) ?_)
    by_cases hd : d = 0
    · rw [if_pos (.inl hd)]
      exact ev_pos (by omega) (ev_some _)
    refine ev_neg (by omega) (ev_neg (by omega) ?_)
    by_cases h10 : out.length = 10
    · rw [if_pos (.inr h10)]
      exact ev_pos (by omega) (ev_some _)
    have hlen := hi.len
    rw [if_neg (by simp [hd, h10])]
    refine ev_neg (by omega) (ev_pos (by omega) ?_)
    have hp := hi.push h10
    rw [wrap_in (by omega) (by omega)]
    refine ev_step (fun k => heptadref11_Parse.l0.eq_2 _ _ _ _ _ k) (ev_neg (by omega) ?_)
    cases ho : out ++ [n] with
    | nil => simp at ho
    | cons x r =>
      rw [ho] at hp
      refine ev_bind (RefText_ev x r (pre_of hp.len hp.all)) ?_
      unfold told
      refine ev_ite (fun h => ?_) (fun h => ?_)
      · exact ev_some_eq (if_pos h).symm
      · exact ev_some_eq (if_neg h).symm
  · intro i hlt ih out n d hi
    obtain ⟨c, hc, hb⟩ := bt_in s i hlt
    rw [hc, refL]
    have hlen := hi.len
    have hlo := hi.lo
    have hhi := hi.hi
    refine ev_step (fun k => heptadref11_Parse.l0.eq_2 _ _ _ _ _ k) (ev_pos (by omega) (ev_pos (by omega) (ev_pos (by omega) ?_)))
    rw [hb]
    have no : ¬ (48 ≤ c.toNat ∧ c.toNat ≤ 57 ∧ d < 3) → Ev (fun k => heptadref11_Parse.j1 k s out n (d : Int) (i : Int) false) (told s (if 48 ≤ c.toNat ∧ c.toNat ≤ 57 ∧ d < 3 then refL (s.data.toList.drop (i + 1)) out (n * 10 + ((c.toNat : Int) - 48)) (d + 1) else
        if d = 0 ∨ c.toNat ≠ 46 ∨ out.length = 10 then none else refL (s.data.toList.drop (i + 1)) (out ++ [n]) 0 0)) := by
      intro hn
      rw [if_neg hn]
      refine ev_step (fun k => heptadref11_Parse.j1.eq_2 _ _ _ _ _ _ k) (ev_neg (by simp) ?_)
      by_cases hd : d = 0
      · rw [if_pos (.inl hd)]
        exact ev_pos (by omega) (ev_some _)
      refine ev_neg (by omega) (ev_pos (by omega) (ev_pos (by omega) ?_))
      rw [hb]
      by_cases h46 : c.toNat = 46
      · refine ev_pos (by omega) ?_
        by_cases h10 : out.length = 10
        · rw [if_pos (.inr (.inr h10))]
          exact ev_pos (by omega) (ev_some _)
        · rw [if_neg (by simp [hd, h10, h46])]
          refine ev_neg (by omega) (ev_pos (by omega) ?_)
          rw [wrap_succ hlt (by omega)]
          exact ih _ _ _ (hi.push h10)
      · rw [if_pos (.inr (.inl h46))]
        exact ev_neg (by omega) (ev_some _)
    refine ev_ite (fun h1 => ev_ite (fun h2 => ?_) (fun h2 => no (by omega))) (fun h1 => no (by omega))
    by_cases hd : d < 3
    · have h1' : 48 ≤ c.toNat := by omega
      have h2' : c.toNat ≤ 57 := by omega
      rw [decide_eq_true (by omega), if_pos ⟨h1', h2', hd⟩]
      refine ev_step (fun k => heptadref11_Parse.j1.eq_2 _ _ _ _ _ _ k) (ev_pos rfl (ev_pos (by omega) (ev_pos (by omega) ?_)))
      rw [hb, wrap_succ hlt (by omega), wrap_in (i := n * 10) (by omega) (by omega), show ((c.toNat : Int) - 48) % 256 = (c.toNat : Int) - 48 by omega, wrap_in (i := n * 10 + _) (by omega) (by omega), wrap_in (i := (d : Int) + 1) (by omega) (by omega)]
      exact ih _ _ _ (hi.digit hd h1' h2')
    · rw [decide_eq_false (by omega)]
      exact no (by omega)
theorem ref_ok {s : ByteArray} {l : List Int} (hs : s.size ≤ 10000) (hne : s ≠ ⟨#[42]⟩) (h : Writes s l) : Ev (fun k => heptadref11_Parse.f k s) (l, 0) := by
  obtain ⟨x, r, rfl, hp, hw⟩ := h
  have hl := isPre_len hp
  simp only [List.length_cons] at hl
  unfold heptadref11_Parse.f
  refine ev_neg (fun e => hne (ext_bs (Array.ext' (by rw [← ByteArray.toList_eq]; exact e)))) ?_
  refine ev_cast (ref_loop s hs 0 (Nat.zero_le _) [] 0 0 ⟨by simp, by simp, by omega, .inl ⟨rfl, rfl⟩⟩) ?_
  rw [List.drop_zero, show s.data.toList = said x r by rw [hw, list_bs], refL_all r x [] (fun y hy => pre_in hp hy) (by simp; omega)]
  unfold told
  exact if_pos (by rw [hw])
theorem ref_bad {s : ByteArray} (hs : s.size ≤ 10000) (hne : s ≠ ⟨#[42]⟩) (h : ¬ ∃ l, Writes s l) : Ev (fun k => heptadref11_Parse.f k s) ([], 4) := by
  unfold heptadref11_Parse.f
  refine ev_neg (fun e => hne (ext_bs (Array.ext' (by rw [← ByteArray.toList_eq]; exact e)))) ?_
  have hi : Inv [] 0 0 := ⟨by simp, by simp, by omega, .inl ⟨rfl, rfl⟩⟩
  refine ev_cast (ref_loop s hs 0 (Nat.zero_le _) [] 0 0 hi) ?_
  rw [List.drop_zero]
  cases hr : refL s.data.toList [] 0 0 with
  | none => rfl
  | some l =>
    obtain ⟨h1, h2⟩ := refL_pre _ _ _ _ _ hi hr
    cases l with
    | nil => exact absurd rfl h1
    | cons x r =>
      unfold told
      refine if_neg (fun e => h ⟨_, x, r, rfl, h2, ext_bs (Array.ext' ?_)⟩)
      rw [← ByteArray.toList_eq, ← ByteArray.toList_eq, e]
theorem Text_nil : Ev (fun k => address_Text.f k []) ((⟨#[42]⟩ : ByteArray), 0) := by
  unfold address_Text.f
  exact ev_bind0 (prefix_ev _) (ev_pos rfl (ev_pos rfl (ev_some _)))
end Go.Proofs.YtchkhnhmpgkpeaaDoor.R
namespace Go.Proofs.YtchkhnhmpgkpeaaDoor.Pure
open Go.RowKit Go.Proofs.YtchkhnhmpgkpeaaDoor.R Go.Proofs.YtchkhnhmpgkpeaaDoorW.PrintWords Go.Proofs.YtchkhnhmpgkpeaaDoor.EvLib

theorem parses_end (s : ByteArray) (l : List Int) (e : Int) (h : e = 0 → ∃ t, Ev (fun k => address_Text.f k l) (t, 0) ∧ t = s) : Ev (fun k => heptadlaw11_AddressParses.j0 k s l e false) true := by
  refine ev_step (fun k => heptadlaw11_AddressParses.j0.eq_2 _ _ _ _ k) (ev_neg (by simp) ?_)
  by_cases he : e = 0
  · obtain ⟨t, ht, rfl⟩ := h he
    exact ev_pos he (ev_bind ht (ev_pos rfl (ev_pos rfl (ev_bind sane_ev (ev_some _)))))
  · exact ev_neg he (ev_bind sane_ev (ev_some _))
theorem parses_both (s : ByteArray) (hs : s.size ≤ 10000) : ∃ l e, address_Parse.f s = some (l, e) ∧ Ev (fun k => heptadref11_Parse.f k s) (l, e) ∧ l.length ≤ 10 ∧ (e = 0 → ∃ t, Ev (fun k => address_Text.f k l) (t, 0) ∧ t = s) := by
  by_cases hst : s = ⟨#[42]⟩
  · subst hst
    refine ⟨[], 0, ?_, ?_, by simp, fun _ => ⟨_, Text_nil, rfl⟩⟩
    · unfold address_Parse.f
      rw [if_pos (by decide), if_pos rfl]
    · unfold heptadref11_Parse.f
      exact ev_pos (by rw [ByteArray.toList_eq]) (ev_some _)
  by_cases h : ∃ l, Writes s l
  · obtain ⟨l, h⟩ := h
    have h' := h
    obtain ⟨x, r, rfl, hp, hw⟩ := h'
    exact ⟨_, 0, parse_ok hs hst h, ref_ok hs hst h, isPre_len hp, fun _ => ⟨_, Text_ev x r hp, hw.symm⟩⟩
  · exact ⟨[], 4, parse_bad hs hst h, ref_bad hs hst h, by simp, fun h => absurd h (by decide)⟩
theorem AddressParses : heptadlaw11_AddressParses.PureA := by
  intro s hs
  refine ev_at ?_
  unfold heptadlaw11_AddressParses.f
  refine ev_ite (fun _ => ev_bind sane_ev (ev_some _)) (fun h => ?_)
  obtain ⟨l, e, h1, h2, h3, h4⟩ := parses_both s (by omega)
  refine ev_bind0 h1 (ev_bind h2 (ev_pos rfl (ev_bind (ints_ev l (by omega)) ?_)))
  exact parses_end s l e h4
end Go.Proofs.YtchkhnhmpgkpeaaDoor.Pure
