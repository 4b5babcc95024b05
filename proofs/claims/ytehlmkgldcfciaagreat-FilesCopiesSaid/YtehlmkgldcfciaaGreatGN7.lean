/- The parts of this proof that lie in one text. -/
import Derived.Test.YtehlmkgldcfciaaGreatGN2
import Derived.Test.YtehlmkgldcfciaaGreatGN1
import Derived.Test.YtehlmkgldcfciaaGreatGN6
/- Validity of units: what it reckons (the plain part of FilesN). -/
set_option linter.unusedVariables false
set_option linter.unusedSimpArgs false
namespace Go.Proofs.YtehlmkgldcfciaaGreat.Files
open Go.Proofs.YtehlmkgldcfciaaGreat.Common Go.Maps Go.ChangeMaps Go.WideMaps Go.Proofs.YtehlmkgldcfciaaGreat.F
open Go.RowKit Go.Proofs.YtehlmkgldcfciaaGreatW.PrintWords Go.Proofs.YtehlmkgldcfciaaGreatW.PrintLast Go.Proofs.YtehlmkgldcfciaaGreatW.PrintMore
end Go.Proofs.YtehlmkgldcfciaaGreat.Files
/- Children of units, plainly. -/
set_option linter.unusedVariables false
set_option linter.unusedSimpArgs false
namespace Go.Proofs.YtehlmkgldcfciaaGreat.Files
open Go.Proofs.YtehlmkgldcfciaaGreat.Common Go.Maps Go.ChangeMaps Go.WideMaps Go.Proofs.YtehlmkgldcfciaaGreat.F
open Go.RowKit Go.Proofs.YtehlmkgldcfciaaGreatW.PrintWords Go.Proofs.YtehlmkgldcfciaaGreatW.PrintLast Go.Proofs.YtehlmkgldcfciaaGreatW.PrintMore
def nmP (l : List S29) (i : Nat) : ByteArray := (rd_T29 l (i : Int)).f0
theorem mem_kidsFrom (lev : Int) : ∀ (l : List S29) (i : Nat) (m : Int), m ∈ kidsFrom lev i l ↔ ∃ q : Nat, m = ((i + q : Nat) : Int) ∧ q < l.length ∧ (rd_T29 l (q : Int)).f2 = lev + 1 ∧ ∀ t, t ≤ q → (rd_T29 l (t : Int)).f2 > lev
  | [], i, m => by simp [kidsFrom]
  | u :: r, i, m => by
    have ih := mem_kidsFrom lev r (i + 1) m
    have h0 : rd_T29 (u :: r) ((0 : Nat) : Int) = u := rfl
    have hs : ∀ q : Nat, rd_T29 (u :: r) ((q + 1 : Nat) : Int) = rd_T29 r (q : Int) := fun q => by simp [rd_T29]
    have tail : u.f2 > lev → ((∃ q : Nat, m = ((i + 1 + q : Nat) : Int) ∧ q < r.length ∧ (rd_T29 r (q : Int)).f2 = lev + 1 ∧ ∀ t, t ≤ q → (rd_T29 r (t : Int)).f2 > lev) ↔ ∃ q : Nat, m = ((i + (q + 1) : Nat) : Int) ∧ q + 1 < (u :: r).length ∧ (rd_T29 (u :: r) ((q + 1 : Nat) : Int)).f2 = lev + 1 ∧ ∀ t, t ≤ q + 1 → (rd_T29 (u :: r) (t : Int)).f2 > lev) := fun hu => by
      constructor
      · rintro ⟨q, h1, h2, h3, h4⟩
        refine ⟨q, by rw [h1]; congr 1; omega, by simpa using h2, by rw [hs]; exact h3, fun t ht => ?_⟩
        cases t with
        | zero => rw [h0]; exact hu
        | succ t => rw [hs]; exact h4 t (by omega)
      · rintro ⟨q, h1, h2, h3, h4⟩
        rw [hs] at h3
        exact ⟨q, by rw [h1]; congr 1; omega, by simpa using h2, h3, fun t ht => by have := h4 (t + 1) (by omega); rwa [hs] at this⟩
    unfold kidsFrom
    by_cases hu : u.f2 > lev
    · rw [if_pos hu]
      by_cases he : u.f2 = lev + 1
      · rw [if_pos he, List.mem_cons, ih, tail hu]
        constructor
        · rintro (rfl | ⟨q, h⟩)
          · exact ⟨0, rfl, by simp, by rw [h0]; exact he, fun t ht => by rw [Nat.le_zero.1 ht]; exact hu⟩
          · exact ⟨q + 1, h⟩
        · rintro ⟨q, h1, h⟩
          cases q with
          | zero => exact .inl h1
          | succ q => exact .inr ⟨q, h1, h⟩
      · rw [if_neg he, ih, tail hu]
        constructor
        · rintro ⟨q, h⟩
          exact ⟨q + 1, h⟩
        · rintro ⟨q, h1, h2, h3, h4⟩
          cases q with
          | zero => exact absurd h3 (by rw [h0]; exact he)
          | succ q => exact ⟨q, h1, h2, h3, h4⟩
    · rw [if_neg hu]
      constructor
      · intro h; cases h
      · rintro ⟨q, _, _, _, h4⟩
        have := h4 0 (Nat.zero_le _)
        rw [h0] at this
        exact absurd this hu
theorem rd_drop (l : List S29) (a q : Nat) : rd_T29 (l.drop a) (q : Int) = rd_T29 l ((a + q : Nat) : Int) := by simp only [rd_T29, Int.toNat_natCast, List.getD_eq_getElem?_getD, List.getElem?_drop]
def Child (l : List S29) (p m : Nat) : Prop := p < m ∧ m < l.length ∧ lv l m = lv l p + 1 ∧ ∀ t, p < t → t ≤ m → lv l t > lv l p
theorem mem_kids (l : List S29) (p : Nat) (m : Int) : m ∈ kids l p ↔ ∃ q : Nat, m = (q : Int) ∧ Child l p q := by
  unfold kids
  rw [mem_kidsFrom]
  constructor
  · rintro ⟨q, h1, h2, h3, h4⟩
    rw [List.length_drop] at h2
    refine ⟨p + 1 + q, h1, by omega, by omega, ?_, fun t h5 h6 => ?_⟩
    · rw [rd_drop] at h3; exact h3
    · have := h4 (t - (p + 1)) (by omega)
      rw [rd_drop, show p + 1 + (t - (p + 1)) = t by omega] at this
      exact this
  · rintro ⟨q, h1, h2, h3, h4, h5⟩
    refine ⟨q - (p + 1), by rw [h1]; congr 1; omega, by rw [List.length_drop]; omega, ?_, fun t ht => ?_⟩
    · rw [rd_drop, show p + 1 + (q - (p + 1)) = q by omega]; exact h4
    · rw [rd_drop]; exact h5 _ (by omega) (by omega)
theorem kidsFrom_sorted (lev : Int) : ∀ (l : List S29) (i : Nat), (kidsFrom lev i l).Pairwise (· < ·)
  | [], i => List.Pairwise.nil
  | u :: r, i => by
    unfold kidsFrom
    have ih := kidsFrom_sorted lev r (i + 1)
    split
    · split
      · refine List.pairwise_cons.2 ⟨fun a ha => ?_, ih⟩
        have := kidsFrom_in lev (i + 1) r a ha
        omega
      · exact ih
    · exact List.Pairwise.nil
def Steps (l : List S29) : Prop := lv l 0 = 0 ∧ ∀ i, i < l.length → i ≠ 0 → 1 ≤ lv l i ∧ lv l i ≤ lv l (i - 1) + 1
end Go.Proofs.YtehlmkgldcfciaaGreat.Files
-- Written by this repo's wip/tools/myprint.py (the kit's print program, with contracts of our own beside). Lean checks it.
namespace Go.Proofs.YtehlmkgldcfciaaGreat.F
open Go.Proofs.YtehlmkgldcfciaaGreat.Common
open Go.RowKit Go.Proofs.YtehlmkgldcfciaaGreatW.PrintWords Go.Proofs.YtehlmkgldcfciaaGreatW.PrintLast Go.Proofs.YtehlmkgldcfciaaGreatW.PrintMore
set_option linter.unusedVariables false
set_option linter.unusedSimpArgs false
def heptadref28_under.l0 : Nat → List (S62) → Int → Int → Option (Int)
 | 0, _, _, _ => none
 | k + 1, x0, x1, x5 => if x5 < (x0.length : Int) then (if 0 ≤ x5 then (if 0 ≤ x1 then (if x1 < (x0.length : Int) then (if ((rd_T62 x0 x5).f2) > ((rd_T62 x0 x1).f2) then (heptadref28_under.l0 k x0 x1 (wrap64 (x5 + 1))) else (some x5)) else (none)) else (none)) else (none)) else (some x5)
def heptadref28_under.f (k : Nat) (l0 : List (S62)) (a1 : Int) : Option (Int) := heptadref28_under.l0 k l0 a1 (wrap64 (a1 + 1))
set_option maxHeartbeats 8000000 in
set_option maxRecDepth 100000 in
theorem heptadref28_under.calls (k : Nat) (A0 : Option Addr) (c0 : Nat) (l0 : List (S62)) (a1 : Int) (r : Int) (w : World) (hr0 : Kd.C k62 w A0 l0.length l0) (hc0 : l0.length ≤ c0) (h : heptadref28_under.f k l0 a1 = some r) :
  Calls Tryz.prog 68 #[.slice A0 l0.length c0, .int .i64 a1] w fun e w' => e = .returned (.int .i64 r) ∧ Drawn0 w w' := by
 have HR0 := Aside0.mk hr0
 have HC0 := Aside0.mk hc0
 clear hr0 hc0
 have H : (heptadref28_under.l0 k l0 a1 (wrap64 (a1 + 1))) = some r := h
 clear h
 have H' := Aside0.mk H
 clear H
 go_enter Tryz.func68, Tryz.ntmps68
 go_wp2
 repeat (go_quiet (fail); try go_wp2)
 go_loopg [5] k (fun kq v5 w' => ∃ (x5_1 : Int), v5 = .int .i64 x5_1 ∧ Aside0 (heptadref28_under.l0 kq l0 a1 x5_1 = some r) ∧ Aside0 (kq ≤ k) ∧ Drawn0 w w')
 case atStart => exact ⟨(wrap64 (a1 + 1)), (by first | rfl | (simp; done) | (simp [*]; done)), H', ⟨Nat.le_refl _⟩, by repeat (first | exact Drawn0.refl _ | apply Drawn0.step)⟩
 case round =>
  clear H'
  try clear p2
  obtain ⟨x5_1, rfl, HA, HK1, ⟨m1, rfl⟩⟩ := hrel
  cases gk with
  | zero => exact absurd HA.out (by simp [heptadref28_under.l0])
  | succ k1 =>
   have H := HA.out
   clear HA
   simp only [heptadref28_under.l0] at H
   by_cases c3 : x5_1 < (l0.length : Int)
   ·rw [if_pos c3] at H
    have c3b0 : decide (x5_1 < (l0.length : Int)) = true := decide_eq_true c3
    clear c3
    by_cases c4 : 0 ≤ x5_1
    ·rw [if_pos c4] at H
     have c4b0 : decide (0 ≤ x5_1) = true := decide_eq_true c4
     clear c4
     by_cases c5 : 0 ≤ a1
     ·rw [if_pos c5] at H
      have c5b0 : decide (0 ≤ a1) = true := decide_eq_true c5
      clear c5
      by_cases c6 : a1 < (l0.length : Int)
      ·rw [if_pos c6] at H
       have c6b0 : decide (a1 < (l0.length : Int)) = true := decide_eq_true c6
       clear c6
       by_cases c7 : ((rd_T62 l0 x5_1).f2) > ((rd_T62 l0 a1).f2)
       ·rw [if_pos c7] at H
        have c7b0 : decide (((rd_T62 l0 a1).f2) < ((rd_T62 l0 x5_1).f2)) = true := decide_eq_true c7
        clear c7
        have H' := Aside0.mk H
        clear H
        have p124 : 0 ≤ (x5_1 : Int) := of_decide_eq_true (by first | (with_reducible assumption) | assumption)
        have q124 : x5_1 < (l0.length : Int) := of_decide_eq_true (by first | (with_reducible assumption) | assumption)
        obtain ⟨ad124, e124, hx124_0, hx124_1, hx124_2⟩ := at_T62 HR0.out x5_1 p124 q124
        cases e124
        replace p124 := eq_true p124
        replace q124 := eq_true q124
        have p125 : 0 ≤ (a1 : Int) := of_decide_eq_true (by first | (with_reducible assumption) | assumption)
        have q125 : a1 < (l0.length : Int) := of_decide_eq_true (by first | (with_reducible assumption) | assumption)
        obtain ⟨ad125, e125, hx125_0, hx125_1, hx125_2⟩ := at_T62 HR0.out a1 p125 q125
        obtain rfl : ad124 = ad125 := (by injection e125)
        replace p125 := eq_true p125
        replace q125 := eq_true q125
        go_wp2
        repeat (go_quiet (fail); try go_wp2)
        go_roundg k1
        case measure => have := HK1.out; omega
        case rel => exact ⟨(wrap64 (x5_1 + 1)), (by first | rfl | (simp; done) | (simp [*]; done)), H', ⟨by have := HK1.out; omega⟩, by repeat (first | exact Drawn0.refl _ | apply Drawn0.step)⟩
       ·rw [if_neg c7] at H
        have c7b0 : decide (((rd_T62 l0 a1).f2) < ((rd_T62 l0 x5_1).f2)) = false := decide_eq_false c7
        clear c7
        obtain rfl := Option.some.inj H
        have p124 : 0 ≤ (x5_1 : Int) := of_decide_eq_true (by first | (with_reducible assumption) | assumption)
        have q124 : x5_1 < (l0.length : Int) := of_decide_eq_true (by first | (with_reducible assumption) | assumption)
        obtain ⟨ad124, e124, hx124_0, hx124_1, hx124_2⟩ := at_T62 HR0.out x5_1 p124 q124
        cases e124
        replace p124 := eq_true p124
        replace q124 := eq_true q124
        have p125 : 0 ≤ (a1 : Int) := of_decide_eq_true (by first | (with_reducible assumption) | assumption)
        have q125 : a1 < (l0.length : Int) := of_decide_eq_true (by first | (with_reducible assumption) | assumption)
        obtain ⟨ad125, e125, hx125_0, hx125_1, hx125_2⟩ := at_T62 HR0.out a1 p125 q125
        obtain rfl : ad124 = ad125 := (by injection e125)
        replace p125 := eq_true p125
        replace q125 := eq_true q125
        go_wp2
        repeat (go_quiet (fail); try go_wp2)
        go_ret
        exact ⟨by first | rfl | (simp; done) | (simp [*]; done), by repeat (first | exact Drawn0.refl _ | apply Drawn0.step)⟩
      ·rw [if_neg c6] at H
       exact absurd H (by simp)
     ·rw [if_neg c5] at H
      exact absurd H (by simp)
    ·rw [if_neg c4] at H
     exact absurd H (by simp)
   ·rw [if_neg c3] at H
    have c3b0 : decide (x5_1 < (l0.length : Int)) = false := decide_eq_false c3
    clear c3
    obtain rfl := Option.some.inj H
    go_wp2
    repeat (go_quiet (fail); try go_wp2)
    go_ret
    exact ⟨by first | rfl | (simp; done) | (simp [*]; done), by repeat (first | exact Drawn0.refl _ | apply Drawn0.step)⟩
end Go.Proofs.YtehlmkgldcfciaaGreat.F
/- The reference's store: where what is below a unit ends; Replace, Extend. -/
set_option linter.unusedVariables false
set_option linter.unusedSimpArgs false
namespace Go.Proofs.YtehlmkgldcfciaaGreat.Files
open Go.Proofs.YtehlmkgldcfciaaGreat.Common Go.Maps Go.ChangeMaps Go.WideMaps Go.Proofs.YtehlmkgldcfciaaGreat.F
open Go.RowKit Go.Proofs.YtehlmkgldcfciaaGreatW.PrintWords Go.Proofs.YtehlmkgldcfciaaGreatW.PrintLast Go.Proofs.YtehlmkgldcfciaaGreatW.PrintMore
theorem runLen_at' (lev : Int) : ∀ (l : List S29), runLen lev l < l.length → (rd_T29 l (runLen lev l : Int)).f2 ≤ lev
  | [], h => by simp at h
  | u :: r, h => by
    by_cases c : u.f2 > lev
    · rw [runLen_cons, if_pos c] at h ⊢
      have := runLen_at' lev r (by simpa using h)
      have e : rd_T29 (u :: r) ((runLen lev r + 1 : Nat) : Int) = rd_T29 r (runLen lev r : Int) := by simp [rd_T29]
      rw [e]; exact this
    · rw [runLen_cons, if_neg c]
      show u.f2 ≤ lev
      omega
theorem endOf_at' {l : List S29} {i : Nat} (h : endOf l i < l.length) : lv l (endOf l i) ≤ lv l i := by
  have := runLen_at' (lv l i) (l.drop (i + 1)) (by unfold endOf at h; rw [List.length_drop]; omega)
  rw [rd_drop] at this
  exact this
theorem endOf_root {l : List S29} (hs : Steps l) (hp : 1 ≤ l.length) : endOf l 0 = l.length := by
  have h1 := endOf_le (l := l) (i := 0) (by omega)
  by_cases h : endOf l 0 = l.length
  · exact h
  · exfalso
    have h2 := endOf_at' (l := l) (i := 0) (by omega)
    rw [hs.1] at h2
    have := (hs.2 (endOf l 0) (by omega) (by omega)).1
    omega
theorem rd_toU (l : List S29) (k : Nat) (h : k < l.length) : rd_T62 (l.map toU) (k : Int) = toU (rd_T29 l (k : Int)) := by
  rw [rd_get l k h]
  simp [rd_T62, List.getElem?_map, List.getElem?_eq_getElem h]
theorem under_l0 (l : List S29) (i : Nat) (hi : i < l.length) (hl : l.length ≤ 9223372036854775807) : ∀ (d j k : Nat), l.length - j = d → j ≤ l.length → d < k → heptadref28_under.l0 k (l.map toU) (i : Int) (j : Int) = some ((j + runLen (lv l i) (l.drop j) : Nat) : Int)
  | 0, j, k, hd, hj, hk => by
    obtain ⟨k, rfl⟩ : ∃ m, k = m + 1 := ⟨k - 1, by omega⟩
    obtain rfl : j = l.length := by omega
    simp only [heptadref28_under.l0, List.length_map]
    rw [if_neg (by omega), List.drop_length]
    simp [runLen]
  | d + 1, j, k, hd, hj, hk => by
    obtain ⟨k, rfl⟩ : ∃ m, k = m + 1 := ⟨k - 1, by omega⟩
    have ih := under_l0 l i hi hl d (j + 1) k (by omega) (by omega) (by omega)
    simp only [heptadref28_under.l0, List.length_map]
    rw [if_pos (by omega), if_pos (by omega), if_pos (by omega), if_pos (by omega), drop_at l j (by omega), wr j l.length (by omega) hl, ih, rd_toU l j (by omega), rd_toU l i hi]
    rw [runLen_cons]
    show (if (rd_T29 l (j : Int)).f2 > lv l i then _ else _) = _
    by_cases c : (rd_T29 l (j : Int)).f2 > lv l i
    · rw [if_pos c, if_pos c]; congr 1; omega
    · rw [if_neg c, if_neg c]; rfl
theorem under_f (l : List S29) (i : Nat) (hi : i < l.length) (hl : l.length ≤ 9223372036854775807) : heptadref28_under.f (l.length + 1) (l.map toU) (i : Int) = some (endOf l i : Int) := by
  unfold heptadref28_under.f
  rw [wr i l.length hi hl, under_l0 l i hi hl _ (i + 1) _ rfl (by omega) (by omega)]
  all_goals rfl
theorem under_c (A : Option Addr) (c i : Nat) (l : List S29) (W : World) (hr : Kd.C k62 W A (l.map toU).length (l.map toU)) (hc : l.length ≤ c) (hi : i < l.length) :
    Calls Tryz.prog 68 #[.slice A l.length c, .int .i64 (i : Int)] W fun e w' => e = .returned (.int .i64 (endOf l i : Int)) ∧ Drawn0 W w' := by
  have := heptadref28_under.calls _ A c (l.map toU) (i : Int) _ W hr (by simpa using hc) (under_f l i hi (by have := hr.2.1; simpa using this))
  rw [List.length_map] at this
  exact this
theorem mPut_shape (st : Fs) (u n : ByteArray) (at_ action : Int) (d : ByteArray) (whole : Bool) : mPut st u n at_ action d whole = if 400 < d.size then (1, st) else match mUnit st u n at_ action with
    | .error E => (E, st)
    | .ok (k, f, i, dn) => if dn = 0 then (if whole then (0, st.set k (f.data u i d)) else if 400 < (rd_T29 f.units (i : Int)).f1.size + d.size then (9, st) else (0, st.set k (f.data u i ((rd_T29 f.units (i : Int)).f1 ++ d)))) else (dn, st) := by
  unfold mPut
  by_cases hd : 400 < d.size
  · rw [if_pos (by simp [hd]), if_pos hd]
  · rw [if_neg hd]
    by_cases hn : at_ < 0
    · rw [if_pos (by simp [hn]), mUnit_neg hn]
    · cases hbad : (userB u && nameB n) with
      | false => rw [if_pos (.inl rfl), mUnit_err hn (mOpened_bad hbad action)]
      | true =>
        rw [if_neg (by simp [hd, hn])]
        cases hB : mBegin st u n with
        | error E => rw [mUnit_err hn (mOpened_err hbad hB action)]
        | ok p =>
          obtain ⟨k, f, a⟩ := p
          have ho := mOpened_ok hbad hB action
          by_cases hl : (f.units.length : Int) ≤ at_
          · rw [mUnit_none hn ho hl]
            simp only [if_pos hl]
          · rw [mUnit_ok hn ho hl]
            have e : ((at_.toNat : Nat) : Int) = at_ := Int.toNat_of_nonneg (by omega)
            simp only [if_neg hl, e]
theorem mReplace_eq (st : Fs) (u n : ByteArray) (at_ : Int) (d : ByteArray) : mReplace st u n at_ d = mPut st u n at_ 4 d true := by rw [mPut_shape]; rfl
theorem mExtend_eq (st : Fs) (u n : ByteArray) (at_ : Int) (d : ByteArray) : mExtend st u n at_ d = mPut st u n at_ 8 d false := by rw [mPut_shape]; rfl
theorem mUnit_bad {st : Fs} {u n : ByteArray} {at_ action : Int} (h : (userB u && nameB n) = false) : mUnit st u n at_ action = .error 1 := by
  by_cases h0 : at_ < 0
  · exact mUnit_neg h0
  · exact mUnit_err h0 (mOpened_bad h action)
structure RInv (st : Fs) : Prop where
  units : ∀ f ∈ st, UOk f.units ∧ (∀ x ∈ f.units, x.f1.size ≤ 400) ∧ nm f.units 0 = ⟨#[]⟩ ∧ Steps f.units
  users : ∀ f ∈ st, f.users.length ≤ 1000 ∧ (f.users.map (fun p => p.1.data.toList)).Nodup
  rules : ∀ f ∈ st, f.rules.length ≤ 10
  names : (st.map (·.key)).Nodup
  count : st.length ≤ 30
  kinds : ∀ f ∈ st, 0 ≤ f.F.kind ∧ f.F.kind ≤ 2
set_option maxRecDepth 100000 in
theorem rReplace_c (rb c : Nat) (ok : Nat → Prop) (st : Fs) (A : Option Addr) (u n : ByteArray) (at_ : Int) (d : ByteArray) (W : World) (h : RParts W ok rb st A c) (hI : RInv st) :
    Calls Tryz.prog 33 #[.pointer (some ⟨rb, 0, none⟩), .string u, .string n, .int .i64 at_, .string d] W (ROut W ok rb (.int .i64 (mReplace st u n at_ d).1) (mReplace st u n at_ d).2) := by
  have CP := Aside0.mk (rput_c rb c ok st A u n at_ 4 d true 2 W h (by decide) rfl (fun f hf => by have := (hI.units f hf).1.pos; have := (hI.units f hf).1.len; exact ⟨by omega, by omega⟩) (fun f hf => (hI.units f hf).2.1))
  rw [← mReplace_eq] at CP
  generalize mReplace st u n at_ d = r at CP ⊢
  clear h hI
  go_enter Tryz.func33, Tryz.ntmps33
  go_wp2_with fail
  refine CP.out.mono ?_
  rintro e w5 ⟨rfl, hR'⟩
  have HR5 := Aside0.mk hR'
  clear hR'
  go_wp2
  refine bodyPost_ret (v := .int .i64 r.1) (by simp [results, Tryz.f33, go_sem]) rfl ?_
  exact ⟨rfl, HR5.out⟩
set_option maxRecDepth 100000 in
theorem rExtend_c (rb c : Nat) (ok : Nat → Prop) (st : Fs) (A : Option Addr) (u n : ByteArray) (at_ : Int) (d : ByteArray) (W : World) (h : RParts W ok rb st A c) (hI : RInv st) :
    Calls Tryz.prog 35 #[.pointer (some ⟨rb, 0, none⟩), .string u, .string n, .int .i64 at_, .string d] W (ROut W ok rb (.int .i64 (mExtend st u n at_ d).1) (mExtend st u n at_ d).2) := by
  have CP := Aside0.mk (rput_c rb c ok st A u n at_ 8 d false 3 W h (by decide) rfl (fun f hf => by have := (hI.units f hf).1.pos; have := (hI.units f hf).1.len; exact ⟨by omega, by omega⟩) (fun f hf => (hI.units f hf).2.1))
  rw [← mExtend_eq] at CP
  generalize mExtend st u n at_ d = r at CP ⊢
  clear h hI
  go_enter Tryz.func35, Tryz.ntmps35
  go_wp2_with fail
  refine CP.out.mono ?_
  rintro e w5 ⟨rfl, hR'⟩
  have HR5 := Aside0.mk hR'
  clear hR'
  go_wp2
  refine bodyPost_ret (v := .int .i64 r.1) (by simp [results, Tryz.f35, go_sem]) rfl ?_
  exact ⟨rfl, HR5.out⟩
end Go.Proofs.YtehlmkgldcfciaaGreat.Files
