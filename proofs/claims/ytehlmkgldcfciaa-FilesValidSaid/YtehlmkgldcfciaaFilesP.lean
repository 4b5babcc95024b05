/- files.Valid and heptadref28.Valid answer alike: plain law. -/
import Derived.Test.YtehlmkgldcfciaaFilesN
import Derived.Test.YtehlmkgldcfciaaFilesO
import Derived.Test.YtehlmkgldcfciaaFx0
set_option linter.unusedVariables false
set_option linter.unusedSimpArgs false
namespace Go.Proofs.Ytehlmkgldcfciaa.Files
open Go.Proofs.Ytehlmkgldcfciaa.Common Go.Maps Go.ChangeMaps Go.WideMaps Go.Proofs.Ytehlmkgldcfciaa.F
open Go.RowKit Go.Proofs.YtehlmkgldcfciaaW.PrintWords Go.Proofs.YtehlmkgldcfciaaW.PrintLast Go.Proofs.YtehlmkgldcfciaaW.PrintMore
def toR (x : S41) : S67 := ⟨x.f0, x.f1, x.f2⟩
theorem rd_toR (l : List S41) (i : Nat) : rd_T67 (l.map toR) (i : Int) = toR (rd_T41 l (i : Int)) := by
  simp only [rd_T67, rd_T41, Int.toNat_natCast, List.getD_eq_getElem?_getD, List.getElem?_map]
  cases l[i]? <;> rfl
theorem lvR_toR (l : List S41) (i : Nat) : lvR (l.map toR) i = lv l i := by unfold lvR lv; rw [rd_toR]; rfl
def nmP (l : List S41) (i : Nat) : ByteArray := (rd_T41 l (i : Int)).f0
theorem nmR_toR (l : List S41) (i : Nat) : nmR (l.map toR) i = nmP l i := by unfold nmR nmP; rw [rd_toR]; rfl
/-! Where children stand. -/
theorem mem_kidsFrom (lev : Int) : ∀ (l : List S41) (i : Nat) (m : Int), m ∈ kidsFrom lev i l ↔ ∃ q : Nat, m = ((i + q : Nat) : Int) ∧ q < l.length ∧ (rd_T41 l (q : Int)).f2 = lev + 1 ∧ ∀ t, t ≤ q → (rd_T41 l (t : Int)).f2 > lev
  | [], i, m => by simp [kidsFrom]
  | u :: r, i, m => by
    have ih := mem_kidsFrom lev r (i + 1) m
    have h0 : rd_T41 (u :: r) ((0 : Nat) : Int) = u := rfl
    have hs : ∀ q : Nat, rd_T41 (u :: r) ((q + 1 : Nat) : Int) = rd_T41 r (q : Int) := fun q => by simp [rd_T41]
    have tail : u.f2 > lev → ((∃ q : Nat, m = ((i + 1 + q : Nat) : Int) ∧ q < r.length ∧ (rd_T41 r (q : Int)).f2 = lev + 1 ∧ ∀ t, t ≤ q → (rd_T41 r (t : Int)).f2 > lev) ↔ ∃ q : Nat, m = ((i + (q + 1) : Nat) : Int) ∧ q + 1 < (u :: r).length ∧ (rd_T41 (u :: r) ((q + 1 : Nat) : Int)).f2 = lev + 1 ∧ ∀ t, t ≤ q + 1 → (rd_T41 (u :: r) (t : Int)).f2 > lev) := fun hu => by
      constructor
      · rintro ⟨q, h1, h2, h3, h4⟩
        refine ⟨q, by rw [h1]; congr 1; omega, by simpa using h2, by rw [hs]; exact h3, fun t ht => ?_⟩
        cases t with
        | zero => rw [h0]; exact hu
        | succ t => rw [hs]; exact h4 t (by omega)
      · rintro ⟨q, h1, h2, h3, h4⟩
        rw [hs] at h3
        exact ⟨q, by rw [h1]; congr 1; omega, by simpa using h2, h3, fun t ht => by have := h4 (t + 1) (by omega); rwa [hs] at this⟩
    unfold kidsFrom
    by_cases hu : u.f2 > lev
    · rw [if_pos hu]
      by_cases he : u.f2 = lev + 1
      · rw [if_pos he, List.mem_cons, ih, tail hu]
        constructor
        · rintro (rfl | ⟨q, h⟩)
          · exact ⟨0, rfl, by simp, by rw [h0]; exact he, fun t ht => by rw [Nat.le_zero.1 ht]; exact hu⟩
          · exact ⟨q + 1, h⟩
        · rintro ⟨q, h1, h⟩
          cases q with
          | zero => exact .inl h1
          | succ q => exact .inr ⟨q, h1, h⟩
      · rw [if_neg he, ih, tail hu]
        constructor
        · rintro ⟨q, h⟩
          exact ⟨q + 1, h⟩
        · rintro ⟨q, h1, h2, h3, h4⟩
          cases q with
          | zero => exact absurd h3 (by rw [h0]; exact he)
          | succ q => exact ⟨q, h1, h2, h3, h4⟩
    · rw [if_neg hu]
      constructor
      · intro h; cases h
      · rintro ⟨q, _, _, _, h4⟩
        have := h4 0 (Nat.zero_le _)
        rw [h0] at this
        exact absurd this hu
theorem rd_drop (l : List S41) (a q : Nat) : rd_T41 (l.drop a) (q : Int) = rd_T41 l ((a + q : Nat) : Int) := by simp only [rd_T41, Int.toNat_natCast, List.getD_eq_getElem?_getD, List.getElem?_drop]
/-- A child: below, one level on, nothing as high between. -/
def Child (l : List S41) (p m : Nat) : Prop := p < m ∧ m < l.length ∧ lv l m = lv l p + 1 ∧ ∀ t, p < t → t ≤ m → lv l t > lv l p
theorem mem_kids (l : List S41) (p : Nat) (m : Int) : m ∈ kids l p ↔ ∃ q : Nat, m = (q : Int) ∧ Child l p q := by
  unfold kids
  rw [mem_kidsFrom]
  constructor
  · rintro ⟨q, h1, h2, h3, h4⟩
    rw [List.length_drop] at h2
    refine ⟨p + 1 + q, h1, by omega, by omega, ?_, fun t h5 h6 => ?_⟩
    · rw [rd_drop] at h3; exact h3
    · have := h4 (t - (p + 1)) (by omega)
      rw [rd_drop, show p + 1 + (t - (p + 1)) = t by omega] at this
      exact this
  · rintro ⟨q, h1, h2, h3, h4, h5⟩
    refine ⟨q - (p + 1), by rw [h1]; congr 1; omega, by rw [List.length_drop]; omega, ?_, fun t ht => ?_⟩
    · rw [rd_drop, show p + 1 + (q - (p + 1)) = q by omega]; exact h4
    · rw [rd_drop]; exact h5 _ (by omega) (by omega)
theorem kidsFrom_sorted (lev : Int) : ∀ (l : List S41) (i : Nat), (kidsFrom lev i l).Pairwise (· < ·)
  | [], i => List.Pairwise.nil
  | u :: r, i => by
    unfold kidsFrom
    have ih := kidsFrom_sorted lev r (i + 1)
    split
    · split
      · refine List.pairwise_cons.2 ⟨fun a ha => ?_, ih⟩
        have := kidsFrom_in lev (i + 1) r a ha
        omega
      · exact ih
    · exact List.Pairwise.nil
/-- No two children of one parent have one name that is not empty. -/
theorem kidsOk_iff (l : List S41) (p : Nat) : kidsOk l p = true ↔ ∀ m m' : Nat, Child l p m → Child l p m' → m' < m → nmP l m ≠ ⟨#[]⟩ → nmP l m' ≠ nmP l m := by
  have hs := kidsFrom_sorted (lv l p) (l.drop (p + 1)) (p + 1)
  unfold kidsOk
  rw [okAll_iff]
  constructor
  · intro h m m' hm hm' hlt hne he
    obtain ⟨k, hk, hkm⟩ := List.getElem_of_mem ((mem_kids l p (m : Int)).2 ⟨m, rfl, hm⟩)
    obtain ⟨k', hk', hkm'⟩ := List.getElem_of_mem ((mem_kids l p (m' : Int)).2 ⟨m', rfl, hm'⟩)
    have hkk : k' < k := by
      rcases Nat.lt_trichotomy k' k with h1 | h1 | h1
      · exact h1
      · subst h1; rw [hkm] at hkm'; omega
      · have := List.pairwise_iff_getElem.1 hs k k' hk hk' h1
        have e1 : (kidsFrom (lv l p) (p + 1) (l.drop (p + 1)))[k] = (m : Int) := hkm
        have e2 : (kidsFrom (lv l p) (p + 1) (l.drop (p + 1)))[k'] = (m' : Int) := hkm'
        rw [e1, e2] at this
        omega
    have h2 := h k hk
    rw [List.getD_eq_getElem?_getD, List.getElem?_eq_getElem hk] at h2
    simp only [Option.getD_some] at h2
    rw [hkm] at h2
    have h3 : clashB l ((kids l p).take k) (rd_T41 l (m : Int)).f0 = true := by
      unfold clashB
      rw [Bool.and_eq_true]
      refine ⟨by simpa [nmP] using hne, List.any_eq_true.2 ⟨(m' : Int), ?_, by simpa [nmP] using he⟩⟩
      rw [← hkm']
      exact List.mem_take_iff_getElem.2 ⟨k', by omega, rfl⟩
    rw [h3] at h2
    cases h2
  · intro h k hk
    rw [List.getD_eq_getElem?_getD, List.getElem?_eq_getElem hk]
    simp only [Option.getD_some]
    obtain ⟨m, hm, hc⟩ := (mem_kids l p _).1 (List.getElem_mem hk)
    rw [hm]
    cases hcl : clashB l ((kids l p).take k) (rd_T41 l (m : Int)).f0 with
    | false => rfl
    | true =>
      exfalso
      unfold clashB at hcl
      rw [Bool.and_eq_true] at hcl
      obtain ⟨x, hx, hxe⟩ := List.any_eq_true.1 hcl.2
      obtain ⟨k', hk', hkx⟩ := List.mem_take_iff_getElem.1 hx
      have hk'l : k' < (kids l p).length := by omega
      obtain ⟨m', hm', hc'⟩ := (mem_kids l p x).1 (by rw [← hkx]; exact List.getElem_mem hk'l)
      have hlt : x < (m : Int) := by
        have := List.pairwise_iff_getElem.1 hs k' k hk'l hk (by omega)
        rw [← hkx, ← hm]
        exact this
      rw [hm'] at hxe hlt
      exact h m m' hc hc' (by omega) (by simpa [nmP] using hcl.1) (by simpa [nmP] using hxe)
/-- Levels rise by one at most. -/
def Steps (l : List S41) : Prop := lv l 0 = 0 ∧ ∀ i, i < l.length → i ≠ 0 → 1 ≤ lv l i ∧ lv l i ≤ lv l (i - 1) + 1
/-- The parent of a unit. -/
theorem parent_of {l : List S41} (hs : Steps l) (i : Nat) (hi : i < l.length) : ∀ a : Nat, 0 < a → a ≤ i → (∀ t, a ≤ t → t ≤ i → lv l t ≥ lv l i) → ∃ p, p < a ∧ lv l i = lv l p + 1 ∧ ∀ t, p < t → t ≤ i → lv l t > lv l p
  | 0, h, _, _ => absurd h (Nat.lt_irrefl _)
  | a + 1, _, hai, hall => by
    have h1 := hs.2 (a + 1) (by omega) (by omega)
    rw [Nat.add_sub_cancel] at h1
    have h2 := hall (a + 1) (Nat.le_refl _) hai
    by_cases h : lv l a < lv l i
    · exact ⟨a, by omega, by omega, fun t ht hti => by have := hall t (by omega) hti; omega⟩
    · have hi1 := (hs.2 i hi (by omega)).1
      have ha : 0 < a := by
        rcases Nat.eq_zero_or_pos a with e | e
        · rw [e, hs.1] at h; omega
        · exact e
      obtain ⟨p, hp, h3, h4⟩ := parent_of hs i hi a ha (by omega) (fun t ht hti => by
        rcases Nat.lt_or_ge a t with h5 | h5
        · exact hall t (by omega) hti
        · obtain rfl : t = a := by omega
          omega)
      exact ⟨p, by omega, h3, h4⟩
theorem dupR_iff (l : List S67) (i : Nat) : ∀ m : Nat, dupR l i m ↔ ∃ j, 0 < j ∧ j ≤ m ∧ (∀ t, j ≤ t → t ≤ m → lvR l t ≥ lvR l i) ∧ lvR l j = lvR l i ∧ nmR l i ≠ ⟨#[]⟩ ∧ nmR l j = nmR l i
  | 0 => by
    constructor
    · intro h; exact h.elim
    · rintro ⟨j, h1, h2, _⟩; omega
  | m + 1 => by
    have ih := dupR_iff l i m
    show lvR l (m + 1) ≥ lvR l i ∧ ((lvR l (m + 1) = lvR l i ∧ nmR l i ≠ ⟨#[]⟩ ∧ nmR l (m + 1) = nmR l i) ∨ dupR l i m) ↔ _
    rw [ih]
    constructor
    · rintro ⟨h1, h2 | ⟨j, h3, h4, h5, h6⟩⟩
      · exact ⟨m + 1, by omega, Nat.le_refl _, fun t h3 h4 => by rw [show t = m + 1 by omega]; exact h1, h2⟩
      · refine ⟨j, h3, by omega, fun t h7 h8 => ?_, h6⟩
        rcases Nat.lt_or_ge m t with h9 | h9
        · obtain rfl : t = m + 1 := by omega
          exact h1
        · exact h5 t h7 h9
    · rintro ⟨j, h1, h2, h3, h4⟩
      refine ⟨h3 (m + 1) h2 (Nat.le_refl _), ?_⟩
      rcases Nat.lt_or_ge m j with h9 | h9
      · obtain rfl : j = m + 1 := by omega
        exact .inl h4
      · exact .inr ⟨j, h1, h9, fun t h7 h8 => h3 t h7 (by omega), h4⟩
theorem chkR_toR (l : List S41) (kind : Int) (i : Nat) : chkR (l.map toR) kind i ↔ ((rd_T41 l (i : Int)).f0.size ≤ 30 ∧ (rd_T41 l (i : Int)).f1.size ≤ 400 ∧ (i = 0 → lv l i = 0) ∧ (i ≠ 0 → 1 ≤ lv l i ∧ lv l i ≤ lv l (i - 1) + 1) ∧ (kind = 1 → lv l i ≤ 1)) := by
  unfold chkR
  rw [lvR_toR, lvR_toR, rd_toR]
  exact Iff.rfl
theorem valid_iff (l : List S41) (kind : Int) : RefValid (l.map toR) kind ↔ validB l kind = true := by
  unfold RefValid validB headOk
  rw [List.length_map]
  simp only [Bool.and_eq_true, decide_eq_true_eq, okAll_iff]
  constructor
  · rintro ⟨h1, h2, h3, h4, h5, h6⟩
    have hchk : ∀ i, i < l.length → chk l kind i = true := fun i hi => by
      have hc := (chkR_toR l kind i).1 (h6 i hi).1
      rw [chk_iff]
      show _ ∧ _ ∧ ((i = 0 → lv l i = 0) ∧ (i ≠ 0 → lv l i ≠ 0)) ∧ 0 ≤ lv l i ∧ (i = 0 ∨ lv l i ≤ lv l (i - 1) + 1) ∧ (2 ≤ kind ∨ lv l i ≤ kind)
      obtain ⟨c1, c2, c3, c4, c5⟩ := hc
      by_cases e : i = 0
      · have := c3 e
        exact ⟨c1, c2, ⟨fun _ => this, fun h => absurd e h⟩, by omega, .inl e, by omega⟩
      · have := c4 e
        refine ⟨c1, c2, ⟨fun h => absurd h e, fun _ => by omega⟩, by omega, .inr this.2, ?_⟩
        by_cases k0 : kind = 0
        · have := h5 k0; omega
        · by_cases k1 : kind = 1
          · exact .inr (by have := c5 k1; omega)
          · exact .inl (by omega)
    refine ⟨⟨⟨⟨⟨h1, h2⟩, h3⟩, h4⟩, hchk⟩, fun p hp => (kidsOk_iff l p).2 (fun m m' hm hm' hlt hne he => ?_)⟩
    refine (h6 m hm.2.1).2 ((dupR_iff _ m (m - 1)).2 ⟨m', by have := hm'.1; omega, by omega, fun t ht htm => ?_, ?_, ?_, ?_⟩)
    · rw [lvR_toR, lvR_toR]
      have := hm.2.2.2 t (by have := hm'.1; omega) (by omega)
      have := hm.2.2.1
      omega
    · rw [lvR_toR, lvR_toR, hm'.2.2.1, hm.2.2.1]
    · rw [nmR_toR]; exact hne
    · rw [nmR_toR, nmR_toR]; exact he
  · rintro ⟨⟨⟨⟨⟨h1, h2⟩, h3⟩, h4⟩, h5⟩, h6⟩
    have hc := fun i hi => (chk_iff l kind i).1 (h5 i hi)
    have hs : Steps l := ⟨((hc 0 (by omega)).2.2.1.1 rfl), fun i hi hne => by
      obtain ⟨_, _, ⟨_, a3⟩, a4, a5, _⟩ := hc i hi
      have b3 : lv l i ≠ 0 := a3 hne
      have b4 : 0 ≤ lv l i := a4
      have b5 : i = 0 ∨ lv l i ≤ lv l (i - 1) + 1 := a5
      omega⟩
    refine ⟨h1, h2, h3, h4, fun k0 => ?_, fun i hi => ⟨(chkR_toR l kind i).2 ?_, fun hd => ?_⟩⟩
    · rcases Nat.lt_or_ge 1 l.length with h7 | h7
      · obtain ⟨_, _, ⟨_, a3⟩, a4, _, a6⟩ := hc 1 h7
        have b3 : lv l 1 ≠ 0 := a3 (by omega)
        have b4 : 0 ≤ lv l 1 := a4
        have b6 : 2 ≤ kind ∨ lv l 1 ≤ kind := a6
        omega
      · omega
    · obtain ⟨a1, a2, a3, a4, a5, a6⟩ := hc i hi
      exact ⟨a1, a2, a3.1, hs.2 i hi, fun k1 => by have b6 : 2 ≤ kind ∨ lv l i ≤ kind := a6; omega⟩
    · obtain ⟨j, d1, d2, d3, d4, d5, d6⟩ := (dupR_iff _ i (i - 1)).1 hd
      rw [lvR_toR, lvR_toR] at d4
      rw [nmR_toR] at d5
      rw [nmR_toR, nmR_toR] at d6
      have hall : ∀ t, j ≤ t → t ≤ i → lv l t ≥ lv l i := fun t ht hti => by
        rcases Nat.lt_or_ge t i with h7 | h7
        · have := d3 t ht (by omega)
          rwa [lvR_toR, lvR_toR] at this
        · obtain rfl : t = i := by omega
          exact Int.le_refl _
      obtain ⟨p, p1, p2, p3⟩ := parent_of hs i hi j d1 (by omega) hall
      exact (kidsOk_iff l p).1 (h6 p (by omega)) i j ⟨by omega, hi, p2, p3⟩ ⟨p1, by omega, by omega, fun t h7 h8 => p3 t h7 (by omega)⟩ (by omega) d5 d6
theorem refValid_eq (A : Option Addr) (c : Nat) (l : List S41) (kind : Int) (W : World) (hr : Kd.C k67 W A (l.map toR).length (l.map toR)) (hc : (l.map toR).length ≤ c) :
    Calls Try.prog 8 #[.slice A (l.map toR).length c, .int .i64 kind] W fun e w' => e = .returned (.bool (validB l kind)) ∧ Below W.heap.size W w' :=
  refValid_c A c (l.map toR) kind W _ hr hc (valid_iff l kind)
end Go.Proofs.Ytehlmkgldcfciaa.Files
