/- The parts of this proof that lie in one text. -/
import Derived.Test.YtehlmkgldcfciaaGreatGM2
import Derived.Test.YtehlmkgldcfciaaGreatGM1
import Derived.Test.YtehlmkgldcfciaaGreatWRepsOne
import Derived.BigQuiet
/- Units stay valid: plain law. -/
set_option linter.unusedVariables false
set_option linter.unusedSimpArgs false
namespace Go.Proofs.YtehlmkgldcfciaaGreat.Files
open Go.Proofs.YtehlmkgldcfciaaGreat.Common Go.Maps Go.ChangeMaps Go.WideMaps Go.Proofs.YtehlmkgldcfciaaGreat.F
open Go.RowKit Go.Proofs.YtehlmkgldcfciaaGreatW.PrintWords Go.Proofs.YtehlmkgldcfciaaGreatW.PrintLast Go.Proofs.YtehlmkgldcfciaaGreatW.PrintMore
theorem VOk.uok {l : List S29} {kind : Int} (h : VOk l kind) : UOk l :=
  uok_of h.len.1 h.len.2 (fun x hx => by
    obtain ⟨i, hi, rfl⟩ := List.getElem_of_mem hx
    have := lv_bound h.steps i hi
    unfold lv at this
    rw [rd_get l i hi] at this
    have := h.len.2
    omega) h.steps.1
theorem VOk.data {l : List S29} {kind : Int} (h : VOk l kind) : ∀ x ∈ l, x.f1.size ≤ 400 := fun x hx => by
  obtain ⟨i, hi, rfl⟩ := List.getElem_of_mem hx
  have := (h.cell i hi).2
  rwa [rd_get l i hi] at this
theorem rd_cons (u : S29) (r : List S29) (q : Nat) : rd_T29 (u :: r) ((q + 1 : Nat) : Int) = rd_T29 r (q : Int) := by simp [rd_T29]
theorem runLen_lt (lev : Int) : ∀ (l : List S29) (q : Nat), q < runLen lev l → (rd_T29 l (q : Int)).f2 > lev
  | [], q, h => absurd h (Nat.not_lt_zero _)
  | u :: r, q, h => by
    rw [runLen_cons] at h
    split at h
    · rename_i c
      cases q with
      | zero => exact c
      | succ q => rw [rd_cons]; exact runLen_lt lev r q (by omega)
    · omega
theorem runLen_at (lev : Int) : ∀ (l : List S29), runLen lev l < l.length → (rd_T29 l (runLen lev l : Int)).f2 ≤ lev
  | [], h => absurd h (Nat.not_lt_zero _)
  | u :: r, h => by
    rw [runLen_cons] at h ⊢
    split at h
    · rename_i c
      rw [if_pos c]
      rw [rd_cons]
      exact runLen_at lev r (by simpa using h)
    · rename_i c
      rw [if_neg c]
      show u.f2 ≤ lev
      omega
theorem endOf_in {l : List S29} {i t : Nat} (h1 : i < t) (h2 : t < endOf l i) : lv l t > lv l i := by
  have := runLen_lt (lv l i) (l.drop (i + 1)) (t - (i + 1)) (by unfold endOf at h2; omega)
  rw [rd_drop, show i + 1 + (t - (i + 1)) = t by omega] at this
  exact this
theorem endOf_at {l : List S29} {i : Nat} (h : endOf l i < l.length) : lv l (endOf l i) ≤ lv l i := by
  have := runLen_at (lv l i) (l.drop (i + 1)) (by rw [List.length_drop]; unfold endOf at h; omega)
  rw [rd_drop] at this
  exact this
theorem rd_ins (l : List S29) (e : Nat) (x : S29) (he : e ≤ l.length) (t : Nat) : rd_T29 (l.take e ++ x :: l.drop e) (t : Int) = if t < e then rd_T29 l (t : Int) else if t = e then x else rd_T29 l ((t - 1 : Nat) : Int) := by
  simp only [rd_T29, Int.toNat_natCast, List.getD_eq_getElem?_getD]
  by_cases h1 : t < e
  · rw [if_pos h1, List.getElem?_append_left (by rw [List.length_take]; omega), List.getElem?_take_of_lt h1]
  · rw [if_neg h1, List.getElem?_append_right (by rw [List.length_take]; omega), List.length_take, Nat.min_eq_left he]
    by_cases h2 : t = e
    · rw [if_pos h2, h2, Nat.sub_self]; rfl
    · rw [if_neg h2, show t - e = (t - 1 - e) + 1 by omega, List.getElem?_cons_succ, List.getElem?_drop, show e + (t - 1 - e) = t - 1 by omega]
theorem aboveOf_in (l : List S29) (lev : Int) : ∀ i t, aboveOf l lev i < t → t ≤ i → lv l t ≥ lev
  | 0, t, h1, h2 => by simp only [aboveOf] at h1; omega
  | i + 1, t, h1, h2 => by
    unfold aboveOf at h1
    split at h1
    · rename_i c
      rcases Nat.lt_or_ge i t with h | h
      · obtain rfl : t = i + 1 := by omega
        exact c
      · exact aboveOf_in l lev i t h1 h
    · omega
theorem aboveOf_at (l : List S29) (lev : Int) (h0 : lv l 0 < lev) : ∀ i, lv l (aboveOf l lev i) < lev
  | 0 => h0
  | i + 1 => by
    unfold aboveOf
    split
    · exact aboveOf_at l lev h0 i
    · omega
theorem aboveOf_lv {l : List S29} {lev : Int} (hs : Steps l) (h0 : 1 ≤ lev) {i : Nat} (hi : i < l.length) (hlev : lev ≤ lv l i + 1) : lv l (aboveOf l lev i) = lev - 1 := by
  have h1 := aboveOf_at l lev (by rw [hs.1]; omega) i
  have h2 := aboveOf_le l lev i
  have h3 := aboveOf_in l lev i
  generalize aboveOf l lev i = p at h1 h2 h3
  by_cases e : p = i
  · subst e; omega
  · have := h3 (p + 1) (by omega) (by omega)
    have := hs.2 (p + 1) (by omega) (by omega)
    rw [Nat.add_sub_cancel] at this
    omega
theorem clash_no {l : List S29} {at_ : List Int} {a : ByteArray} (h : clashB l at_ a = false) (ha : a ≠ ⟨#[]⟩) {q : Nat} (hq : (q : Int) ∈ at_) : nmP l q ≠ a := by
  intro e
  unfold clashB at h
  rw [Bool.and_eq_false_iff] at h
  rcases h with h | h
  · simp [ha] at h
  · rw [List.any_eq_false] at h
    have := h _ hq
    simp [nmP] at e
    simp [e] at this
theorem VOk.ins {l : List S29} {kind : Int} (h : VOk l kind) {i : Nat} (hi : i < l.length) {child : Bool} {a b : ByteArray} (ha : a.size ≤ 30) (hb : b.size ≤ 400) (hbad : insBad kind (insLev l i child) = false)
    (hcl : clashB l (kids l (aboveOf l (insLev l i child) i)) a = false) (hfull : l.length < 100) : VOk (l.take (endOf l i) ++ ⟨a, b, insLev l i child⟩ :: l.drop (endOf l i)) kind := by
  have he := endOf_le hi
  have hin : ∀ t, i < t → t < endOf l i → lv l t > lv l i := fun t => endOf_in
  have hat : endOf l i < l.length → lv l (endOf l i) ≤ lv l i := endOf_at
  have hb0 := lv_bound h.steps i hi
  have hlev : insLev l i child = lv l i ∨ insLev l i child = lv l i + 1 := by unfold insLev; cases child <;> simp
  unfold insBad at hbad
  rw [Bool.or_eq_false_iff] at hbad
  have hl0 : insLev l i child ≠ 0 := by simpa using hbad.1
  have hlk : kind < 2 → insLev l i child ≤ kind := fun hk => by
    have := hbad.2
    simp only [Bool.and_eq_false_iff, decide_eq_false_iff_not] at this
    omega
  have hp := aboveOf_lv (lev := insLev l i child) h.steps (by omega) hi (by omega)
  have hp1 := aboveOf_le l (insLev l i child) i
  have hp2 := aboveOf_in l (insLev l i child) i
  clear hbad
  generalize insLev l i child = lev at *
  generalize aboveOf l lev i = p at *
  generalize endOf l i = e at *
  have hrd := rd_ins l e ⟨a, b, lev⟩ he.2
  have hlv : ∀ t, lv (l.take e ++ ⟨a, b, lev⟩ :: l.drop e) t = if t < e then lv l t else if t = e then lev else lv l (t - 1) := fun t => by
    unfold lv
    rw [hrd]
    split
    · rfl
    · split <;> rfl
  have hnm : ∀ t, nmP (l.take e ++ ⟨a, b, lev⟩ :: l.drop e) t = if t < e then nmP l t else if t = e then a else nmP l (t - 1) := fun t => by
    unfold nmP
    rw [hrd]
    split
    · rfl
    · split <;> rfl
  have hlen : (l.take e ++ ⟨a, b, lev⟩ :: l.drop e).length = l.length + 1 := by simp; omega
  generalize l.take e ++ ⟨a, b, lev⟩ :: l.drop e = l' at *
  refine ⟨h.k0, ⟨by omega, by omega⟩, fun t ht => ?_, ⟨?_, fun t ht hne => ?_⟩, fun hk t ht => ?_, fun j k hjk hne => ?_⟩
  · rw [hrd]
    split
    · exact h.cell t (by omega)
    · split
      · exact ⟨ha, hb⟩
      · exact h.cell (t - 1) (by omega)
  · rw [hlv, if_pos (by omega)]; exact h.steps.1
  · rw [hlv, hlv]
    by_cases h1 : t < e
    · rw [if_pos h1, if_pos (by omega)]
      exact h.steps.2 t (by omega) hne
    · rw [if_neg h1]
      by_cases h2 : t = e
      · rw [if_pos h2, if_pos (by omega)]
        by_cases h3 : t - 1 = i
        · rw [h3]; omega
        · have := hin (t - 1) (by omega) (by omega); omega
      · rw [if_neg h2, if_neg (by omega)]
        by_cases h3 : t - 1 = e
        · rw [if_pos h3]
          have h4 := hat (by omega)
          rw [← h3] at h4
          have h5 := h.steps.2 (t - 1) (by omega) (by omega)
          omega
        · rw [if_neg h3]
          exact h.steps.2 (t - 1) (by omega) (by omega)
  · rw [hlv]
    split
    · exact h.top hk t (by omega)
    · split
      · exact hlk hk
      · exact h.top hk (t - 1) (by omega)
  · obtain ⟨d1, d2, d3, d4⟩ := hjk
    rw [hlv, hlv] at d3
    have d4' : ∀ t, j < t → t < k → (if k < e then lv l k else if k = e then lev else lv l (k - 1)) ≤ (if t < e then lv l t else if t = e then lev else lv l (t - 1)) := fun t h1 h2 => by
      have := d4 t h1 h2
      rwa [hlv, hlv] at this
    clear d4
    rw [hnm] at hne ⊢
    rw [hnm]
    by_cases hk1 : k < e
    · rw [if_pos hk1] at hne ⊢ d3
      rw [if_pos (by omega)] at d3 ⊢
      refine h.names j k ⟨d1, by omega, d3, fun t h1 h2 => ?_⟩ hne
      have := d4' t h1 h2
      rwa [if_pos hk1, if_pos (by omega)] at this
    · rw [if_neg hk1] at hne ⊢ d3
      by_cases hk2 : k = e
      · rw [if_pos hk2] at hne ⊢ d3
        rw [if_pos (by omega)] at d3 ⊢
        have hge : ∀ t, j ≤ t → t < e → lev ≤ lv l t := fun t h1 h2 => by
          rcases Nat.lt_or_ge j t with h3 | h3
          · have := d4' t h3 (by omega)
            rwa [if_neg hk1, if_pos hk2, if_pos h2] at this
          · obtain rfl : t = j := by omega
            omega
        have hpj : p < j := by
          rcases Nat.lt_or_ge p j with h3 | h3
          · exact h3
          · have := hge p h3 (by omega); omega
        refine clash_no hcl hne ((mem_kids l p _).2 ⟨j, rfl, hpj, by omega, by omega, fun t h1 h2 => ?_⟩)
        rcases Nat.lt_or_ge i t with h3 | h3
        · have := hin t h3 (by omega)
          rcases Nat.lt_or_ge t j with h4 | h4
          · omega
          · have := hge t h4 (by omega); omega
        · have := hp2 t h1 h3; omega
      · rw [if_neg hk2] at hne ⊢ d3
        by_cases hj1 : j < e
        · rw [if_pos hj1] at d3 ⊢
          refine h.names j (k - 1) ⟨by omega, by omega, d3, fun t h1 h2 => ?_⟩ hne
          by_cases ht : t < e
          · have := d4' t h1 (by omega)
            rwa [if_neg hk1, if_neg hk2, if_pos ht] at this
          · have := d4' (t + 1) (by omega) (by omega)
            rwa [if_neg hk1, if_neg hk2, if_neg (by omega), if_neg (by omega), Nat.add_sub_cancel] at this
        · rw [if_neg hj1] at d3 ⊢
          by_cases hj2 : j = e
          · rw [if_pos hj2] at d3 ⊢
            intro hname
            have hge : ∀ t, e ≤ t → t ≤ k - 1 → lev ≤ lv l t := fun t h1 h2 => by
              rcases Nat.lt_or_ge t (k - 1) with h3 | h3
              · have := d4' (t + 1) (by omega) (by omega)
                rw [if_neg hk1, if_neg hk2, if_neg (by omega), if_neg (by omega), Nat.add_sub_cancel] at this
                omega
              · obtain rfl : t = k - 1 := by omega
                omega
            have h5 := hat (by omega)
            have h6 := hge e (Nat.le_refl _) (by omega)
            refine clash_no hcl (by rw [hname]; exact hne) ((mem_kids l p _).2 ⟨k - 1, rfl, by omega, by omega, by omega, fun t h1 h2 => ?_⟩) hname.symm
            rcases Nat.lt_or_ge i t with h3 | h3
            · rcases Nat.lt_or_ge t e with h4 | h4
              · have := hin t h3 h4; omega
              · have := hge t h4 h2; omega
            · have := hp2 t h1 h3; omega
          · rw [if_neg hj2] at d3 ⊢
            refine h.names (j - 1) (k - 1) ⟨by omega, by omega, d3, fun t h1 h2 => ?_⟩ hne
            have := d4' (t + 1) (by omega) (by omega)
            rwa [if_neg hk1, if_neg hk2, if_neg (by omega), if_neg (by omega), Nat.add_sub_cancel] at this
theorem rd_era (l : List S29) (i e : Nat) (hi : i ≤ l.length) (t : Nat) : rd_T29 (l.take i ++ l.drop e) (t : Int) = if t < i then rd_T29 l (t : Int) else rd_T29 l ((t - i + e : Nat) : Int) := by
  simp only [rd_T29, Int.toNat_natCast, List.getD_eq_getElem?_getD]
  by_cases h1 : t < i
  · rw [if_pos h1, List.getElem?_append_left (by rw [List.length_take]; omega), List.getElem?_take_of_lt h1]
  · rw [if_neg h1, List.getElem?_append_right (by rw [List.length_take]; omega), List.length_take, Nat.min_eq_left hi, List.getElem?_drop, Nat.add_comm]
theorem VOk.era {l : List S29} {kind : Int} (h : VOk l kind) {i : Nat} (hi : i < l.length) (h0 : i ≠ 0) : VOk (l.take i ++ l.drop (endOf l i)) kind := by
  have he := endOf_le hi
  have hin : ∀ t, i < t → t < endOf l i → lv l t > lv l i := fun t => endOf_in
  have hat : endOf l i < l.length → lv l (endOf l i) ≤ lv l i := endOf_at
  have hsi := h.steps.2 i hi h0
  generalize endOf l i = e at *
  have hrd := rd_era l i e (by omega)
  have hlv : ∀ t, lv (l.take i ++ l.drop e) t = if t < i then lv l t else lv l (t - i + e) := fun t => by
    unfold lv
    rw [hrd]
    split <;> rfl
  have hnm : ∀ t, nmP (l.take i ++ l.drop e) t = if t < i then nmP l t else nmP l (t - i + e) := fun t => by
    unfold nmP
    rw [hrd]
    split <;> rfl
  have hlen : (l.take i ++ l.drop e).length = i + (l.length - e) := by simp; omega
  have hl := h.len
  generalize l.take i ++ l.drop e = l' at *
  refine ⟨h.k0, ⟨by omega, by omega⟩, fun t ht => ?_, ⟨?_, fun t ht hne => ?_⟩, fun hk t ht => ?_, fun j k hjk hne => ?_⟩
  · rw [hrd]
    split
    · exact h.cell t (by omega)
    · exact h.cell _ (by omega)
  · rw [hlv, if_pos (by omega)]; exact h.steps.1
  · rw [hlv, hlv]
    by_cases h1 : t < i
    · rw [if_pos h1, if_pos (by omega)]
      exact h.steps.2 t (by omega) hne
    · rw [if_neg h1]
      have h5 := h.steps.2 (t - i + e) (by omega) (by omega)
      by_cases h2 : t = i
      · rw [if_pos (by omega)]
        have h4 := hat (by omega)
        rw [show t - i + e = e by omega] at h5 ⊢
        rw [h2]
        omega
      · rw [if_neg (by omega), show t - 1 - i + e = t - i + e - 1 by omega]
        exact h5
  · rw [hlv]
    split
    · exact h.top hk t (by omega)
    · exact h.top hk _ (by omega)
  · obtain ⟨d1, d2, d3, d4⟩ := hjk
    rw [hlv, hlv] at d3
    have d4' : ∀ t, j < t → t < k → (if k < i then lv l k else lv l (k - i + e)) ≤ (if t < i then lv l t else lv l (t - i + e)) := fun t h1 h2 => by
      have := d4 t h1 h2
      rwa [hlv, hlv] at this
    clear d4
    rw [hnm] at hne ⊢
    rw [hnm]
    by_cases hk1 : k < i
    · rw [if_pos hk1] at hne ⊢ d3
      rw [if_pos (by omega)] at d3 ⊢
      refine h.names j k ⟨d1, by omega, d3, fun t h1 h2 => ?_⟩ hne
      have := d4' t h1 h2
      rwa [if_pos hk1, if_pos (by omega)] at this
    · rw [if_neg hk1] at hne ⊢ d3
      have back : ∀ t, e ≤ t → t < k - i + e → j < t - e + i → lv l (k - i + e) ≤ lv l t := fun t h1 h2 h3 => by
        have := d4' (t - e + i) h3 (by omega)
        rwa [if_neg hk1, if_neg (by omega), show t - e + i - i + e = t by omega] at this
      by_cases hj1 : j < i
      · rw [if_pos hj1] at d3 ⊢
        have hle : lv l (k - i + e) ≤ lv l i := by
          have h4 := hat (by omega)
          by_cases h6 : k = i
          · rw [show k - i + e = e by omega]; exact h4
          · have := back e (Nat.le_refl _) (by omega) (by omega); omega
        refine h.names j (k - i + e) ⟨by omega, by omega, d3, fun t h1 h2 => ?_⟩ hne
        rcases Nat.lt_or_ge t i with h7 | h7
        · have := d4' t h1 (by omega)
          rwa [if_neg hk1, if_pos h7] at this
        · rcases Nat.lt_or_ge t e with h8 | h8
          · by_cases h9 : t = i
            · rw [h9]; exact hle
            · have := hin t (by omega) h8; omega
          · exact back t h8 h2 (by omega)
      · rw [if_neg hj1] at d3 ⊢
        exact h.names _ (k - i + e) ⟨by omega, by omega, d3, fun t h1 h2 => back t (by omega) h2 (by omega)⟩ hne
theorem VOk.one (kind : Int) (hk : 0 ≤ kind ∧ kind ≤ 2) : VOk [z29] kind := by
  have h0 : lv [z29] 0 = 0 := rfl
  refine ⟨hk, ⟨by simp, by simp⟩, fun i hi => ?_, ⟨h0, fun i hi hne => ?_⟩, fun h i hi => ?_, fun j i hji _ => ?_⟩
  · obtain rfl : i = 0 := by simpa using hi
    exact ⟨by decide, by decide⟩
  · have : i = 0 := by simpa using hi
    exact absurd this hne
  · obtain rfl : i = 0 := by simpa using hi
    rw [h0]; exact hk.1
  · have h1 : i = 0 := by simpa using hji.2.1
    have := hji.1
    omega
theorem rd_data (l : List S29) (i : Nat) (d : ByteArray) (hi : i < l.length) (t : Nat) : rd_T29 (withData l i d) (t : Int) = if t = i then ⟨(rd_T29 l (i : Int)).f0, d, (rd_T29 l (i : Int)).f2⟩ else rd_T29 l (t : Int) := by
  unfold withData
  simp only [rd_T29, Int.toNat_natCast, List.getD_eq_getElem?_getD, List.getElem?_set]
  by_cases h : t = i
  · subst h
    rw [if_pos rfl, if_pos hi, if_pos rfl]; rfl
  · rw [if_neg (fun e => h e.symm), if_neg h]
theorem VOk.withData {l : List S29} {kind : Int} (h : VOk l kind) {i : Nat} (hi : i < l.length) {d : ByteArray} (hd : d.size ≤ 400) : VOk (withData l i d) kind := by
  have hrd := rd_data l i d hi
  have hlv : ∀ t, lv (Files.withData l i d) t = lv l t := fun t => by
    unfold lv
    rw [hrd]
    split
    · rename_i e; rw [e]
    · rfl
  have hnm : ∀ t, nmP (Files.withData l i d) t = nmP l t := fun t => by
    unfold nmP
    rw [hrd]
    split
    · rename_i e; rw [e]
    · rfl
  have hlen : (Files.withData l i d).length = l.length := by unfold Files.withData; rw [List.length_set]
  generalize Files.withData l i d = l' at *
  refine ⟨h.k0, by rw [hlen]; exact h.len, fun t ht => ?_, ⟨by rw [hlv]; exact h.steps.1, fun t ht hne => by rw [hlv, hlv]; exact h.steps.2 t (by omega) hne⟩, fun hk t ht => by rw [hlv]; exact h.top hk t (by omega), fun j k hjk hne => ?_⟩
  · rw [hrd]
    split
    · exact ⟨(h.cell i hi).1, hd⟩
    · exact h.cell t (by omega)
  · rw [hnm] at hne ⊢
    rw [hnm]
    refine h.names j k ⟨hjk.1, by have := hjk.2.1; omega, by have := hjk.2.2.1; rwa [hlv, hlv] at this, fun t h1 h2 => ?_⟩ hne
    have := hjk.2.2.2 t h1 h2
    rwa [hlv, hlv] at this
end Go.Proofs.YtehlmkgldcfciaaGreat.Files
/- The reference's store: where a name is there twice, plainly; a unit's sizes. -/
set_option linter.unusedVariables false
set_option linter.unusedSimpArgs false
namespace Go.Proofs.YtehlmkgldcfciaaGreat.Files
open Go.Proofs.YtehlmkgldcfciaaGreat.Common Go.Maps Go.ChangeMaps Go.WideMaps Go.Proofs.YtehlmkgldcfciaaGreat.F
open Go.RowKit Go.Proofs.YtehlmkgldcfciaaGreatW.PrintWords Go.Proofs.YtehlmkgldcfciaaGreatW.PrintLast Go.Proofs.YtehlmkgldcfciaaGreatW.PrintMore
def dupAt (l : List S29) (lev : Int) (a : ByteArray) (t : Nat) : Bool := decide (lv l t = lev) && !decide (a = ⟨#[]⟩) && decide (nm l t = a)
theorem child_span {l : List S29} {p t : Nat} (hp : p < l.length) : Child l p t ↔ p < t ∧ t < endOf l p ∧ lv l t = lv l p + 1 := by
  have he := endOf_le hp
  constructor
  · rintro ⟨h1, h2, h3, h4⟩
    refine ⟨h1, ?_, h3⟩
    by_cases h : t < endOf l p
    · exact h
    · exfalso
      have h5 := endOf_at' (l := l) (i := p) (by omega)
      have := h4 (endOf l p) (by omega) (by omega)
      omega
  · rintro ⟨h1, h2, h3⟩
    exact ⟨h1, by omega, h3, fun s h5 h6 => endOf_in h5 (by omega)⟩
theorem clash_yes {l : List S29} {p t : Nat} {lev : Int} {a : ByteArray} (hp : p < l.length) (hlev : lv l p = lev - 1) (h1 : p < t) (h2 : t < endOf l p) (hd : dupAt l lev a t = true) : clashB l (kids l p) a = true := by
  unfold dupAt at hd
  simp only [Bool.and_eq_true, decide_eq_true_eq, Bool.not_eq_true', decide_eq_false_iff_not] at hd
  obtain ⟨⟨h3, h4⟩, h5⟩ := hd
  unfold clashB
  rw [Bool.and_eq_true]
  refine ⟨by simpa using h4, List.any_eq_true.2 ⟨(t : Int), (mem_kids l p t).2 ⟨t, rfl, (child_span hp).2 ⟨h1, h2, by omega⟩⟩, (decide_eq_true h5 : decide (nm l t = a) = true)⟩⟩
theorem clash_none {l : List S29} {p : Nat} {lev : Int} {a : ByteArray} (hp : p < l.length) (hlev : lv l p = lev - 1) (h : ∀ t, p < t → t < endOf l p → dupAt l lev a t = false) : clashB l (kids l p) a = false := by
  cases hc : clashB l (kids l p) a with
  | false => rfl
  | true =>
    exfalso
    unfold clashB at hc
    rw [Bool.and_eq_true] at hc
    obtain ⟨h1, h2⟩ := hc
    obtain ⟨x, hx, hxa⟩ := List.any_eq_true.1 h2
    obtain ⟨t, rfl, hch⟩ := (mem_kids l p x).1 hx
    obtain ⟨h3, h4, h5⟩ := (child_span hp).1 hch
    have := h t h3 h4
    unfold dupAt at this
    have e1 : decide (lv l t = lev) = true := decide_eq_true (by omega)
    have e2 : decide (nm l t = a) = true := hxa
    rw [e1, h1, e2] at this
    cases this
theorem aboveOf_le' (l : List S29) (lev : Int) (i : Nat) : aboveOf l lev i ≤ i := aboveOf_le l lev i
theorem aboveOf_here {l : List S29} {lev : Int} {j : Nat} (h : lv l j < lev) : aboveOf l lev j = j := by
  cases j with
  | zero => rfl
  | succ j => unfold aboveOf; rw [if_neg (by omega)]
theorem aboveOf_step {l : List S29} {lev : Int} {j : Nat} (h : lv l (j + 1) ≥ lev) : aboveOf l lev (j + 1) = aboveOf l lev j := by
  conv => lhs; unfold aboveOf
  rw [if_pos h]
theorem nodup_next {l : List S29} {lev : Int} {a : ByteArray} {P t : Nat} (h : ∀ q, P < q → q < t → dupAt l lev a q = false) (ht : dupAt l lev a t = false) : ∀ q, P < q → q < t + 1 → dupAt l lev a q = false := fun q h1 h2 => by
  by_cases e : q = t
  · rw [e]; exact ht
  · exact h q h1 (by omega)
theorem bad_tests (kind lev : Int) (hk : 0 ≤ kind ∧ kind ≤ 2) (hl : 0 ≤ lev) : insBad kind lev = true ↔ lev = 0 ∨ kind = 0 ∨ (kind = 1 ∧ 1 < lev) := by
  unfold insBad
  simp only [Bool.or_eq_true, Bool.and_eq_true, decide_eq_true_eq]
  omega
theorem below_box {W X : World} (h : Below W.heap.size W X) (j : Nat) (v : Value) : Below W.heap.size W (X.setCell ⟨W.heap.size, j, none⟩ v) :=
  ⟨h.os, h.tape, h.output, by simpa [World.setCell] using h.size, fun k hk => (Below.heap_setCell X ⟨W.heap.size, j, none⟩ v k (by simp; omega)).trans (h.block k hk)⟩
set_option maxRecDepth 100000 in
theorem runit_c (a b : ByteArray) (lev : Int) (W : World) : Calls Tryz.prog 74 #[.agg #[.string a, .string b, .int .i64 lev]] W fun e w' => e = .returned (.bool (decide (a.size ≤ 30) && decide (b.size ≤ 400))) ∧ Below W.heap.size W w' := by
  have hb1 : Below W.heap.size W (W.alloc (.cells #[.string a, .string b, .int .i64 lev] 62)) := (Below.refl _ _).alloc (Nat.le_refl _) _
  by_cases c : a.size ≤ 30
  · have h0 : decide ((a.size : Int) ≤ 30) = true := decide_eq_true (by omega)
    have h1 : decide (a.size ≤ 30) = true := decide_eq_true c
    have h2 : decide ((b.size : Int) ≤ 400) = decide (b.size ≤ 400) := decide_eq_decide.2 (by omega)
    have HB := Aside0.mk hb1
    clear hb1 c
    go_enter Tryz.func74, Tryz.ntmps74
    go_wp2
    refine bodyPost_ret (v := .bool (decide (b.size ≤ 400))) (by simp [results, Tryz.f74, go_sem, h0, h2]) rfl ?_
    exact ⟨by rw [h1]; rfl, HB.out⟩
  · have h0 : decide ((a.size : Int) ≤ 30) = false := decide_eq_false (by omega)
    have h1 : decide (a.size ≤ 30) = false := decide_eq_false c
    have HB := Aside0.mk hb1
    clear hb1 c
    go_enter Tryz.func74, Tryz.ntmps74
    go_wp2
    refine bodyPost_ret (v := .bool false) (by simp [results, Tryz.f74, go_sem, h0]) rfl ?_
    exact ⟨by rw [h1]; rfl, HB.out⟩
end Go.Proofs.YtehlmkgldcfciaaGreat.Files
/- A path through the units, plainly: the first child of a name; what Locate tells. -/
set_option linter.unusedVariables false
set_option linter.unusedSimpArgs false
namespace Go.Proofs.YtehlmkgldcfciaaGreat.Files
open Go.Proofs.YtehlmkgldcfciaaGreat.Common Go.Maps Go.ChangeMaps Go.WideMaps Go.Proofs.YtehlmkgldcfciaaGreat.F
open Go.RowKit Go.Proofs.YtehlmkgldcfciaaGreatW.PrintWords Go.Proofs.YtehlmkgldcfciaaGreatW.PrintLast Go.Proofs.YtehlmkgldcfciaaGreatW.PrintMore
theorem find_first {P : Int → Bool} : ∀ {L : List Int} {x : Int}, L.Pairwise (· < ·) → x ∈ L → P x = true → (∀ y ∈ L, y < x → P y = false) → L.find? P = some x
  | [], _, _, h, _, _ => by cases h
  | a :: r, x, hs, hx, hp, hn => by
    rcases List.mem_cons.1 hx with rfl | hr
    · rw [List.find?_cons_of_pos hp]
    · have hlt := (List.pairwise_cons.1 hs).1 x hr
      rw [List.find?_cons_of_neg (by rw [hn a List.mem_cons_self hlt]; simp)]
      exact find_first (List.pairwise_cons.1 hs).2 hr hp (fun y hy hyx => hn y (List.mem_cons_of_mem _ hy) hyx)
def locKid (l : List S29) (here : Nat) (p : ByteArray) : Option Nat := ((kids l here).find? (fun t => decide (nm l t.toNat = p))).map (·.toNat)
def locGo (l : List S29) : Nat → List ByteArray → Option Nat
  | here, [] => some here
  | here, p :: ps => match locKid l here p with
    | none => none
    | some t => locGo l t ps
def mLocate (st : Fs) (u n : ByteArray) (path : List ByteArray) : Int × Int := match mOpened st u n 1 with
  | .error E => (0, E)
  | .ok (_, f, dn) => match locGo f.units 0 path with
    | none => (0, 6)
    | some t => if dn = 0 then ((t : Int), 0) else (0, dn)
theorem locKid_some {l : List S29} {here t : Nat} {p : ByteArray} (hc : Child l here t) (hn : nm l t = p) (h : ∀ s, Child l here s → s < t → ¬ nm l s = p) : locKid l here p = some t := by
  unfold locKid
  rw [find_first (L := kids l here) (x := (t : Int)) (kidsFrom_sorted _ _ _) ((mem_kids l here t).2 ⟨t, rfl, hc⟩) (by simpa using hn) (fun y hy hyt => by
    obtain ⟨s, rfl, hs⟩ := (mem_kids l here y).1 hy
    simpa using h s hs (by omega))]
  rfl
theorem locKid_none {l : List S29} {here : Nat} {p : ByteArray} (h : ∀ s, Child l here s → ¬ nm l s = p) : locKid l here p = none := by
  unfold locKid
  rw [List.find?_eq_none.2 (fun y hy => by
    obtain ⟨s, rfl, hs⟩ := (mem_kids l here y).1 hy
    simpa using h s hs)]
  rfl
theorem locGo_no {l : List S29} {here : Nat} {p : ByteArray} {ps : List ByteArray} (h : locKid l here p = none) : locGo l here (p :: ps) = none := by unfold locGo; rw [h]
theorem locGo_yes {l : List S29} {here t : Nat} {p : ByteArray} {ps : List ByteArray} (h : locKid l here p = some t) : locGo l here (p :: ps) = locGo l t ps := by conv => lhs; unfold locGo; rw [h]
theorem mLocate_none {st : Fs} {u n : ByteArray} {path : List ByteArray} {k : Nat} {f : AF} {dn : Int} (h : mOpened st u n 1 = .ok (k, f, dn)) (hg : locGo f.units 0 path = none) : mLocate st u n path = (0, 6) := by unfold mLocate; rw [h]; simp only [hg]
def RLocOut (W : World) (r : Int × Int) (e : Ending) (w' : World) : Prop := e = .returned (.tuple #[.int .i64 r.1, .int .i64 r.2]) ∧ Below W.heap.size W w'
theorem RLocOut.stay {W w' : World} {r : Int × Int} {a b : Int} (hb : Below W.heap.size W w') (hr : r = (a, b)) : RLocOut W r (.returned (.tuple #[.int .i64 a, .int .i64 b])) w' := by
  subst hr
  exact ⟨rfl, hb⟩
end Go.Proofs.YtehlmkgldcfciaaGreat.Files
/- The file store: Locate. -/
set_option linter.unusedVariables false
set_option linter.unusedSimpArgs false
namespace Go.Proofs.YtehlmkgldcfciaaGreat.Files
open Go.Proofs.YtehlmkgldcfciaaGreat.Common Go.Maps Go.ChangeMaps Go.WideMaps Go.Proofs.YtehlmkgldcfciaaGreat.F
open Go.RowKit Go.Proofs.YtehlmkgldcfciaaGreatW.PrintWords Go.Proofs.YtehlmkgldcfciaaGreatW.PrintLast Go.Proofs.YtehlmkgldcfciaaGreatW.PrintMore
theorem idxP_find {α : Type} (p : α → Bool) : ∀ l : List α, (idxP p l = -1 ∧ l.find? p = none) ∨ ∃ (q : Nat) (x : α), idxP p l = q ∧ l[q]? = some x ∧ l.find? p = some x
  | [] => .inl ⟨rfl, rfl⟩
  | x :: l => by
    rw [idxP]
    by_cases hx : p x = true
    · exact .inr ⟨0, x, by rw [if_pos hx]; rfl, rfl, by rw [List.find?_cons_of_pos hx]⟩
    · rw [if_neg hx, List.find?_cons_of_neg hx]
      rcases idxP_find p l with ⟨h1, h2⟩ | ⟨q, y, h1, h2, h3⟩
      · exact .inl ⟨by rw [h1]; rfl, h2⟩
      · exact .inr ⟨q + 1, y, by rw [h1, if_neg (by omega)]; omega, by simpa using h2, h3⟩
def isNm (l : List S29) (p : ByteArray) (i : Int) : Bool := decide ((rd_T29 l i).f0 = p)
theorem locKid_idx (l : List S29) (here : Nat) (p : ByteArray) (hh : here < l.length) : (idxP (isNm l p) (kids l here) = -1 ∧ locKid l here p = none) ∨
    ∃ q t : Nat, idxP (isNm l p) (kids l here) = q ∧ (kids l here)[q]? = some (t : Int) ∧ t < l.length ∧ locKid l here p = some t := by
  have he : (fun t : Int => decide (nm l t.toNat = p)) = isNm l p := by
    funext t
    unfold isNm nm rd_T29
    rw [Int.toNat_natCast]
  unfold locKid
  rw [he]
  rcases idxP_find (isNm l p) (kids l here) with ⟨h1, h2⟩ | ⟨q, x, h1, h2, h3⟩
  · exact .inl ⟨h1, by rw [h2]; rfl⟩
  · have hx := kids_in hh x (List.mem_of_getElem? h2)
    obtain ⟨t, rfl⟩ : ∃ t : Nat, x = t := ⟨x.toNat, by omega⟩
    exact .inr ⟨q, t, h1, h2, by omega, by rw [h3]; rfl⟩
set_option maxRecDepth 100000 in
set_option maxHeartbeats 2000000 in
theorem locate1_c (B1 B2 fb cu : Nat) (Au : Option Addr) (units : List S29) (pw : ByteArray) (i : Int) (W : World) (c1 : W.cell? ⟨B1, 0, none⟩ = some (.pointer (some ⟨fb, 0, none⟩))) (c2 : W.cell? ⟨B2, 0, none⟩ = some (.string pw))
    (c8 : W.cell? ⟨fb, 8, none⟩ = some (.slice Au units.length cu)) (hr : Kd.C k29 W Au units.length units) (h0 : 0 ≤ i) (h1 : i < (units.length : Int)) :
    Calls Tryz.prog 66 #[.int .i64 i, .pointer (some ⟨B1, 0, none⟩), .pointer (some ⟨B2, 0, none⟩)] W fun e w' => e = .returned (.bool (isNm units pw i)) ∧ Drawn0 W w' := by
  obtain ⟨ad, rfl, hx0, _, _⟩ := at_T29 hr i h0 h1
  have hbig : units.length ≤ 9223372036854775807 := hr.2.1
  clear hr
  unfold isNm
  generalize rd_T29 units i = x at hx0
  by_cases he : x.f0 = pw
  · have he' : (x.f0.toList == pw.toList) = true := by rw [he]; exact beq_yes _
    rw [show decide (x.f0 = pw) = true from decide_eq_true he]
    clear he
    go_enter Tryz.func66, Tryz.ntmps66
    go_wp2
    go_region
    go_wp2
    go_ret
    exact ⟨rfl, ⟨1, rfl⟩⟩
  · have he' := beq_no he
    rw [show decide (x.f0 = pw) = false from decide_eq_false he]
    clear he
    go_enter Tryz.func66, Tryz.ntmps66
    go_wp2
    go_region
    go_wp2
    go_ret
    exact ⟨rfl, ⟨1, rfl⟩⟩
set_option maxRecDepth 100000 in
set_option maxHeartbeats 4000000 in
theorem Locate_c (sb c : Nat) (ok : Nat → Prop) (L : List (Nat × AF)) (st : Fs) (u n : ByteArray) (Ap : Option Addr) (cp : Nat) (path : List ByteArray) (W : World) (hR : StoreRep W ok sb L) (hst : L.map (·.2) = st) (hI : SInv c st) (hpath : Kd.C Kd.string W Ap path.length path) (hcp : path.length ≤ cp) :
    Calls Tryz.prog 24 #[.pointer (some ⟨sb, 0, none⟩), .string u, .string n, .slice Ap path.length cp] W (RLocOut W (mLocate st u n path)) := by
  cases ho : mOpened st u n 1 with
  | error E =>
    have hm : mLocate st u n path = (0, E) := by unfold mLocate; rw [ho]
    rw [hm]
    refine (Locate_err _ u n _ E W (opened_error hR hst ho)).mono ?_
    rintro e w' ⟨rfl, hb⟩
    exact ⟨rfl, hb⟩
  | ok p =>
    obtain ⟨k, f, dn⟩ := p
    obtain ⟨hdn, ac, ex, mb, fb, rc, ub, D, DU, own, A, uv, G, hl_, he_, HO⟩ := opened_all hR hst ho
    clear hl_ he_
    have hF := (inv_at hI hst G.at_).units
    have HU := Aside0.mk hF
    have hpos := hF.pos
    have HLEN := Aside0.mk hF.len
    have HMO := Aside0.mk ho
    have HP := Aside0.mk G.P
    have CO := Aside0.mk (HO W (Below.refl _ _))
    have HDN := Aside0.mk hdn
    have HPR := Aside0.mk (fun X (hb : Below W.heap.size W X) => Kd.C_below hpath hb)
    clear ho G hF hpath hR hst hI HO hdn
    go_enter Tryz.func24, Tryz.ntmps24
    go_wp2_with fail
    refine CO.out.mono ?_
    rintro e w2 ⟨rfl, hb2⟩
    have P2 := HP.out.below hb2
    have hfl := blk_lt P2.F
    obtain ⟨g, cu, huv, hlc, hcm⟩ := units_slice P2.units (by omega)
    subst huv
    have HP2 := Aside0.mk P2
    have HB2 := Aside0.mk hb2
    clear P2 hb2 CO
    have hb3 : Below w2.heap.size w2 (w2.alloc (.cells #[.pointer (some ⟨fb, 0, none⟩)] 82)) := (Below.refl _ _).alloc (Nat.le_refl _) _
    have b1 := (Boxed.new w2 82 (.pointer (some ⟨fb, 0, none⟩))).cell
    have HB3 := Aside0.mk (HB2.out.trans (hb3.mono HB2.out.size))
    have HP3 := Aside0.mk (HP2.out.below hb3)
    have HBX := Aside0.mk (show w2.heap.size < (w2.alloc (.cells #[.pointer (some ⟨fb, 0, none⟩)] 82)).heap.size by simp)
    have HB1 := Aside0.mk b1
    have hfl3 : fb < (w2.alloc (.cells #[.pointer (some ⟨fb, 0, none⟩)] 82)).heap.size := by have := HBX.out; omega
    clear b1 hb3
    go_wp2_with fail
    generalize w2.alloc (.cells #[.pointer (some ⟨fb, 0, none⟩)] 82) = w3 at *
    generalize w2.heap.size = B1 at *
    go_loopw [13, 31] (fun s k wr => ∃ (hN j : Nat), s = .int .i64 hN ∧ k = .int .i64 j ∧ j ≤ path.length ∧ hN < f.units.length ∧ Aside0 (Below w3.heap.size w3 wr) ∧ Aside0 (locGo f.units 0 path = locGo f.units hN (path.drop j))) (fun _ k _ => path.length - (intOf k).toNat)
    case atStart => exact ⟨0, 0, rfl, rfl, Nat.zero_le _, hpos, ⟨Below.refl _ _⟩, ⟨rfl⟩⟩
    case round =>
      obtain ⟨hN, j, rfl, rfl, hj, hh, HBW, HLG⟩ := hrel
      have P4 := HP3.out.below HBW.out
      have z8 : wr.cell? ⟨fb, 8, none⟩ = some (.slice (some ⟨g, 0, none⟩) f.units.length cu) := (blk_cell P4.F 8).trans rfl
      have z1 : wr.cell? ⟨B1, 0, none⟩ = some (.pointer (some ⟨fb, 0, none⟩)) := (HBW.out.cell (p := ⟨B1, 0, none⟩) HBX.out).trans HB1.out
      have hfw := blk_lt P4.F
      have HP4 := Aside0.mk P4
      clear P4
      by_cases hlt : j < path.length
      · have hltz : (j : Int) < (path.length : Int) := by omega
        have hjz : decide ((j : Int) < 0) = false := decide_eq_false (by omega)
        obtain ⟨pw, hpw⟩ : ∃ x, x = path[j] := ⟨_, rfl⟩
        have HPW := Aside0.mk hpw
        obtain ⟨adp, hap, p0⟩ := Kd.at_string (HPR.out _ (HB3.out.trans (HBW.out.mono HB3.out.size))) (j : Int) (by omega) (by omega)
        subst hap
        rw [Int.toNat_natCast, show rdOf ByteArray.empty path (j : Int) = pw by rw [hpw]; simp [rdOf, List.getD_eq_getElem?_getD, List.getElem?_eq_getElem hlt]] at p0
        clear hpw
        have y1 := Lib.cell?_alloc_some (.cells #[.string pw] 9) z1
        have y8 := Lib.cell?_alloc_some (.cells #[.string pw] 9) z8
        have b2 := (Boxed.new wr 9 (.string pw)).cell
        have hb5 : Below wr.heap.size wr (wr.alloc (.cells #[.string pw] 9)) := (Below.refl _ _).alloc (Nat.le_refl _) _
        have HB5 := Aside0.mk (HBW.out.trans (hb5.mono HBW.out.size))
        have HP5 := Aside0.mk (HP4.out.below hb5)
        have HX5 := Aside0.mk (show wr.heap.size < (wr.alloc (.cells #[.string pw] 9)).heap.size by simp)
        have HF5 := Aside0.mk (show B1 < (wr.alloc (.cells #[.string pw] 9)).heap.size by have := HX5.out; have := HBX.out; have := HBW.out.size; omega)
        have HG5 := Aside0.mk b2
        have HG1 := Aside0.mk y1
        clear hb5 b2
        go_wp2_with fail
        refine (children_c _ cu hN f.units _ (Kd.R_reads' HP5.out.units).2.2 hlc hh (by have := HLEN.out; omega) (by have := HU.out.lev hN; unfold wrap64; omega)).mono ?_
        rintro e w6 ⟨v6, rfl, hr6, hb6⟩
        obtain ⟨Ak, ck, rfl⟩ := Kd.R_slice hr6
        have HR6 := Aside0.mk hr6
        have HB6 := Aside0.mk hb6
        have HK6 := Aside0.mk (HB5.out.trans (hb6.mono HB5.out.size))
        clear hr6 hb6
        go_wp2_with fail
        refine (slices_IndexFunc_int_int.calls 66 #[.pointer (some ⟨B1, 0, none⟩), .pointer (some ⟨wr.heap.size, 0, none⟩)] (enters_of Tryz.func66 (by kernel_rfl) rfl) (isNm f.units pw) Ak ck (kids f.units hN) w6 (Kd.R_reads' HR6.out).2.2 (Kd.R_reads' HR6.out).2.1
          (fun X x hx hd => locate1_c B1 wr.heap.size fb cu _ f.units pw x X (((HB6.out.trans (hd.below.mono HB6.out.size)).cell (p := ⟨B1, 0, none⟩) HF5.out).trans HG1.out) (((HB6.out.trans (hd.below.mono HB6.out.size)).cell (p := ⟨wr.heap.size, 0, none⟩) HX5.out).trans HG5.out)
            ((blk_cell (HP5.out.below (HB6.out.trans (hd.below.mono HB6.out.size))).F 8).trans rfl) (Kd.R_reads' (HP5.out.below (HB6.out.trans (hd.below.mono HB6.out.size))).units).2.2 (kids_in hh x hx).1 (kids_in hh x hx).2)).mono ?_
        rintro e w7 ⟨rfl, hd7⟩
        have HB7 := Aside0.mk (HK6.out.trans (hd7.below.mono HK6.out.size))
        rcases locKid_idx f.units hN pw hh with ⟨h1, h2⟩ | ⟨q, t, h1, h2, h3, h4⟩
        · rw [h1]
          have HM := Aside0.mk (mLocate_none HMO.out (show locGo f.units 0 path = none by rw [HLG.out, List.drop_eq_getElem_cons hlt, ← HPW.out]; exact locGo_no h2))
          clear h1 h2 hd7
          go_wp2
          refine bodyPost_ret (v := .tuple #[.int .i64 0, .int .i64 6]) (by simp [results, Tryz.f24, go_sem]) rfl ?_
          exact RLocOut.stay (HB3.out.trans (HB7.out.mono HB3.out.size)) HM.out
        · rw [h1]
          have HLG2 := Aside0.mk (show locGo f.units 0 path = locGo f.units t (path.drop (j + 1)) by
            rw [HLG.out, List.drop_eq_getElem_cons hlt, ← HPW.out]; exact locGo_yes h4)
          have hql : q < (kids f.units hN).length := (List.getElem?_eq_some_iff.1 h2).1
          have hqz : (q : Int) < ((kids f.units hN).length : Int) := by omega
          have hq0 : decide ((q : Int) < 0) = false := decide_eq_false (by omega)
          obtain ⟨ak, hak, k0⟩ := at_int_nat (Kd.C_below (Kd.R_reads' HR6.out).2.2 hd7.below) q hql
          subst hak
          rw [show (kids f.units hN).getD q 0 = (t : Int) by rw [List.getD_eq_getElem?_getD, h2]; rfl] at k0
          have HJW := Aside0.mk (show wrap64 ((j : Int) + 1) = ((j + 1 : Nat) : Int) by have hpl := (HPR.out _ HB3.out).2.1; unfold wrap64; omega)
          clear h1 h2 h4 hd7
          go_wp2_with fail
          go_roundw
          case rel => exact ⟨t, j + 1, rfl, by rw [HJW.out], by omega, h3, HB7, HLG2⟩
          case measure => (rw [HJW.out]; simp [intOf]; omega)
      · have hltz : ¬ (j : Int) < (path.length : Int) := by omega
        obtain rfl : path.length = j := by omega
        have HLG2 := Aside0.mk (show locGo f.units 0 path = some hN by rw [HLG.out, List.drop_length]; rfl)
        rcases HDN.out with rfl | rfl
        · have HM := Aside0.mk (show mLocate st u n path = ((hN : Int), 0) by unfold mLocate; rw [HMO.out]; simp only [HLG2.out]; rfl)
          go_wp2
          refine bodyPost_ret (v := .tuple #[.int .i64 (hN : Int), .int .i64 0]) (by simp [results, Tryz.f24, go_sem]) rfl ?_
          exact RLocOut.stay (HB3.out.trans (HBW.out.mono HB3.out.size)) HM.out
        · have HM := Aside0.mk (show mLocate st u n path = (0, 12) by unfold mLocate; rw [HMO.out]; simp only [HLG2.out]; rfl)
          go_wp2
          refine bodyPost_ret (v := .tuple #[.int .i64 0, .int .i64 12]) (by simp [results, Tryz.f24, go_sem]) rfl ?_
          exact RLocOut.stay (HB3.out.trans (HBW.out.mono HB3.out.size)) HM.out
end Go.Proofs.YtehlmkgldcfciaaGreat.Files
/- What is always so stays so, whatever is done. -/
set_option linter.unusedVariables false
set_option linter.unusedSimpArgs false
namespace Go.Proofs.YtehlmkgldcfciaaGreat.Files
open Go.Proofs.YtehlmkgldcfciaaGreat.Common Go.Maps Go.ChangeMaps Go.WideMaps Go.Proofs.YtehlmkgldcfciaaGreat.F
open Go.RowKit Go.Proofs.YtehlmkgldcfciaaGreatW.PrintWords Go.Proofs.YtehlmkgldcfciaaGreatW.PrintLast Go.Proofs.YtehlmkgldcfciaaGreatW.PrintMore
structure GInv (c : Nat) (f : AF) : Prop where
  name : 1 ≤ f.F.name.size ∧ f.F.name.size ≤ 30
  users : (f.users.map (fun p => p.1.data.toList)).Nodup
  count : f.users.length ≤ c
  uok : ∀ p ∈ f.users, userB p.1 = true
  v : VOk f.units f.F.kind
  rules : f.rules.length ≤ 10
theorem GInv.F {c : Nat} {f : AF} (h : GInv c f) : FInv c f := ⟨h.name, h.v.uok, h.v.data, h.users, h.count⟩
structure TInv (c : Nat) (st : Fs) : Prop where
  files : ∀ f ∈ st, GInv c f
  count : st.length ≤ 30
theorem TInv.S {c : Nat} {st : Fs} (h : TInv c st) : SInv c st := ⟨fun f hf => (h.files f hf).F, h.count⟩
theorem TInv.nil (c : Nat) : TInv c [] := ⟨fun f hf => (by cases hf), by simp⟩
theorem GInv.mono {c c' : Nat} {f : AF} (h : GInv c f) (hc : c ≤ c') : GInv c' f := ⟨h.name, h.users, Nat.le_trans h.count hc, h.uok, h.v, h.rules⟩
theorem TInv.mono {c c' : Nat} {st : Fs} (h : TInv c st) (hc : c ≤ c') : TInv c' st := ⟨fun f hf => (h.files f hf).mono hc, h.count⟩
theorem TInv.set {c : Nat} {st : Fs} (h : TInv c st) (k : Nat) {f : AF} (hf : GInv c f) : TInv c (st.set k f) :=
  ⟨fun g hg => by
    rcases List.mem_or_eq_of_mem_set hg with h1 | h1
    · exact h.files g h1
    · rw [h1]; exact hf, by rw [List.length_set]; exact h.count⟩
theorem TInv.filter {c : Nat} {st : Fs} (h : TInv c st) (p : AF → Bool) : TInv c (st.filter p) :=
  ⟨fun g hg => h.files g (List.mem_filter.1 hg).1, Nat.le_trans (List.length_filter_le _ _) h.count⟩
theorem TInv.at_ {c : Nat} {st : Fs} (h : TInv c st) {k : Nat} {f : AF} (hk : st[k]? = some f) : GInv c f := h.files f (List.mem_of_getElem? hk)
theorem GInv.units {c : Nat} {f : AF} (h : GInv c f) (u : ByteArray) {l : List S29} (hl : VOk l f.F.kind) : GInv c { f with F := f.F.noted u, units := l } := ⟨h.name, h.users, h.count, h.uok, hl, h.rules⟩
theorem opened_at {st : Fs} {u n : ByteArray} {action : Int} {k : Nat} {f : AF} {dn : Int} (h : mOpened st u n action = .ok (k, f, dn)) : st[k]? = some f := by
  unfold mOpened at h
  cases hf : mFound st u n with
  | error E => rw [hf] at h; cases h
  | ok p =>
    obtain ⟨k', f'⟩ := p
    rw [hf] at h
    simp only at h
    cases hl : lookU f'.users u with
    | none => rw [hl] at h; cases h
    | some q =>
      obtain ⟨ac, ex⟩ := q
      rw [hl] at h
      injection h with h
      injection h with h1 h
      injection h with h2 h3
      subst h1 h2
      exact (found_ok hf).2.2.1
theorem unit_at {st : Fs} {u n : ByteArray} {at_ action : Int} {k i : Nat} {f : AF} {dn : Int} (h : mUnit st u n at_ action = .ok (k, f, i, dn)) : st[k]? = some f ∧ i < f.units.length := by
  unfold mUnit at h
  by_cases h0 : at_ < 0
  · rw [if_pos h0] at h; cases h
  · rw [if_neg h0] at h
    cases ho : mOpened st u n action with
    | error E' => rw [ho] at h; cases h
    | ok p =>
      obtain ⟨k', f', dn'⟩ := p
      rw [ho] at h
      simp only at h
      by_cases hl : (f'.units.length : Int) ≤ at_
      · rw [if_pos hl] at h; cases h
      · rw [if_neg hl] at h
        injection h with h
        injection h with h1 h
        injection h with h2 h
        injection h with h3 h4
        subst h1 h2
        exact ⟨opened_at ho, by omega⟩
section keep
variable {c : Nat} {st : Fs}
theorem inv_Create (h : TInv c st) (u n : ByteArray) (kind perm : Int) : TInv c (mCreate st u n kind perm).2 := by
  unfold mCreate
  by_cases h1 : createB u n kind perm = false
  · rw [if_pos h1]; exact h
  rw [if_neg h1]
  by_cases h2 : (posF st n).isSome
  · rw [if_pos h2]; exact h
  rw [if_neg h2]
  by_cases h3 : 30 ≤ st.length
  · rw [if_pos h3]; exact h
  rw [if_neg h3]
  obtain ⟨b1, b2, b3, b4⟩ := createB_parts (show createB u n kind perm = true by simpa using h1)
  refine ⟨fun f hf => ?_, ?_⟩
  · rcases List.mem_append.1 hf with hf | hf
    · exact h.files f hf
    · obtain rfl := List.mem_singleton.1 hf
      exact ⟨nameB_iff.1 b2, List.nodup_nil, Nat.zero_le _, fun p hp => (by cases hp), VOk.one kind b3, Nat.zero_le _⟩
  · show (st ++ [newF u n kind perm]).length ≤ 30
    simp
    omega
theorem inv_Delete (h : TInv c st) (u n : ByteArray) : TInv c (mDelete st u n).2 := by
  unfold mDelete
  cases hf : mFound st u n with
  | error E => exact h
  | ok p =>
    obtain ⟨k, f⟩ := p
    simp only
    split
    · exact h
    · split
      · exact h
      · exact h.filter _
theorem inv_Open (h : TInv c st) (u n : ByteArray) (a x : Int) : TInv (c + 1) (mOpen st u n a x).2 := by
  have h' := h.mono (Nat.le_succ c)
  unfold mOpen
  split
  · exact h'
  · cases hf : mFound st u n with
    | error E => exact h'
    | ok p =>
      obtain ⟨k, f⟩ := p
      simp only
      by_cases hl : (lookU f.users u).isSome
      · rw [if_pos hl]; exact h'
      rw [if_neg hl]
      split
      · exact h'
      · split
        · obtain ⟨hu, hn, hk, hnm⟩ := found_ok hf
          have hi := h.at_ hk
          have hl' : lookU f.users u = none := by simpa using hl
          have ho := hi.F.opened u a x hl'
          refine h'.set k ⟨hi.name, ho.users, ho.count, fun p hp => ?_, hi.v, hi.rules⟩
          rcases List.mem_append.1 hp with hp | hp
          · exact hi.uok p hp
          · obtain rfl := List.mem_singleton.1 hp
            exact userB_iff.2 hu
        · exact h'
theorem inv_Close (h : TInv c st) (u n : ByteArray) : TInv c (mClose st u n).2 := by
  unfold mClose
  cases hf : mFound st u n with
  | error E => exact h
  | ok p =>
    obtain ⟨k, f⟩ := p
    simp only
    have hi := h.at_ (found_ok hf).2.2.1
    cases hl : lookU f.users u with
    | none => exact h
    | some q =>
      have ho := hi.F.closed u
      exact h.set k ⟨hi.name, ho.users, ho.count, fun p hp => hi.uok p (List.mem_filter.1 hp).1, hi.v, hi.rules⟩
theorem inv_Read (h : TInv c st) (u n : ByteArray) (at_ : Int) (whole : Bool) : TInv c (mRead st u n at_ whole).2.2 := by
  unfold mRead
  cases hf : mUnit st u n at_ 1 with
  | error E => exact h
  | ok p =>
    obtain ⟨k, f, i, dn⟩ := p
    simp only
    have hi := h.at_ (unit_at hf).1
    split
    · exact h.set k ⟨hi.name, hi.users, hi.count, hi.uok, hi.v, hi.rules⟩
    · exact h
theorem inv_Insert (h : TInv c st) (u n : ByteArray) (at_ : Int) (child : Bool) (a b : ByteArray) : TInv c (mInsert st u n at_ child a b).2 := by
  unfold mInsert
  by_cases h1 : (decide (a.size ≤ 30) && decide (b.size ≤ 400)) = false
  · rw [if_pos h1]; exact h
  rw [if_neg h1]
  have hab : a.size ≤ 30 ∧ b.size ≤ 400 := by simpa using h1
  cases hf : mUnit st u n at_ 2 with
  | error E => exact h
  | ok p =>
    obtain ⟨k, f, i, dn⟩ := p
    simp only
    obtain ⟨hk, hil⟩ := unit_at hf
    have hi := h.at_ hk
    by_cases hbad : insBad f.F.kind (insLev f.units i child) = true
    · rw [if_pos hbad]; exact h
    rw [if_neg hbad]
    by_cases hs : clashB f.units (kids f.units (aboveOf f.units (insLev f.units i child) i)) a = true ∨ dn = 12 ∨ 100 ≤ f.units.length
    · rw [if_pos hs]; exact h
    rw [if_neg hs]
    exact h.set k (hi.units u (hi.v.ins hil hab.1 hab.2 (by simpa using hbad) (by
      cases e : clashB f.units (kids f.units (aboveOf f.units (insLev f.units i child) i)) a with
      | false => rfl
      | true => exact absurd (.inl e) hs) (Nat.lt_of_not_le fun e => hs (.inr (.inr e)))))
theorem inv_Replace (h : TInv c st) (u n : ByteArray) (at_ : Int) (d : ByteArray) : TInv c (mReplace st u n at_ d).2 := by
  unfold mReplace
  by_cases h1 : 400 < d.size
  · rw [if_pos h1]; exact h
  rw [if_neg h1]
  cases hf : mUnit st u n at_ 4 with
  | error E => exact h
  | ok p =>
    obtain ⟨k, f, i, dn⟩ := p
    simp only
    obtain ⟨hk, hil⟩ := unit_at hf
    have hi := h.at_ hk
    split
    · exact h.set k (hi.units u (hi.v.withData hil (by omega)))
    · exact h
theorem inv_Extend (h : TInv c st) (u n : ByteArray) (at_ : Int) (d : ByteArray) : TInv c (mExtend st u n at_ d).2 := by
  unfold mExtend
  by_cases h1 : 400 < d.size
  · rw [if_pos h1]; exact h
  rw [if_neg h1]
  cases hf : mUnit st u n at_ 8 with
  | error E => exact h
  | ok p =>
    obtain ⟨k, f, i, dn⟩ := p
    simp only
    obtain ⟨hk, hil⟩ := unit_at hf
    have hi := h.at_ hk
    split
    · by_cases h2 : 400 < (rd_T29 f.units (i : Int)).f1.size + d.size
      · rw [if_pos h2]; exact h
      · rw [if_neg h2]
        exact h.set k (hi.units u (hi.v.withData hil (by rw [ByteArray.size_append]; omega)))
    · exact h
theorem inv_Erase (h : TInv c st) (u n : ByteArray) (at_ : Int) : TInv c (mErase st u n at_).2 := by
  unfold mErase
  cases hf : mUnit st u n at_ 16 with
  | error E => exact h
  | ok p =>
    obtain ⟨k, f, i, dn⟩ := p
    simp only
    obtain ⟨hk, hil⟩ := unit_at hf
    have hi := h.at_ hk
    split
    · refine h.set k (hi.units u ?_)
      by_cases h0 : i = 0
      · rw [if_pos h0]; exact VOk.one _ hi.v.k0
      · rw [if_neg h0]; exact hi.v.era hil h0
    · exact h
theorem inv_Change (h : TInv c st) (u n : ByteArray) (perm : Int) (rules : List S100) : TInv c (mChange st u n perm rules).2 := by
  unfold mChange
  by_cases hok : changeOk perm rules = false
  · rw [if_pos hok]; exact h
  · rw [if_neg hok]
    obtain ⟨_, hr10, _⟩ := changeOk_parts (show changeOk perm rules = true by simpa using hok)
    cases hf : mOpened st u n 64 with
    | error E => exact h
    | ok p =>
      obtain ⟨k, f, dn⟩ := p
      simp only
      have hi := h.at_ (opened_at hf)
      split
      · exact h.set k ⟨hi.name, hi.users, hi.count, hi.uok, hi.v, hr10⟩
      · exact h
end keep
end Go.Proofs.YtehlmkgldcfciaaGreat.Files
/- What is always so of both stores, plainly: the root's name is empty, no two files have one name. -/
set_option linter.unusedVariables false
set_option linter.unusedSimpArgs false
namespace Go.Proofs.YtehlmkgldcfciaaGreat.Files
open Go.Proofs.YtehlmkgldcfciaaGreat.Common Go.Maps Go.ChangeMaps Go.WideMaps Go.Proofs.YtehlmkgldcfciaaGreat.F
open Go.RowKit Go.Proofs.YtehlmkgldcfciaaGreatW.PrintWords Go.Proofs.YtehlmkgldcfciaaGreatW.PrintLast Go.Proofs.YtehlmkgldcfciaaGreatW.PrintMore
structure XInv (st : Fs) : Prop where
  root : ∀ f ∈ st, nm f.units 0 = ⟨#[]⟩
  names : (st.map (·.key)).Nodup
section
variable {st : Fs} {c : Nat}
theorem XInv.nil : XInv [] := ⟨fun f hf => (by cases hf), List.nodup_nil⟩
theorem XInv.set (h : XInv st) {k : Nat} {f f' : AF} (hk : st[k]? = some f) (hkey : f'.key = f.key) (hr : nm f'.units 0 = ⟨#[]⟩) : XInv (st.set k f') := by
  refine ⟨fun g hg => ?_, ?_⟩
  · rcases List.mem_or_eq_of_mem_set hg with h1 | h1
    · exact h.root g h1
    · rw [h1]; exact hr
  · have e : (st.set k f').map (·.key) = st.map (·.key) := by
      rw [List.map_set, hkey]
      apply List.ext_getElem?
      intro i
      rw [List.getElem?_set]
      by_cases hi : k = i
      · subst hi
        rw [if_pos rfl, List.getElem?_map, hk]
        have := (List.getElem?_eq_some_iff.1 hk).1
        simp [this]
      · rw [if_neg hi]
    rw [e]
    exact h.names
theorem XInv.filter (h : XInv st) (p : AF → Bool) : XInv (st.filter p) :=
  ⟨fun g hg => h.root g (List.mem_filter.1 hg).1, (List.Pairwise.sublist (List.Sublist.map _ List.filter_sublist) h.names : _)⟩
theorem XInv.at_ (h : XInv st) {k : Nat} {f : AF} (hk : st[k]? = some f) : nm f.units 0 = ⟨#[]⟩ := h.root f (List.mem_of_getElem? hk)
theorem x_Create (h : XInv st) (u n : ByteArray) (kind perm : Int) : XInv (mCreate st u n kind perm).2 := by
  unfold mCreate
  by_cases h1 : createB u n kind perm = false
  · rw [if_pos h1]; exact h
  rw [if_neg h1]
  by_cases h2 : (posF st n).isSome
  · rw [if_pos h2]; exact h
  rw [if_neg h2]
  by_cases h3 : 30 ≤ st.length
  · rw [if_pos h3]; exact h
  rw [if_neg h3]
  have hno := posF_none (st := st) (n := n) (by simpa using h2)
  refine ⟨fun f hf => ?_, ?_⟩
  · rcases List.mem_append.1 hf with hf | hf
    · exact h.root f hf
    · obtain rfl := List.mem_singleton.1 hf
      rfl
  · show ((st ++ [newF u n kind perm]).map (·.key)).Nodup
    rw [List.map_append]
    refine List.nodup_append.2 ⟨h.names, by simp, fun a ha b hb => ?_⟩
    obtain ⟨f, hf, rfl⟩ := List.mem_map.1 ha
    obtain rfl := List.mem_singleton.1 hb
    intro e
    refine hno f hf ?_
    have e2 : f.F.name.data.toList = n.data.toList := e
    exact ByteArray.ext (Array.ext' e2)
theorem x_Delete (h : XInv st) (u n : ByteArray) : XInv (mDelete st u n).2 := by
  unfold mDelete
  cases hf : mFound st u n with
  | error E => exact h
  | ok p =>
    simp only
    split
    · exact h
    · split
      · exact h
      · exact h.filter _
theorem x_Open (h : XInv st) (u n : ByteArray) (a x : Int) : XInv (mOpen st u n a x).2 := by
  unfold mOpen
  split
  · exact h
  · cases hf : mFound st u n with
    | error E => exact h
    | ok p =>
      obtain ⟨k, f⟩ := p
      simp only
      have hk := (found_ok hf).2.2.1
      split
      · exact h
      · split
        · exact h
        · split
          · exact h.set hk rfl (show nm f.units 0 = _ from h.at_ hk)
          · exact h
theorem x_Close (h : XInv st) (u n : ByteArray) : XInv (mClose st u n).2 := by
  unfold mClose
  cases hf : mFound st u n with
  | error E => exact h
  | ok p =>
    obtain ⟨k, f⟩ := p
    simp only
    have hk := (found_ok hf).2.2.1
    cases hl : lookU f.users u with
    | none => exact h
    | some q => exact h.set hk rfl (show nm f.units 0 = _ from h.at_ hk)
theorem x_Read (h : XInv st) (u n : ByteArray) (at_ : Int) (whole : Bool) : XInv (mRead st u n at_ whole).2.2 := by
  unfold mRead
  cases hf : mUnit st u n at_ 1 with
  | error E => exact h
  | ok p =>
    obtain ⟨k, f, i, dn⟩ := p
    simp only
    have hk := (unit_at hf).1
    split
    · exact h.set hk rfl (show nm f.units 0 = _ from h.at_ hk)
    · exact h
theorem x_Insert (h : XInv st) (u n : ByteArray) (at_ : Int) (child : Bool) (a b : ByteArray) : XInv (mInsert st u n at_ child a b).2 := by
  unfold mInsert
  by_cases h1 : (decide (a.size ≤ 30) && decide (b.size ≤ 400)) = false
  · rw [if_pos h1]; exact h
  rw [if_neg h1]
  cases hf : mUnit st u n at_ 2 with
  | error E => exact h
  | ok p =>
    obtain ⟨k, f, i, dn⟩ := p
    simp only
    obtain ⟨hk, hil⟩ := unit_at hf
    by_cases hbad : insBad f.F.kind (insLev f.units i child) = true
    · rw [if_pos hbad]; exact h
    rw [if_neg hbad]
    split
    · exact h
    · refine h.set hk rfl ?_
      have he := endOf_le hil
      have := h.at_ hk
      unfold nm at this ⊢
      show (rd_T29 (f.units.take (endOf f.units i) ++ _ :: f.units.drop (endOf f.units i)) ((0 : Nat) : Int)).f0 = _
      rw [rd_ins _ _ _ he.2, if_pos (by omega)]
      exact this
theorem x_data (h : XInv st) {k i : Nat} {f : AF} (hk : st[k]? = some f) (hil : i < f.units.length) (u d : ByteArray) : XInv (st.set k (f.data u i d)) := by
  refine h.set hk rfl ?_
  have := h.at_ hk
  unfold nm at this ⊢
  show (rd_T29 (withData f.units i d) ((0 : Nat) : Int)).f0 = _
  rw [rd_data _ _ _ hil]
  split
  · rename_i e
    rw [← e]; exact this
  · exact this
theorem x_Replace (h : XInv st) (u n : ByteArray) (at_ : Int) (d : ByteArray) : XInv (mReplace st u n at_ d).2 := by
  unfold mReplace
  split
  · exact h
  cases hf : mUnit st u n at_ 4 with
  | error E => exact h
  | ok p =>
    obtain ⟨k, f, i, dn⟩ := p
    simp only
    obtain ⟨hk, hil⟩ := unit_at hf
    split
    · exact x_data h hk hil u d
    · exact h
theorem x_Extend (h : XInv st) (u n : ByteArray) (at_ : Int) (d : ByteArray) : XInv (mExtend st u n at_ d).2 := by
  unfold mExtend
  split
  · exact h
  cases hf : mUnit st u n at_ 8 with
  | error E => exact h
  | ok p =>
    obtain ⟨k, f, i, dn⟩ := p
    simp only
    obtain ⟨hk, hil⟩ := unit_at hf
    split
    · split
      · exact h
      · exact x_data h hk hil u _
    · exact h
theorem x_Erase (h : XInv st) (u n : ByteArray) (at_ : Int) : XInv (mErase st u n at_).2 := by
  unfold mErase
  cases hf : mUnit st u n at_ 16 with
  | error E => exact h
  | ok p =>
    obtain ⟨k, f, i, dn⟩ := p
    simp only
    obtain ⟨hk, hil⟩ := unit_at hf
    split
    · refine h.set hk rfl ?_
      show nm (if i = 0 then [z29] else f.units.take i ++ f.units.drop (endOf f.units i)) 0 = _
      by_cases h0 : i = 0
      · rw [if_pos h0]; rfl
      · rw [if_neg h0]
        have := h.at_ hk
        unfold nm at this ⊢
        show (rd_T29 _ ((0 : Nat) : Int)).f0 = _
        rw [rd_era _ _ _ (by omega), if_pos (by omega)]
        exact this
    · exact h
theorem x_Change (h : XInv st) (u n : ByteArray) (perm : Int) (rules : List S100) : XInv (mChange st u n perm rules).2 := by
  unfold mChange
  split
  · exact h
  · cases hf : mOpened st u n 64 with
    | error E => exact h
    | ok p =>
      obtain ⟨k, f, dn⟩ := p
      simp only
      have hk := opened_at hf
      split
      · exact h.set hk rfl (show nm f.units 0 = _ from h.at_ hk)
      · exact h
theorem RInv.of (h : TInv c st) (hx : XInv st) (hc : c ≤ 1000) : RInv st :=
  ⟨fun f hf => ⟨(h.files f hf).v.uok, (h.files f hf).v.data, hx.root f hf, (h.files f hf).v.steps⟩, fun f hf => ⟨Nat.le_trans (h.files f hf).count hc, (h.files f hf).users⟩, fun f hf => (h.files f hf).rules, hx.names, h.count, fun f hf => (h.files f hf).v.k0⟩
end
end Go.Proofs.YtehlmkgldcfciaaGreat.Files
/- The reference's store: Info. -/
set_option linter.unusedVariables false
set_option linter.unusedSimpArgs false
namespace Go.Proofs.YtehlmkgldcfciaaGreat.Files
open Go.Proofs.YtehlmkgldcfciaaGreat.Common Go.Maps Go.ChangeMaps Go.WideMaps Go.Proofs.YtehlmkgldcfciaaGreat.F
open Go.RowKit Go.Proofs.YtehlmkgldcfciaaGreatW.PrintWords Go.Proofs.YtehlmkgldcfciaaGreatW.PrintLast Go.Proofs.YtehlmkgldcfciaaGreatW.PrintMore
theorem Chg.next {w x : World} {S : Nat → Prop} (h : Chg w x S) (p : Addr) (u : Value) (hS : S p.block) : Chg w (x.setCell p u) S := h.trans (Chg.of_set x p u (S := S) hS) (fun _ h => .inl h)
theorem fill8 {w : World} {b ty : Nat} {c0 c1 c2 c3 c4 c5 c6 c7 : Value} (h : w.heap[b]? = some (.cells #[c0, c1, c2, c3, c4, c5, c6, c7] ty (0, 0))) (v0 v1 v2 v3 v4 v5 v6 v7 : Value) : ∃ X, X = ((((((((w.setCell ⟨b, 0, none⟩ v0).setCell ⟨b, 1, none⟩ v1).setCell ⟨b, 2, none⟩ v2).setCell ⟨b, 3, none⟩ v3).setCell ⟨b, 4, none⟩ v4).setCell ⟨b, 5, none⟩ v5).setCell ⟨b, 6, none⟩ v6).setCell ⟨b, 7, none⟩ v7) ∧ X.heap[b]? = some (.cells #[v0, v1, v2, v3, v4, v5, v6, v7] ty (0, 0)) ∧ Chg w X (fun q => q = b) := by
  have h0 : (w.setCell ⟨b, 0, none⟩ v0).heap[b]? = some (.cells #[v0, c1, c2, c3, c4, c5, c6, c7] ty (0, 0)) := blk_set h 0 v0
  have k0 : Chg w (w.setCell ⟨b, 0, none⟩ v0) (fun q => q = b) := Chg.of_set w _ _ rfl
  generalize w.setCell ⟨b, 0, none⟩ v0 = w0 at h0 k0 ⊢
  have h1 : (w0.setCell ⟨b, 1, none⟩ v1).heap[b]? = some (.cells #[v0, v1, c2, c3, c4, c5, c6, c7] ty (0, 0)) := blk_set h0 1 v1
  have k1 : Chg w (w0.setCell ⟨b, 1, none⟩ v1) (fun q => q = b) := k0.next _ _ rfl
  generalize w0.setCell ⟨b, 1, none⟩ v1 = w1 at h1 k1 ⊢
  have h2 : (w1.setCell ⟨b, 2, none⟩ v2).heap[b]? = some (.cells #[v0, v1, v2, c3, c4, c5, c6, c7] ty (0, 0)) := blk_set h1 2 v2
  have k2 : Chg w (w1.setCell ⟨b, 2, none⟩ v2) (fun q => q = b) := k1.next _ _ rfl
  generalize w1.setCell ⟨b, 2, none⟩ v2 = w2 at h2 k2 ⊢
  have h3 : (w2.setCell ⟨b, 3, none⟩ v3).heap[b]? = some (.cells #[v0, v1, v2, v3, c4, c5, c6, c7] ty (0, 0)) := blk_set h2 3 v3
  have k3 : Chg w (w2.setCell ⟨b, 3, none⟩ v3) (fun q => q = b) := k2.next _ _ rfl
  generalize w2.setCell ⟨b, 3, none⟩ v3 = w3 at h3 k3 ⊢
  have h4 : (w3.setCell ⟨b, 4, none⟩ v4).heap[b]? = some (.cells #[v0, v1, v2, v3, v4, c5, c6, c7] ty (0, 0)) := blk_set h3 4 v4
  have k4 : Chg w (w3.setCell ⟨b, 4, none⟩ v4) (fun q => q = b) := k3.next _ _ rfl
  generalize w3.setCell ⟨b, 4, none⟩ v4 = w4 at h4 k4 ⊢
  have h5 : (w4.setCell ⟨b, 5, none⟩ v5).heap[b]? = some (.cells #[v0, v1, v2, v3, v4, v5, c6, c7] ty (0, 0)) := blk_set h4 5 v5
  have k5 : Chg w (w4.setCell ⟨b, 5, none⟩ v5) (fun q => q = b) := k4.next _ _ rfl
  generalize w4.setCell ⟨b, 5, none⟩ v5 = w5 at h5 k5 ⊢
  have h6 : (w5.setCell ⟨b, 6, none⟩ v6).heap[b]? = some (.cells #[v0, v1, v2, v3, v4, v5, v6, c7] ty (0, 0)) := blk_set h5 6 v6
  have k6 : Chg w (w5.setCell ⟨b, 6, none⟩ v6) (fun q => q = b) := k5.next _ _ rfl
  generalize w5.setCell ⟨b, 6, none⟩ v6 = w6 at h6 k6 ⊢
  have h7 : (w6.setCell ⟨b, 7, none⟩ v7).heap[b]? = some (.cells #[v0, v1, v2, v3, v4, v5, v6, v7] ty (0, 0)) := blk_set h6 7 v7
  have k7 : Chg w (w6.setCell ⟨b, 7, none⟩ v7) (fun q => q = b) := k6.next _ _ rfl
  generalize w6.setCell ⟨b, 7, none⟩ v7 = w7 at h7 k7 ⊢
  exact ⟨_, rfl, h7, k7⟩
def noFS : FS := ⟨⟨#[]⟩, 0, 0, ⟨#[]⟩, ⟨#[]⟩, 0, 0⟩
def infoOf (f : AF) (g : Int) : FS × List S100 := if g = 0 then (⟨f.F.name, f.F.kind, f.F.perm, ⟨#[]⟩, ⟨#[]⟩, 0, 0⟩, []) else if g = 1 then (⟨⟨#[]⟩, 0, 0, f.F.owner, f.F.last, f.F.ch, f.F.rd⟩, []) else (noFS, f.rules)
def mInfo (st : Fs) (u n : ByteArray) (g : Int) : (FS × List S100) × Int := if g < 0 ∨ 2 < g then ((noFS, []), 1) else match mOpened st u n 32 with
  | .error E => ((noFS, []), E)
  | .ok (_, f, dn) => if dn = 0 then (infoOf f g, 0) else ((noFS, []), dn)
def infoV (x : FS) (v : Value) : Value := .agg #[.string x.name, .int .i64 x.kind, .int .i64 x.perm, .string x.owner, .string x.last, .int .i64 x.ch, .int .i64 x.rd, v]
def RInfoOut (W : World) (r : (FS × List S100) × Int) (e : Ending) (w' : World) : Prop := ∃ v, e = .returned (.tuple #[infoV r.1.1 v, .int .i64 r.2]) ∧ Below W.heap.size W w' ∧ Kd.R k129 129 w' W.heap.size (fun _ => True) v (r.1.2.map toRu)
theorem RInfoOut.stay {W w' : World} {E : Int} {F : FS} {r : (FS × List S100) × Int} (hb : Below W.heap.size W w') (hr : r = ((F, []), E)) : RInfoOut W r (.returned (.tuple #[infoV F (.slice none 0 0), .int .i64 E])) w' := by
  subst hr
  exact ⟨_, rfl, hb, Kd.R_nil _ _ _ _ _⟩
theorem below_fill {W w X : World} (h : Below W.heap.size W w) (hc : Chg w X (fun q => q = W.heap.size)) : Below W.heap.size W X := h.trans (hc.below h.size (fun k hk => by omega))
set_option maxRecDepth 100000 in
set_option maxHeartbeats 4000000 in
theorem rInfo_c (rb c : Nat) (ok : Nat → Prop) (st : Fs) (A : Option Addr) (u n : ByteArray) (gr : Int) (W : World) (h : RParts W ok rb st A c) (hI : RInv st) :
    Calls Tryz.prog 39 #[.pointer (some ⟨rb, 0, none⟩), .string u, .string n, .int .i64 gr] W (RInfoOut W (mInfo st u n gr)) := by
  have HBX := Aside0.mk (show Below W.heap.size W (W.alloc (.cells #[.string ⟨#[]⟩, .int .i64 0, .int .i64 0, .string ⟨#[]⟩, .string ⟨#[]⟩, .int .i64 0, .int .i64 0, .slice none 0 0] 71)) from (Below.refl _ _).alloc (Nat.le_refl _) _)
  have HKX := Aside0.mk (show (W.alloc (.cells #[.string ⟨#[]⟩, .int .i64 0, .int .i64 0, .string ⟨#[]⟩, .string ⟨#[]⟩, .int .i64 0, .int .i64 0, .slice none 0 0] 71)).heap[W.heap.size]? = some (.cells #[.string ⟨#[]⟩, .int .i64 0, .int .i64 0, .string ⟨#[]⟩, .string ⟨#[]⟩, .int .i64 0, .int .i64 0, .slice none 0 0] 71 (0, 0)) by simpa using heap_alloc_new W _)
  have C56 := Aside0.mk (rbad_c rb u n (W.alloc (.cells #[.string ⟨#[]⟩, .int .i64 0, .int .i64 0, .string ⟨#[]⟩, .string ⟨#[]⟩, .int .i64 0, .int .i64 0, .slice none 0 0] 71)) (h.below HBX.out).c0)
  have CB := Aside0.mk (begin_c rb c ok st A u n (W.alloc (.cells #[.string ⟨#[]⟩, .int .i64 0, .int .i64 0, .string ⟨#[]⟩, .string ⟨#[]⟩, .int .i64 0, .int .i64 0, .slice none 0 0] 71)) (h.below HBX.out))
  cases hbad : (userB u && nameB n) with
  | false =>
    rw [hbad] at C56
    have HM := Aside0.mk (show mInfo st u n gr = ((noFS, []), 1) by unfold mInfo; split <;> first | rfl | rw [mOpened_bad hbad])
    clear h hbad CB 
    go_enter Tryz.func39, Tryz.ntmps39
    go_wp2_with first | (go_at_call 56; refine C56.out.mono ?_; rintro e w' ⟨rfl, rfl⟩)
    refine bodyPost_ret (v := .tuple #[infoV noFS (.slice none 0 0), .int .i64 1]) (by unfold infoV noFS; simp [results, Tryz.f39, go_sem]; try rfl) rfl ?_
    exact RInfoOut.stay HBX.out HM.out
  | true =>
   rw [hbad] at C56
   by_cases hr : gr < 0
   · have g1 : decide (gr < 0) = true := decide_eq_true hr
     have HM := Aside0.mk (show mInfo st u n gr = ((noFS, []), 1) by unfold mInfo; rw [if_pos (.inl hr)])
     clear h hbad CB hr
     go_enter Tryz.func39, Tryz.ntmps39
     go_wp2_with first | (go_at_call 56; refine C56.out.mono ?_; rintro e w' ⟨rfl, rfl⟩)
     refine bodyPost_ret (v := .tuple #[infoV noFS (.slice none 0 0), .int .i64 1]) (by unfold infoV noFS; simp [results, Tryz.f39, go_sem]; try rfl) rfl ?_
     exact RInfoOut.stay HBX.out HM.out
   have g1 : decide (gr < 0) = false := decide_eq_false hr
   by_cases hr2 : 2 < gr
   · have g2 : decide (2 < gr) = true := decide_eq_true hr2
     have HM := Aside0.mk (show mInfo st u n gr = ((noFS, []), 1) by unfold mInfo; rw [if_pos (.inr hr2)])
     clear h hbad CB hr hr2
     go_enter Tryz.func39, Tryz.ntmps39
     go_wp2_with first | (go_at_call 56; refine C56.out.mono ?_; rintro e w' ⟨rfl, rfl⟩)
     refine bodyPost_ret (v := .tuple #[infoV noFS (.slice none 0 0), .int .i64 1]) (by unfold infoV noFS; simp [results, Tryz.f39, go_sem]; try rfl) rfl ?_
     exact RInfoOut.stay HBX.out HM.out
   have g2 : decide (2 < gr) = false := decide_eq_false hr2
   have HMI := Aside0.mk (show mInfo st u n gr = _ from if_neg (by omega))
   cases hB : mBegin st u n with
   | error E =>
     rw [hB] at CB
     have hE := mBegin_E hB
     have HM := Aside0.mk (show mInfo st u n gr = ((noFS, []), E) by rw [HMI.out, mOpened_err hbad hB 32])
     clear h hbad hB hr hr2
     go_enter Tryz.func39, Tryz.ntmps39
     go_wp2_with first | (go_at_call 56; refine C56.out.mono ?_; rintro e w' ⟨rfl, rfl⟩)
     refine CB.out.mono ?_
     rintro e w2 ⟨hb2, rfl⟩
     have HB2 := Aside0.mk (HBX.out.trans (hb2.mono HBX.out.size))
     have HK2 := Aside0.mk ((hb2.block W.heap.size (by simp)).trans HKX.out)
     clear hb2
     have x0 := (blk_cell HK2.out 0).trans (show _ = some (Value.string ⟨#[]⟩) from rfl)
     have x1 := (blk_cell HK2.out 1).trans (show _ = some (Value.int .i64 0) from rfl)
     have x2 := (blk_cell HK2.out 2).trans (show _ = some (Value.int .i64 0) from rfl)
     have x3 := (blk_cell HK2.out 3).trans (show _ = some (Value.string ⟨#[]⟩) from rfl)
     have x4 := (blk_cell HK2.out 4).trans (show _ = some (Value.string ⟨#[]⟩) from rfl)
     have x5 := (blk_cell HK2.out 5).trans (show _ = some (Value.int .i64 0) from rfl)
     have x6 := (blk_cell HK2.out 6).trans (show _ = some (Value.int .i64 0) from rfl)
     have x7 := (blk_cell HK2.out 7).trans (show _ = some (Value.slice none 0 0) from rfl)
     have y0 := blk_frozen HK2.out 0
     have y1 := blk_frozen HK2.out 1
     have y2 := blk_frozen HK2.out 2
     have y3 := blk_frozen HK2.out 3
     have y4 := blk_frozen HK2.out 4
     have y5 := blk_frozen HK2.out 5
     have y6 := blk_frozen HK2.out 6
     have y7 := blk_frozen HK2.out 7
     go_wp2
     obtain ⟨X9, hX9, hK9, hC9⟩ := fill8 HK2.out (.string ⟨#[]⟩) (.int .i64 0) (.int .i64 0) (.string ⟨#[]⟩) (.string ⟨#[]⟩) (.int .i64 0) (.int .i64 0) (.slice none 0 0)
     rw [← hX9]
     have HC9 := Aside0.mk hC9
     clear x0 y0 x1 y1 x2 y2 x3 y3 x4 y4 x5 y5 x6 y6 x7 y7
     have x0 := (blk_cell hK9 0).trans (show _ = some (Value.string ⟨#[]⟩) from rfl)
     have x1 := (blk_cell hK9 1).trans (show _ = some (Value.int .i64 0) from rfl)
     have x2 := (blk_cell hK9 2).trans (show _ = some (Value.int .i64 0) from rfl)
     have x3 := (blk_cell hK9 3).trans (show _ = some (Value.string ⟨#[]⟩) from rfl)
     have x4 := (blk_cell hK9 4).trans (show _ = some (Value.string ⟨#[]⟩) from rfl)
     have x5 := (blk_cell hK9 5).trans (show _ = some (Value.int .i64 0) from rfl)
     have x6 := (blk_cell hK9 6).trans (show _ = some (Value.int .i64 0) from rfl)
     have x7 := (blk_cell hK9 7).trans (show _ = some (Value.slice none 0 0) from rfl)
     clear hX9 hK9 hC9
     refine bodyPost_ret (v := .tuple #[infoV noFS (.slice none 0 0), .int .i64 E]) (by unfold infoV; simp [noFS, results, Tryz.f39, go_sem, x0, x1, x2, x3, x4, x5, x6, x7]) rfl ?_
     exact RInfoOut.stay (below_fill HB2.out HC9.out) HM.out
   | ok p =>
     obtain ⟨k, f, a⟩ := p
     rw [hB] at CB
     obtain ⟨hk, hnm⟩ := mBegin_at hB
     have HMO := Aside0.mk (mOpened_ok hbad hB 32)
     have R0 := Aside0.mk h
     have HKK := Aside0.mk hk
     have HG := Aside0.mk (show 0 ≤ gr ∧ gr ≤ 2 by omega)
     have HRL := Aside0.mk (hI.rules f (List.mem_of_getElem? hk))
     clear h hbad hB hk hnm hr hr2
     rcases denied_cases a 32 with hd0 | hd12
     · have gW : decide (bits .and .i64 32 a = 32) = true := by rw [within_den a 32 5 (by decide) rfl, hd0]; rfl
       have HM0 := Aside0.mk (show mInfo st u n gr = (infoOf f gr, 0) by rw [HMI.out, HMO.out]; simp only [hd0, if_pos])
       clear hd0
       by_cases h0 : gr = 0
       · subst h0
         have HM := Aside0.mk (show mInfo st u n 0 = ((⟨f.F.name, f.F.kind, f.F.perm, ⟨#[]⟩, ⟨#[]⟩, 0, 0⟩, []), 0) by rw [HM0.out]; rfl)
         go_enter Tryz.func39, Tryz.ntmps39
         go_wp2_with first | (go_at_call 56; refine C56.out.mono ?_; rintro e w' ⟨rfl, rfl⟩)
         refine CB.out.mono ?_
         rintro e w2 ⟨hb2, rfl⟩
         have HB2 := Aside0.mk (HBX.out.trans (hb2.mono HBX.out.size))
         have HK2 := Aside0.mk ((hb2.block W.heap.size (by simp)).trans HKX.out)
         clear hb2
         have T2 := R0.out.row HKK.out
         obtain ⟨g, Ar, cr, Au, cu, Ao, co, T⟩ := (R0.out.below HB2.out).row HKK.out
         have hil : k < st.length := (List.getElem?_eq_some_iff.1 HKK.out).1
         have hlz : (k : Int) < (st.length : Int) := by omega
         have hk0 : decide ((k : Int) < 0) = false := decide_eq_false (by omega)
         have cc1 := (R0.out.below HB2.out).c1
         have hA := T.hA
         subst hA
         obtain ⟨n0, n1, n2, n3, n4, n5, n6, n7, _, _⟩ := T.x
         have HTR := Aside0.mk T.In.r
         have HRD := Aside0.mk (fun x (hb : Below w2.heap.size w2 x) => (show Kd.C k129 x Ar f.rules.length (f.rules.map toRu) by have h := (Kd.R_reads' (Kd.R_below HTR.out hb)).2.2; rwa [List.length_map] at h))
         have HX3 := Aside0.mk (show Below w2.heap.size w2 (w2.alloc (.cells #[.string f.F.name, .int .i64 f.F.kind, .int .i64 f.F.perm, .string f.F.owner, .string f.F.last, .int .i64 f.F.ch, .int .i64 f.F.rd, .slice Ar f.rules.length cr] 71)) from (Below.refl _ _).alloc (Nat.le_refl _) _)
         have HK3 := Aside0.mk ((HX3.out.block W.heap.size (blk_lt HK2.out)).trans HK2.out)
         have HI3 := Aside0.mk (heap_alloc_new w2 (.cells #[.string f.F.name, .int .i64 f.F.kind, .int .i64 f.F.perm, .string f.F.owner, .string f.F.last, .int .i64 f.F.ch, .int .i64 f.F.rd, .slice Ar f.rules.length cr] 71))
         have HB3 := Aside0.mk (HB2.out.trans (HX3.out.mono HB2.out.size))
         have hrl := HRL.out
         clear T T2
         have x0 := (blk_cell HK3.out 0).trans (show _ = some (Value.string ⟨#[]⟩) from rfl)
         have x1 := (blk_cell HK3.out 1).trans (show _ = some (Value.int .i64 0) from rfl)
         have x2 := (blk_cell HK3.out 2).trans (show _ = some (Value.int .i64 0) from rfl)
         have x3 := (blk_cell HK3.out 3).trans (show _ = some (Value.string ⟨#[]⟩) from rfl)
         have x4 := (blk_cell HK3.out 4).trans (show _ = some (Value.string ⟨#[]⟩) from rfl)
         have x5 := (blk_cell HK3.out 5).trans (show _ = some (Value.int .i64 0) from rfl)
         have x6 := (blk_cell HK3.out 6).trans (show _ = some (Value.int .i64 0) from rfl)
         have x7 := (blk_cell HK3.out 7).trans (show _ = some (Value.slice none 0 0) from rfl)
         have y0 := blk_frozen HK3.out 0
         have y1 := blk_frozen HK3.out 1
         have y2 := blk_frozen HK3.out 2
         have y3 := blk_frozen HK3.out 3
         have y4 := blk_frozen HK3.out 4
         have y5 := blk_frozen HK3.out 5
         have y6 := blk_frozen HK3.out 6
         have y7 := blk_frozen HK3.out 7
         go_wp2_with fail
         refine (rwithin_c 32 a _).mono ?_
         rintro e w' ⟨rfl, rfl⟩
         go_wp2
         obtain ⟨X9, hX9, hK9, hC9⟩ := fill8 HK3.out (.string f.F.name) (.int .i64 f.F.kind) (.int .i64 f.F.perm) (.string ⟨#[]⟩) (.string ⟨#[]⟩) (.int .i64 0) (.int .i64 0) (.slice none 0 0)
         rw [← hX9]
         have HC9 := Aside0.mk hC9
         clear x0 y0 x1 y1 x2 y2 x3 y3 x4 y4 x5 y5 x6 y6 x7 y7
         have x0 := (blk_cell hK9 0).trans (show _ = some (Value.string f.F.name) from rfl)
         have x1 := (blk_cell hK9 1).trans (show _ = some (Value.int .i64 f.F.kind) from rfl)
         have x2 := (blk_cell hK9 2).trans (show _ = some (Value.int .i64 f.F.perm) from rfl)
         have x3 := (blk_cell hK9 3).trans (show _ = some (Value.string ⟨#[]⟩) from rfl)
         have x4 := (blk_cell hK9 4).trans (show _ = some (Value.string ⟨#[]⟩) from rfl)
         have x5 := (blk_cell hK9 5).trans (show _ = some (Value.int .i64 0) from rfl)
         have x6 := (blk_cell hK9 6).trans (show _ = some (Value.int .i64 0) from rfl)
         have x7 := (blk_cell hK9 7).trans (show _ = some (Value.slice none 0 0) from rfl)
         clear hX9 hK9 hC9
         refine bodyPost_ret (v := .tuple #[infoV ⟨f.F.name, f.F.kind, f.F.perm, ⟨#[]⟩, ⟨#[]⟩, 0, 0⟩ (.slice none 0 0), .int .i64 0]) (by unfold infoV; simp [noFS, results, Tryz.f39, go_sem, x0, x1, x2, x3, x4, x5, x6, x7]) rfl ?_
         exact RInfoOut.stay (below_fill HB3.out HC9.out) HM.out
       have t0 : (gr == 0) = false := by simpa using h0
       by_cases h1 : gr = 1
       · subst h1
         have HM := Aside0.mk (show mInfo st u n 1 = ((⟨⟨#[]⟩, 0, 0, f.F.owner, f.F.last, f.F.ch, f.F.rd⟩, []), 0) by rw [HM0.out]; rfl)
         go_enter Tryz.func39, Tryz.ntmps39
         go_wp2_with first | (go_at_call 56; refine C56.out.mono ?_; rintro e w' ⟨rfl, rfl⟩)
         refine CB.out.mono ?_
         rintro e w2 ⟨hb2, rfl⟩
         have HB2 := Aside0.mk (HBX.out.trans (hb2.mono HBX.out.size))
         have HK2 := Aside0.mk ((hb2.block W.heap.size (by simp)).trans HKX.out)
         clear hb2
         have T2 := R0.out.row HKK.out
         obtain ⟨g, Ar, cr, Au, cu, Ao, co, T⟩ := (R0.out.below HB2.out).row HKK.out
         have hil : k < st.length := (List.getElem?_eq_some_iff.1 HKK.out).1
         have hlz : (k : Int) < (st.length : Int) := by omega
         have hk0 : decide ((k : Int) < 0) = false := decide_eq_false (by omega)
         have cc1 := (R0.out.below HB2.out).c1
         have hA := T.hA
         subst hA
         obtain ⟨n0, n1, n2, n3, n4, n5, n6, n7, _, _⟩ := T.x
         have HTR := Aside0.mk T.In.r
         have HRD := Aside0.mk (fun x (hb : Below w2.heap.size w2 x) => (show Kd.C k129 x Ar f.rules.length (f.rules.map toRu) by have h := (Kd.R_reads' (Kd.R_below HTR.out hb)).2.2; rwa [List.length_map] at h))
         have HX3 := Aside0.mk (show Below w2.heap.size w2 (w2.alloc (.cells #[.string f.F.name, .int .i64 f.F.kind, .int .i64 f.F.perm, .string f.F.owner, .string f.F.last, .int .i64 f.F.ch, .int .i64 f.F.rd, .slice Ar f.rules.length cr] 71)) from (Below.refl _ _).alloc (Nat.le_refl _) _)
         have HK3 := Aside0.mk ((HX3.out.block W.heap.size (blk_lt HK2.out)).trans HK2.out)
         have HI3 := Aside0.mk (heap_alloc_new w2 (.cells #[.string f.F.name, .int .i64 f.F.kind, .int .i64 f.F.perm, .string f.F.owner, .string f.F.last, .int .i64 f.F.ch, .int .i64 f.F.rd, .slice Ar f.rules.length cr] 71))
         have HB3 := Aside0.mk (HB2.out.trans (HX3.out.mono HB2.out.size))
         have hrl := HRL.out
         clear T T2
         have x0 := (blk_cell HK3.out 0).trans (show _ = some (Value.string ⟨#[]⟩) from rfl)
         have x1 := (blk_cell HK3.out 1).trans (show _ = some (Value.int .i64 0) from rfl)
         have x2 := (blk_cell HK3.out 2).trans (show _ = some (Value.int .i64 0) from rfl)
         have x3 := (blk_cell HK3.out 3).trans (show _ = some (Value.string ⟨#[]⟩) from rfl)
         have x4 := (blk_cell HK3.out 4).trans (show _ = some (Value.string ⟨#[]⟩) from rfl)
         have x5 := (blk_cell HK3.out 5).trans (show _ = some (Value.int .i64 0) from rfl)
         have x6 := (blk_cell HK3.out 6).trans (show _ = some (Value.int .i64 0) from rfl)
         have x7 := (blk_cell HK3.out 7).trans (show _ = some (Value.slice none 0 0) from rfl)
         have y0 := blk_frozen HK3.out 0
         have y1 := blk_frozen HK3.out 1
         have y2 := blk_frozen HK3.out 2
         have y3 := blk_frozen HK3.out 3
         have y4 := blk_frozen HK3.out 4
         have y5 := blk_frozen HK3.out 5
         have y6 := blk_frozen HK3.out 6
         have y7 := blk_frozen HK3.out 7
         go_wp2_with fail
         refine (rwithin_c 32 a _).mono ?_
         rintro e w' ⟨rfl, rfl⟩
         go_wp2
         obtain ⟨X9, hX9, hK9, hC9⟩ := fill8 HK3.out (.string ⟨#[]⟩) (.int .i64 0) (.int .i64 0) (.string f.F.owner) (.string f.F.last) (.int .i64 f.F.ch) (.int .i64 f.F.rd) (.slice none 0 0)
         rw [← hX9]
         have HC9 := Aside0.mk hC9
         clear x0 y0 x1 y1 x2 y2 x3 y3 x4 y4 x5 y5 x6 y6 x7 y7
         have x0 := (blk_cell hK9 0).trans (show _ = some (Value.string ⟨#[]⟩) from rfl)
         have x1 := (blk_cell hK9 1).trans (show _ = some (Value.int .i64 0) from rfl)
         have x2 := (blk_cell hK9 2).trans (show _ = some (Value.int .i64 0) from rfl)
         have x3 := (blk_cell hK9 3).trans (show _ = some (Value.string f.F.owner) from rfl)
         have x4 := (blk_cell hK9 4).trans (show _ = some (Value.string f.F.last) from rfl)
         have x5 := (blk_cell hK9 5).trans (show _ = some (Value.int .i64 f.F.ch) from rfl)
         have x6 := (blk_cell hK9 6).trans (show _ = some (Value.int .i64 f.F.rd) from rfl)
         have x7 := (blk_cell hK9 7).trans (show _ = some (Value.slice none 0 0) from rfl)
         clear hX9 hK9 hC9
         refine bodyPost_ret (v := .tuple #[infoV ⟨⟨#[]⟩, 0, 0, f.F.owner, f.F.last, f.F.ch, f.F.rd⟩ (.slice none 0 0), .int .i64 0]) (by unfold infoV; simp [noFS, results, Tryz.f39, go_sem, x0, x1, x2, x3, x4, x5, x6, x7]) rfl ?_
         exact RInfoOut.stay (below_fill HB3.out HC9.out) HM.out
       have t1 : (gr == 1) = false := by simpa using h1
       obtain rfl : gr = 2 := by have := HG.out; omega
       have HM := Aside0.mk (show mInfo st u n 2 = ((noFS, f.rules), 0) by rw [HM0.out]; rfl)
       go_enter Tryz.func39, Tryz.ntmps39
       go_wp2_with first | (go_at_call 56; refine C56.out.mono ?_; rintro e w' ⟨rfl, rfl⟩)
       refine CB.out.mono ?_
       rintro e w2 ⟨hb2, rfl⟩
       have HB2 := Aside0.mk (HBX.out.trans (hb2.mono HBX.out.size))
       have HK2 := Aside0.mk ((hb2.block W.heap.size (by simp)).trans HKX.out)
       clear hb2
       have T2 := R0.out.row HKK.out
       obtain ⟨g, Ar, cr, Au, cu, Ao, co, T⟩ := (R0.out.below HB2.out).row HKK.out
       have hil : k < st.length := (List.getElem?_eq_some_iff.1 HKK.out).1
       have hlz : (k : Int) < (st.length : Int) := by omega
       have hk0 : decide ((k : Int) < 0) = false := decide_eq_false (by omega)
       have cc1 := (R0.out.below HB2.out).c1
       have hA := T.hA
       subst hA
       obtain ⟨n0, n1, n2, n3, n4, n5, n6, n7, _, _⟩ := T.x
       have HTR := Aside0.mk T.In.r
       have HRD := Aside0.mk (fun x (hb : Below w2.heap.size w2 x) => (show Kd.C k129 x Ar f.rules.length (f.rules.map toRu) by have h := (Kd.R_reads' (Kd.R_below HTR.out hb)).2.2; rwa [List.length_map] at h))
       have HX3 := Aside0.mk (show Below w2.heap.size w2 (w2.alloc (.cells #[.string f.F.name, .int .i64 f.F.kind, .int .i64 f.F.perm, .string f.F.owner, .string f.F.last, .int .i64 f.F.ch, .int .i64 f.F.rd, .slice Ar f.rules.length cr] 71)) from (Below.refl _ _).alloc (Nat.le_refl _) _)
       have HK3 := Aside0.mk ((HX3.out.block W.heap.size (blk_lt HK2.out)).trans HK2.out)
       have HI3 := Aside0.mk (heap_alloc_new w2 (.cells #[.string f.F.name, .int .i64 f.F.kind, .int .i64 f.F.perm, .string f.F.owner, .string f.F.last, .int .i64 f.F.ch, .int .i64 f.F.rd, .slice Ar f.rules.length cr] 71))
       have HB3 := Aside0.mk (HB2.out.trans (HX3.out.mono HB2.out.size))
       have hrl := HRL.out
       clear T T2
       go_wp2_with fail
       refine (rwithin_c 32 a _).mono ?_
       rintro e w' ⟨rfl, rfl⟩
       go_wp2_with (first
         | ((with_reducible refine gate_dst (N := 72) rfl ?_); refine Kd.R_lit k129 (w0 := W) W.heap.size 129 ?hg (N := 72) ?hd (xs := ([] : List S129)) (inner := []) (ok := (fun q => W.heap.size < q)) (okp := (fun q => W.heap.size < q)) ?hr ?hp (fun _ hk => hk) ?hfr_ HB3.out HB3.out.size (by simp) ?_; (case hd => rfl); (case hg => rfl); (case hr => first | (go_simp; done) | (go_simp; rfl)); (case hp => exact (Reps.none _ _)); (case hfr_ => exact blk_lt HK3.out); intro v4 x4 ho hb hgr hfr; have HB4 := Aside0.mk hb; have HK4 := Aside0.mk ((hgr.block W.heap.size (blk_lt HK3.out) (by simp)).trans HK3.out); have HX4 := Aside0.mk (HX3.out.trans (((Chg.of_grown hgr (S := fun _ => False) (fun _ e => by cases e)).below0 (fun _ h => h)).mono HX3.out.size)); have i7 := (blk_cell ((hgr.block w2.heap.size (by simp) (by simp)).trans HI3.out) 7).trans (show _ = some (Value.slice Ar f.rules.length cr) from rfl); have HO4 := Aside0.mk ho; have HN4 := Aside0.mk (fun q (h : v4.ownBlock = some q) (e : q = W.heap.size) => (show False by obtain ⟨b_, h1, h2⟩ := hfr; rw [h1] at h; injection h with h; have := blk_lt HK3.out; omega)); clear ho hb hgr hfr)
         | ((with_reducible refine gate_builtin (b := .append) (xs := #[.tmp 72, .tmp 74]) rfl ?_); at_builtin; refine Kd.R_append_rows k129 (Rr := k129.K x4) (w0 := W) W.heap.size rfl (.tmp 72) (.tmp 74) 69 129 (.agg #[.string ⟨#[]⟩, .int .i64 0]) 24 rfl Tryz.underlying69 (by kernel_rfl) rfl (by decide) (by omega) v4 [] (f.rules.map toRu) Ar f.rules.length cr (fun q => W.heap.size < q) (fun _ => False) rfl rfl HO4.out (HRD.out _ HX4.out) (fun x cs h => by rw [k129_open h]; exact k129_mkM _ _ _ _) (fun _ h => h.elim) (fun q hq => Nat.lt_of_lt_of_le (blk_lt HK4.out) hq) HB4.out HB4.out.size (by first | omega | (simp only [List.length_nil]; omega)) ?_; intro v5 x5 ho hb hgr hfr; rw [List.nil_append] at ho; obtain ⟨A5, c5, hv5⟩ := Kd.R_slice ho; rw [List.length_map] at hv5; subst hv5; have HB5 := Aside0.mk hb; have HK5 := Aside0.mk ((hgr.block W.heap.size (blk_lt HK4.out) (fun e => HN4.out _ e.symm rfl)).trans HK4.out); have HO5 := Aside0.mk ho; have x0 := (blk_cell HK5.out 0).trans (show _ = some (Value.string ⟨#[]⟩) from rfl); have x1 := (blk_cell HK5.out 1).trans (show _ = some (Value.int .i64 0) from rfl); have x2 := (blk_cell HK5.out 2).trans (show _ = some (Value.int .i64 0) from rfl); have x3 := (blk_cell HK5.out 3).trans (show _ = some (Value.string ⟨#[]⟩) from rfl); have x4 := (blk_cell HK5.out 4).trans (show _ = some (Value.string ⟨#[]⟩) from rfl); have x5 := (blk_cell HK5.out 5).trans (show _ = some (Value.int .i64 0) from rfl); have x6 := (blk_cell HK5.out 6).trans (show _ = some (Value.int .i64 0) from rfl); have x7 := (blk_cell HK5.out 7).trans (show _ = some (Value.slice none 0 0) from rfl); have y0 := blk_frozen HK5.out 0; have y1 := blk_frozen HK5.out 1; have y2 := blk_frozen HK5.out 2; have y3 := blk_frozen HK5.out 3; have y4 := blk_frozen HK5.out 4; have y5 := blk_frozen HK5.out 5; have y6 := blk_frozen HK5.out 6; have y7 := blk_frozen HK5.out 7; clear ho hb hgr hfr))
       obtain ⟨X9, hX9, hK9, hC9⟩ := fill8 HK5.out (.string ⟨#[]⟩) (.int .i64 0) (.int .i64 0) (.string ⟨#[]⟩) (.string ⟨#[]⟩) (.int .i64 0) (.int .i64 0) (.slice A5 f.rules.length c5)
       rw [← hX9]
       have HC9 := Aside0.mk hC9
       clear x0 y0 x1 y1 x2 y2 x3 y3 x4 y4 x5 y5 x6 y6 x7 y7
       have x0 := (blk_cell hK9 0).trans (show _ = some (Value.string ⟨#[]⟩) from rfl)
       have x1 := (blk_cell hK9 1).trans (show _ = some (Value.int .i64 0) from rfl)
       have x2 := (blk_cell hK9 2).trans (show _ = some (Value.int .i64 0) from rfl)
       have x3 := (blk_cell hK9 3).trans (show _ = some (Value.string ⟨#[]⟩) from rfl)
       have x4 := (blk_cell hK9 4).trans (show _ = some (Value.string ⟨#[]⟩) from rfl)
       have x5 := (blk_cell hK9 5).trans (show _ = some (Value.int .i64 0) from rfl)
       have x6 := (blk_cell hK9 6).trans (show _ = some (Value.int .i64 0) from rfl)
       have x7 := (blk_cell hK9 7).trans (show _ = some (Value.slice A5 f.rules.length c5) from rfl)
       clear hX9 hK9 hC9
       refine bodyPost_ret (v := .tuple #[infoV noFS (.slice A5 f.rules.length c5), .int .i64 0]) (by unfold infoV; simp [noFS, results, Tryz.f39, go_sem, x0, x1, x2, x3, x4, x5, x6, x7]) rfl ?_
       exact ⟨_, by rw [HM.out], below_fill HB5.out HC9.out, by rw [HM.out]; exact Kd.R_mono (HC9.out.row HO5.out (fun q hq e => by omega)) (fun _ _ => trivial)⟩
     · have gW : decide (bits .and .i64 32 a = 32) = false := by rw [within_den a 32 5 (by decide) rfl, hd12]; rfl
       have HM := Aside0.mk (show mInfo st u n gr = ((noFS, []), 12) by rw [HMI.out, HMO.out]; simp only [hd12]; rfl)
       clear hd12
       go_enter Tryz.func39, Tryz.ntmps39
       go_wp2_with first | (go_at_call 56; refine C56.out.mono ?_; rintro e w' ⟨rfl, rfl⟩)
       refine CB.out.mono ?_
       rintro e w2 ⟨hb2, rfl⟩
       have HB2 := Aside0.mk (HBX.out.trans (hb2.mono HBX.out.size))
       have HK2 := Aside0.mk ((hb2.block W.heap.size (by simp)).trans HKX.out)
       clear hb2
       have x0 := (blk_cell HK2.out 0).trans (show _ = some (Value.string ⟨#[]⟩) from rfl)
       have x1 := (blk_cell HK2.out 1).trans (show _ = some (Value.int .i64 0) from rfl)
       have x2 := (blk_cell HK2.out 2).trans (show _ = some (Value.int .i64 0) from rfl)
       have x3 := (blk_cell HK2.out 3).trans (show _ = some (Value.string ⟨#[]⟩) from rfl)
       have x4 := (blk_cell HK2.out 4).trans (show _ = some (Value.string ⟨#[]⟩) from rfl)
       have x5 := (blk_cell HK2.out 5).trans (show _ = some (Value.int .i64 0) from rfl)
       have x6 := (blk_cell HK2.out 6).trans (show _ = some (Value.int .i64 0) from rfl)
       have x7 := (blk_cell HK2.out 7).trans (show _ = some (Value.slice none 0 0) from rfl)
       have y0 := blk_frozen HK2.out 0
       have y1 := blk_frozen HK2.out 1
       have y2 := blk_frozen HK2.out 2
       have y3 := blk_frozen HK2.out 3
       have y4 := blk_frozen HK2.out 4
       have y5 := blk_frozen HK2.out 5
       have y6 := blk_frozen HK2.out 6
       have y7 := blk_frozen HK2.out 7
       go_wp2_with fail
       refine (rwithin_c 32 a _).mono ?_
       rintro e w' ⟨rfl, rfl⟩
       go_wp2
       obtain ⟨X9, hX9, hK9, hC9⟩ := fill8 HK2.out (.string ⟨#[]⟩) (.int .i64 0) (.int .i64 0) (.string ⟨#[]⟩) (.string ⟨#[]⟩) (.int .i64 0) (.int .i64 0) (.slice none 0 0)
       rw [← hX9]
       have HC9 := Aside0.mk hC9
       clear x0 y0 x1 y1 x2 y2 x3 y3 x4 y4 x5 y5 x6 y6 x7 y7
       have x0 := (blk_cell hK9 0).trans (show _ = some (Value.string ⟨#[]⟩) from rfl)
       have x1 := (blk_cell hK9 1).trans (show _ = some (Value.int .i64 0) from rfl)
       have x2 := (blk_cell hK9 2).trans (show _ = some (Value.int .i64 0) from rfl)
       have x3 := (blk_cell hK9 3).trans (show _ = some (Value.string ⟨#[]⟩) from rfl)
       have x4 := (blk_cell hK9 4).trans (show _ = some (Value.string ⟨#[]⟩) from rfl)
       have x5 := (blk_cell hK9 5).trans (show _ = some (Value.int .i64 0) from rfl)
       have x6 := (blk_cell hK9 6).trans (show _ = some (Value.int .i64 0) from rfl)
       have x7 := (blk_cell hK9 7).trans (show _ = some (Value.slice none 0 0) from rfl)
       clear hX9 hK9 hC9
       refine bodyPost_ret (v := .tuple #[infoV noFS (.slice none 0 0), .int .i64 12]) (by unfold infoV; simp [noFS, results, Tryz.f39, go_sem, x0, x1, x2, x3, x4, x5, x6, x7]) rfl ?_
       exact RInfoOut.stay (below_fill HB2.out HC9.out) HM.out
end Go.Proofs.YtehlmkgldcfciaaGreat.Files
/- The file store: Info. -/
set_option linter.unusedVariables false
set_option linter.unusedSimpArgs false
namespace Go.Proofs.YtehlmkgldcfciaaGreat.Files
open Go.Proofs.YtehlmkgldcfciaaGreat.Common Go.Maps Go.ChangeMaps Go.WideMaps Go.Proofs.YtehlmkgldcfciaaGreat.F
open Go.RowKit Go.Proofs.YtehlmkgldcfciaaGreatW.PrintWords Go.Proofs.YtehlmkgldcfciaaGreatW.PrintLast Go.Proofs.YtehlmkgldcfciaaGreatW.PrintMore
def Inf.T9 : Bool × List (List Nat × List Nat) := (true, [([], []), ([0], [0]), ([], []), ([2], [2]), ([], []), ([4], [4]), ([1, 3, 5], [1, 3, 5]), ([], []), ([7], [7]), ([], []), ([9], [9]), ([], []), ([11], [11]), ([], []), ([13], [13]), ([8, 10, 12, 14], [8, 10, 12, 14]), ([], []), ([16], [16]), ([17], [17]), ([18], [18]), ([6, 15, 19], [6, 15, 19]), ([], []), ([20, 21], [20, 21]), ([22], [22]), ([23, 18, 0, 1, 2, 3, 4, 5, 6, 7, 8, 9, 10, 11, 12, 13, 14, 15, 16, 17, 18, 19, 20, 21, 22, 23], [23]), ([24, 0, 1, 2, 3, 4, 5, 6, 7, 8, 9, 10, 11, 12, 13, 14, 15, 16, 17, 18, 19, 20, 21, 22, 23, 24], [])])
def Inf.B9 : List Nat := [0, 1, 0, 4, 0, 16, 63, 0, 128, 0, 512, 0, 2048, 0, 8192, 32640, 0, 65536, 196608, 458752, 1048575, 0, 4194303, 8388607, 16777215, 33554431]
theorem Inf.tab9 : rtab .any (opsOf Tryz.f38 9) = Inf.T9 := by kernel_rfl
theorem Inf.bits9 : waitsOk Inf.T9.2 Inf.B9 = true := by kernel_rfl
def PInfoOut (W : World) (r : (FS × List S100) × Int) (e : Ending) (w' : World) : Prop := ∃ v, e = .returned (.tuple #[infoV r.1.1 v, .int .i64 r.2]) ∧ Below W.heap.size W w' ∧ Kd.R k100 100 w' W.heap.size (fun _ => True) v r.1.2
theorem PInfoOut.stay {W w' : World} {E : Int} {F : FS} {r : (FS × List S100) × Int} (hb : Below W.heap.size W w') (hr : r = ((F, []), E)) : PInfoOut W r (.returned (.tuple #[infoV F (.slice none 0 0), .int .i64 E])) w' := by
  subst hr
  exact ⟨_, rfl, hb, Kd.R_nil _ _ _ _ _⟩
theorem clone_rules (A : Option Addr) (c : Nat) (rules : List S100) (W : World) (hr : Kd.C k100 W A rules.length rules) (hl : rules.length * 24 ≤ 140737488355328) :
    Calls Tryz.prog 52 #[.slice A rules.length c] W fun e w' => ∃ A5 c5, e = .returned (.slice A5 rules.length c5) ∧ Kd.R k100 100 w' W.heap.size (fun _ => True) (.slice A5 rules.length c5) rules ∧ Below W.heap.size W w' := by
  obtain ⟨css, hcl, hcr, hck⟩ := C_raw hr
  refine (files_Rule_52.raw A c rules.length css W hcr hl).mono ?_
  rintro e w4 ⟨v, rfl, hr4, hb4⟩
  have hr5 : Kd.R k100 100 w4 W.heap.size (fun _ => True) v rules := R_of_raw (d := k100) hr4 hcl (fun j x cs hj hcs => by
    obtain ⟨c0, h0, hK⟩ := hck j x hj
    rw [hcs] at h0
    injection h0 with h0
    rw [h0, k100_open hK]
    exact k100_mkM _ _ _ x)
  obtain ⟨A5, c5, hv5⟩ := Kd.R_slice hr5
  subst hv5
  exact ⟨A5, c5, rfl, hr5, hb4⟩
set_option maxRecDepth 100000 in
set_option maxHeartbeats 4000000 in
theorem Info_denied (sp : Value) (u n : ByteArray) (gr : Int) (fb : Nat) (W : World) (h0 : 0 ≤ gr) (h2 : gr ≤ 2) (HO : OpenedOk W sp u n 32 fb 12) :
    Calls Tryz.prog 38 #[sp, .string u, .string n, .int .i64 gr] W (fun e w' => e = .returned (.tuple #[infoV noFS (.slice none 0 0), .int .i64 12]) ∧ Below W.heap.size W w') := by
  have g1 : decide (gr < 0) = false := decide_eq_false (by omega)
  have g2 : decide (2 < gr) = false := decide_eq_false (by omega)
  have hb0 : Below W.heap.size W (W.alloc (.cells #[.string ByteArray.empty, .int .i64 0, .int .i64 0, .string ByteArray.empty, .string ByteArray.empty, .int .i64 0, .int .i64 0, .slice none 0 0] 66)) := (Below.refl _ _).alloc (Nat.le_refl _) _
  have HB0 := Aside0.mk hb0
  have HBX := Aside0.mk (heap_alloc_new W (.cells #[.string ByteArray.empty, .int .i64 0, .int .i64 0, .string ByteArray.empty, .string ByteArray.empty, .int .i64 0, .int .i64 0, .slice none 0 0] 66))
  have CO := Aside0.mk (HO _ hb0)
  clear HO h0 h2 hb0
  go_enter Tryz.func38, Tryz.ntmps38
  go_wp2_with fail
  refine CO.out.mono ?_
  rintro e w2 ⟨rfl, hb2⟩
  have HK2 := Aside0.mk ((hb2.block _ (by simp)).trans HBX.out)
  have HB2 := Aside0.mk (HB0.out.trans (hb2.mono HB0.out.size))
  clear hb2
  have x0 := (blk_cell HK2.out 0).trans (show _ = some (Value.string ByteArray.empty) from rfl)
  have x1 := (blk_cell HK2.out 1).trans (show _ = some (Value.int .i64 0) from rfl)
  have x2 := (blk_cell HK2.out 2).trans (show _ = some (Value.int .i64 0) from rfl)
  have x3 := (blk_cell HK2.out 3).trans (show _ = some (Value.string ByteArray.empty) from rfl)
  have x4 := (blk_cell HK2.out 4).trans (show _ = some (Value.string ByteArray.empty) from rfl)
  have x5 := (blk_cell HK2.out 5).trans (show _ = some (Value.int .i64 0) from rfl)
  have x6 := (blk_cell HK2.out 6).trans (show _ = some (Value.int .i64 0) from rfl)
  have x7 := (blk_cell HK2.out 7).trans (show _ = some (Value.slice none 0 0) from rfl)
  have y0 := blk_frozen HK2.out 0
  have y1 := blk_frozen HK2.out 1
  have y2 := blk_frozen HK2.out 2
  have y3 := blk_frozen HK2.out 3
  have y4 := blk_frozen HK2.out 4
  have y5 := blk_frozen HK2.out 5
  have y6 := blk_frozen HK2.out 6
  have y7 := blk_frozen HK2.out 7
  go_wp2
  obtain ⟨X9, hX9, hK9, hC9⟩ := fill8 HK2.out (.string ⟨#[]⟩) (.int .i64 0) (.int .i64 0) (.string ⟨#[]⟩) (.string ⟨#[]⟩) (.int .i64 0) (.int .i64 0) (.slice none 0 0)
  rw [← hX9]
  have HC9 := Aside0.mk hC9
  clear x0 y0 x1 y1 x2 y2 x3 y3 x4 y4 x5 y5 x6 y6 x7 y7
  have x0 := (blk_cell hK9 0).trans (show _ = some (Value.string ⟨#[]⟩) from rfl)
  have x1 := (blk_cell hK9 1).trans (show _ = some (Value.int .i64 0) from rfl)
  have x2 := (blk_cell hK9 2).trans (show _ = some (Value.int .i64 0) from rfl)
  have x3 := (blk_cell hK9 3).trans (show _ = some (Value.string ⟨#[]⟩) from rfl)
  have x4 := (blk_cell hK9 4).trans (show _ = some (Value.string ⟨#[]⟩) from rfl)
  have x5 := (blk_cell hK9 5).trans (show _ = some (Value.int .i64 0) from rfl)
  have x6 := (blk_cell hK9 6).trans (show _ = some (Value.int .i64 0) from rfl)
  have x7 := (blk_cell hK9 7).trans (show _ = some (Value.slice none 0 0) from rfl)
  clear hX9 hK9 hC9
  refine bodyPost_ret (v := .tuple #[infoV noFS (.slice none 0 0), .int .i64 12]) (by unfold infoV; simp [noFS, results, Tryz.f38, go_sem, x0, x1, x2, x3, x4, x5, x6, x7]; try rfl) rfl ?_
  exact ⟨rfl, below_fill HB2.out HC9.out⟩
theorem pick3 {i : Nat} {B : Nat} (f : AF) (A5 : Option Addr) (c5 : Nat) (w : World) (hi : i < 3) (hr : Kd.R k100 100 w B (fun _ => True) (.slice A5 f.rules.length c5) f.rules) : ∃ s0 s3 s4 n1 n2 n5 n6 Ag lg cg, (∀ j u, (#[.string s0, .int .i64 n1, .int .i64 n2, .string s3, .string s4, .int .i64 n5, .int .i64 n6, .slice Ag lg cg] : Array Value)[j]? = some u → (#[.string f.F.name, .int .i64 f.F.kind, .int .i64 f.F.perm, .string ⟨#[]⟩, .string ⟨#[]⟩, .int .i64 0, .int .i64 0, .slice none 0 0, .string ⟨#[]⟩, .int .i64 0, .int .i64 0, .string f.F.owner, .string f.F.last, .int .i64 f.F.ch, .int .i64 f.F.rd, .slice none 0 0, .string ⟨#[]⟩, .int .i64 0, .int .i64 0, .string ⟨#[]⟩, .string ⟨#[]⟩, .int .i64 0, .int .i64 0, .slice A5 f.rules.length c5] : Array Value)[i * 8 + j]? = some u) ∧ (⟨s0, n1, n2, s3, s4, n5, n6⟩ : FS) = (infoOf f (i : Int)).1 ∧ Kd.R k100 100 w B (fun _ => True) (.slice Ag lg cg) (infoOf f (i : Int)).2 := by
  obtain rfl | rfl | rfl : i = 0 ∨ i = 1 ∨ i = 2 := by omega
  · refine ⟨f.F.name, ⟨#[]⟩, ⟨#[]⟩, f.F.kind, f.F.perm, 0, 0, none, 0, 0, fun j u h => ?_, rfl, Kd.R_nil _ _ _ _ _⟩
    rcases j with _ | _ | _ | _ | _ | _ | _ | _ | j
    all_goals first | exact h | simp at h
  · refine ⟨⟨#[]⟩, f.F.owner, f.F.last, 0, 0, f.F.ch, f.F.rd, none, 0, 0, fun j u h => ?_, rfl, Kd.R_nil _ _ _ _ _⟩
    rcases j with _ | _ | _ | _ | _ | _ | _ | _ | j
    all_goals first | exact h | simp at h
  · refine ⟨⟨#[]⟩, ⟨#[]⟩, ⟨#[]⟩, 0, 0, 0, 0, A5, _, c5, fun j u h => ?_, rfl, hr⟩
    rcases j with _ | _ | _ | _ | _ | _ | _ | _ | j
    all_goals first | exact h | simp at h
set_option maxRecDepth 100000 in
set_option maxHeartbeats 4000000 in
theorem Info_ok (sp : Value) (u n : ByteArray) (i fb rc ub : Nat) (f : AF) (A : Option Addr) (uv : Value) (DU : DataW Unit) (ok : Nat → Prop) (W : World) (hi : i < 3) (HO : OpenedOk W sp u n 32 fb 0) (P : FileParts W ok fb f A rc uv ub DU) (hrl : f.rules.length * 24 ≤ 140737488355328) :
    Calls Tryz.prog 38 #[sp, .string u, .string n, .int .i64 (i : Int)] W (PInfoOut W (infoOf f (i : Int), 0)) := by
  have hiz : (i : Int) < 3 := by omega
  have hi2 : decide ((2 : Int) < (i : Int)) = false := decide_eq_false (by omega)
  have hi0 : decide ((i : Int) < 0) = false := decide_eq_false (by omega)
  have hb0 : Below W.heap.size W (W.alloc (.cells #[.string ByteArray.empty, .int .i64 0, .int .i64 0, .string ByteArray.empty, .string ByteArray.empty, .int .i64 0, .int .i64 0, .slice none 0 0] 66)) := (Below.refl _ _).alloc (Nat.le_refl _) _
  have HB0 := Aside0.mk hb0
  have HBX := Aside0.mk (heap_alloc_new W (.cells #[.string ByteArray.empty, .int .i64 0, .int .i64 0, .string ByteArray.empty, .string ByteArray.empty, .int .i64 0, .int .i64 0, .slice none 0 0] 66))
  have CO := Aside0.mk (HO _ hb0)
  have HP := Aside0.mk P
  have HRL := Aside0.mk hrl
  clear HO hb0 P hrl
  go_enter Tryz.func38, Tryz.ntmps38
  go_wp2_with fail
  refine CO.out.mono ?_
  rintro e w2 ⟨rfl, hb2⟩
  have HK2 := Aside0.mk ((hb2.block _ (by simp)).trans HBX.out)
  have HB2 := Aside0.mk (HB0.out.trans (hb2.mono HB0.out.size))
  clear hb2
  have P2 := HP.out.below HB2.out
  have n0 := (blk_cell P2.F 0).trans (show _ = some (Value.string f.F.name) from rfl)
  have n1 := (blk_cell P2.F 1).trans (show _ = some (Value.int .i64 f.F.kind) from rfl)
  have n2 := (blk_cell P2.F 2).trans (show _ = some (Value.int .i64 f.F.perm) from rfl)
  have n3 := (blk_cell P2.F 3).trans (show _ = some (Value.string f.F.owner) from rfl)
  have n4 := (blk_cell P2.F 4).trans (show _ = some (Value.string f.F.last) from rfl)
  have n5 := (blk_cell P2.F 5).trans (show _ = some (Value.int .i64 f.F.ch) from rfl)
  have n6 := (blk_cell P2.F 6).trans (show _ = some (Value.int .i64 f.F.rd) from rfl)
  have n7 := (blk_cell P2.F 7).trans (show _ = some (Value.slice A f.rules.length rc) from rfl)
  have HP2 := Aside0.mk P2
  clear P2
  have HX3 := Aside0.mk (show Below w2.heap.size w2 (w2.alloc (.cells #[.string f.F.name, .int .i64 f.F.kind, .int .i64 f.F.perm, .string f.F.owner, .string f.F.last, .int .i64 f.F.ch, .int .i64 f.F.rd, .slice A f.rules.length rc] 66)) from (Below.refl _ _).alloc (Nat.le_refl _) _)
  have HI3 := Aside0.mk (heap_alloc_new w2 (.cells #[.string f.F.name, .int .i64 f.F.kind, .int .i64 f.F.perm, .string f.F.owner, .string f.F.last, .int .i64 f.F.ch, .int .i64 f.F.rd, .slice A f.rules.length rc] 66))
  go_wp2_with fail
  generalize w2.alloc (.cells #[.string f.F.name, .int .i64 f.F.kind, .int .i64 f.F.perm, .string f.F.owner, .string f.F.last, .int .i64 f.F.ch, .int .i64 f.F.rd, .slice A f.rules.length rc] 66) = w3 at HX3 HI3 ⊢
  have HK3 := Aside0.mk ((HX3.out.block W.heap.size (blk_lt HK2.out)).trans HK2.out)
  have HB3 := Aside0.mk (HB2.out.trans (HX3.out.mono HB2.out.size))
  have hz0 := (blk_cell HI3.out 0).trans (show _ = some (Value.string f.F.name) from rfl)
  have hz1 := (blk_cell HI3.out 1).trans (show _ = some (Value.int .i64 f.F.kind) from rfl)
  have hz2 := (blk_cell HI3.out 2).trans (show _ = some (Value.int .i64 f.F.perm) from rfl)
  have hz3 := (blk_cell HI3.out 3).trans (show _ = some (Value.string f.F.owner) from rfl)
  have hz4 := (blk_cell HI3.out 4).trans (show _ = some (Value.string f.F.last) from rfl)
  have hz5 := (blk_cell HI3.out 5).trans (show _ = some (Value.int .i64 f.F.ch) from rfl)
  have hz6 := (blk_cell HI3.out 6).trans (show _ = some (Value.int .i64 f.F.rd) from rfl)
  have hz7 := (blk_cell HI3.out 7).trans (show _ = some (Value.slice A f.rules.length rc) from rfl)
  have CC := Aside0.mk (fun X (hb : Below w3.heap.size w3 X) => clone_rules A rc f.rules X (Kd.C_below (Kd.C_below (Kd.R_reads' HP2.out.rules).2.2 HX3.out) hb) HRL.out)
  clear n0 n1 n2 n3 n4 n5 n6 n7
  refine start_ (n := 26) (S := fun w' => w'.cell? ⟨w2.heap.size, 0, none⟩ = some (.string f.F.name) ∧ w'.cell? ⟨w2.heap.size, 1, none⟩ = some (.int .i64 f.F.kind) ∧ w'.cell? ⟨w2.heap.size, 2, none⟩ = some (.int .i64 f.F.perm) ∧ w'.cell? ⟨w2.heap.size, 3, none⟩ = some (.string f.F.owner) ∧ w'.cell? ⟨w2.heap.size, 4, none⟩ = some (.string f.F.last) ∧ w'.cell? ⟨w2.heap.size, 5, none⟩ = some (.int .i64 f.F.ch) ∧ w'.cell? ⟨w2.heap.size, 6, none⟩ = some (.int .i64 f.F.rd) ∧ w'.cell? ⟨w2.heap.size, 7, none⟩ = some (.slice A f.rules.length rc)) (ds := [20, 23, 24]) #[false, false, false, false, false, false, false, false, false, false, false, false, false, false, false, false, false, false, false, false, false, false, false, false, false, false] (by kernel_rfl) rfl rfl ⟨hz0, hz1, hz2, hz3, hz4, hz5, hz6, hz7⟩ (fun hHeld => ?_)
  refine with_tabW Inf.tab9 Inf.bits9 (fun HT_ HW_ => ?_)
  have HWD := Aside0.mk (show Below w3.heap.size w3 w3.drew from (Below.refl _ _).drew)
  generalize w3.drew = wd at HWD hHeld ⊢
  refine pure_ (i := 0) (N := some 41) (v := ?_) (a' := ?_) #[true, false, false, false, false, false, false, false, false, false, false, false, false, false, false, false, false, false, false, false, false, false, false, false, false, false] rfl rfl (any_of HT_.out (by kernel_rfl)) (fun _ _ _ h => h) (Or.inl ⟨by rfl, ?_⟩) ?_ ?_
  rotate_left
  · intro w'
    go_simp
    with_reducible rfl
  rotate_left
  · simp only [Act.put, List.setIfInBounds_toArray, List.set_cons_zero, List.set_cons_succ, i64_w, i32_w]
    rfl
  refine pure_ (i := 2) (N := some 43) (v := ?_) (a' := ?_) #[true, false, true, false, false, false, false, false, false, false, false, false, false, false, false, false, false, false, false, false, false, false, false, false, false, false] rfl rfl (any_of HT_.out (by kernel_rfl)) (fun _ _ _ h => h) (Or.inl ⟨by rfl, ?_⟩) ?_ ?_
  rotate_left
  · intro w'
    go_simp
    with_reducible rfl
  rotate_left
  · simp only [Act.put, List.setIfInBounds_toArray, List.set_cons_zero, List.set_cons_succ, i64_w, i32_w]
    rfl
  refine pure_ (i := 4) (N := some 45) (v := ?_) (a' := ?_) #[true, false, true, false, true, false, false, false, false, false, false, false, false, false, false, false, false, false, false, false, false, false, false, false, false, false] rfl rfl (any_of HT_.out (by kernel_rfl)) (fun _ _ _ h => h) (Or.inl ⟨by rfl, ?_⟩) ?_ ?_
  rotate_left
  · intro w'
    go_simp
    with_reducible rfl
  rotate_left
  · simp only [Act.put, List.setIfInBounds_toArray, List.set_cons_zero, List.set_cons_succ, i64_w, i32_w]
    rfl
  refine pure_ (i := 7) (N := some 48) (v := ?_) (a' := ?_) #[true, false, true, false, true, false, false, true, false, false, false, false, false, false, false, false, false, false, false, false, false, false, false, false, false, false] rfl rfl (any_of HT_.out (by kernel_rfl)) (fun _ _ _ h => h) (Or.inl ⟨by rfl, ?_⟩) ?_ ?_
  rotate_left
  · intro w'
    go_simp
    with_reducible rfl
  rotate_left
  · simp only [Act.put, List.setIfInBounds_toArray, List.set_cons_zero, List.set_cons_succ, i64_w, i32_w]
    rfl
  refine pure_ (i := 9) (N := some 50) (v := ?_) (a' := ?_) #[true, false, true, false, true, false, false, true, false, true, false, false, false, false, false, false, false, false, false, false, false, false, false, false, false, false] rfl rfl (any_of HT_.out (by kernel_rfl)) (fun _ _ _ h => h) (Or.inl ⟨by rfl, ?_⟩) ?_ ?_
  rotate_left
  · intro w'
    go_simp
    with_reducible rfl
  rotate_left
  · simp only [Act.put, List.setIfInBounds_toArray, List.set_cons_zero, List.set_cons_succ, i64_w, i32_w]
    rfl
  refine pure_ (i := 11) (N := some 52) (v := ?_) (a' := ?_) #[true, false, true, false, true, false, false, true, false, true, false, true, false, false, false, false, false, false, false, false, false, false, false, false, false, false] rfl rfl (any_of HT_.out (by kernel_rfl)) (fun _ _ _ h => h) (Or.inl ⟨by rfl, ?_⟩) ?_ ?_
  rotate_left
  · intro w'
    go_simp
    with_reducible rfl
  rotate_left
  · simp only [Act.put, List.setIfInBounds_toArray, List.set_cons_zero, List.set_cons_succ, i64_w, i32_w]
    rfl
  refine pure_ (i := 13) (N := some 54) (v := ?_) (a' := ?_) #[true, false, true, false, true, false, false, true, false, true, false, true, false, true, false, false, false, false, false, false, false, false, false, false, false, false] rfl rfl (any_of HT_.out (by kernel_rfl)) (fun _ _ _ h => h) (Or.inl ⟨by rfl, ?_⟩) ?_ ?_
  rotate_left
  · intro w'
    go_simp
    with_reducible rfl
  rotate_left
  · simp only [Act.put, List.setIfInBounds_toArray, List.set_cons_zero, List.set_cons_succ, i64_w, i32_w]
    rfl
  refine pure_ (i := 16) (N := some 57) (v := ?_) (a' := ?_) #[true, false, true, false, true, false, false, true, false, true, false, true, false, true, false, false, true, false, false, false, false, false, false, false, false, false] rfl rfl (any_of HT_.out (by kernel_rfl)) (fun _ _ _ h => h) (Or.inl ⟨by rfl, ?_⟩) ?_ ?_
  rotate_left
  · intro w'
    go_simp
    with_reducible rfl
  rotate_left
  · simp only [Act.put, List.setIfInBounds_toArray, List.set_cons_zero, List.set_cons_succ, i64_w, i32_w]
    rfl
  refine pure_ (i := 21) (N := some 62) (v := ?_) (a' := ?_) #[true, false, true, false, true, false, false, true, false, true, false, true, false, true, false, false, true, false, false, false, false, true, false, false, false, false] rfl rfl (any_of HT_.out (by kernel_rfl)) (fun _ _ _ h => h) (Or.inl ⟨by rfl, ?_⟩) ?_ ?_
  rotate_left
  · intro w'
    go_simp
    with_reducible rfl
  rotate_left
  · simp only [Act.put, List.setIfInBounds_toArray, List.set_cons_zero, List.set_cons_succ, i64_w, i32_w]
    rfl
  refine take_ (i := 1) (N := some 42) (v := ?_) (a' := ?_) #[true, true, true, false, true, false, false, true, false, true, false, true, false, true, false, false, true, false, false, false, false, true, false, false, false, false] rfl rfl (take_ofW HT_.out HW_.out (by kernel_rfl)) (fun _ _ _ h => h) (Or.inl ⟨by rfl, ?_⟩) hHeld ?_ ?_
  rotate_left
  · rintro w' ⟨s0, s1, s2, s3, s4, s5, s6, s7⟩
    go_simp
    with_reducible rfl
  rotate_left
  · simp only [Act.put, List.setIfInBounds_toArray, List.set_cons_zero, List.set_cons_succ, i64_w, i32_w]
    rfl
  refine take_ (i := 3) (N := some 44) (v := ?_) (a' := ?_) #[true, true, true, true, true, false, false, true, false, true, false, true, false, true, false, false, true, false, false, false, false, true, false, false, false, false] rfl rfl (take_ofW HT_.out HW_.out (by kernel_rfl)) (fun _ _ _ h => h) (Or.inl ⟨by rfl, ?_⟩) hHeld ?_ ?_
  rotate_left
  · rintro w' ⟨s0, s1, s2, s3, s4, s5, s6, s7⟩
    go_simp
    with_reducible rfl
  rotate_left
  · simp only [Act.put, List.setIfInBounds_toArray, List.set_cons_zero, List.set_cons_succ, i64_w, i32_w]
    rfl
  refine take_ (i := 5) (N := some 46) (v := ?_) (a' := ?_) #[true, true, true, true, true, true, false, true, false, true, false, true, false, true, false, false, true, false, false, false, false, true, false, false, false, false] rfl rfl (take_ofW HT_.out HW_.out (by kernel_rfl)) (fun _ _ _ h => h) (Or.inl ⟨by rfl, ?_⟩) hHeld ?_ ?_
  rotate_left
  · rintro w' ⟨s0, s1, s2, s3, s4, s5, s6, s7⟩
    go_simp
    with_reducible rfl
  rotate_left
  · simp only [Act.put, List.setIfInBounds_toArray, List.set_cons_zero, List.set_cons_succ, i64_w, i32_w]
    rfl
  refine pure_ (i := 6) (N := some 47) (v := ?_) (a' := ?_) #[true, true, true, true, true, true, true, true, false, true, false, true, false, true, false, false, true, false, false, false, false, true, false, false, false, false] rfl rfl (any_of HT_.out (by kernel_rfl)) (fun _ _ _ h => h) (Or.inl ⟨by rfl, ?_⟩) ?_ ?_
  rotate_left
  · intro w'
    go_simp
    with_reducible rfl
  rotate_left
  · simp only [Act.put, List.setIfInBounds_toArray, List.set_cons_zero, List.set_cons_succ, i64_w, i32_w]
    rfl
  refine take_ (i := 8) (N := some 49) (v := ?_) (a' := ?_) #[true, true, true, true, true, true, true, true, true, true, false, true, false, true, false, false, true, false, false, false, false, true, false, false, false, false] rfl rfl (take_ofW HT_.out HW_.out (by kernel_rfl)) (fun _ _ _ h => h) (Or.inl ⟨by rfl, ?_⟩) hHeld ?_ ?_
  rotate_left
  · rintro w' ⟨s0, s1, s2, s3, s4, s5, s6, s7⟩
    go_simp
    with_reducible rfl
  rotate_left
  · simp only [Act.put, List.setIfInBounds_toArray, List.set_cons_zero, List.set_cons_succ, i64_w, i32_w]
    rfl
  refine take_ (i := 10) (N := some 51) (v := ?_) (a' := ?_) #[true, true, true, true, true, true, true, true, true, true, true, true, false, true, false, false, true, false, false, false, false, true, false, false, false, false] rfl rfl (take_ofW HT_.out HW_.out (by kernel_rfl)) (fun _ _ _ h => h) (Or.inl ⟨by rfl, ?_⟩) hHeld ?_ ?_
  rotate_left
  · rintro w' ⟨s0, s1, s2, s3, s4, s5, s6, s7⟩
    go_simp
    with_reducible rfl
  rotate_left
  · simp only [Act.put, List.setIfInBounds_toArray, List.set_cons_zero, List.set_cons_succ, i64_w, i32_w]
    rfl
  refine take_ (i := 12) (N := some 53) (v := ?_) (a' := ?_) #[true, true, true, true, true, true, true, true, true, true, true, true, true, true, false, false, true, false, false, false, false, true, false, false, false, false] rfl rfl (take_ofW HT_.out HW_.out (by kernel_rfl)) (fun _ _ _ h => h) (Or.inl ⟨by rfl, ?_⟩) hHeld ?_ ?_
  rotate_left
  · rintro w' ⟨s0, s1, s2, s3, s4, s5, s6, s7⟩
    go_simp
    with_reducible rfl
  rotate_left
  · simp only [Act.put, List.setIfInBounds_toArray, List.set_cons_zero, List.set_cons_succ, i64_w, i32_w]
    rfl
  refine take_ (i := 14) (N := some 55) (v := ?_) (a' := ?_) #[true, true, true, true, true, true, true, true, true, true, true, true, true, true, true, false, true, false, false, false, false, true, false, false, false, false] rfl rfl (take_ofW HT_.out HW_.out (by kernel_rfl)) (fun _ _ _ h => h) (Or.inl ⟨by rfl, ?_⟩) hHeld ?_ ?_
  rotate_left
  · rintro w' ⟨s0, s1, s2, s3, s4, s5, s6, s7⟩
    go_simp
    with_reducible rfl
  rotate_left
  · simp only [Act.put, List.setIfInBounds_toArray, List.set_cons_zero, List.set_cons_succ, i64_w, i32_w]
    rfl
  refine pure_ (i := 15) (N := some 56) (v := ?_) (a' := ?_) #[true, true, true, true, true, true, true, true, true, true, true, true, true, true, true, true, true, false, false, false, false, true, false, false, false, false] rfl rfl (any_of HT_.out (by kernel_rfl)) (fun _ _ _ h => h) (Or.inl ⟨by rfl, ?_⟩) ?_ ?_
  rotate_left
  · intro w'
    go_simp
    with_reducible rfl
  rotate_left
  · simp only [Act.put, List.setIfInBounds_toArray, List.set_cons_zero, List.set_cons_succ, i64_w, i32_w]
    rfl
  refine take_ (i := 17) (N := some 58) (v := ?_) (a' := ?_) #[true, true, true, true, true, true, true, true, true, true, true, true, true, true, true, true, true, true, false, false, false, true, false, false, false, false] rfl rfl (take_ofW HT_.out HW_.out (by kernel_rfl)) (fun _ _ _ h => h) (Or.inl ⟨by rfl, ?_⟩) hHeld ?_ ?_
  rotate_left
  · rintro w' ⟨s0, s1, s2, s3, s4, s5, s6, s7⟩
    go_simp
    with_reducible rfl
  rotate_left
  · simp only [Act.put, List.setIfInBounds_toArray, List.set_cons_zero, List.set_cons_succ, i64_w, i32_w]
    rfl
  refine one_ (i := 18) (N := some 59) #[true, true, true, true, true, true, true, true, true, true, true, true, true, true, true, true, true, true, true, false, false, true, false, false, false, false] rfl rfl (one_of HT_.out (by kernel_rfl)) (by decide) (fun K hK => ?_)
  refine goes_ Tryz.func52 (by kernel_rfl) rfl #[.slice A f.rules.length rc] (by rfl) rfl rfl (by (try simp only [List.map_toArray, List.map_cons, List.map_nil]); first | done | rfl | (simp only []; rfl)) ?_
  with_reducible refine (CC.out _ HWD.out).mono ?_
  rintro e w5 ⟨A5, c5, rfl, hr5, hb5⟩
  have HB5 := Aside0.mk (show Below w3.heap.size w3 w5 from HWD.out.trans (hb5.mono HWD.out.size))
  have HBb5 := Aside0.mk hb5
  have HR5 := Aside0.mk hr5
  have HK5 := Aside0.mk ((HB5.out.block W.heap.size (blk_lt HK3.out)).trans HK3.out)
  clear hr5 hb5
  refine ⟨_, rfl, ?_⟩
  refine hK.out _ _ ⟨pw_cell_below HBb5.out hHeld.1, pw_cell_below HBb5.out hHeld.2.1, pw_cell_below HBb5.out hHeld.2.2.1, pw_cell_below HBb5.out hHeld.2.2.2.1, pw_cell_below HBb5.out hHeld.2.2.2.2.1, pw_cell_below HBb5.out hHeld.2.2.2.2.2.1, pw_cell_below HBb5.out hHeld.2.2.2.2.2.2.1, pw_cell_below HBb5.out hHeld.2.2.2.2.2.2.2⟩ (fun hHeld => ?_)
  clear hK K
  refine norm_ (a' := ?_) ?_ ?_
  rotate_left
  · show Act.put _ (some 59) _ = _
    simp only [Act.put, List.setIfInBounds_toArray, List.set_cons_zero, List.set_cons_succ, i64_w, i32_w]
    rfl
  refine pure_ (i := 19) (N := some 60) (v := ?_) (a' := ?_) #[true, true, true, true, true, true, true, true, true, true, true, true, true, true, true, true, true, true, true, true, false, true, false, false, false, false] rfl rfl (any_of HT_.out (by kernel_rfl)) (fun _ _ _ h => h) (Or.inl ⟨by rfl, ?_⟩) ?_ ?_
  rotate_left
  · intro w'
    go_simp
    with_reducible rfl
  rotate_left
  · simp only [Act.put, List.setIfInBounds_toArray, List.set_cons_zero, List.set_cons_succ, i64_w, i32_w]
    rfl
  refine last_ (i := 20) (N := some 61) #[true, true, true, true, true, true, true, true, true, true, true, true, true, true, true, true, true, true, true, true, true, true, false, false, false, false] rfl rfl (one_of HT_.out (by kernel_rfl)) (by decide) (fun K hK => ?_)
  refine value_ (w1 := ?_) (v := ?_) (by rfl) rfl ?_ ?_
  rotate_left 2
  · go_simp
    constructor
    · rfl
    · rfl
  have HK6 := Aside0.mk (heap_alloc_new w5 (.cells #[.string f.F.name, .int .i64 f.F.kind, .int .i64 f.F.perm, .string ⟨#[]⟩, .string ⟨#[]⟩, .int .i64 0, .int .i64 0, .slice none 0 0, .string ⟨#[]⟩, .int .i64 0, .int .i64 0, .string f.F.owner, .string f.F.last, .int .i64 f.F.ch, .int .i64 f.F.rd, .slice none 0 0, .string ⟨#[]⟩, .int .i64 0, .int .i64 0, .string ⟨#[]⟩, .string ⟨#[]⟩, .int .i64 0, .int .i64 0, .slice A5 f.rules.length c5] 66))
  have HX6 := Aside0.mk ((Below.refl w5.heap.size w5).alloc (Nat.le_refl _) (.cells #[.string f.F.name, .int .i64 f.F.kind, .int .i64 f.F.perm, .string ⟨#[]⟩, .string ⟨#[]⟩, .int .i64 0, .int .i64 0, .slice none 0 0, .string ⟨#[]⟩, .int .i64 0, .int .i64 0, .string f.F.owner, .string f.F.last, .int .i64 f.F.ch, .int .i64 f.F.rd, .slice none 0 0, .string ⟨#[]⟩, .int .i64 0, .int .i64 0, .string ⟨#[]⟩, .string ⟨#[]⟩, .int .i64 0, .int .i64 0, .slice A5 f.rules.length c5] 66))
  have HK7 := Aside0.mk ((HX6.out.block W.heap.size (blk_lt HK5.out)).trans HK5.out)
  obtain ⟨s0, s3, s4, n1, n2, n5, n6, Ag, lg, cg, hg, hfs, hrow⟩ := pick3 f A5 c5 w5 hi HR5.out
  have HFS := Aside0.mk hfs
  have HROW := Aside0.mk hrow
  have z0 := (blk_cell HK6.out (i * 8)).trans (hg 0 _ rfl)
  have z1 := (blk_cell HK6.out (i * 8 + 1)).trans (hg 1 _ rfl)
  have z2 := (blk_cell HK6.out (i * 8 + 2)).trans (hg 2 _ rfl)
  have z3 := (blk_cell HK6.out (i * 8 + 3)).trans (hg 3 _ rfl)
  have z4 := (blk_cell HK6.out (i * 8 + 4)).trans (hg 4 _ rfl)
  have z5 := (blk_cell HK6.out (i * 8 + 5)).trans (hg 5 _ rfl)
  have z6 := (blk_cell HK6.out (i * 8 + 6)).trans (hg 6 _ rfl)
  have z7 := (blk_cell HK6.out (i * 8 + 7)).trans (hg 7 _ rfl)
  clear hg hfs hrow
  have x0 := (blk_cell HK7.out 0).trans (show _ = some (Value.string ByteArray.empty) from rfl)
  have x1 := (blk_cell HK7.out 1).trans (show _ = some (Value.int .i64 0) from rfl)
  have x2 := (blk_cell HK7.out 2).trans (show _ = some (Value.int .i64 0) from rfl)
  have x3 := (blk_cell HK7.out 3).trans (show _ = some (Value.string ByteArray.empty) from rfl)
  have x4 := (blk_cell HK7.out 4).trans (show _ = some (Value.string ByteArray.empty) from rfl)
  have x5 := (blk_cell HK7.out 5).trans (show _ = some (Value.int .i64 0) from rfl)
  have x6 := (blk_cell HK7.out 6).trans (show _ = some (Value.int .i64 0) from rfl)
  have x7 := (blk_cell HK7.out 7).trans (show _ = some (Value.slice none 0 0) from rfl)
  have y0 := blk_frozen HK7.out 0
  have y1 := blk_frozen HK7.out 1
  have y2 := blk_frozen HK7.out 2
  have y3 := blk_frozen HK7.out 3
  have y4 := blk_frozen HK7.out 4
  have y5 := blk_frozen HK7.out 5
  have y6 := blk_frozen HK7.out 6
  have y7 := blk_frozen HK7.out 7
  refine hK.out _ _ ?_
  clear hK K
  refine norm_ (a' := ?_) ?_ ?_
  rotate_left
  · show Act.put _ (some 61) _ = _
    simp only [Act.put, List.setIfInBounds_toArray, List.set_cons_zero, List.set_cons_succ, i64_w, i32_w]
    rfl
  refine pure_ (i := 22) (N := some 63) (v := ?_) (a' := ?_) #[true, true, true, true, true, true, true, true, true, true, true, true, true, true, true, true, true, true, true, true, true, true, true, false, false, false] rfl rfl (any_of HT_.out (by kernel_rfl)) (fun _ _ _ h => h) (Or.inl ⟨by rfl, ?_⟩) ?_ ?_
  rotate_left
  · intro w'
    go_simp
    with_reducible rfl
  rotate_left
  · simp only [Act.put, List.setIfInBounds_toArray, List.set_cons_zero, List.set_cons_succ, i64_w, i32_w]
    rfl
  refine last_ (i := 23) (N := some 64) #[true, true, true, true, true, true, true, true, true, true, true, true, true, true, true, true, true, true, true, true, true, true, true, true, false, false] rfl rfl (one_of HT_.out (by kernel_rfl)) (by decide) (fun K hK => ?_)
  refine value_ (w1 := ?_) (v := ?_) (by rfl) rfl ?_ ?_
  rotate_left 2
  · go_simp
    constructor
    · rfl
    · rfl
  refine hK.out _ _ ?_
  clear hK K
  refine norm_ (a' := ?_) ?_ ?_
  rotate_left
  · show Act.put _ (some 64) _ = _
    simp only [Act.put, List.setIfInBounds_toArray, List.set_cons_zero, List.set_cons_succ, i64_w, i32_w]
    rfl
  refine last_ (i := 24) (N := none) #[true, true, true, true, true, true, true, true, true, true, true, true, true, true, true, true, true, true, true, true, true, true, true, true, true, false] rfl rfl (one_of HT_.out (by kernel_rfl)) (by decide) (fun K hK => ?_)
  refine skip_ (w1 := ?_) (by rfl) rfl ?_ ?_
  rotate_left
  · go_simp
    rfl
  refine hK.out _ _ ?_
  clear hK K
  refine pure_ (i := 25) (N := some 9) (v := ?_) (a' := ?_) #[true, true, true, true, true, true, true, true, true, true, true, true, true, true, true, true, true, true, true, true, true, true, true, true, true, true] rfl rfl (any_of HT_.out (by kernel_rfl)) (fun _ _ _ h => h) (Or.inl ⟨by rfl, ?_⟩) ?_ ?_
  rotate_left
  · intro w'
    go_simp
    with_reducible rfl
  rotate_left
  · simp only [Act.put, List.setIfInBounds_toArray, List.set_cons_zero, List.set_cons_succ, i64_w, i32_w]
    rfl
  refine done_ (done_of HT_.out (by kernel_rfl)) ?_
  go_wp2
  obtain ⟨X9, hX9, hK9, hC9⟩ := fill8 HK7.out (.string s0) (.int .i64 n1) (.int .i64 n2) (.string s3) (.string s4) (.int .i64 n5) (.int .i64 n6) (.slice Ag lg cg)
  rw [← hX9]
  have HC9 := Aside0.mk hC9
  clear x0 y0 x1 y1 x2 y2 x3 y3 x4 y4 x5 y5 x6 y6 x7 y7
  have x0 := (blk_cell hK9 0).trans (show _ = some (Value.string s0) from rfl)
  have x1 := (blk_cell hK9 1).trans (show _ = some (Value.int .i64 n1) from rfl)
  have x2 := (blk_cell hK9 2).trans (show _ = some (Value.int .i64 n2) from rfl)
  have x3 := (blk_cell hK9 3).trans (show _ = some (Value.string s3) from rfl)
  have x4 := (blk_cell hK9 4).trans (show _ = some (Value.string s4) from rfl)
  have x5 := (blk_cell hK9 5).trans (show _ = some (Value.int .i64 n5) from rfl)
  have x6 := (blk_cell hK9 6).trans (show _ = some (Value.int .i64 n6) from rfl)
  have x7 := (blk_cell hK9 7).trans (show _ = some (Value.slice Ag lg cg) from rfl)
  clear hX9 hK9 hC9
  refine bodyPost_ret (v := .tuple #[infoV ⟨s0, n1, n2, s3, s4, n5, n6⟩ (.slice Ag lg cg), .int .i64 0]) (by unfold infoV; simp [noFS, results, Tryz.f38, go_sem, x0, x1, x2, x3, x4, x5, x6, x7]; try rfl) rfl ?_
  have HB7 := Aside0.mk (HB3.out.trans ((HB5.out.trans (HX6.out.mono HB5.out.size)).mono HB3.out.size))
  exact ⟨_, by rw [HFS.out], below_fill HB7.out HC9.out, Kd.R_lower (Kd.R_mono (HC9.out.row (Kd.R_below (Kd.R_bound HROW.out) HX6.out) (fun q hq e => by have h1 := hq.2.1; have h2 := HWD.out.size; have h3 := blk_lt HK3.out; omega)) (fun _ _ => trivial)) (by have h2 := HWD.out.size; have h3 := blk_lt HK3.out; omega)⟩
theorem S_Info {W : World} {ok : Nat → Prop} {sb c : Nat} {L : List (Nat × AF)} {st : Fs} (hR : StoreRep W ok sb L) (hst : L.map (·.2) = st) (hI : TInv c st) (u n : ByteArray) (gr : Int) :
    Calls Tryz.prog 38 #[.pointer (some ⟨sb, 0, none⟩), .string u, .string n, .int .i64 gr] W (PInfoOut W (mInfo st u n gr)) := by
  by_cases hg : gr < 0 ∨ 2 < gr
  · refine (Info_arg _ u n gr W hg).mono ?_
    rintro e w' ⟨rfl, hb⟩
    exact PInfoOut.stay (F := noFS) hb (by unfold mInfo; rw [if_pos hg])
  · have h0 : 0 ≤ gr := by omega
    have h2 : gr ≤ 2 := by omega
    cases ho : mOpened st u n 32 with
    | error E =>
      refine (Info_err _ u n gr E W h0 h2 (opened_error hR hst ho)).mono ?_
      rintro e w' ⟨rfl, hb⟩
      exact PInfoOut.stay (F := noFS) hb (by unfold mInfo; rw [if_neg hg, ho])
    | ok p =>
      obtain ⟨k, f, dn⟩ := p
      obtain ⟨hdn, ac, ex, mb, fb, rc, ub, D, DU, own, A, uv, G, _, _, HO⟩ := opened_all hR hst ho
      have hF : GInv c f := hI.files f (by rw [← hst]; exact List.mem_map.2 ⟨(fb, f), List.mem_of_getElem? G.at_, rfl⟩)
      have hm : mInfo st u n gr = if dn = 0 then (infoOf f gr, 0) else ((noFS, []), dn) := by unfold mInfo; rw [if_neg hg, ho]
      rw [hm]
      rcases hdn with rfl | rfl
      · rw [if_pos rfl]
        have hrl : f.rules.length * 24 ≤ 140737488355328 := by have := hF.rules; omega
        obtain rfl | rfl | rfl : gr = 0 ∨ gr = 1 ∨ gr = 2 := by omega
        · exact Info_ok _ u n 0 fb rc ub f A uv DU _ W (by omega) HO G.P hrl
        · exact Info_ok _ u n 1 fb rc ub f A uv DU _ W (by omega) HO G.P hrl
        · exact Info_ok _ u n 2 fb rc ub f A uv DU _ W (by omega) HO G.P hrl
      · rw [if_neg (by decide)]
        refine (Info_denied _ u n gr fb W h0 h2 HO).mono ?_
        rintro e w' ⟨rfl, hb⟩
        exact PInfoOut.stay (F := noFS) hb rfl
end Go.Proofs.YtehlmkgldcfciaaGreat.Files
-- Written by this repo's wip/tools/myprint.py (the kit's print program, with contracts of our own beside). Lean checks it.
namespace Go.Proofs.YtehlmkgldcfciaaGreat.F
open Go.Proofs.YtehlmkgldcfciaaGreat.Common
open Go.RowKit Go.Proofs.YtehlmkgldcfciaaGreatW.PrintWords Go.Proofs.YtehlmkgldcfciaaGreatW.PrintLast Go.Proofs.YtehlmkgldcfciaaGreatW.PrintMore
set_option linter.unusedVariables false
set_option linter.unusedSimpArgs false
mutual
def heptadref28_sorted.l0 : Nat → List ByteArray → List ByteArray → Int → Option (List ByteArray)
 | 0, _, _, _ => none
 | k + 1, x0, x3, x4 => if x4 < (x0.length : Int) then (heptadref28_sorted.l1 k x0 x3 x4 0) else (some x3)
def heptadref28_sorted.l1 : Nat → List ByteArray → List ByteArray → Int → Int → Option (List ByteArray)
 | 0, _, _, _, _ => none
 | k + 1, x0, x3, x4, x5 => if x5 < (x3.length : Int) then (if 0 ≤ x5 then (if 0 ≤ x4 then (if x4 < (x0.length : Int) then (if (Op.bytesLess ((rdOf ByteArray.empty x3 x5).toList) ((rdOf ByteArray.empty x0 x4).toList)) = true then (heptadref28_sorted.l1 k x0 x3 x4 (wrap64 (x5 + 1))) else ((some (([rdOf ByteArray.empty x0 x4] : List ByteArray) : List ByteArray)).bind fun y164 => (if x5 ≤ (x3.length : Int) then ((some (x3.drop (x5 : Int).toNat : List ByteArray)).bind fun y167 => (if y164.length + y167.length < 8796093022208 then ((some (y164 ++ y167 : List ByteArray)).bind fun y171 => ((some (([] : List ByteArray) : List ByteArray)).bind fun y174 => ((some (x3.take (x5 : Int).toNat : List ByteArray)).bind fun y177 => (if y174.length + y177.length < 8796093022208 then ((some (y174 ++ y177 : List ByteArray)).bind fun y181 => (if y181.length + y171.length < 8796093022208 then (heptadref28_sorted.l0 k x0 (y181 ++ y171) (wrap64 (x4 + 1))) else (none))) else (none))))) else (none))) else (none)))) else (none)) else (none)) else (none)) else (if 0 ≤ x4 then (if x4 < (x0.length : Int) then ((some (([rdOf ByteArray.empty x0 x4] : List ByteArray) : List ByteArray)).bind fun y188 => (if 0 ≤ x5 then (if x5 ≤ (x3.length : Int) then ((some (x3.drop (x5 : Int).toNat : List ByteArray)).bind fun y191 => (if y188.length + y191.length < 8796093022208 then ((some (y188 ++ y191 : List ByteArray)).bind fun y195 => ((some (([] : List ByteArray) : List ByteArray)).bind fun y198 => ((some (x3.take (x5 : Int).toNat : List ByteArray)).bind fun y201 => (if y198.length + y201.length < 8796093022208 then ((some (y198 ++ y201 : List ByteArray)).bind fun y205 => (if y205.length + y195.length < 8796093022208 then (heptadref28_sorted.l0 k x0 (y205 ++ y195) (wrap64 (x4 + 1))) else (none))) else (none))))) else (none))) else (none)) else (none))) else (none)) else (none))
end
def heptadref28_sorted.f (k : Nat) (l0 : List ByteArray) : Option (List ByteArray) := heptadref28_sorted.l0 k l0 ([] : List ByteArray) 0
theorem heptadref28_sorted.mono_l : ∀ k, (∀ y0 y1 y2, LeO (heptadref28_sorted.l0 k y0 y1 y2) (heptadref28_sorted.l0 (k + 1) y0 y1 y2)) ∧ (∀ y0 y1 y2 y3, LeO (heptadref28_sorted.l1 k y0 y1 y2 y3) (heptadref28_sorted.l1 (k + 1) y0 y1 y2 y3))
 | 0 => ⟨fun _ _ _ r h => by simp [heptadref28_sorted.l0] at h, fun _ _ _ _ r h => by simp [heptadref28_sorted.l1] at h⟩
 | k + 1 => by
  obtain ⟨ih0, ih1⟩ := heptadref28_sorted.mono_l k
  refine ⟨?_, ?_⟩
  ·intro y0 y1 y2
   unfold heptadref28_sorted.l0
   repeat' first
   | (with_reducible exact ih0 _ _ _)
   | (with_reducible exact ih1 _ _ _ _)
   | (with_reducible exact LeO.refl _)
   | (with_reducible exact LeO.none _)
   | (with_reducible refine LeO.ite ?_ ?_)
   | (with_reducible refine LeO.bind ?_ (fun _ => ?_))
   | exact ih0 _ _ _
   | exact ih1 _ _ _ _
   | exact LeO.none _
   | refine LeO.ite ?_ ?_
   | refine LeO.bind ?_ (fun _ => ?_)
  ·intro y0 y1 y2 y3
   unfold heptadref28_sorted.l1
   repeat' first
   | (with_reducible exact ih0 _ _ _)
   | (with_reducible exact ih1 _ _ _ _)
   | (with_reducible exact LeO.refl _)
   | (with_reducible exact LeO.none _)
   | (with_reducible refine LeO.ite ?_ ?_)
   | (with_reducible refine LeO.bind ?_ (fun _ => ?_))
   | exact ih0 _ _ _
   | exact ih1 _ _ _ _
   | exact LeO.none _
   | refine LeO.ite ?_ ?_
   | refine LeO.bind ?_ (fun _ => ?_)
def heptadref28_sorted.T6 : Bool × List (List Nat × List Nat) := (true, [([], []), ([], []), ([1], [1]), ([0, 2], [0, 2]), ([3], [3]), ([4], [4]), ([4], [4]), ([5, 6, 4], [4, 5, 6]), ([7, 4], [4, 7]), ([4], [4]), ([4], [4]), ([9, 10, 4], [4, 9, 10]), ([11, 4], [4, 11]), ([8, 12, 4], [4, 8, 12]), ([4, 13], [4, 13])])
def heptadref28_sorted.B6 : List Nat := [0, 0, 2, 7, 15, 31, 31, 127, 255, 31, 31, 1567, 3615, 8191, 16383]
theorem heptadref28_sorted.tab6 : rtab .any (opsOf Tryz.f47 6) = heptadref28_sorted.T6 := by kernel_rfl
theorem heptadref28_sorted.bits6 : waitsOk heptadref28_sorted.T6.2 heptadref28_sorted.B6 = true := by kernel_rfl
def heptadref28_sorted.T8 : Bool × List (List Nat × List Nat) := (true, [([], []), ([], []), ([0, 1], [0, 1]), ([2], [2]), ([3], [3]), ([], []), ([], []), ([5, 6], [5, 6]), ([4, 7], [4, 7]), ([8, 8, 0, 1, 2, 3, 4, 5, 6, 7, 8], [8])])
def heptadref28_sorted.B8 : List Nat := [0, 0, 3, 7, 15, 0, 0, 96, 255, 511]
theorem heptadref28_sorted.tab8 : rtab .any (opsOf Tryz.f47 8) = heptadref28_sorted.T8 := by kernel_rfl
theorem heptadref28_sorted.bits8 : waitsOk heptadref28_sorted.T8.2 heptadref28_sorted.B8 = true := by kernel_rfl
set_option maxHeartbeats 8000000 in
set_option maxRecDepth 100000 in
theorem heptadref28_sorted.calls (k : Nat) (A0 : Option Addr) (c0 : Nat) (l0 : List ByteArray) (r : List ByteArray) (w : World) (hr0 : Kd.C Kd.string w A0 l0.length l0) (hc0 : l0.length ≤ c0) (h : heptadref28_sorted.f k l0 = some r) :
  Calls Tryz.prog 47 #[.slice A0 l0.length c0] w fun e w' => ∃ v0_ : Value, e = .returned (v0_) ∧ Kd.R Kd.string 9 w' w.heap.size (fun _ => True) v0_ r ∧ Below w.heap.size w w' := by
 have HR0 := Aside0.mk hr0
 have HC0 := Aside0.mk hc0
 clear hr0 hc0
 have HB := Aside0.mk (Below.refl w.heap.size w)
 have H : (heptadref28_sorted.l0 k l0 ([] : List ByteArray) 0) = some r := h
 clear h
 have H' := Aside0.mk H
 clear H
 go_enter Tryz.func47, Tryz.ntmps47
 go_wp2
 go_loopg [3, 4] k (fun kq v3 v4 w' => ∃ (x3_1 : List ByteArray) (x4_1 : Int), v4 = .int .i64 x4_1 ∧ Aside0 (heptadref28_sorted.l0 kq l0 x3_1 x4_1 = some r) ∧ Aside0 (kq ≤ k) ∧ Aside0 (Kd.R Kd.string 9 w' w.heap.size (fun _ => True) v3 x3_1) ∧ Aside0 (Below w.heap.size w w'))
 case atStart => exact ⟨(([] : List ByteArray)), (0), (by first | rfl | (simp; done) | (simp [*]; done)), H', ⟨Nat.le_refl _⟩, ⟨by first | exact Kd.R_nil _ _ _ _ _ | exact Kd.N_nil _ _ _ _ _ | exact Kd.V_nil _ _ _ _ _ | exact Kd.Q_nil _ _ _ _ _ | exact Kd.S_nil _ _ _ _ _⟩, ⟨by repeat (first | (with_reducible first | exact HB.out | apply below_alloc | apply pw_below_drewN | apply below_drew1) | exact HB.out)⟩⟩
 case round =>
  clear H'
  obtain ⟨x3_1, x4_1, rfl, HA, HK1, HO_3, HB⟩ := hrel
  cases gk with
  | zero => exact absurd HA.out (by simp [heptadref28_sorted.l0])
  | succ k1 =>
   have H := HA.out
   clear HA
   simp only [heptadref28_sorted.l0] at H
   by_cases c2 : x4_1 < (l0.length : Int)
   ·rw [if_pos c2] at H
    have c2b0 : decide (x4_1 < (l0.length : Int)) = true := decide_eq_true c2
    clear c2
    have H' := Aside0.mk H
    clear H
    go_wp2
    go_loopg [5] k1 (fun kq v5 w' => ∃ (x5_2 : Int), v5 = .int .i64 x5_2 ∧ Aside0 (heptadref28_sorted.l1 kq l0 x3_1 x4_1 x5_2 = some r) ∧ Aside0 (kq ≤ k1) ∧ Aside0 (Kd.R Kd.string 9 w' w.heap.size (fun _ => True) u3 x3_1) ∧ Aside0 (Below w.heap.size w w'))
    case atStart => exact ⟨(0), (by first | rfl | (simp; done) | (simp [*]; done)), H', ⟨Nat.le_refl _⟩, ⟨by (with_reducible repeat (first | apply Kd.R_alloc | apply Kd.R_drewN | apply Kd.R_drew)); exact HO_3.out⟩, ⟨by repeat (first | (with_reducible first | exact HB.out | apply below_alloc | apply pw_below_drewN | apply below_drew1) | exact HB.out)⟩⟩
    case round =>
     clear H'
     try clear c2
     try clear c2b0
     try clear p2
     obtain ⟨x5_2, rfl, HA, HK2, HO_3, HB⟩ := hrel
     cases gk with
     | zero => exact absurd HA.out (by simp [heptadref28_sorted.l1])
     | succ k2 =>
      have H := HA.out
      clear HA
      simp only [heptadref28_sorted.l1] at H
      by_cases c3 : x5_2 < (x3_1.length : Int)
      ·rw [if_pos c3] at H
       have c3b0 : decide (x5_2 < (x3_1.length : Int)) = true := decide_eq_true c3
       clear c3
       by_cases c4 : 0 ≤ x5_2
       ·rw [if_pos c4] at H
        have c4b0 : decide (0 ≤ x5_2) = true := decide_eq_true c4
        clear c4
        by_cases c5 : 0 ≤ x4_1
        ·rw [if_pos c5] at H
         have c5b0 : decide (0 ≤ x4_1) = true := decide_eq_true c5
         clear c5
         by_cases c6 : x4_1 < (l0.length : Int)
         ·rw [if_pos c6] at H
          have c6b0 : decide (x4_1 < (l0.length : Int)) = true := decide_eq_true c6
          clear c6
          by_cases c7 : (Op.bytesLess ((rdOf ByteArray.empty x3_1 x5_2).toList) ((rdOf ByteArray.empty l0 x4_1).toList)) = true
          ·rw [if_pos c7] at H
           have c7b0 : (Op.bytesLess ((rdOf ByteArray.empty x3_1 x5_2).toList) ((rdOf ByteArray.empty l0 x4_1).toList)) = true := c7
           clear c7
           have H' := Aside0.mk H
           clear H
           try go_wp2
           have n0_ := Aside0.mk (Kd.R_drew HO_3.out)
           have n1_ := Aside0.mk (below_drew1 HB.out)
           clear HO_3
           clear HB
           have HO_3 := n0_
           have HB := n1_
           clear n0_ n1_
           obtain ⟨Ao9, co9, eo9⟩ := Kd.R_slice HO_3.out
           (first | subst eo9 | (injection eo9 with f1_ f2_ f3_; have f4_ := f1_.symm; have f5_ := f3_.symm; clear f1_ f2_ f3_; subst f4_; subst f5_))
           have p161 : 0 ≤ (x5_2 : Int) := of_decide_eq_true (by first | (with_reducible assumption) | assumption)
           have q161 : x5_2 < (x3_1.length : Int) := of_decide_eq_true (by first | (with_reducible assumption) | assumption)
           obtain ⟨ad161, e161, hx161_0⟩ := Kd.at_string (Kd.R_reads' HO_3.out).2.2 x5_2 p161 q161
           cases e161
           replace p161 := eq_true p161
           replace q161 := eq_true q161
           have p162 : 0 ≤ (x4_1 : Int) := of_decide_eq_true (by first | (with_reducible assumption) | assumption)
           have q162 : x4_1 < (l0.length : Int) := of_decide_eq_true (by first | (with_reducible assumption) | assumption)
           obtain ⟨ad162, e162, hx162_0⟩ := Kd.at_string HR0.out x4_1 p162 q162
           have hw162_0 := hx162_0
           cases e162
           replace hx162_0 := (HB.out.cell (World.block_lt_of_cell? w _ hx162_0)).trans hx162_0
           replace p162 := eq_true p162
           replace q162 := eq_true q162
           refine start_ (n := 15) (S := fun w' => w'.cell? (ad161.add (x5_2).toNat) = some (.string (rdOf ByteArray.empty x3_1 x5_2)) ∧ w'.cell? (ad162.add (x4_1).toNat) = some (.string (rdOf ByteArray.empty l0 x4_1))) (ds := []) #[false, false, false, false, false, false, false, false, false, false, false, false, false, false, false] (by kernel_rfl) rfl rfl ⟨hx161_0, ((HB.out.cell (World.block_lt_of_cell? w _ hw162_0)).trans hw162_0)⟩ (fun hHeld => ?_); refine with_tabW heptadref28_sorted.tab6 heptadref28_sorted.bits6 (fun HT_ HW_ => ?_)
           generalize wr.drew = w8 at HO_3 HB hx161_0 hx162_0 hHeld ⊢
           refine pure_ (i := 0) (N := some 13) (v := ?_) (a' := ?_) #[true, false, false, false, false, false, false, false, false, false, false, false, false, false, false] rfl rfl (any_of HT_.out (by kernel_rfl)) (fun _ _ _ h => h) (Or.inl ⟨by rfl, ?_⟩) ?_ ?_
           rotate_left
           ·intro w'
            go_simp
            with_reducible rfl
           rotate_left
           ·simp only [Act.put, List.setIfInBounds_toArray, List.set_cons_zero, List.set_cons_succ, i64_w, i32_w]
            rfl
           refine pure_ (i := 1) (N := some 14) (v := ?_) (a' := ?_) #[true, true, false, false, false, false, false, false, false, false, false, false, false, false, false] rfl rfl (any_of HT_.out (by kernel_rfl)) (fun _ _ _ h => h) (Or.inl ⟨by rfl, ?_⟩) ?_ ?_
           rotate_left
           ·intro w'
            go_simp
            with_reducible rfl
           rotate_left
           ·simp only [Act.put, List.setIfInBounds_toArray, List.set_cons_zero, List.set_cons_succ, i64_w, i32_w]
            rfl
           refine pure_ (i := 2) (N := some 15) (v := ?_) (a' := ?_) #[true, true, true, false, false, false, false, false, false, false, false, false, false, false, false] rfl rfl (any_of HT_.out (by kernel_rfl)) (fun _ _ _ h => h) (Or.inl ⟨by rfl, ?_⟩) ?_ ?_
           rotate_left
           ·intro w'
            go_simp
            with_reducible rfl
           rotate_left
           ·simp only [Act.put, List.setIfInBounds_toArray, List.set_cons_zero, List.set_cons_succ, i64_w, i32_w]
            rfl
           refine pure_ (i := 3) (N := some 16) (v := ?_) (a' := ?_) #[true, true, true, true, false, false, false, false, false, false, false, false, false, false, false] rfl rfl (any_of HT_.out (by kernel_rfl)) (fun _ _ _ h => h) (Or.inl ⟨by rfl, ?_⟩) ?_ ?_
           rotate_left
           ·intro w'
            go_simp
            with_reducible rfl
           rotate_left
           ·simp only [Act.put, List.setIfInBounds_toArray, List.set_cons_zero, List.set_cons_succ, i64_w, i32_w]
            rfl
           refine pure_ (i := 4) (N := some 17) (v := ?_) (a' := ?_) #[true, true, true, true, true, false, false, false, false, false, false, false, false, false, false] rfl rfl (any_of HT_.out (by kernel_rfl)) (fun _ _ _ h => h) (Or.inl ⟨by rfl, ?_⟩) ?_ ?_
           rotate_left
           ·intro w'
            go_simp
            with_reducible rfl
           rotate_left
           ·simp only [Act.put, List.setIfInBounds_toArray, List.set_cons_zero, List.set_cons_succ, i64_w, i32_w]
            rfl
           refine pure_ (i := 5) (N := some 18) (v := ?_) (a' := ?_) #[true, true, true, true, true, true, false, false, false, false, false, false, false, false, false] rfl rfl (any_of HT_.out (by kernel_rfl)) (fun _ _ _ h => h) (Or.inl ⟨by rfl, ?_⟩) ?_ ?_
           rotate_left
           ·intro w'
            go_simp
            with_reducible rfl
           rotate_left
           ·simp only [Act.put, List.setIfInBounds_toArray, List.set_cons_zero, List.set_cons_succ, i64_w, i32_w]
            rfl
           refine pure_ (i := 6) (N := some 19) (v := ?_) (a' := ?_) #[true, true, true, true, true, true, true, false, false, false, false, false, false, false, false] rfl rfl (any_of HT_.out (by kernel_rfl)) (fun _ _ _ h => h) (Or.inl ⟨by rfl, ?_⟩) ?_ ?_
           rotate_left
           ·intro w'
            go_simp
            with_reducible rfl
           rotate_left
           ·simp only [Act.put, List.setIfInBounds_toArray, List.set_cons_zero, List.set_cons_succ, i64_w, i32_w]
            rfl
           refine pure_ (i := 7) (N := some 20) (v := ?_) (a' := ?_) #[true, true, true, true, true, true, true, true, false, false, false, false, false, false, false] rfl rfl (any_of HT_.out (by kernel_rfl)) (fun _ _ _ h => h) (Or.inl ⟨by rfl, ?_⟩) ?_ ?_
           rotate_left
           ·intro w'
            go_simp
            with_reducible rfl
           rotate_left
           ·simp only [Act.put, List.setIfInBounds_toArray, List.set_cons_zero, List.set_cons_succ, i64_w, i32_w]
            rfl
           refine pure_ (i := 9) (N := some 22) (v := ?_) (a' := ?_) #[true, true, true, true, true, true, true, true, false, true, false, false, false, false, false] rfl rfl (any_of HT_.out (by kernel_rfl)) (fun _ _ _ h => h) (Or.inl ⟨by rfl, ?_⟩) ?_ ?_
           rotate_left
           ·intro w'
            go_simp
            with_reducible rfl
           rotate_left
           ·simp only [Act.put, List.setIfInBounds_toArray, List.set_cons_zero, List.set_cons_succ, i64_w, i32_w]
            rfl
           refine pure_ (i := 10) (N := some 23) (v := ?_) (a' := ?_) #[true, true, true, true, true, true, true, true, false, true, true, false, false, false, false] rfl rfl (any_of HT_.out (by kernel_rfl)) (fun _ _ _ h => h) (Or.inl ⟨by rfl, ?_⟩) ?_ ?_
           rotate_left
           ·intro w'
            go_simp
            with_reducible rfl
           rotate_left
           ·simp only [Act.put, List.setIfInBounds_toArray, List.set_cons_zero, List.set_cons_succ, i64_w, i32_w]
            rfl
           refine pure_ (i := 11) (N := some 24) (v := ?_) (a' := ?_) #[true, true, true, true, true, true, true, true, false, true, true, true, false, false, false] rfl rfl (any_of HT_.out (by kernel_rfl)) (fun _ _ _ h => h) (Or.inl ⟨by rfl, ?_⟩) ?_ ?_
           rotate_left
           ·intro w'
            go_simp
            with_reducible rfl
           rotate_left
           ·simp only [Act.put, List.setIfInBounds_toArray, List.set_cons_zero, List.set_cons_succ, i64_w, i32_w]
            rfl
           refine take_ (i := 8) (N := some 21) (v := ?_) (a' := ?_) #[true, true, true, true, true, true, true, true, true, true, true, true, false, false, false] rfl rfl (take_ofW HT_.out HW_.out (by kernel_rfl)) (fun _ _ _ h => h) (Or.inl ⟨by rfl, ?_⟩) hHeld ?_ ?_
           rotate_left
           ·rintro w' ⟨s0, s1⟩
            go_simp
            with_reducible rfl
           rotate_left
           ·simp only [Act.put, List.setIfInBounds_toArray, List.set_cons_zero, List.set_cons_succ, i64_w, i32_w]
            rfl
           refine take_ (i := 12) (N := some 25) (v := ?_) (a' := ?_) #[true, true, true, true, true, true, true, true, true, true, true, true, true, false, false] rfl rfl (take_ofW HT_.out HW_.out (by kernel_rfl)) (fun _ _ _ h => h) (Or.inl ⟨by rfl, ?_⟩) hHeld ?_ ?_
           rotate_left
           ·rintro w' ⟨s0, s1⟩
            go_simp
            with_reducible rfl
           rotate_left
           ·simp only [Act.put, List.setIfInBounds_toArray, List.set_cons_zero, List.set_cons_succ, i64_w, i32_w]
            rfl
           refine pure_ (i := 13) (N := some 26) (v := ?_) (a' := ?_) #[true, true, true, true, true, true, true, true, true, true, true, true, true, true, false] rfl rfl (any_of HT_.out (by kernel_rfl)) (fun _ _ _ h => h) (Or.inl ⟨by rfl, ?_⟩) ?_ ?_
           rotate_left
           ·intro w'
            go_simp
            with_reducible rfl
           rotate_left
           ·simp only [Act.put, List.setIfInBounds_toArray, List.set_cons_zero, List.set_cons_succ, i64_w, i32_w]
            rfl
           refine pure_ (i := 14) (N := some 27) (v := ?_) (a' := ?_) #[true, true, true, true, true, true, true, true, true, true, true, true, true, true, true] rfl rfl (any_of HT_.out (by kernel_rfl)) (fun _ _ _ h => h) (Or.inl ⟨by rfl, ?_⟩) ?_ ?_
           rotate_left
           ·intro w'
            go_simp
            with_reducible rfl
           rotate_left
           ·simp only [Act.put, List.setIfInBounds_toArray, List.set_cons_zero, List.set_cons_succ, i64_w, i32_w]
            rfl
           refine done_ (done_of HT_.out (by kernel_rfl)) ?_
           try go_wp2
           go_roundg k2
           case measure => have := HK1.out; have := HK2.out; omega
           case rel => exact ⟨(wrap64 (x5_2 + 1)), (by first | rfl | (simp; done) | (simp [*]; done)), H', ⟨by have := HK1.out; have := HK2.out; omega⟩, ⟨by (with_reducible repeat (first | apply Kd.R_alloc | apply Kd.R_drewN | apply Kd.R_drew)); exact HO_3.out⟩, ⟨by repeat (first | (with_reducible first | exact HB.out | apply below_alloc | apply pw_below_drewN | apply below_drew1) | exact HB.out)⟩⟩
          ·rw [if_neg c7] at H
           have c7b0 : (Op.bytesLess ((rdOf ByteArray.empty x3_1 x5_2).toList) ((rdOf ByteArray.empty l0 x4_1).toList)) = false := by simpa using c7
           clear c7
           obtain ⟨y164, hy164⟩ : ∃ y_ : List ByteArray, y_ = (([rdOf ByteArray.empty l0 x4_1] : List ByteArray)) := ⟨_, rfl⟩
           replace H : (if x5_2 ≤ (x3_1.length : Int) then ((some (x3_1.drop (x5_2 : Int).toNat : List ByteArray)).bind fun y167 => (if y164.length + y167.length < 8796093022208 then ((some (y164 ++ y167 : List ByteArray)).bind fun y171 => ((some (([] : List ByteArray) : List ByteArray)).bind fun y174 => ((some (x3_1.take (x5_2 : Int).toNat : List ByteArray)).bind fun y177 => (if y174.length + y177.length < 8796093022208 then ((some (y174 ++ y177 : List ByteArray)).bind fun y181 => (if y181.length + y171.length < 8796093022208 then (heptadref28_sorted.l0 k2 l0 (y181 ++ y171) (wrap64 (x4_1 + 1))) else (none))) else (none))))) else (none))) else (none)) = some r := by first | (rw [hy164]; with_reducible exact H) | (have H2_ := (Option.bind_some _ _).symm.trans H; rw [hy164]; with_reducible exact H2_) | (have H2_ := (Option.bind_some _ _).symm.trans H; with_reducible exact H2_) | with_reducible exact H | (rw [hy164]; exact H) | exact H
           have Ny164 := Aside0.mk hy164
           clear hy164
           have c10b0 := eq_true (of_decide_eq_true (by first | (with_reducible assumption) | assumption) : 0 ≤ x5_2)
           by_cases c11 : x5_2 ≤ (x3_1.length : Int)
           ·rw [if_pos c11] at H
            have c11b0 := eq_true c11
            have c11b1 : decide (x5_2 ≤ (x3_1.length : Int)) = true := decide_eq_true c11
            clear c11
            obtain ⟨y167, hy167⟩ : ∃ y_ : List ByteArray, y_ = (x3_1.drop (x5_2 : Int).toNat) := ⟨_, rfl⟩
            replace H : (if y164.length + y167.length < 8796093022208 then ((some (y164 ++ y167 : List ByteArray)).bind fun y171 => ((some (([] : List ByteArray) : List ByteArray)).bind fun y174 => ((some (x3_1.take (x5_2 : Int).toNat : List ByteArray)).bind fun y177 => (if y174.length + y177.length < 8796093022208 then ((some (y174 ++ y177 : List ByteArray)).bind fun y181 => (if y181.length + y171.length < 8796093022208 then (heptadref28_sorted.l0 k2 l0 (y181 ++ y171) (wrap64 (x4_1 + 1))) else (none))) else (none))))) else (none)) = some r := by first | (rw [hy167]; with_reducible exact H) | (have H2_ := (Option.bind_some _ _).symm.trans H; rw [hy167]; with_reducible exact H2_) | (have H2_ := (Option.bind_some _ _).symm.trans H; with_reducible exact H2_) | with_reducible exact H | (rw [hy167]; exact H) | exact H
            have Ny167 := Aside0.mk hy167
            clear hy167
            by_cases c12 : y164.length + y167.length < 8796093022208
            ·rw [if_pos c12] at H
             have LMc12 := Aside0.mk c12
             clear c12
             obtain ⟨y171, hy171⟩ : ∃ y_ : List ByteArray, y_ = (y164 ++ y167) := ⟨_, rfl⟩
             replace H : ((some (([] : List ByteArray) : List ByteArray)).bind fun y174 => ((some (x3_1.take (x5_2 : Int).toNat : List ByteArray)).bind fun y177 => (if y174.length + y177.length < 8796093022208 then ((some (y174 ++ y177 : List ByteArray)).bind fun y181 => (if y181.length + y171.length < 8796093022208 then (heptadref28_sorted.l0 k2 l0 (y181 ++ y171) (wrap64 (x4_1 + 1))) else (none))) else (none)))) = some r := by first | (rw [hy171]; with_reducible exact H) | (have H2_ := (Option.bind_some _ _).symm.trans H; rw [hy171]; with_reducible exact H2_) | (have H2_ := (Option.bind_some _ _).symm.trans H; with_reducible exact H2_) | with_reducible exact H | (rw [hy171]; exact H) | exact H
             have Ny171 := Aside0.mk hy171
             clear hy171
             obtain ⟨y174, hy174⟩ : ∃ y_ : List ByteArray, y_ = (([] : List ByteArray)) := ⟨_, rfl⟩
             replace H : ((some (x3_1.take (x5_2 : Int).toNat : List ByteArray)).bind fun y177 => (if y174.length + y177.length < 8796093022208 then ((some (y174 ++ y177 : List ByteArray)).bind fun y181 => (if y181.length + y171.length < 8796093022208 then (heptadref28_sorted.l0 k2 l0 (y181 ++ y171) (wrap64 (x4_1 + 1))) else (none))) else (none))) = some r := by first | (rw [hy174]; with_reducible exact H) | (have H2_ := (Option.bind_some _ _).symm.trans H; rw [hy174]; with_reducible exact H2_) | (have H2_ := (Option.bind_some _ _).symm.trans H; with_reducible exact H2_) | with_reducible exact H | (rw [hy174]; exact H) | exact H
             have Ny174 := Aside0.mk hy174
             clear hy174
             have c13b0 := eq_true (of_decide_eq_true (by first | (with_reducible assumption) | assumption) : 0 ≤ x5_2)
             have c14b0 := eq_true (of_decide_eq_true (by first | (with_reducible assumption) | assumption) : x5_2 ≤ (x3_1.length : Int))
             obtain ⟨y177, hy177⟩ : ∃ y_ : List ByteArray, y_ = (x3_1.take (x5_2 : Int).toNat) := ⟨_, rfl⟩
             replace H : (if y174.length + y177.length < 8796093022208 then ((some (y174 ++ y177 : List ByteArray)).bind fun y181 => (if y181.length + y171.length < 8796093022208 then (heptadref28_sorted.l0 k2 l0 (y181 ++ y171) (wrap64 (x4_1 + 1))) else (none))) else (none)) = some r := by first | (rw [hy177]; with_reducible exact H) | (have H2_ := (Option.bind_some _ _).symm.trans H; rw [hy177]; with_reducible exact H2_) | (have H2_ := (Option.bind_some _ _).symm.trans H; with_reducible exact H2_) | with_reducible exact H | (rw [hy177]; exact H) | exact H
             have Ny177 := Aside0.mk hy177
             clear hy177
             by_cases c15 : y174.length + y177.length < 8796093022208
             ·rw [if_pos c15] at H
              have LMc15 := Aside0.mk c15
              clear c15
              obtain ⟨y181, hy181⟩ : ∃ y_ : List ByteArray, y_ = (y174 ++ y177) := ⟨_, rfl⟩
              replace H : (if y181.length + y171.length < 8796093022208 then (heptadref28_sorted.l0 k2 l0 (y181 ++ y171) (wrap64 (x4_1 + 1))) else (none)) = some r := by first | (rw [hy181]; with_reducible exact H) | (have H2_ := (Option.bind_some _ _).symm.trans H; rw [hy181]; with_reducible exact H2_) | (have H2_ := (Option.bind_some _ _).symm.trans H; with_reducible exact H2_) | with_reducible exact H | (rw [hy181]; exact H) | exact H
              have Ny181 := Aside0.mk hy181
              clear hy181
              by_cases c16 : y181.length + y171.length < 8796093022208
              ·rw [if_pos c16] at H
               have LMc16 := Aside0.mk c16
               clear c16
               obtain ⟨y184, hy184⟩ : ∃ y_ : List ByteArray, y_ = (y181 ++ y171) := ⟨_, rfl⟩
               replace H : (heptadref28_sorted.l0 k2 l0 y184 (wrap64 (x4_1 + 1))) = some r := by first | (rw [hy184]; with_reducible exact H) | (have H2_ := (Option.bind_some _ _).symm.trans H; rw [hy184]; with_reducible exact H2_) | (have H2_ := (Option.bind_some _ _).symm.trans H; with_reducible exact H2_) | with_reducible exact H | (rw [hy184]; exact H) | exact H
               have Ny184 := Aside0.mk hy184
               clear hy184
               have H' := Aside0.mk H
               clear H
               try go_wp2
               have n0_ := Aside0.mk (Kd.R_drew HO_3.out)
               have n1_ := Aside0.mk (below_drew1 HB.out)
               clear HO_3
               clear HB
               have HO_3 := n0_
               have HB := n1_
               clear n0_ n1_
               obtain ⟨Ao18, co18, eo18⟩ := Kd.R_slice HO_3.out
               (first | subst eo18 | (injection eo18 with f1_ f2_ f3_; have f4_ := f1_.symm; have f5_ := f3_.symm; clear f1_ f2_ f3_; subst f4_; subst f5_))
               have p161 : 0 ≤ (x5_2 : Int) := of_decide_eq_true (by first | (with_reducible assumption) | assumption)
               have q161 : x5_2 < (x3_1.length : Int) := of_decide_eq_true (by first | (with_reducible assumption) | assumption)
               obtain ⟨ad161, e161, hx161_0⟩ := Kd.at_string (Kd.R_reads' HO_3.out).2.2 x5_2 p161 q161
               cases e161
               replace p161 := eq_true p161
               replace q161 := eq_true q161
               have p162 : 0 ≤ (x4_1 : Int) := of_decide_eq_true (by first | (with_reducible assumption) | assumption)
               have q162 : x4_1 < (l0.length : Int) := of_decide_eq_true (by first | (with_reducible assumption) | assumption)
               obtain ⟨ad162, e162, hx162_0⟩ := Kd.at_string HR0.out x4_1 p162 q162
               have hw162_0 := hx162_0
               cases e162
               replace hx162_0 := (HB.out.cell (World.block_lt_of_cell? w _ hx162_0)).trans hx162_0
               replace p162 := eq_true p162
               replace q162 := eq_true q162
               refine start_ (n := 15) (S := fun w' => w'.cell? (ad161.add (x5_2).toNat) = some (.string (rdOf ByteArray.empty x3_1 x5_2)) ∧ w'.cell? (ad162.add (x4_1).toNat) = some (.string (rdOf ByteArray.empty l0 x4_1))) (ds := []) #[false, false, false, false, false, false, false, false, false, false, false, false, false, false, false] (by kernel_rfl) rfl rfl ⟨hx161_0, ((HB.out.cell (World.block_lt_of_cell? w _ hw162_0)).trans hw162_0)⟩ (fun hHeld => ?_); refine with_tabW heptadref28_sorted.tab6 heptadref28_sorted.bits6 (fun HT_ HW_ => ?_)
               generalize wr.drew = w17 at HO_3 HB hx161_0 hx162_0 hHeld ⊢
               refine pure_ (i := 0) (N := some 13) (v := ?_) (a' := ?_) #[true, false, false, false, false, false, false, false, false, false, false, false, false, false, false] rfl rfl (any_of HT_.out (by kernel_rfl)) (fun _ _ _ h => h) (Or.inl ⟨by rfl, ?_⟩) ?_ ?_
               rotate_left
               ·intro w'
                go_simp
                with_reducible rfl
               rotate_left
               ·simp only [Act.put, List.setIfInBounds_toArray, List.set_cons_zero, List.set_cons_succ, i64_w, i32_w]
                rfl
               refine pure_ (i := 1) (N := some 14) (v := ?_) (a' := ?_) #[true, true, false, false, false, false, false, false, false, false, false, false, false, false, false] rfl rfl (any_of HT_.out (by kernel_rfl)) (fun _ _ _ h => h) (Or.inl ⟨by rfl, ?_⟩) ?_ ?_
               rotate_left
               ·intro w'
                go_simp
                with_reducible rfl
               rotate_left
               ·simp only [Act.put, List.setIfInBounds_toArray, List.set_cons_zero, List.set_cons_succ, i64_w, i32_w]
                rfl
               refine pure_ (i := 2) (N := some 15) (v := ?_) (a' := ?_) #[true, true, true, false, false, false, false, false, false, false, false, false, false, false, false] rfl rfl (any_of HT_.out (by kernel_rfl)) (fun _ _ _ h => h) (Or.inl ⟨by rfl, ?_⟩) ?_ ?_
               rotate_left
               ·intro w'
                go_simp
                with_reducible rfl
               rotate_left
               ·simp only [Act.put, List.setIfInBounds_toArray, List.set_cons_zero, List.set_cons_succ, i64_w, i32_w]
                rfl
               refine pure_ (i := 3) (N := some 16) (v := ?_) (a' := ?_) #[true, true, true, true, false, false, false, false, false, false, false, false, false, false, false] rfl rfl (any_of HT_.out (by kernel_rfl)) (fun _ _ _ h => h) (Or.inl ⟨by rfl, ?_⟩) ?_ ?_
               rotate_left
               ·intro w'
                go_simp
                with_reducible rfl
               rotate_left
               ·simp only [Act.put, List.setIfInBounds_toArray, List.set_cons_zero, List.set_cons_succ, i64_w, i32_w]
                rfl
               refine pure_ (i := 4) (N := some 17) (v := ?_) (a' := ?_) #[true, true, true, true, true, false, false, false, false, false, false, false, false, false, false] rfl rfl (any_of HT_.out (by kernel_rfl)) (fun _ _ _ h => h) (Or.inl ⟨by rfl, ?_⟩) ?_ ?_
               rotate_left
               ·intro w'
                go_simp
                with_reducible rfl
               rotate_left
               ·simp only [Act.put, List.setIfInBounds_toArray, List.set_cons_zero, List.set_cons_succ, i64_w, i32_w]
                rfl
               refine pure_ (i := 5) (N := some 18) (v := ?_) (a' := ?_) #[true, true, true, true, true, true, false, false, false, false, false, false, false, false, false] rfl rfl (any_of HT_.out (by kernel_rfl)) (fun _ _ _ h => h) (Or.inl ⟨by rfl, ?_⟩) ?_ ?_
               rotate_left
               ·intro w'
                go_simp
                with_reducible rfl
               rotate_left
               ·simp only [Act.put, List.setIfInBounds_toArray, List.set_cons_zero, List.set_cons_succ, i64_w, i32_w]
                rfl
               refine pure_ (i := 6) (N := some 19) (v := ?_) (a' := ?_) #[true, true, true, true, true, true, true, false, false, false, false, false, false, false, false] rfl rfl (any_of HT_.out (by kernel_rfl)) (fun _ _ _ h => h) (Or.inl ⟨by rfl, ?_⟩) ?_ ?_
               rotate_left
               ·intro w'
                go_simp
                with_reducible rfl
               rotate_left
               ·simp only [Act.put, List.setIfInBounds_toArray, List.set_cons_zero, List.set_cons_succ, i64_w, i32_w]
                rfl
               refine pure_ (i := 7) (N := some 20) (v := ?_) (a' := ?_) #[true, true, true, true, true, true, true, true, false, false, false, false, false, false, false] rfl rfl (any_of HT_.out (by kernel_rfl)) (fun _ _ _ h => h) (Or.inl ⟨by rfl, ?_⟩) ?_ ?_
               rotate_left
               ·intro w'
                go_simp
                with_reducible rfl
               rotate_left
               ·simp only [Act.put, List.setIfInBounds_toArray, List.set_cons_zero, List.set_cons_succ, i64_w, i32_w]
                rfl
               refine pure_ (i := 9) (N := some 22) (v := ?_) (a' := ?_) #[true, true, true, true, true, true, true, true, false, true, false, false, false, false, false] rfl rfl (any_of HT_.out (by kernel_rfl)) (fun _ _ _ h => h) (Or.inl ⟨by rfl, ?_⟩) ?_ ?_
               rotate_left
               ·intro w'
                go_simp
                with_reducible rfl
               rotate_left
               ·simp only [Act.put, List.setIfInBounds_toArray, List.set_cons_zero, List.set_cons_succ, i64_w, i32_w]
                rfl
               refine pure_ (i := 10) (N := some 23) (v := ?_) (a' := ?_) #[true, true, true, true, true, true, true, true, false, true, true, false, false, false, false] rfl rfl (any_of HT_.out (by kernel_rfl)) (fun _ _ _ h => h) (Or.inl ⟨by rfl, ?_⟩) ?_ ?_
               rotate_left
               ·intro w'
                go_simp
                with_reducible rfl
               rotate_left
               ·simp only [Act.put, List.setIfInBounds_toArray, List.set_cons_zero, List.set_cons_succ, i64_w, i32_w]
                rfl
               refine pure_ (i := 11) (N := some 24) (v := ?_) (a' := ?_) #[true, true, true, true, true, true, true, true, false, true, true, true, false, false, false] rfl rfl (any_of HT_.out (by kernel_rfl)) (fun _ _ _ h => h) (Or.inl ⟨by rfl, ?_⟩) ?_ ?_
               rotate_left
               ·intro w'
                go_simp
                with_reducible rfl
               rotate_left
               ·simp only [Act.put, List.setIfInBounds_toArray, List.set_cons_zero, List.set_cons_succ, i64_w, i32_w]
                rfl
               refine take_ (i := 8) (N := some 21) (v := ?_) (a' := ?_) #[true, true, true, true, true, true, true, true, true, true, true, true, false, false, false] rfl rfl (take_ofW HT_.out HW_.out (by kernel_rfl)) (fun _ _ _ h => h) (Or.inl ⟨by rfl, ?_⟩) hHeld ?_ ?_
               rotate_left
               ·rintro w' ⟨s0, s1⟩
                go_simp
                with_reducible rfl
               rotate_left
               ·simp only [Act.put, List.setIfInBounds_toArray, List.set_cons_zero, List.set_cons_succ, i64_w, i32_w]
                rfl
               refine take_ (i := 12) (N := some 25) (v := ?_) (a' := ?_) #[true, true, true, true, true, true, true, true, true, true, true, true, true, false, false] rfl rfl (take_ofW HT_.out HW_.out (by kernel_rfl)) (fun _ _ _ h => h) (Or.inl ⟨by rfl, ?_⟩) hHeld ?_ ?_
               rotate_left
               ·rintro w' ⟨s0, s1⟩
                go_simp
                with_reducible rfl
               rotate_left
               ·simp only [Act.put, List.setIfInBounds_toArray, List.set_cons_zero, List.set_cons_succ, i64_w, i32_w]
                rfl
               refine pure_ (i := 13) (N := some 26) (v := ?_) (a' := ?_) #[true, true, true, true, true, true, true, true, true, true, true, true, true, true, false] rfl rfl (any_of HT_.out (by kernel_rfl)) (fun _ _ _ h => h) (Or.inl ⟨by rfl, ?_⟩) ?_ ?_
               rotate_left
               ·intro w'
                go_simp
                with_reducible rfl
               rotate_left
               ·simp only [Act.put, List.setIfInBounds_toArray, List.set_cons_zero, List.set_cons_succ, i64_w, i32_w]
                rfl
               refine pure_ (i := 14) (N := some 27) (v := ?_) (a' := ?_) #[true, true, true, true, true, true, true, true, true, true, true, true, true, true, true] rfl rfl (any_of HT_.out (by kernel_rfl)) (fun _ _ _ h => h) (Or.inl ⟨by rfl, ?_⟩) ?_ ?_
               rotate_left
               ·intro w'
                go_simp
                with_reducible rfl
               rotate_left
               ·simp only [Act.put, List.setIfInBounds_toArray, List.set_cons_zero, List.set_cons_succ, i64_w, i32_w]
                rfl
               refine done_ (done_of HT_.out (by kernel_rfl)) ?_
               try go_wp2
               have n0_ := Aside0.mk (Kd.R_drew HO_3.out)
               have n1_ := Aside0.mk (below_drew1 HB.out)
               clear HO_3
               clear HB
               have HO_3 := n0_
               have HB := n1_
               clear n0_ n1_
               have p163 : 0 ≤ (x4_1 : Int) := of_decide_eq_true (by first | (with_reducible assumption) | assumption)
               have q163 : x4_1 < (l0.length : Int) := of_decide_eq_true (by first | (with_reducible assumption) | assumption)
               obtain ⟨ad163, e163, hx163_0⟩ := Kd.at_string HR0.out x4_1 p163 q163
               have hw163_0 := hx163_0
               obtain rfl : ad162 = ad163 := (by injection e163)
               replace hx163_0 := (HB.out.cell (World.block_lt_of_cell? w _ hx163_0)).trans hx163_0
               replace p163 := eq_true p163
               replace q163 := eq_true q163
               have q20 : (x5_2 : Int) ≤ ((x3_1.length : Int) : Int) := of_decide_eq_true (by first | (with_reducible assumption) | assumption)
               obtain ⟨i020, hi020, _, hsz20, _⟩ := info_parts info9
               have hroom20 : x3_1.length ≤ co18 := (Kd.R_reads' HO_3.out).2.1
               have hC20 : Kd.C Kd.string _ (some ad161) x3_1.length x3_1 := (Kd.R_reads' HO_3.out).2.2
               have q020 : (0 : Int) ≤ (x5_2 : Int) := of_decide_eq_true (by first | (with_reducible assumption) | assumption)
               have hcut20 := cut_from (P := Tryz.prog) 30 9 .i64 Tryz.underlying30 hi020 1 hsz20 (some ad161) x3_1.length co18 x5_2 q020 q20
               have hr20 := Kd.C_drop (m := (x5_2 : Int).toNat) (c := co18) hC20 (by omega) hroom20
               obtain ⟨A20, hA20⟩ : ∃ A1, A1 = (if co18 = (x5_2 : Int).toNat then (some ad161) else ((some ad161) : Option Addr).map (·.add ((x5_2 : Int).toNat * 1))) := ⟨_, rfl⟩
               obtain ⟨c20, hc20⟩ : ∃ c1, c1 = co18 - (x5_2 : Int).toNat := ⟨_, rfl⟩
               have hy20 : y167.length = x3_1.length - (x5_2 : Int).toNat := (by rw [Ny167.out, List.length_drop] <;> omega)
               rw [show (x3_1).drop (x5_2 : Int).toNat = y167 from Ny167.out.symm] at hr20
               replace hr20 : Kd.C Kd.string _ A20 y167.length y167 := (by rw [hA20]; exact hr20)
               rw [← hy20, ← hA20, ← hc20] at hcut20
               have HR170 := Aside0.mk hr20
               have HC170 := Aside0.mk (show y167.length ≤ c20 from by rw [hy20, hc20]; exact Nat.sub_le_sub_right hroom20 _)
               clear hr20 hC20 hroom20 hi020 hsz20 hc20
               have KY20 := Aside0.mk hy20
               have KA20 := Aside0.mk hA20
               clear hy20 hA20
               have KL20 := Aside0.mk (show (x5_2 : Int).toNat ≤ x3_1.length from by omega)
               replace q20 := eq_true q20
               refine start_ (n := 10) (S := fun w' => w'.cell? (ad162.add (x4_1).toNat) = some (.string (rdOf ByteArray.empty l0 x4_1))) (ds := []) #[false, false, false, false, false, false, false, false, false, false] (by kernel_rfl) rfl rfl (((HB.out.cell (World.block_lt_of_cell? w _ hw163_0)).trans hw163_0)) (fun hHeld => ?_); refine with_tabW heptadref28_sorted.tab8 heptadref28_sorted.bits8 (fun HT_ HW_ => ?_)
               generalize w17.drew = w19 at HO_3 HB HR170 hx163_0 hHeld ⊢
               refine pure_ (i := 0) (N := some 30) (v := ?_) (a' := ?_) #[true, false, false, false, false, false, false, false, false, false] rfl rfl (any_of HT_.out (by kernel_rfl)) (fun _ _ _ h => h) (Or.inl ⟨by rfl, ?_⟩) ?_ ?_
               rotate_left
               ·intro w'
                go_simp
                with_reducible rfl
               rotate_left
               ·simp only [Act.put, List.setIfInBounds_toArray, List.set_cons_zero, List.set_cons_succ, i64_w, i32_w]
                rfl
               refine pure_ (i := 1) (N := some 31) (v := ?_) (a' := ?_) #[true, true, false, false, false, false, false, false, false, false] rfl rfl (any_of HT_.out (by kernel_rfl)) (fun _ _ _ h => h) (Or.inl ⟨by rfl, ?_⟩) ?_ ?_
               rotate_left
               ·intro w'
                go_simp
                with_reducible rfl
               rotate_left
               ·simp only [Act.put, List.setIfInBounds_toArray, List.set_cons_zero, List.set_cons_succ, i64_w, i32_w]
                rfl
               refine pure_ (i := 2) (N := some 32) (v := ?_) (a' := ?_) #[true, true, true, false, false, false, false, false, false, false] rfl rfl (any_of HT_.out (by kernel_rfl)) (fun _ _ _ h => h) (Or.inl ⟨by rfl, ?_⟩) ?_ ?_
               rotate_left
               ·intro w'
                go_simp
                with_reducible rfl
               rotate_left
               ·simp only [Act.put, List.setIfInBounds_toArray, List.set_cons_zero, List.set_cons_succ, i64_w, i32_w]
                rfl
               refine pure_ (i := 5) (N := some 35) (v := ?_) (a' := ?_) #[true, true, true, false, false, true, false, false, false, false] rfl rfl (any_of HT_.out (by kernel_rfl)) (fun _ _ _ h => h) (Or.inl ⟨by rfl, ?_⟩) ?_ ?_
               rotate_left
               ·intro w'
                go_simp
                with_reducible rfl
               rotate_left
               ·simp only [Act.put, List.setIfInBounds_toArray, List.set_cons_zero, List.set_cons_succ, i64_w, i32_w]
                rfl
               refine pure_ (i := 6) (N := some 36) (v := ?_) (a' := ?_) #[true, true, true, false, false, true, true, false, false, false] rfl rfl (any_of HT_.out (by kernel_rfl)) (fun _ _ _ h => h) (Or.inl ⟨by rfl, ?_⟩) ?_ ?_
               rotate_left
               ·intro w'
                go_simp
                with_reducible rfl
               rotate_left
               ·simp only [Act.put, List.setIfInBounds_toArray, List.set_cons_zero, List.set_cons_succ, i64_w, i32_w]
                rfl
               refine pure_ (i := 7) (N := some 37) (v := ?_) (a' := ?_) #[true, true, true, false, false, true, true, true, false, false] rfl rfl (any_of HT_.out (by kernel_rfl)) (fun _ _ _ h => h) (Or.inl ⟨by rfl, ?_⟩) ?_ ?_
               rotate_left
               ·intro w'
                go_simp
                with_reducible rfl
               rotate_left
               ·simp only [Act.put, List.setIfInBounds_toArray, List.set_cons_zero, List.set_cons_succ, i64_w, i32_w]
                rfl
               refine take_ (i := 3) (N := some 33) (v := ?_) (a' := ?_) #[true, true, true, true, false, true, true, true, false, false] rfl rfl (take_ofW HT_.out HW_.out (by kernel_rfl)) (fun _ _ _ h => h) (Or.inl ⟨by rfl, ?_⟩) hHeld ?_ ?_
               rotate_left
               ·intro w' s0
                go_simp
                with_reducible rfl
               rotate_left
               ·simp only [Act.put, List.setIfInBounds_toArray, List.set_cons_zero, List.set_cons_succ, i64_w, i32_w]
                rfl
               refine one_ (i := 4) (N := some 34) #[true, true, true, true, true, true, true, true, false, false] rfl rfl (one_of HT_.out (by kernel_rfl)) (by decide) (fun K hK => ?_)
               refine Kd.R_lit_step Kd.string _ 9 ?hg (N := 34) ?hd (xs := ([rdOf ByteArray.empty l0 x4_1] : List ByteArray)) (inner := [.string (rdOf ByteArray.empty l0 x4_1)]) (ok := fun _ => True) (okp := fun _ => True) ?hr ?hp (fun _ hk => hk) trivial (Below.refl _ _) (Nat.le_refl _) (by simp) ?_; (case hd => rfl); (case hg => rfl); (case hr => first | (go_simp; done) | (go_simp; rfl)); (case hp => exact (Reps.one (show Kd.M Kd.string _ _ _ (rdOf ByteArray.empty l0 x4_1) [.string (rdOf ByteArray.empty l0 x4_1)] from rfl) (Reps.none _ _)))
               intro v165 w21 ho22 hb hg_ hnew_
               clear hg_ hnew_
               (first | rw [← Ny164.out] at ho22 | (simp only [Int.reduceToNat] at ho22; rw [← Ny164.out] at ho22))
               have n0_ := Aside0.mk (Kd.R_elder' (by (with_reducible repeat (first | apply Kd.R_alloc | apply Kd.R_drewN | apply Kd.R_drew)); exact HO_3.out) (Kd.R_base ho22) hb)
               have n1_ := Aside0.mk (Kd.R_lower (Kd.R_new' ho22 (Kd.R_lt (by (with_reducible repeat (first | apply Kd.R_alloc | apply Kd.R_drewN | apply Kd.R_drew)); exact HO_3.out))) (below_size (by repeat (first | (with_reducible first | exact HB.out | apply below_alloc | apply pw_below_drewN | apply below_drew1) | exact HB.out))))
               have n2_ := Aside0.mk (Kd.C_below (by repeat (first | (with_reducible exact HR170.out) | (with_reducible refine Kd.C_alloc ?_ _) | (with_reducible refine Kd.C_drewN ?_ _) | (with_reducible refine Kd.C_drew ?_) | exact HR170.out)) hb)
               have n3_ := Aside0.mk (below_step (by repeat (first | (with_reducible first | exact HB.out | apply below_alloc | apply pw_below_drewN | apply below_drew1) | exact HB.out)) hb)
               clear HO_3
               clear HR170
               clear HB
               have HO_3 := n0_
               have HO166 := n1_
               have HR170 := n2_
               have HB := n3_
               clear n0_ n1_ n2_ n3_
               clear hb ho22
               refine hK.out _ _ (((HB.out.cell (World.block_lt_of_cell? w _ hw163_0)).trans hw163_0)) (fun hHeld => ?_)
               clear hK K
               refine norm_ (a' := ?_) ?_ ?_
               rotate_left
               ·show Act.put _ (some 34) _ = _
                simp only [Act.put, List.setIfInBounds_toArray, List.set_cons_zero, List.set_cons_succ, i64_w, i32_w]
                rfl
               refine one_ (i := 8) (N := some 38) #[true, true, true, true, true, true, true, true, true, false] rfl rfl (one_of HT_.out (by kernel_rfl)) (by decide) (fun K hK => ?_)
               refine Kd.R_append_rows_step Kd.string (w0 := w) w.heap.size (by rfl) (.tmp 34) (.tmp 37) 30 9 (.string ⟨#[]⟩) 16 rfl Tryz.underlying30 info9 rfl (by decide) (by omega) v165 y164 y167 _ _ _ (fun k_ => some k_ ≠ (.slice (some ad161) x3_1.length co18 : Value).ownBlock) (fun _ => False) rfl rfl ?aO ?aR (fun _ _ h => h) (fun _ h => h.elim) ?aF ?aB ?aS ?aL ?_
               (case aR => repeat (first | exact (by repeat (first | (with_reducible exact HR170.out) | (with_reducible refine Kd.C_alloc ?_ _) | (with_reducible refine Kd.C_drewN ?_ _) | (with_reducible refine Kd.C_drew ?_) | exact HR170.out)) | (with_reducible refine Kd.C_alloc ?_ _) | (with_reducible refine Kd.C_drewN ?_ _) | (with_reducible refine Kd.C_drew ?_)))
               (case aB => exact (by repeat (first | (with_reducible first | exact HB.out | apply below_alloc | apply pw_below_drewN | apply below_drew1) | exact HB.out)))
               (case aF => exact (fun k_ hk => Kd.fresh' (Kd.R_lt (by (with_reducible repeat (first | apply Kd.R_alloc | apply Kd.R_drewN | apply Kd.R_drew)); exact HO_3.out)) k_ hk))
               (case aO => exact (by (with_reducible repeat (first | apply Kd.R_alloc | apply Kd.R_drewN | apply Kd.R_drew)); exact Kd.R_mono HO166.out (fun _ hk => hk.2)))
               (case aS => exact (below_size (by repeat (first | (with_reducible first | exact HB.out | apply below_alloc | apply pw_below_drewN | apply below_drew1) | exact HB.out))))
               (case aL => have := LMc12.out; omega)
               intro v172 w23 ho hb hg hat
               rw [← Ny171.out] at ho
               have n0_ := Aside0.mk (Kd.R_after (ok := (fun _ => True)) (by (with_reducible repeat (first | apply Kd.R_alloc | apply Kd.R_drewN | apply Kd.R_drew)); exact HO_3.out) hg hat)
               have n1_ := Aside0.mk (hb)
               have n2_ := Aside0.mk ((show Kd.C Kd.string w23 A20 y167.length y167 from by rw [Ny167.out, KA20.out]; exact Kd.C_drop (m := (x5_2 : Int).toNat) (c := co18) ((Kd.R_reads' (Kd.R_after (ok := (fun _ => True)) (by (with_reducible repeat (first | apply Kd.R_alloc | apply Kd.R_drewN | apply Kd.R_drew)); exact HO_3.out) hg hat)).2.2) KL20.out ((Kd.R_reads' (Kd.R_after (ok := (fun _ => True)) (by (with_reducible repeat (first | apply Kd.R_alloc | apply Kd.R_drewN | apply Kd.R_drew)); exact HO_3.out) hg hat)).2.1)))
               have n3_ := Aside0.mk (ho)
               clear HO_3
               clear HB
               clear HR170
               clear HO166
               have HO_3 := n0_
               have HB := n1_
               have HR170 := n2_
               have HO173 := n3_
               clear n0_ n1_ n2_ n3_
               clear ho hb hg hat
               refine hK.out _ _ (((HB.out.cell (World.block_lt_of_cell? w _ hw163_0)).trans hw163_0)) (fun hHeld => ?_)
               clear hK K
               refine norm_ (a' := ?_) ?_ ?_
               rotate_left
               ·show Act.put _ (some 38) _ = _
                simp only [Act.put, List.setIfInBounds_toArray, List.set_cons_zero, List.set_cons_succ, i64_w, i32_w]
                rfl
               refine pure_ (i := 9) (N := some 6) (v := ?_) (a' := ?_) #[true, true, true, true, true, true, true, true, true, true] rfl rfl (any_of HT_.out (by kernel_rfl)) (fun _ _ _ h => h) (Or.inl ⟨by rfl, ?_⟩) ?_ ?_
               rotate_left
               ·intro w'
                go_simp
                with_reducible rfl
               rotate_left
               ·simp only [Act.put, List.setIfInBounds_toArray, List.set_cons_zero, List.set_cons_succ, i64_w, i32_w]
                rfl
               refine done_ (done_of HT_.out (by kernel_rfl)) ?_
               try go_wp2_with (first | ((with_reducible refine gate_dst (N := 39) rfl ?_); refine Kd.R_lit Kd.string _ 9 ?hg (N := 39) ?hd (xs := ([] : List ByteArray)) (inner := []) (ok := fun _ => True) (okp := fun _ => True) ?hr ?hp (fun _ hk => hk) trivial (Below.refl _ _) (Nat.le_refl _) (by simp) ?_; (case hd => rfl); (case hg => rfl); (case hr => first | (go_simp; done) | (go_simp; rfl)); (case hp => exact (Reps.none _ _)); intro v175 w24 ho25 hb hg_ hnew_; clear hg_ hnew_; (first | rw [← Ny174.out] at ho25 | (simp only [Int.reduceToNat] at ho25; rw [← Ny174.out] at ho25)); have n0_ := Aside0.mk (Kd.R_elder' (by (with_reducible repeat (first | apply Kd.R_alloc | apply Kd.R_drewN | apply Kd.R_drew)); exact HO_3.out) (Kd.R_base ho25) hb); have n1_ := Aside0.mk (Kd.R_elder' (by (with_reducible repeat (first | apply Kd.R_alloc | apply Kd.R_drewN | apply Kd.R_drew)); exact HO173.out) (Kd.R_base ho25) hb); have n2_ := Aside0.mk (Kd.R_lower (Kd.R_new' (Kd.R_new' ho25 (Kd.R_lt (by (with_reducible repeat (first | apply Kd.R_alloc | apply Kd.R_drewN | apply Kd.R_drew)); exact HO_3.out))) (Kd.R_lt (by (with_reducible repeat (first | apply Kd.R_alloc | apply Kd.R_drewN | apply Kd.R_drew)); exact HO173.out))) (below_size (by repeat (first | (with_reducible first | exact HB.out | apply below_alloc | apply pw_below_drewN | apply below_drew1) | exact HB.out)))); have n3_ := Aside0.mk (Kd.C_below (by repeat (first | (with_reducible exact HR170.out) | (with_reducible refine Kd.C_alloc ?_ _) | (with_reducible refine Kd.C_drewN ?_ _) | (with_reducible refine Kd.C_drew ?_) | exact HR170.out)) hb); have n4_ := Aside0.mk (below_step (by repeat (first | (with_reducible first | exact HB.out | apply below_alloc | apply pw_below_drewN | apply below_drew1) | exact HB.out)) hb); clear HO_3; clear HO173; clear HR170; clear HB; have HO_3 := n0_; have HO173 := n1_; have HO176 := n2_; have HR170 := n3_; have HB := n4_; clear n0_ n1_ n2_ n3_ n4_; clear hb ho25; have q26 : (x5_2 : Int) ≤ ((x3_1.length : Int) : Int) := of_decide_eq_true (by first | (with_reducible assumption) | assumption); obtain ⟨i026, hi026, _, hsz26, _⟩ := info_parts info9; have hroom26 : x3_1.length ≤ co18 := (Kd.R_reads' HO_3.out).2.1; have hC26 : Kd.C Kd.string _ (some ad161) x3_1.length x3_1 := (Kd.R_reads' HO_3.out).2.2; have hcut26 := cut_to (P := Tryz.prog) 30 9 .i64 Tryz.underlying30 hi026 (some ad161) x3_1.length co18 x5_2 (of_decide_eq_true (by first | (with_reducible assumption) | assumption)) q26 hroom26; have hr26 := Kd.C_take (m := (x5_2 : Int).toNat) hC26 (by omega); have hy26 : y177.length = (x5_2 : Int).toNat := (by rw [Ny177.out, List.length_take]; omega); rw [← Ny177.out] at hr26; rw [← hy26] at hcut26; have HR180 := Aside0.mk hr26; have HC180 := Aside0.mk (show y177.length ≤ co18 from by omega); clear hr26 hC26 hroom26 hi026 hsz26; have KY26 := Aside0.mk hy26; clear hy26; have KL26 := Aside0.mk (show (x5_2 : Int).toNat ≤ x3_1.length from by omega); replace q26 := eq_true q26) | ((with_reducible refine gate_builtin (b := .append) (xs := #[.tmp 39, .tmp 42]) rfl ?_); at_builtin; refine Kd.R_append_rows Kd.string (w0 := w) w.heap.size rfl (.tmp 39) (.tmp 42) 30 9 (.string ⟨#[]⟩) 16 rfl Tryz.underlying30 info9 rfl (by decide) (by omega) v175 y174 y177 _ _ _ (fun k_ => some k_ ≠ (.slice (some ad161) x3_1.length co18 : Value).ownBlock ∧ some k_ ≠ (v172 : Value).ownBlock) (fun _ => False) rfl rfl ?aO ?aR (fun _ _ h => h) (fun _ h => h.elim) ?aF ?aB ?aS ?aL ?_; (case aR => repeat (first | exact (by repeat (first | (with_reducible exact HR180.out) | (with_reducible refine Kd.C_alloc ?_ _) | (with_reducible refine Kd.C_drewN ?_ _) | (with_reducible refine Kd.C_drew ?_) | exact HR180.out)) | (with_reducible refine Kd.C_alloc ?_ _) | (with_reducible refine Kd.C_drewN ?_ _) | (with_reducible refine Kd.C_drew ?_))); (case aB => exact (by repeat (first | (with_reducible first | exact HB.out | apply below_alloc | apply pw_below_drewN | apply below_drew1) | exact HB.out))); (case aF => exact (fun k_ hk => ⟨Kd.fresh' (Kd.R_lt (by (with_reducible repeat (first | apply Kd.R_alloc | apply Kd.R_drewN | apply Kd.R_drew)); exact HO_3.out)) k_ hk, Kd.fresh' (Kd.R_lt (by (with_reducible repeat (first | apply Kd.R_alloc | apply Kd.R_drewN | apply Kd.R_drew)); exact HO173.out)) k_ hk⟩)); (case aO => exact (by (with_reducible repeat (first | apply Kd.R_alloc | apply Kd.R_drewN | apply Kd.R_drew)); exact Kd.R_mono HO176.out (fun _ hk => ⟨hk.1.2, hk.2⟩))); (case aS => exact (below_size (by repeat (first | (with_reducible first | exact HB.out | apply below_alloc | apply pw_below_drewN | apply below_drew1) | exact HB.out)))); (case aL => have := LMc15.out; omega); intro v182 w27 ho hb hg hat; rw [← Ny181.out] at ho; have n0_ := Aside0.mk (Kd.R_after (ok := (fun k_ => some k_ ≠ (v172 : Value).ownBlock)) (by (with_reducible repeat (first | apply Kd.R_alloc | apply Kd.R_drewN | apply Kd.R_drew)); exact Kd.R_mono HO_3.out (fun _ hk => ⟨hk.1.2, hk.2⟩)) hg hat); have n1_ := Aside0.mk (Kd.R_after (ok := (fun k_ => some k_ ≠ (.slice (some ad161) x3_1.length co18 : Value).ownBlock)) (by (with_reducible repeat (first | apply Kd.R_alloc | apply Kd.R_drewN | apply Kd.R_drew)); exact HO173.out) hg hat); have n2_ := Aside0.mk (hb); have n3_ := Aside0.mk ((show Kd.C Kd.string w27 A20 y167.length y167 from by rw [Ny167.out, KA20.out]; exact Kd.C_drop (m := (x5_2 : Int).toNat) (c := co18) ((Kd.R_reads' (Kd.R_after (ok := (fun k_ => some k_ ≠ (v172 : Value).ownBlock)) (by (with_reducible repeat (first | apply Kd.R_alloc | apply Kd.R_drewN | apply Kd.R_drew)); exact Kd.R_mono HO_3.out (fun _ hk => ⟨hk.1.2, hk.2⟩)) hg hat)).2.2) KL20.out ((Kd.R_reads' (Kd.R_after (ok := (fun k_ => some k_ ≠ (v172 : Value).ownBlock)) (by (with_reducible repeat (first | apply Kd.R_alloc | apply Kd.R_drewN | apply Kd.R_drew)); exact Kd.R_mono HO_3.out (fun _ hk => ⟨hk.1.2, hk.2⟩)) hg hat)).2.1))); have n4_ := Aside0.mk ((show Kd.C Kd.string w27 (some ad161) y177.length y177 from by rw [Ny177.out]; exact Kd.C_take (m := (x5_2 : Int).toNat) ((Kd.R_reads' (Kd.R_after (ok := (fun k_ => some k_ ≠ (v172 : Value).ownBlock)) (by (with_reducible repeat (first | apply Kd.R_alloc | apply Kd.R_drewN | apply Kd.R_drew)); exact Kd.R_mono HO_3.out (fun _ hk => ⟨hk.1.2, hk.2⟩)) hg hat)).2.2) KL26.out)); have n5_ := Aside0.mk (ho); clear HO_3; clear HO173; clear HB; clear HR170; clear HR180; clear HO176; have HO_3 := n0_; have HO173 := n1_; have HB := n2_; have HR170 := n3_; have HR180 := n4_; have HO183 := n5_; clear n0_ n1_ n2_ n3_ n4_ n5_; clear ho hb hg hat; obtain ⟨Ao29, co29, eo29⟩ := Kd.R_slice HO173.out; subst eo29) | ((with_reducible refine gate_builtin (b := .append) (xs := #[.tmp 43, .tmp 44]) rfl ?_); at_builtin; refine Kd.R_append_rows Kd.string (w0 := w) w.heap.size rfl (.tmp 43) (.tmp 44) 30 9 (.string ⟨#[]⟩) 16 rfl Tryz.underlying30 info9 rfl (by decide) (by omega) v182 y181 y171 _ _ _ (fun k_ => some k_ ≠ (.slice (some ad161) x3_1.length co18 : Value).ownBlock ∧ some k_ ≠ (.slice Ao29 y171.length co29 : Value).ownBlock) (fun _ => False) rfl rfl ?aO ?aR (fun _ _ h => h) (fun _ h => h.elim) ?aF ?aB ?aS ?aL ?_; (case aR => repeat (first | exact (Kd.R_reads' HO173.out).2.2 | (with_reducible refine Kd.C_alloc ?_ _) | (with_reducible refine Kd.C_drewN ?_ _) | (with_reducible refine Kd.C_drew ?_))); (case aB => exact (by repeat (first | (with_reducible first | exact HB.out | apply below_alloc | apply pw_below_drewN | apply below_drew1) | exact HB.out))); (case aF => exact (fun k_ hk => ⟨Kd.fresh' (Kd.R_lt (by (with_reducible repeat (first | apply Kd.R_alloc | apply Kd.R_drewN | apply Kd.R_drew)); exact HO_3.out)) k_ hk, Kd.fresh' (Kd.R_lt (by (with_reducible repeat (first | apply Kd.R_alloc | apply Kd.R_drewN | apply Kd.R_drew)); exact HO173.out)) k_ hk⟩)); (case aO => exact (by (with_reducible repeat (first | apply Kd.R_alloc | apply Kd.R_drewN | apply Kd.R_drew)); exact HO183.out)); (case aS => exact (below_size (by repeat (first | (with_reducible first | exact HB.out | apply below_alloc | apply pw_below_drewN | apply below_drew1) | exact HB.out)))); (case aL => have := LMc16.out; omega); intro v185 w28 ho hb hg hat; rw [← Ny184.out] at ho; have n0_ := Aside0.mk (Kd.R_after (ok := (fun k_ => some k_ ≠ (.slice Ao29 y171.length co29 : Value).ownBlock)) (by (with_reducible repeat (first | apply Kd.R_alloc | apply Kd.R_drewN | apply Kd.R_drew)); exact HO_3.out) hg hat); have n1_ := Aside0.mk (Kd.R_after (ok := (fun k_ => some k_ ≠ (.slice (some ad161) x3_1.length co18 : Value).ownBlock)) (by (with_reducible repeat (first | apply Kd.R_alloc | apply Kd.R_drewN | apply Kd.R_drew)); exact HO173.out) hg hat); have n2_ := Aside0.mk (hb); have n3_ := Aside0.mk ((show Kd.C Kd.string w28 A20 y167.length y167 from by rw [Ny167.out, KA20.out]; exact Kd.C_drop (m := (x5_2 : Int).toNat) (c := co18) ((Kd.R_reads' (Kd.R_after (ok := (fun k_ => some k_ ≠ (.slice Ao29 y171.length co29 : Value).ownBlock)) (by (with_reducible repeat (first | apply Kd.R_alloc | apply Kd.R_drewN | apply Kd.R_drew)); exact HO_3.out) hg hat)).2.2) KL20.out ((Kd.R_reads' (Kd.R_after (ok := (fun k_ => some k_ ≠ (.slice Ao29 y171.length co29 : Value).ownBlock)) (by (with_reducible repeat (first | apply Kd.R_alloc | apply Kd.R_drewN | apply Kd.R_drew)); exact HO_3.out) hg hat)).2.1))); have n4_ := Aside0.mk ((show Kd.C Kd.string w28 (some ad161) y177.length y177 from by rw [Ny177.out]; exact Kd.C_take (m := (x5_2 : Int).toNat) ((Kd.R_reads' (Kd.R_after (ok := (fun k_ => some k_ ≠ (.slice Ao29 y171.length co29 : Value).ownBlock)) (by (with_reducible repeat (first | apply Kd.R_alloc | apply Kd.R_drewN | apply Kd.R_drew)); exact HO_3.out) hg hat)).2.2) KL26.out)); have n5_ := Aside0.mk (ho); clear HO_3; clear HO173; clear HB; clear HR170; clear HR180; clear HO183; have HO_3 := n0_; have HO173 := n1_; have HB := n2_; have HR170 := n3_; have HR180 := n4_; have HO186 := n5_; clear n0_ n1_ n2_ n3_ n4_ n5_; clear ho hb hg hat))
               go_roundg k2
               case measure => have := HK1.out; have := HK2.out; omega
               case rel => exact ⟨(y184), (wrap64 (x4_1 + 1)), (by first | rfl | (simp; done) | (simp [*]; done)), H', ⟨by have := HK1.out; have := HK2.out; omega⟩, ⟨by (with_reducible repeat (first | apply Kd.R_alloc | apply Kd.R_drewN | apply Kd.R_drew)); exact Kd.R_mono HO186.out (fun _ hk => trivial)⟩, ⟨by repeat (first | (with_reducible first | exact HB.out | apply below_alloc | apply pw_below_drewN | apply below_drew1) | exact HB.out)⟩⟩
              ·rw [if_neg c16] at H
               exact absurd H (by simp)
             ·rw [if_neg c15] at H
              exact absurd H (by simp)
            ·rw [if_neg c12] at H
             exact absurd H (by simp)
           ·rw [if_neg c11] at H
            exact absurd H (by simp)
         ·rw [if_neg c6] at H
          exact absurd H (by simp)
        ·rw [if_neg c5] at H
         exact absurd H (by simp)
       ·rw [if_neg c4] at H
        exact absurd H (by simp)
      ·rw [if_neg c3] at H
       have c3b0 : decide (x5_2 < (x3_1.length : Int)) = false := decide_eq_false c3
       clear c3
       by_cases c30 : 0 ≤ x4_1
       ·rw [if_pos c30] at H
        have c30b0 : decide (0 ≤ x4_1) = true := decide_eq_true c30
        clear c30
        by_cases c31 : x4_1 < (l0.length : Int)
        ·rw [if_pos c31] at H
         have c31b0 : decide (x4_1 < (l0.length : Int)) = true := decide_eq_true c31
         clear c31
         obtain ⟨y188, hy188⟩ : ∃ y_ : List ByteArray, y_ = (([rdOf ByteArray.empty l0 x4_1] : List ByteArray)) := ⟨_, rfl⟩
         replace H : (if 0 ≤ x5_2 then (if x5_2 ≤ (x3_1.length : Int) then ((some (x3_1.drop (x5_2 : Int).toNat : List ByteArray)).bind fun y191 => (if y188.length + y191.length < 8796093022208 then ((some (y188 ++ y191 : List ByteArray)).bind fun y195 => ((some (([] : List ByteArray) : List ByteArray)).bind fun y198 => ((some (x3_1.take (x5_2 : Int).toNat : List ByteArray)).bind fun y201 => (if y198.length + y201.length < 8796093022208 then ((some (y198 ++ y201 : List ByteArray)).bind fun y205 => (if y205.length + y195.length < 8796093022208 then (heptadref28_sorted.l0 k2 l0 (y205 ++ y195) (wrap64 (x4_1 + 1))) else (none))) else (none))))) else (none))) else (none)) else (none)) = some r := by first | (rw [hy188]; with_reducible exact H) | (have H2_ := (Option.bind_some _ _).symm.trans H; rw [hy188]; with_reducible exact H2_) | (have H2_ := (Option.bind_some _ _).symm.trans H; with_reducible exact H2_) | with_reducible exact H | (rw [hy188]; exact H) | exact H
         have Ny188 := Aside0.mk hy188
         clear hy188
         by_cases c32 : 0 ≤ x5_2
         ·rw [if_pos c32] at H
          have c32b0 := eq_true c32
          have c32b1 : decide (0 ≤ x5_2) = true := decide_eq_true c32
          clear c32
          by_cases c33 : x5_2 ≤ (x3_1.length : Int)
          ·rw [if_pos c33] at H
           have c33b0 := eq_true c33
           have c33b1 : decide (x5_2 ≤ (x3_1.length : Int)) = true := decide_eq_true c33
           clear c33
           obtain ⟨y191, hy191⟩ : ∃ y_ : List ByteArray, y_ = (x3_1.drop (x5_2 : Int).toNat) := ⟨_, rfl⟩
           replace H : (if y188.length + y191.length < 8796093022208 then ((some (y188 ++ y191 : List ByteArray)).bind fun y195 => ((some (([] : List ByteArray) : List ByteArray)).bind fun y198 => ((some (x3_1.take (x5_2 : Int).toNat : List ByteArray)).bind fun y201 => (if y198.length + y201.length < 8796093022208 then ((some (y198 ++ y201 : List ByteArray)).bind fun y205 => (if y205.length + y195.length < 8796093022208 then (heptadref28_sorted.l0 k2 l0 (y205 ++ y195) (wrap64 (x4_1 + 1))) else (none))) else (none))))) else (none)) = some r := by first | (rw [hy191]; with_reducible exact H) | (have H2_ := (Option.bind_some _ _).symm.trans H; rw [hy191]; with_reducible exact H2_) | (have H2_ := (Option.bind_some _ _).symm.trans H; with_reducible exact H2_) | with_reducible exact H | (rw [hy191]; exact H) | exact H
           have Ny191 := Aside0.mk hy191
           clear hy191
           by_cases c34 : y188.length + y191.length < 8796093022208
           ·rw [if_pos c34] at H
            have LMc34 := Aside0.mk c34
            clear c34
            obtain ⟨y195, hy195⟩ : ∃ y_ : List ByteArray, y_ = (y188 ++ y191) := ⟨_, rfl⟩
            replace H : ((some (([] : List ByteArray) : List ByteArray)).bind fun y198 => ((some (x3_1.take (x5_2 : Int).toNat : List ByteArray)).bind fun y201 => (if y198.length + y201.length < 8796093022208 then ((some (y198 ++ y201 : List ByteArray)).bind fun y205 => (if y205.length + y195.length < 8796093022208 then (heptadref28_sorted.l0 k2 l0 (y205 ++ y195) (wrap64 (x4_1 + 1))) else (none))) else (none)))) = some r := by first | (rw [hy195]; with_reducible exact H) | (have H2_ := (Option.bind_some _ _).symm.trans H; rw [hy195]; with_reducible exact H2_) | (have H2_ := (Option.bind_some _ _).symm.trans H; with_reducible exact H2_) | with_reducible exact H | (rw [hy195]; exact H) | exact H
            have Ny195 := Aside0.mk hy195
            clear hy195
            obtain ⟨y198, hy198⟩ : ∃ y_ : List ByteArray, y_ = (([] : List ByteArray)) := ⟨_, rfl⟩
            replace H : ((some (x3_1.take (x5_2 : Int).toNat : List ByteArray)).bind fun y201 => (if y198.length + y201.length < 8796093022208 then ((some (y198 ++ y201 : List ByteArray)).bind fun y205 => (if y205.length + y195.length < 8796093022208 then (heptadref28_sorted.l0 k2 l0 (y205 ++ y195) (wrap64 (x4_1 + 1))) else (none))) else (none))) = some r := by first | (rw [hy198]; with_reducible exact H) | (have H2_ := (Option.bind_some _ _).symm.trans H; rw [hy198]; with_reducible exact H2_) | (have H2_ := (Option.bind_some _ _).symm.trans H; with_reducible exact H2_) | with_reducible exact H | (rw [hy198]; exact H) | exact H
            have Ny198 := Aside0.mk hy198
            clear hy198
            have c35b0 := eq_true (of_decide_eq_true (by first | (with_reducible assumption) | assumption) : 0 ≤ x5_2)
            have c36b0 := eq_true (of_decide_eq_true (by first | (with_reducible assumption) | assumption) : x5_2 ≤ (x3_1.length : Int))
            obtain ⟨y201, hy201⟩ : ∃ y_ : List ByteArray, y_ = (x3_1.take (x5_2 : Int).toNat) := ⟨_, rfl⟩
            replace H : (if y198.length + y201.length < 8796093022208 then ((some (y198 ++ y201 : List ByteArray)).bind fun y205 => (if y205.length + y195.length < 8796093022208 then (heptadref28_sorted.l0 k2 l0 (y205 ++ y195) (wrap64 (x4_1 + 1))) else (none))) else (none)) = some r := by first | (rw [hy201]; with_reducible exact H) | (have H2_ := (Option.bind_some _ _).symm.trans H; rw [hy201]; with_reducible exact H2_) | (have H2_ := (Option.bind_some _ _).symm.trans H; with_reducible exact H2_) | with_reducible exact H | (rw [hy201]; exact H) | exact H
            have Ny201 := Aside0.mk hy201
            clear hy201
            by_cases c37 : y198.length + y201.length < 8796093022208
            ·rw [if_pos c37] at H
             have LMc37 := Aside0.mk c37
             clear c37
             obtain ⟨y205, hy205⟩ : ∃ y_ : List ByteArray, y_ = (y198 ++ y201) := ⟨_, rfl⟩
             replace H : (if y205.length + y195.length < 8796093022208 then (heptadref28_sorted.l0 k2 l0 (y205 ++ y195) (wrap64 (x4_1 + 1))) else (none)) = some r := by first | (rw [hy205]; with_reducible exact H) | (have H2_ := (Option.bind_some _ _).symm.trans H; rw [hy205]; with_reducible exact H2_) | (have H2_ := (Option.bind_some _ _).symm.trans H; with_reducible exact H2_) | with_reducible exact H | (rw [hy205]; exact H) | exact H
             have Ny205 := Aside0.mk hy205
             clear hy205
             by_cases c38 : y205.length + y195.length < 8796093022208
             ·rw [if_pos c38] at H
              have LMc38 := Aside0.mk c38
              clear c38
              obtain ⟨y208, hy208⟩ : ∃ y_ : List ByteArray, y_ = (y205 ++ y195) := ⟨_, rfl⟩
              replace H : (heptadref28_sorted.l0 k2 l0 y208 (wrap64 (x4_1 + 1))) = some r := by first | (rw [hy208]; with_reducible exact H) | (have H2_ := (Option.bind_some _ _).symm.trans H; rw [hy208]; with_reducible exact H2_) | (have H2_ := (Option.bind_some _ _).symm.trans H; with_reducible exact H2_) | with_reducible exact H | (rw [hy208]; exact H) | exact H
              have Ny208 := Aside0.mk hy208
              clear hy208
              have H' := Aside0.mk H
              clear H
              try go_wp2
              have n0_ := Aside0.mk (Kd.R_drew HO_3.out)
              have n1_ := Aside0.mk (below_drew1 HB.out)
              clear HO_3
              clear HB
              have HO_3 := n0_
              have HB := n1_
              clear n0_ n1_
              obtain ⟨Ao40, co40, eo40⟩ := Kd.R_slice HO_3.out
              (first | subst eo40 | (injection eo40 with f1_ f2_ f3_; have f4_ := f1_.symm; have f5_ := f3_.symm; clear f1_ f2_ f3_; subst f4_; subst f5_))
              refine start_ (n := 15) (S := fun w' => True) (ds := []) #[false, false, false, false, false, false, false, false, false, false, false, false, false, false, false] (by kernel_rfl) rfl rfl trivial (fun hHeld => ?_); refine with_tabW heptadref28_sorted.tab6 heptadref28_sorted.bits6 (fun HT_ HW_ => ?_)
              generalize wr.drew = w39 at HO_3 HB hHeld ⊢
              refine pure_ (i := 0) (N := some 13) (v := ?_) (a' := ?_) #[true, false, false, false, false, false, false, false, false, false, false, false, false, false, false] rfl rfl (any_of HT_.out (by kernel_rfl)) (fun _ _ _ h => h) (Or.inl ⟨by rfl, ?_⟩) ?_ ?_
              rotate_left
              ·intro w'
               go_simp
               with_reducible rfl
              rotate_left
              ·simp only [Act.put, List.setIfInBounds_toArray, List.set_cons_zero, List.set_cons_succ, i64_w, i32_w]
               rfl
              refine pure_ (i := 1) (N := some 14) (v := ?_) (a' := ?_) #[true, true, false, false, false, false, false, false, false, false, false, false, false, false, false] rfl rfl (any_of HT_.out (by kernel_rfl)) (fun _ _ _ h => h) (Or.inl ⟨by rfl, ?_⟩) ?_ ?_
              rotate_left
              ·intro w'
               go_simp
               with_reducible rfl
              rotate_left
              ·simp only [Act.put, List.setIfInBounds_toArray, List.set_cons_zero, List.set_cons_succ, i64_w, i32_w]
               rfl
              refine pure_ (i := 2) (N := some 15) (v := ?_) (a' := ?_) #[true, true, true, false, false, false, false, false, false, false, false, false, false, false, false] rfl rfl (any_of HT_.out (by kernel_rfl)) (fun _ _ _ h => h) (Or.inl ⟨by rfl, ?_⟩) ?_ ?_
              rotate_left
              ·intro w'
               go_simp
               with_reducible rfl
              rotate_left
              ·simp only [Act.put, List.setIfInBounds_toArray, List.set_cons_zero, List.set_cons_succ, i64_w, i32_w]
               rfl
              refine pure_ (i := 3) (N := some 16) (v := ?_) (a' := ?_) #[true, true, true, true, false, false, false, false, false, false, false, false, false, false, false] rfl rfl (any_of HT_.out (by kernel_rfl)) (fun _ _ _ h => h) (Or.inl ⟨by rfl, ?_⟩) ?_ ?_
              rotate_left
              ·intro w'
               go_simp
               with_reducible rfl
              rotate_left
              ·simp only [Act.put, List.setIfInBounds_toArray, List.set_cons_zero, List.set_cons_succ, i64_w, i32_w]
               rfl
              refine pure_ (i := 4) (N := some 17) (v := ?_) (a' := ?_) #[true, true, true, true, true, false, false, false, false, false, false, false, false, false, false] rfl rfl (any_of HT_.out (by kernel_rfl)) (fun _ _ _ h => h) (Or.inl ⟨by rfl, ?_⟩) ?_ ?_
              rotate_left
              ·intro w'
               go_simp
               with_reducible rfl
              rotate_left
              ·simp only [Act.put, List.setIfInBounds_toArray, List.set_cons_zero, List.set_cons_succ, i64_w, i32_w]
               rfl
              refine pure_ (i := 5) (N := some 18) (v := undef) (a' := ?_) #[true, true, true, true, true, true, false, false, false, false, false, false, false, false, false] rfl rfl (any_of HT_.out (by kernel_rfl)) (fun _ _ _ h => h) (Or.inr ⟨by rfl, rfl⟩) ?_ ?_
              rotate_left
              ·simp only [Act.put, List.setIfInBounds_toArray, List.set_cons_zero, List.set_cons_succ, i64_w, i32_w]
               rfl
              refine pure_ (i := 6) (N := some 19) (v := undef) (a' := ?_) #[true, true, true, true, true, true, true, false, false, false, false, false, false, false, false] rfl rfl (any_of HT_.out (by kernel_rfl)) (fun _ _ _ h => h) (Or.inr ⟨by rfl, rfl⟩) ?_ ?_
              rotate_left
              ·simp only [Act.put, List.setIfInBounds_toArray, List.set_cons_zero, List.set_cons_succ, i64_w, i32_w]
               rfl
              refine pure_ (i := 7) (N := some 20) (v := undef) (a' := ?_) #[true, true, true, true, true, true, true, true, false, false, false, false, false, false, false] rfl rfl (any_of HT_.out (by kernel_rfl)) (fun _ _ _ h => h) (Or.inr ⟨by rfl, rfl⟩) ?_ ?_
              rotate_left
              ·simp only [Act.put, List.setIfInBounds_toArray, List.set_cons_zero, List.set_cons_succ, i64_w, i32_w]
               rfl
              refine pure_ (i := 8) (N := some 21) (v := undef) (a' := ?_) #[true, true, true, true, true, true, true, true, true, false, false, false, false, false, false] rfl rfl (any_of HT_.out (by kernel_rfl)) (fun _ _ _ h => h) (Or.inr ⟨by rfl, rfl⟩) ?_ ?_
              rotate_left
              ·simp only [Act.put, List.setIfInBounds_toArray, List.set_cons_zero, List.set_cons_succ, i64_w, i32_w]
               rfl
              refine pure_ (i := 9) (N := some 22) (v := undef) (a' := ?_) #[true, true, true, true, true, true, true, true, true, true, false, false, false, false, false] rfl rfl (any_of HT_.out (by kernel_rfl)) (fun _ _ _ h => h) (Or.inr ⟨by rfl, rfl⟩) ?_ ?_
              rotate_left
              ·simp only [Act.put, List.setIfInBounds_toArray, List.set_cons_zero, List.set_cons_succ, i64_w, i32_w]
               rfl
              refine pure_ (i := 10) (N := some 23) (v := undef) (a' := ?_) #[true, true, true, true, true, true, true, true, true, true, true, false, false, false, false] rfl rfl (any_of HT_.out (by kernel_rfl)) (fun _ _ _ h => h) (Or.inr ⟨by rfl, rfl⟩) ?_ ?_
              rotate_left
              ·simp only [Act.put, List.setIfInBounds_toArray, List.set_cons_zero, List.set_cons_succ, i64_w, i32_w]
               rfl
              refine pure_ (i := 11) (N := some 24) (v := undef) (a' := ?_) #[true, true, true, true, true, true, true, true, true, true, true, true, false, false, false] rfl rfl (any_of HT_.out (by kernel_rfl)) (fun _ _ _ h => h) (Or.inr ⟨by rfl, rfl⟩) ?_ ?_
              rotate_left
              ·simp only [Act.put, List.setIfInBounds_toArray, List.set_cons_zero, List.set_cons_succ, i64_w, i32_w]
               rfl
              refine pure_ (i := 12) (N := some 25) (v := undef) (a' := ?_) #[true, true, true, true, true, true, true, true, true, true, true, true, true, false, false] rfl rfl (any_of HT_.out (by kernel_rfl)) (fun _ _ _ h => h) (Or.inr ⟨by rfl, rfl⟩) ?_ ?_
              rotate_left
              ·simp only [Act.put, List.setIfInBounds_toArray, List.set_cons_zero, List.set_cons_succ, i64_w, i32_w]
               rfl
              refine pure_ (i := 13) (N := some 26) (v := undef) (a' := ?_) #[true, true, true, true, true, true, true, true, true, true, true, true, true, true, false] rfl rfl (any_of HT_.out (by kernel_rfl)) (fun _ _ _ h => h) (Or.inr ⟨by rfl, rfl⟩) ?_ ?_
              rotate_left
              ·simp only [Act.put, List.setIfInBounds_toArray, List.set_cons_zero, List.set_cons_succ, i64_w, i32_w]
               rfl
              refine pure_ (i := 14) (N := some 27) (v := ?_) (a' := ?_) #[true, true, true, true, true, true, true, true, true, true, true, true, true, true, true] rfl rfl (any_of HT_.out (by kernel_rfl)) (fun _ _ _ h => h) (Or.inl ⟨by rfl, ?_⟩) ?_ ?_
              rotate_left
              ·intro w'
               go_simp
               with_reducible rfl
              rotate_left
              ·simp only [Act.put, List.setIfInBounds_toArray, List.set_cons_zero, List.set_cons_succ, i64_w, i32_w]
               rfl
              refine done_ (done_of HT_.out (by kernel_rfl)) ?_
              try go_wp2
              have n0_ := Aside0.mk (Kd.R_drew HO_3.out)
              have n1_ := Aside0.mk (below_drew1 HB.out)
              clear HO_3
              clear HB
              have HO_3 := n0_
              have HB := n1_
              clear n0_ n1_
              have p187 : 0 ≤ (x4_1 : Int) := of_decide_eq_true (by first | (with_reducible assumption) | assumption)
              have q187 : x4_1 < (l0.length : Int) := of_decide_eq_true (by first | (with_reducible assumption) | assumption)
              obtain ⟨ad187, e187, hx187_0⟩ := Kd.at_string HR0.out x4_1 p187 q187
              have hw187_0 := hx187_0
              cases e187
              replace hx187_0 := (HB.out.cell (World.block_lt_of_cell? w _ hx187_0)).trans hx187_0
              replace p187 := eq_true p187
              replace q187 := eq_true q187
              have q42 : (x5_2 : Int) ≤ ((x3_1.length : Int) : Int) := of_decide_eq_true (by first | (with_reducible assumption) | assumption)
              obtain ⟨i042, hi042, _, hsz42, _⟩ := info_parts info9
              have hroom42 : x3_1.length ≤ co40 := (Kd.R_reads' HO_3.out).2.1
              have hC42 : Kd.C Kd.string _ Ao40 x3_1.length x3_1 := (Kd.R_reads' HO_3.out).2.2
              have q042 : (0 : Int) ≤ (x5_2 : Int) := of_decide_eq_true (by first | (with_reducible assumption) | assumption)
              have hcut42 := cut_from (P := Tryz.prog) 30 9 .i64 Tryz.underlying30 hi042 1 hsz42 Ao40 x3_1.length co40 x5_2 q042 q42
              have hr42 := Kd.C_drop (m := (x5_2 : Int).toNat) (c := co40) hC42 (by omega) hroom42
              obtain ⟨A42, hA42⟩ : ∃ A1, A1 = (if co40 = (x5_2 : Int).toNat then Ao40 else (Ao40 : Option Addr).map (·.add ((x5_2 : Int).toNat * 1))) := ⟨_, rfl⟩
              obtain ⟨c42, hc42⟩ : ∃ c1, c1 = co40 - (x5_2 : Int).toNat := ⟨_, rfl⟩
              have hy42 : y191.length = x3_1.length - (x5_2 : Int).toNat := (by rw [Ny191.out, List.length_drop] <;> omega)
              rw [show (x3_1).drop (x5_2 : Int).toNat = y191 from Ny191.out.symm] at hr42
              replace hr42 : Kd.C Kd.string _ A42 y191.length y191 := (by rw [hA42]; exact hr42)
              rw [← hy42, ← hA42, ← hc42] at hcut42
              have HR194 := Aside0.mk hr42
              have HC194 := Aside0.mk (show y191.length ≤ c42 from by rw [hy42, hc42]; exact Nat.sub_le_sub_right hroom42 _)
              clear hr42 hC42 hroom42 hi042 hsz42 hc42
              have KY42 := Aside0.mk hy42
              have KA42 := Aside0.mk hA42
              clear hy42 hA42
              have KL42 := Aside0.mk (show (x5_2 : Int).toNat ≤ x3_1.length from by omega)
              replace q42 := eq_true q42
              refine start_ (n := 10) (S := fun w' => w'.cell? (ad187.add (x4_1).toNat) = some (.string (rdOf ByteArray.empty l0 x4_1))) (ds := []) #[false, false, false, false, false, false, false, false, false, false] (by kernel_rfl) rfl rfl (((HB.out.cell (World.block_lt_of_cell? w _ hw187_0)).trans hw187_0)) (fun hHeld => ?_); refine with_tabW heptadref28_sorted.tab8 heptadref28_sorted.bits8 (fun HT_ HW_ => ?_)
              generalize w39.drew = w41 at HO_3 HB HR194 hx187_0 hHeld ⊢
              refine pure_ (i := 0) (N := some 30) (v := ?_) (a' := ?_) #[true, false, false, false, false, false, false, false, false, false] rfl rfl (any_of HT_.out (by kernel_rfl)) (fun _ _ _ h => h) (Or.inl ⟨by rfl, ?_⟩) ?_ ?_
              rotate_left
              ·intro w'
               go_simp
               with_reducible rfl
              rotate_left
              ·simp only [Act.put, List.setIfInBounds_toArray, List.set_cons_zero, List.set_cons_succ, i64_w, i32_w]
               rfl
              refine pure_ (i := 1) (N := some 31) (v := ?_) (a' := ?_) #[true, true, false, false, false, false, false, false, false, false] rfl rfl (any_of HT_.out (by kernel_rfl)) (fun _ _ _ h => h) (Or.inl ⟨by rfl, ?_⟩) ?_ ?_
              rotate_left
              ·intro w'
               go_simp
               with_reducible rfl
              rotate_left
              ·simp only [Act.put, List.setIfInBounds_toArray, List.set_cons_zero, List.set_cons_succ, i64_w, i32_w]
               rfl
              refine pure_ (i := 2) (N := some 32) (v := ?_) (a' := ?_) #[true, true, true, false, false, false, false, false, false, false] rfl rfl (any_of HT_.out (by kernel_rfl)) (fun _ _ _ h => h) (Or.inl ⟨by rfl, ?_⟩) ?_ ?_
              rotate_left
              ·intro w'
               go_simp
               with_reducible rfl
              rotate_left
              ·simp only [Act.put, List.setIfInBounds_toArray, List.set_cons_zero, List.set_cons_succ, i64_w, i32_w]
               rfl
              refine pure_ (i := 5) (N := some 35) (v := ?_) (a' := ?_) #[true, true, true, false, false, true, false, false, false, false] rfl rfl (any_of HT_.out (by kernel_rfl)) (fun _ _ _ h => h) (Or.inl ⟨by rfl, ?_⟩) ?_ ?_
              rotate_left
              ·intro w'
               go_simp
               with_reducible rfl
              rotate_left
              ·simp only [Act.put, List.setIfInBounds_toArray, List.set_cons_zero, List.set_cons_succ, i64_w, i32_w]
               rfl
              refine pure_ (i := 6) (N := some 36) (v := ?_) (a' := ?_) #[true, true, true, false, false, true, true, false, false, false] rfl rfl (any_of HT_.out (by kernel_rfl)) (fun _ _ _ h => h) (Or.inl ⟨by rfl, ?_⟩) ?_ ?_
              rotate_left
              ·intro w'
               go_simp
               with_reducible rfl
              rotate_left
              ·simp only [Act.put, List.setIfInBounds_toArray, List.set_cons_zero, List.set_cons_succ, i64_w, i32_w]
               rfl
              refine pure_ (i := 7) (N := some 37) (v := ?_) (a' := ?_) #[true, true, true, false, false, true, true, true, false, false] rfl rfl (any_of HT_.out (by kernel_rfl)) (fun _ _ _ h => h) (Or.inl ⟨by rfl, ?_⟩) ?_ ?_
              rotate_left
              ·intro w'
               go_simp
               with_reducible rfl
              rotate_left
              ·simp only [Act.put, List.setIfInBounds_toArray, List.set_cons_zero, List.set_cons_succ, i64_w, i32_w]
               rfl
              refine take_ (i := 3) (N := some 33) (v := ?_) (a' := ?_) #[true, true, true, true, false, true, true, true, false, false] rfl rfl (take_ofW HT_.out HW_.out (by kernel_rfl)) (fun _ _ _ h => h) (Or.inl ⟨by rfl, ?_⟩) hHeld ?_ ?_
              rotate_left
              ·intro w' s0
               go_simp
               with_reducible rfl
              rotate_left
              ·simp only [Act.put, List.setIfInBounds_toArray, List.set_cons_zero, List.set_cons_succ, i64_w, i32_w]
               rfl
              refine one_ (i := 4) (N := some 34) #[true, true, true, true, true, true, true, true, false, false] rfl rfl (one_of HT_.out (by kernel_rfl)) (by decide) (fun K hK => ?_)
              refine Kd.R_lit_step Kd.string _ 9 ?hg (N := 34) ?hd (xs := ([rdOf ByteArray.empty l0 x4_1] : List ByteArray)) (inner := [.string (rdOf ByteArray.empty l0 x4_1)]) (ok := fun _ => True) (okp := fun _ => True) ?hr ?hp (fun _ hk => hk) trivial (Below.refl _ _) (Nat.le_refl _) (by simp) ?_; (case hd => rfl); (case hg => rfl); (case hr => first | (go_simp; done) | (go_simp; rfl)); (case hp => exact (Reps.one (show Kd.M Kd.string _ _ _ (rdOf ByteArray.empty l0 x4_1) [.string (rdOf ByteArray.empty l0 x4_1)] from rfl) (Reps.none _ _)))
              intro v189 w43 ho44 hb hg_ hnew_
              clear hg_ hnew_
              (first | rw [← Ny188.out] at ho44 | (simp only [Int.reduceToNat] at ho44; rw [← Ny188.out] at ho44))
              have n0_ := Aside0.mk (Kd.R_elder' (by (with_reducible repeat (first | apply Kd.R_alloc | apply Kd.R_drewN | apply Kd.R_drew)); exact HO_3.out) (Kd.R_base ho44) hb)
              have n1_ := Aside0.mk (Kd.R_lower (Kd.R_new' ho44 (Kd.R_lt (by (with_reducible repeat (first | apply Kd.R_alloc | apply Kd.R_drewN | apply Kd.R_drew)); exact HO_3.out))) (below_size (by repeat (first | (with_reducible first | exact HB.out | apply below_alloc | apply pw_below_drewN | apply below_drew1) | exact HB.out))))
              have n2_ := Aside0.mk (Kd.C_below (by repeat (first | (with_reducible exact HR194.out) | (with_reducible refine Kd.C_alloc ?_ _) | (with_reducible refine Kd.C_drewN ?_ _) | (with_reducible refine Kd.C_drew ?_) | exact HR194.out)) hb)
              have n3_ := Aside0.mk (below_step (by repeat (first | (with_reducible first | exact HB.out | apply below_alloc | apply pw_below_drewN | apply below_drew1) | exact HB.out)) hb)
              clear HO_3
              clear HR194
              clear HB
              have HO_3 := n0_
              have HO190 := n1_
              have HR194 := n2_
              have HB := n3_
              clear n0_ n1_ n2_ n3_
              clear hb ho44
              refine hK.out _ _ (((HB.out.cell (World.block_lt_of_cell? w _ hw187_0)).trans hw187_0)) (fun hHeld => ?_)
              clear hK K
              refine norm_ (a' := ?_) ?_ ?_
              rotate_left
              ·show Act.put _ (some 34) _ = _
               simp only [Act.put, List.setIfInBounds_toArray, List.set_cons_zero, List.set_cons_succ, i64_w, i32_w]
               rfl
              refine one_ (i := 8) (N := some 38) #[true, true, true, true, true, true, true, true, true, false] rfl rfl (one_of HT_.out (by kernel_rfl)) (by decide) (fun K hK => ?_)
              refine Kd.R_append_rows_step Kd.string (w0 := w) w.heap.size (by rfl) (.tmp 34) (.tmp 37) 30 9 (.string ⟨#[]⟩) 16 rfl Tryz.underlying30 info9 rfl (by decide) (by omega) v189 y188 y191 _ _ _ (fun k_ => some k_ ≠ (.slice Ao40 x3_1.length co40 : Value).ownBlock) (fun _ => False) rfl rfl ?aO ?aR (fun _ _ h => h) (fun _ h => h.elim) ?aF ?aB ?aS ?aL ?_
              (case aR => repeat (first | exact (by repeat (first | (with_reducible exact HR194.out) | (with_reducible refine Kd.C_alloc ?_ _) | (with_reducible refine Kd.C_drewN ?_ _) | (with_reducible refine Kd.C_drew ?_) | exact HR194.out)) | (with_reducible refine Kd.C_alloc ?_ _) | (with_reducible refine Kd.C_drewN ?_ _) | (with_reducible refine Kd.C_drew ?_)))
              (case aB => exact (by repeat (first | (with_reducible first | exact HB.out | apply below_alloc | apply pw_below_drewN | apply below_drew1) | exact HB.out)))
              (case aF => exact (fun k_ hk => Kd.fresh' (Kd.R_lt (by (with_reducible repeat (first | apply Kd.R_alloc | apply Kd.R_drewN | apply Kd.R_drew)); exact HO_3.out)) k_ hk))
              (case aO => exact (by (with_reducible repeat (first | apply Kd.R_alloc | apply Kd.R_drewN | apply Kd.R_drew)); exact Kd.R_mono HO190.out (fun _ hk => hk.2)))
              (case aS => exact (below_size (by repeat (first | (with_reducible first | exact HB.out | apply below_alloc | apply pw_below_drewN | apply below_drew1) | exact HB.out))))
              (case aL => have := LMc34.out; omega)
              intro v196 w45 ho hb hg hat
              rw [← Ny195.out] at ho
              have n0_ := Aside0.mk (Kd.R_after (ok := (fun _ => True)) (by (with_reducible repeat (first | apply Kd.R_alloc | apply Kd.R_drewN | apply Kd.R_drew)); exact HO_3.out) hg hat)
              have n1_ := Aside0.mk (hb)
              have n2_ := Aside0.mk ((show Kd.C Kd.string w45 A42 y191.length y191 from by rw [Ny191.out, KA42.out]; exact Kd.C_drop (m := (x5_2 : Int).toNat) (c := co40) ((Kd.R_reads' (Kd.R_after (ok := (fun _ => True)) (by (with_reducible repeat (first | apply Kd.R_alloc | apply Kd.R_drewN | apply Kd.R_drew)); exact HO_3.out) hg hat)).2.2) KL42.out ((Kd.R_reads' (Kd.R_after (ok := (fun _ => True)) (by (with_reducible repeat (first | apply Kd.R_alloc | apply Kd.R_drewN | apply Kd.R_drew)); exact HO_3.out) hg hat)).2.1)))
              have n3_ := Aside0.mk (ho)
              clear HO_3
              clear HB
              clear HR194
              clear HO190
              have HO_3 := n0_
              have HB := n1_
              have HR194 := n2_
              have HO197 := n3_
              clear n0_ n1_ n2_ n3_
              clear ho hb hg hat
              refine hK.out _ _ (((HB.out.cell (World.block_lt_of_cell? w _ hw187_0)).trans hw187_0)) (fun hHeld => ?_)
              clear hK K
              refine norm_ (a' := ?_) ?_ ?_
              rotate_left
              ·show Act.put _ (some 38) _ = _
               simp only [Act.put, List.setIfInBounds_toArray, List.set_cons_zero, List.set_cons_succ, i64_w, i32_w]
               rfl
              refine pure_ (i := 9) (N := some 6) (v := ?_) (a' := ?_) #[true, true, true, true, true, true, true, true, true, true] rfl rfl (any_of HT_.out (by kernel_rfl)) (fun _ _ _ h => h) (Or.inl ⟨by rfl, ?_⟩) ?_ ?_
              rotate_left
              ·intro w'
               go_simp
               with_reducible rfl
              rotate_left
              ·simp only [Act.put, List.setIfInBounds_toArray, List.set_cons_zero, List.set_cons_succ, i64_w, i32_w]
               rfl
              refine done_ (done_of HT_.out (by kernel_rfl)) ?_
              try go_wp2_with (first | ((with_reducible refine gate_dst (N := 39) rfl ?_); refine Kd.R_lit Kd.string _ 9 ?hg (N := 39) ?hd (xs := ([] : List ByteArray)) (inner := []) (ok := fun _ => True) (okp := fun _ => True) ?hr ?hp (fun _ hk => hk) trivial (Below.refl _ _) (Nat.le_refl _) (by simp) ?_; (case hd => rfl); (case hg => rfl); (case hr => first | (go_simp; done) | (go_simp; rfl)); (case hp => exact (Reps.none _ _)); intro v199 w46 ho47 hb hg_ hnew_; clear hg_ hnew_; (first | rw [← Ny198.out] at ho47 | (simp only [Int.reduceToNat] at ho47; rw [← Ny198.out] at ho47)); have n0_ := Aside0.mk (Kd.R_elder' (by (with_reducible repeat (first | apply Kd.R_alloc | apply Kd.R_drewN | apply Kd.R_drew)); exact HO_3.out) (Kd.R_base ho47) hb); have n1_ := Aside0.mk (Kd.R_elder' (by (with_reducible repeat (first | apply Kd.R_alloc | apply Kd.R_drewN | apply Kd.R_drew)); exact HO197.out) (Kd.R_base ho47) hb); have n2_ := Aside0.mk (Kd.R_lower (Kd.R_new' (Kd.R_new' ho47 (Kd.R_lt (by (with_reducible repeat (first | apply Kd.R_alloc | apply Kd.R_drewN | apply Kd.R_drew)); exact HO_3.out))) (Kd.R_lt (by (with_reducible repeat (first | apply Kd.R_alloc | apply Kd.R_drewN | apply Kd.R_drew)); exact HO197.out))) (below_size (by repeat (first | (with_reducible first | exact HB.out | apply below_alloc | apply pw_below_drewN | apply below_drew1) | exact HB.out)))); have n3_ := Aside0.mk (Kd.C_below (by repeat (first | (with_reducible exact HR194.out) | (with_reducible refine Kd.C_alloc ?_ _) | (with_reducible refine Kd.C_drewN ?_ _) | (with_reducible refine Kd.C_drew ?_) | exact HR194.out)) hb); have n4_ := Aside0.mk (below_step (by repeat (first | (with_reducible first | exact HB.out | apply below_alloc | apply pw_below_drewN | apply below_drew1) | exact HB.out)) hb); clear HO_3; clear HO197; clear HR194; clear HB; have HO_3 := n0_; have HO197 := n1_; have HO200 := n2_; have HR194 := n3_; have HB := n4_; clear n0_ n1_ n2_ n3_ n4_; clear hb ho47; have q48 : (x5_2 : Int) ≤ ((x3_1.length : Int) : Int) := of_decide_eq_true (by first | (with_reducible assumption) | assumption); obtain ⟨i048, hi048, _, hsz48, _⟩ := info_parts info9; have hroom48 : x3_1.length ≤ co40 := (Kd.R_reads' HO_3.out).2.1; have hC48 : Kd.C Kd.string _ Ao40 x3_1.length x3_1 := (Kd.R_reads' HO_3.out).2.2; have hcut48 := cut_to (P := Tryz.prog) 30 9 .i64 Tryz.underlying30 hi048 Ao40 x3_1.length co40 x5_2 (of_decide_eq_true (by first | (with_reducible assumption) | assumption)) q48 hroom48; have hr48 := Kd.C_take (m := (x5_2 : Int).toNat) hC48 (by omega); have hy48 : y201.length = (x5_2 : Int).toNat := (by rw [Ny201.out, List.length_take]; omega); rw [← Ny201.out] at hr48; rw [← hy48] at hcut48; have HR204 := Aside0.mk hr48; have HC204 := Aside0.mk (show y201.length ≤ co40 from by omega); clear hr48 hC48 hroom48 hi048 hsz48; have KY48 := Aside0.mk hy48; clear hy48; have KL48 := Aside0.mk (show (x5_2 : Int).toNat ≤ x3_1.length from by omega); replace q48 := eq_true q48) | ((with_reducible refine gate_builtin (b := .append) (xs := #[.tmp 39, .tmp 42]) rfl ?_); at_builtin; refine Kd.R_append_rows Kd.string (w0 := w) w.heap.size rfl (.tmp 39) (.tmp 42) 30 9 (.string ⟨#[]⟩) 16 rfl Tryz.underlying30 info9 rfl (by decide) (by omega) v199 y198 y201 _ _ _ (fun k_ => some k_ ≠ (.slice Ao40 x3_1.length co40 : Value).ownBlock ∧ some k_ ≠ (v196 : Value).ownBlock) (fun _ => False) rfl rfl ?aO ?aR (fun _ _ h => h) (fun _ h => h.elim) ?aF ?aB ?aS ?aL ?_; (case aR => repeat (first | exact (by repeat (first | (with_reducible exact HR204.out) | (with_reducible refine Kd.C_alloc ?_ _) | (with_reducible refine Kd.C_drewN ?_ _) | (with_reducible refine Kd.C_drew ?_) | exact HR204.out)) | (with_reducible refine Kd.C_alloc ?_ _) | (with_reducible refine Kd.C_drewN ?_ _) | (with_reducible refine Kd.C_drew ?_))); (case aB => exact (by repeat (first | (with_reducible first | exact HB.out | apply below_alloc | apply pw_below_drewN | apply below_drew1) | exact HB.out))); (case aF => exact (fun k_ hk => ⟨Kd.fresh' (Kd.R_lt (by (with_reducible repeat (first | apply Kd.R_alloc | apply Kd.R_drewN | apply Kd.R_drew)); exact HO_3.out)) k_ hk, Kd.fresh' (Kd.R_lt (by (with_reducible repeat (first | apply Kd.R_alloc | apply Kd.R_drewN | apply Kd.R_drew)); exact HO197.out)) k_ hk⟩)); (case aO => exact (by (with_reducible repeat (first | apply Kd.R_alloc | apply Kd.R_drewN | apply Kd.R_drew)); exact Kd.R_mono HO200.out (fun _ hk => ⟨hk.1.2, hk.2⟩))); (case aS => exact (below_size (by repeat (first | (with_reducible first | exact HB.out | apply below_alloc | apply pw_below_drewN | apply below_drew1) | exact HB.out)))); (case aL => have := LMc37.out; omega); intro v206 w49 ho hb hg hat; rw [← Ny205.out] at ho; have n0_ := Aside0.mk (Kd.R_after (ok := (fun k_ => some k_ ≠ (v196 : Value).ownBlock)) (by (with_reducible repeat (first | apply Kd.R_alloc | apply Kd.R_drewN | apply Kd.R_drew)); exact Kd.R_mono HO_3.out (fun _ hk => ⟨hk.1.2, hk.2⟩)) hg hat); have n1_ := Aside0.mk (Kd.R_after (ok := (fun k_ => some k_ ≠ (.slice Ao40 x3_1.length co40 : Value).ownBlock)) (by (with_reducible repeat (first | apply Kd.R_alloc | apply Kd.R_drewN | apply Kd.R_drew)); exact HO197.out) hg hat); have n2_ := Aside0.mk (hb); have n3_ := Aside0.mk ((show Kd.C Kd.string w49 A42 y191.length y191 from by rw [Ny191.out, KA42.out]; exact Kd.C_drop (m := (x5_2 : Int).toNat) (c := co40) ((Kd.R_reads' (Kd.R_after (ok := (fun k_ => some k_ ≠ (v196 : Value).ownBlock)) (by (with_reducible repeat (first | apply Kd.R_alloc | apply Kd.R_drewN | apply Kd.R_drew)); exact Kd.R_mono HO_3.out (fun _ hk => ⟨hk.1.2, hk.2⟩)) hg hat)).2.2) KL42.out ((Kd.R_reads' (Kd.R_after (ok := (fun k_ => some k_ ≠ (v196 : Value).ownBlock)) (by (with_reducible repeat (first | apply Kd.R_alloc | apply Kd.R_drewN | apply Kd.R_drew)); exact Kd.R_mono HO_3.out (fun _ hk => ⟨hk.1.2, hk.2⟩)) hg hat)).2.1))); have n4_ := Aside0.mk ((show Kd.C Kd.string w49 Ao40 y201.length y201 from by rw [Ny201.out]; exact Kd.C_take (m := (x5_2 : Int).toNat) ((Kd.R_reads' (Kd.R_after (ok := (fun k_ => some k_ ≠ (v196 : Value).ownBlock)) (by (with_reducible repeat (first | apply Kd.R_alloc | apply Kd.R_drewN | apply Kd.R_drew)); exact Kd.R_mono HO_3.out (fun _ hk => ⟨hk.1.2, hk.2⟩)) hg hat)).2.2) KL48.out)); have n5_ := Aside0.mk (ho); clear HO_3; clear HO197; clear HB; clear HR194; clear HR204; clear HO200; have HO_3 := n0_; have HO197 := n1_; have HB := n2_; have HR194 := n3_; have HR204 := n4_; have HO207 := n5_; clear n0_ n1_ n2_ n3_ n4_ n5_; clear ho hb hg hat; obtain ⟨Ao51, co51, eo51⟩ := Kd.R_slice HO197.out; subst eo51) | ((with_reducible refine gate_builtin (b := .append) (xs := #[.tmp 43, .tmp 44]) rfl ?_); at_builtin; refine Kd.R_append_rows Kd.string (w0 := w) w.heap.size rfl (.tmp 43) (.tmp 44) 30 9 (.string ⟨#[]⟩) 16 rfl Tryz.underlying30 info9 rfl (by decide) (by omega) v206 y205 y195 _ _ _ (fun k_ => some k_ ≠ (.slice Ao40 x3_1.length co40 : Value).ownBlock ∧ some k_ ≠ (.slice Ao51 y195.length co51 : Value).ownBlock) (fun _ => False) rfl rfl ?aO ?aR (fun _ _ h => h) (fun _ h => h.elim) ?aF ?aB ?aS ?aL ?_; (case aR => repeat (first | exact (Kd.R_reads' HO197.out).2.2 | (with_reducible refine Kd.C_alloc ?_ _) | (with_reducible refine Kd.C_drewN ?_ _) | (with_reducible refine Kd.C_drew ?_))); (case aB => exact (by repeat (first | (with_reducible first | exact HB.out | apply below_alloc | apply pw_below_drewN | apply below_drew1) | exact HB.out))); (case aF => exact (fun k_ hk => ⟨Kd.fresh' (Kd.R_lt (by (with_reducible repeat (first | apply Kd.R_alloc | apply Kd.R_drewN | apply Kd.R_drew)); exact HO_3.out)) k_ hk, Kd.fresh' (Kd.R_lt (by (with_reducible repeat (first | apply Kd.R_alloc | apply Kd.R_drewN | apply Kd.R_drew)); exact HO197.out)) k_ hk⟩)); (case aO => exact (by (with_reducible repeat (first | apply Kd.R_alloc | apply Kd.R_drewN | apply Kd.R_drew)); exact HO207.out)); (case aS => exact (below_size (by repeat (first | (with_reducible first | exact HB.out | apply below_alloc | apply pw_below_drewN | apply below_drew1) | exact HB.out)))); (case aL => have := LMc38.out; omega); intro v209 w50 ho hb hg hat; rw [← Ny208.out] at ho; have n0_ := Aside0.mk (Kd.R_after (ok := (fun k_ => some k_ ≠ (.slice Ao51 y195.length co51 : Value).ownBlock)) (by (with_reducible repeat (first | apply Kd.R_alloc | apply Kd.R_drewN | apply Kd.R_drew)); exact HO_3.out) hg hat); have n1_ := Aside0.mk (Kd.R_after (ok := (fun k_ => some k_ ≠ (.slice Ao40 x3_1.length co40 : Value).ownBlock)) (by (with_reducible repeat (first | apply Kd.R_alloc | apply Kd.R_drewN | apply Kd.R_drew)); exact HO197.out) hg hat); have n2_ := Aside0.mk (hb); have n3_ := Aside0.mk ((show Kd.C Kd.string w50 A42 y191.length y191 from by rw [Ny191.out, KA42.out]; exact Kd.C_drop (m := (x5_2 : Int).toNat) (c := co40) ((Kd.R_reads' (Kd.R_after (ok := (fun k_ => some k_ ≠ (.slice Ao51 y195.length co51 : Value).ownBlock)) (by (with_reducible repeat (first | apply Kd.R_alloc | apply Kd.R_drewN | apply Kd.R_drew)); exact HO_3.out) hg hat)).2.2) KL42.out ((Kd.R_reads' (Kd.R_after (ok := (fun k_ => some k_ ≠ (.slice Ao51 y195.length co51 : Value).ownBlock)) (by (with_reducible repeat (first | apply Kd.R_alloc | apply Kd.R_drewN | apply Kd.R_drew)); exact HO_3.out) hg hat)).2.1))); have n4_ := Aside0.mk ((show Kd.C Kd.string w50 Ao40 y201.length y201 from by rw [Ny201.out]; exact Kd.C_take (m := (x5_2 : Int).toNat) ((Kd.R_reads' (Kd.R_after (ok := (fun k_ => some k_ ≠ (.slice Ao51 y195.length co51 : Value).ownBlock)) (by (with_reducible repeat (first | apply Kd.R_alloc | apply Kd.R_drewN | apply Kd.R_drew)); exact HO_3.out) hg hat)).2.2) KL48.out)); have n5_ := Aside0.mk (ho); clear HO_3; clear HO197; clear HB; clear HR194; clear HR204; clear HO207; have HO_3 := n0_; have HO197 := n1_; have HB := n2_; have HR194 := n3_; have HR204 := n4_; have HO210 := n5_; clear n0_ n1_ n2_ n3_ n4_ n5_; clear ho hb hg hat))
              go_roundg k2
              case measure => have := HK1.out; have := HK2.out; omega
              case rel => exact ⟨(y208), (wrap64 (x4_1 + 1)), (by first | rfl | (simp; done) | (simp [*]; done)), H', ⟨by have := HK1.out; have := HK2.out; omega⟩, ⟨by (with_reducible repeat (first | apply Kd.R_alloc | apply Kd.R_drewN | apply Kd.R_drew)); exact Kd.R_mono HO210.out (fun _ hk => trivial)⟩, ⟨by repeat (first | (with_reducible first | exact HB.out | apply below_alloc | apply pw_below_drewN | apply below_drew1) | exact HB.out)⟩⟩
             ·rw [if_neg c38] at H
              exact absurd H (by simp)
            ·rw [if_neg c37] at H
             exact absurd H (by simp)
           ·rw [if_neg c34] at H
            exact absurd H (by simp)
          ·rw [if_neg c33] at H
           exact absurd H (by simp)
         ·rw [if_neg c32] at H
          exact absurd H (by simp)
        ·rw [if_neg c31] at H
         exact absurd H (by simp)
       ·rw [if_neg c30] at H
        exact absurd H (by simp)
   ·rw [if_neg c2] at H
    have c2b0 : decide (x4_1 < (l0.length : Int)) = false := decide_eq_false c2
    clear c2
    obtain rfl := Option.some.inj H
    go_wp2
    go_ret
    exact ⟨_, by first | rfl | (simp [errW_none, errW_some] <;> rfl) | (simp [*, errW_none, errW_some] <;> rfl), by (with_reducible repeat (first | apply Kd.R_alloc | apply Kd.R_drewN | apply Kd.R_drew)); exact HO_3.out, by repeat (first | (with_reducible first | exact HB.out | apply below_alloc | apply pw_below_drewN | apply below_drew1) | exact HB.out)⟩
end Go.Proofs.YtehlmkgldcfciaaGreat.F
/- The reference's store: the sort of words. -/
set_option linter.unusedVariables false
set_option linter.unusedSimpArgs false
namespace Go.Proofs.YtehlmkgldcfciaaGreat.Files
open Go.Proofs.YtehlmkgldcfciaaGreat.Common Go.Maps Go.ChangeMaps Go.WideMaps Go.Proofs.YtehlmkgldcfciaaGreat.F
open Go.RowKit Go.Proofs.YtehlmkgldcfciaaGreatW.PrintWords Go.Proofs.YtehlmkgldcfciaaGreatW.PrintLast Go.Proofs.YtehlmkgldcfciaaGreatW.PrintMore
open Go.Sort Go.Shelf
def insW (x : ByteArray) : List ByteArray → List ByteArray
  | [] => [x]
  | y :: r => if Op.bytesLess y.toList x.toList = true then y :: insW x r else x :: y :: r
def sortL (l : List ByteArray) : List ByteArray := l.foldl (fun out x => insW x out) []
theorem insW_perm (x : ByteArray) : ∀ l, (insW x l).Perm (x :: l)
  | [] => .refl _
  | y :: r => by
    unfold insW
    split
    · exact ((insW_perm x r).cons y).trans (.swap x y r)
    · exact .refl _
theorem insW_len (x : ByteArray) (l : List ByteArray) : (insW x l).length = l.length + 1 := (insW_perm x l).length_eq
theorem foldl_ins_perm : ∀ (l out : List ByteArray), (l.foldl (fun out x => insW x out) out).Perm (l ++ out)
  | [], out => .refl _
  | x :: l, out => by
    refine (foldl_ins_perm l _).trans ?_
    refine ((insW_perm x out).append_left l).trans ?_
    exact List.perm_middle
theorem sortL_perm (l : List ByteArray) : (sortL l).Perm l := by
  have := foldl_ins_perm l []
  rwa [List.append_nil] at this
def leW (a b : ByteArray) : Prop := a.data.toList ≤ b.data.toList
theorem less_W (a b : ByteArray) : Op.bytesLess a.toList b.toList = decide (a.data.toList < b.data.toList) := by rw [bytesLess_eq, Lib.toList_data, Lib.toList_data]
theorem leW_trans {a b c : ByteArray} (h1 : leW a b) (h2 : leW b c) : leW a c := List.le_trans h1 h2
theorem insW_sorted (x : ByteArray) : ∀ l, l.Pairwise leW → (insW x l).Pairwise leW
  | [], _ => List.pairwise_singleton _ _
  | y :: r, h => by
    have h1 := List.pairwise_cons.1 h
    unfold insW
    split
    · rename_i hl
      rw [less_W, decide_eq_true_eq] at hl
      refine List.pairwise_cons.2 ⟨fun z hz => ?_, insW_sorted x r h1.2⟩
      rcases List.mem_cons.1 ((insW_perm x r).mem_iff.1 hz) with rfl | hr
      · exact List.le_of_lt hl
      · exact h1.1 z hr
    · rename_i hl
      rw [less_W, decide_eq_true_eq] at hl
      have hxy : leW x y := List.not_lt.1 hl
      refine List.pairwise_cons.2 ⟨fun z hz => ?_, h⟩
      rcases List.mem_cons.1 hz with rfl | hr
      · exact hxy
      · exact leW_trans hxy (h1.1 z hr)
theorem foldl_ins_sorted : ∀ (l out : List ByteArray), out.Pairwise leW → (l.foldl (fun out x => insW x out) out).Pairwise leW
  | [], out, h => h
  | x :: l, out, h => foldl_ins_sorted l _ (insW_sorted x out h)
theorem sortL_sorted (l : List ByteArray) : (sortL l).Pairwise leW := foldl_ins_sorted l [] List.Pairwise.nil
theorem sortL_names (l : List ByteArray) : sortL l = (sortedNames l).map (fun s => (⟨s.toArray⟩ : ByteArray)) := by
  have hinj : ∀ s : List UInt8, (⟨s.toArray⟩ : ByteArray).data.toList = s := fun s => rfl
  have h1 : (sortedNames l).Perm (l.map (·.data.toList)) := List.mergeSort_perm _ _
  have h2 : (sortedNames l).Pairwise (fun x y => x ≤ y) := by
    have := List.pairwise_mergeSort (le := fun x y : List UInt8 => decide (x ≤ y)) (fun a b c h1 h2 => by
      rw [decide_eq_true_eq] at h1 h2 ⊢
      exact List.le_trans h1 h2) (fun a b => by
      rw [Bool.or_eq_true, decide_eq_true_eq, decide_eq_true_eq]
      exact List.le_total a b) (l.map (·.data.toList))
    exact this.imp (fun h => by simpa using h)
  have h3 : ((sortL l).map (·.data.toList)).Perm (sortedNames l) := ((sortL_perm l).map _).trans h1.symm
  have h4 : ((sortL l).map (·.data.toList)).Pairwise (fun x y => x ≤ y) := List.pairwise_map.2 (sortL_sorted l)
  have h5 : (sortL l).map (·.data.toList) = sortedNames l := h3.eq_of_pairwise (le := fun x y => x ≤ y) (fun a b _ _ h1 h2 => List.le_antisymm h1 h2) h4 h2
  rw [← h5, List.map_map]
  refine (List.map_congr_left fun x _ => ?_).trans (List.map_id _) |>.symm
  cases x; rfl
theorem sorted_up {l out : List ByteArray} {i : Int} {r : List ByteArray} {k : Nat} (h : heptadref28_sorted.l0 k l out i = some r) : ∀ m, heptadref28_sorted.l0 (k + m) l out i = some r
  | 0 => h
  | m + 1 => (heptadref28_sorted.mono_l (k + m)).1 l out i r (sorted_up h m)
theorem sorted_in (l : List ByteArray) (i : Nat) (hi : i < l.length) (hl : l.length ≤ 100000) (r : List ByteArray) (k : Nat) : ∀ (post pre : List ByteArray), pre.length + post.length ≤ 100000 →
    heptadref28_sorted.l0 k l (pre ++ insW l[i] post) ((i + 1 : Nat) : Int) = some r → heptadref28_sorted.l1 (k + post.length + 1) l (pre ++ post) (i : Int) (pre.length : Int) = some r
  | [], pre, hp, h => by
    have hrd : rdOf ByteArray.empty l (i : Int) = l[i] := by simp [rdOf, List.getD_eq_getElem?_getD, List.getElem?_eq_getElem hi]
    rw [List.append_nil]
    rw [List.length_nil, Nat.add_zero]
    unfold heptadref28_sorted.l1
    rw [if_neg (by omega), if_pos (by omega), if_pos (by omega), hrd]
    simp only [Option.bind_some, Int.toNat_natCast]
    rw [if_pos (by omega), if_pos (by omega)]
    simp only [Int.toNat_natCast, List.drop_length, List.take_length, List.length_cons, List.length_nil, List.nil_append, List.length_append, List.append_nil]
    simp only [List.length_nil] at hp
    rw [if_pos (by omega), if_pos (by omega), if_pos (by omega), wr i l.length hi (by omega)]
    exact h
  | y :: post, pre, hp, h => by
    have hrd : rdOf ByteArray.empty l (i : Int) = l[i] := by simp [rdOf, List.getD_eq_getElem?_getD, List.getElem?_eq_getElem hi]
    have hry : rdOf ByteArray.empty (pre ++ y :: post) (pre.length : Int) = y := by simp [rdOf, List.getD_eq_getElem?_getD]
    have hlen : (pre ++ y :: post).length = pre.length + post.length + 1 := by simp; omega
    rw [List.length_cons] at hp
    rw [List.length_cons]
    unfold heptadref28_sorted.l1
    rw [if_pos (by omega), if_pos (by omega), if_pos (by omega), if_pos (by omega), hrd, hry]
    unfold insW at h
    by_cases hb : Op.bytesLess y.toList l[i].toList = true
    · rw [if_pos hb] at h ⊢
      have := sorted_in l i hi hl r k post (pre ++ [y]) (by simp; omega) (by simpa using h)
      rw [List.length_append, List.length_cons, List.length_nil, List.append_assoc] at this
      rw [wr pre.length (pre.length + 1) (by omega) (by omega)]
      exact this
    · rw [if_neg hb] at h ⊢
      simp only [Option.bind_some, Int.toNat_natCast]
      rw [if_pos (by omega)]
      simp only [Option.bind_some, Int.toNat_natCast, List.drop_left, List.take_left, List.length_cons, List.length_nil, List.nil_append, List.length_append]
      rw [if_pos (by omega), if_pos (by omega), if_pos (by omega), wr i l.length hi (by omega)]
      have := sorted_up h (post.length + 1)
      rw [show k + (post.length + 1) = k + (post.length + 1) by rfl] at this
      simpa using this
theorem sorted_go (l : List ByteArray) (hl : l.length ≤ 1000) : ∀ (rest : List ByteArray) (i : Nat) (out : List ByteArray), l.drop i = rest → i + rest.length = l.length → out.length = i → ∃ k, heptadref28_sorted.l0 k l out (i : Int) = some (rest.foldl (fun out x => insW x out) out)
  | [], i, out, hd, hn, ho => ⟨1, by
      unfold heptadref28_sorted.l0
      rw [List.length_nil] at hn
      rw [if_neg (by omega)]
      rfl⟩
  | x :: rest, i, out, hd, hn, ho => by
    rw [List.length_cons] at hn
    have hi : i < l.length := by omega
    rw [List.drop_eq_getElem_cons hi] at hd
    injection hd with h1 h2
    obtain ⟨k, hk⟩ := sorted_go l hl rest (i + 1) (insW x out) h2 (by omega) (by rw [insW_len, ho])
    refine ⟨k + out.length + 1 + 1, ?_⟩
    unfold heptadref28_sorted.l0
    rw [if_pos (by omega)]
    have := sorted_in l i hi (by omega) _ k out [] (by simp; omega) (by rw [h1]; exact hk)
    exact this
theorem sorted_c (A : Option Addr) (c : Nat) (l : List ByteArray) (W : World) (hr : Kd.C Kd.string W A l.length l) (hc : l.length ≤ c) (hl : l.length ≤ 1000) :
    Calls Tryz.prog 47 #[.slice A l.length c] W fun e w' => ∃ v : Value, e = .returned v ∧ Kd.R Kd.string 9 w' W.heap.size (fun _ => True) v (sortL l) ∧ Below W.heap.size W w' := by
  obtain ⟨k, hk⟩ := sorted_go l hl l 0 [] (List.drop_zero) (by simp) rfl
  exact heptadref28_sorted.calls k A c l _ W hr hc hk
end Go.Proofs.YtehlmkgldcfciaaGreat.Files
-- Written by this repo's wip/tools/myprint.py (the kit's print program, with contracts of our own beside). Lean checks it.
namespace Go.Proofs.YtehlmkgldcfciaaGreat.F
open Go.Proofs.YtehlmkgldcfciaaGreat.Common
open Go.RowKit Go.Proofs.YtehlmkgldcfciaaGreatW.PrintWords Go.Proofs.YtehlmkgldcfciaaGreatW.PrintLast Go.Proofs.YtehlmkgldcfciaaGreatW.PrintMore
set_option linter.unusedVariables false
set_option linter.unusedSimpArgs false
theorem eqA129 (d : Nat) (w : World) (x0 y0 : ByteArray) (x1 y1 : Int) :
    (Op.equalIn (d + 2) 129 (.agg #[.string x0, .int .i64 x1]) (.agg #[.string y0, .int .i64 y1])).run Tryz.prog w = .ok (x0.toList == y0.toList && (x1 == y1)) w := by
  refine eqA_of Tryz.underlying129 (by kernel_rfl) ?_
  refine eqf_cons (by rfl) (by go_simp; rfl) (by go_simp; rfl) (by go_simp) ?_
  exact eqf_last (by rfl) (by go_simp; rfl) (by go_simp; rfl) (by go_simp)
end Go.Proofs.YtehlmkgldcfciaaGreat.F
/- The reference's SameInfo. -/
set_option linter.unusedVariables false
set_option linter.unusedSimpArgs false
namespace Go.Proofs.YtehlmkgldcfciaaGreat.Files
open Go.Proofs.YtehlmkgldcfciaaGreat.Common Go.Maps Go.ChangeMaps Go.WideMaps Go.Lib Go.Proofs.YtehlmkgldcfciaaGreat.F
open Go.RowKit Go.Proofs.YtehlmkgldcfciaaGreatW.PrintWords Go.Proofs.YtehlmkgldcfciaaGreatW.PrintLast Go.Proofs.YtehlmkgldcfciaaGreatW.PrintMore
attribute [local go_sem high] eqA129
noncomputable def sameInfoB (x y : FS) (a b : List S129) : Bool := @decide (x = y ∧ a = b) (Classical.propDecidable _)
theorem sameInfoB_no {x y : FS} {a b : List S129} (h : ¬ (x = y ∧ a = b)) : sameInfoB x y a b = false := by unfold sameInfoB; exact @decide_eq_false _ (Classical.propDecidable _) h
theorem sameInfoB_yes {x y : FS} {a b : List S129} (h : x = y ∧ a = b) : sameInfoB x y a b = true := by unfold sameInfoB; exact @decide_eq_true _ (Classical.propDecidable _) h
set_option maxRecDepth 100000 in
set_option maxHeartbeats 8000000 in
theorem SameInfo_c (x y : FS) (A0 A1 : Option Addr) (c0 c1 : Nat) (a b : List S129) (W : World) (h0 : Kd.C k129 W A0 a.length a) (hc0 : a.length ≤ c0) (h1 : Kd.C k129 W A1 b.length b) (hc1 : b.length ≤ c1) (hl : a.length ≤ 1000) :
    Calls Tryz.prog 40 #[infoV x (.slice A0 a.length c0), infoV y (.slice A1 b.length c1)] W fun e w' => e = .returned (.bool (sameInfoB x y a b)) ∧ Below W.heap.size W w' := by
  have hB2 : Below W.heap.size W ((W.alloc (.cells #[.string x.name, .int .i64 x.kind, .int .i64 x.perm, .string x.owner, .string x.last, .int .i64 x.ch, .int .i64 x.rd, .slice A0 a.length c0] 71)).alloc (.cells #[.string y.name, .int .i64 y.kind, .int .i64 y.perm, .string y.owner, .string y.last, .int .i64 y.ch, .int .i64 y.rd, .slice A1 b.length c1] 71)) := ((Below.refl _ W).alloc (Nat.le_refl _) _).alloc (by simp) _
  have HB2 := Aside0.mk hB2
  have HX := Aside0.mk ((((Below.refl _ _).alloc (Nat.le_refl _) _ : Below (W.alloc (.cells #[.string x.name, .int .i64 x.kind, .int .i64 x.perm, .string x.owner, .string x.last, .int .i64 x.ch, .int .i64 x.rd, .slice A0 a.length c0] 71)).heap.size (W.alloc (.cells #[.string x.name, .int .i64 x.kind, .int .i64 x.perm, .string x.owner, .string x.last, .int .i64 x.ch, .int .i64 x.rd, .slice A0 a.length c0] 71)) ((W.alloc (.cells #[.string x.name, .int .i64 x.kind, .int .i64 x.perm, .string x.owner, .string x.last, .int .i64 x.ch, .int .i64 x.rd, .slice A0 a.length c0] 71)).alloc (.cells #[.string y.name, .int .i64 y.kind, .int .i64 y.perm, .string y.owner, .string y.last, .int .i64 y.ch, .int .i64 y.rd, .slice A1 b.length c1] 71))).block W.heap.size (by simp)).trans (heap_alloc_new W (.cells #[.string x.name, .int .i64 x.kind, .int .i64 x.perm, .string x.owner, .string x.last, .int .i64 x.ch, .int .i64 x.rd, .slice A0 a.length c0] 71)))
  have HY := Aside0.mk (heap_alloc_new (W.alloc (.cells #[.string x.name, .int .i64 x.kind, .int .i64 x.perm, .string x.owner, .string x.last, .int .i64 x.ch, .int .i64 x.rd, .slice A0 a.length c0] 71)) (.cells #[.string y.name, .int .i64 y.kind, .int .i64 y.perm, .string y.owner, .string y.last, .int .i64 y.ch, .int .i64 y.rd, .slice A1 b.length c1] 71))
  have HC0 := Aside0.mk (Kd.C_below h0 hB2)
  have HC1 := Aside0.mk (Kd.C_below h1 hB2)
  simp only [World.size_alloc] at HY
  have HU0 := Aside0.mk h0.2.1
  have HU1 := Aside0.mk h1.2.1
  have HLL := Aside0.mk hl
  unfold infoV
  obtain ⟨x0, x1, x2, x3, x4, x5, x6⟩ := x
  obtain ⟨y0, y1, y2, y3, y4, y5, y6⟩ := y
  simp only at HB2 HX HY HC0 HC1 ⊢
  clear h0 h1 hB2
  by_cases h0 : x0 = y0
  rotate_left
  · have HN := Aside0.mk (sameInfoB_no (fun e => h0 (by injection e.1)) : sameInfoB ⟨x0, x1, x2, x3, x4, x5, x6⟩ ⟨y0, y1, y2, y3, y4, y5, y6⟩ a b = false)
    have g0 := beq_no h0
    go_enter Tryz.func40, Tryz.ntmps40
    go_wp2
    refine bodyPost_ret (v := .bool false) (by simp [results, Tryz.f40, go_sem]) rfl ?_
    exact ⟨by rw [HN.out], HB2.out⟩
  subst h0
  by_cases h1 : x1 = y1
  rotate_left
  · have HN := Aside0.mk (sameInfoB_no (fun e => h1 (by injection e.1)) : sameInfoB ⟨x0, x1, x2, x3, x4, x5, x6⟩ ⟨x0, y1, y2, y3, y4, y5, y6⟩ a b = false)
    have g1 : (x1 == y1) = false := by simpa using h1
    have g1' : (x1 != y1) = true := by simpa using h1
    go_enter Tryz.func40, Tryz.ntmps40
    go_wp2
    refine bodyPost_ret (v := .bool false) (by simp [results, Tryz.f40, go_sem]) rfl ?_
    exact ⟨by rw [HN.out], HB2.out⟩
  subst h1
  by_cases h2 : x2 = y2
  rotate_left
  · have HN := Aside0.mk (sameInfoB_no (fun e => h2 (by injection e.1)) : sameInfoB ⟨x0, x1, x2, x3, x4, x5, x6⟩ ⟨x0, x1, y2, y3, y4, y5, y6⟩ a b = false)
    have g2 : (x2 == y2) = false := by simpa using h2
    have g2' : (x2 != y2) = true := by simpa using h2
    go_enter Tryz.func40, Tryz.ntmps40
    go_wp2
    refine bodyPost_ret (v := .bool false) (by simp [results, Tryz.f40, go_sem]) rfl ?_
    exact ⟨by rw [HN.out], HB2.out⟩
  subst h2
  by_cases h3 : x3 = y3
  rotate_left
  · have HN := Aside0.mk (sameInfoB_no (fun e => h3 (by injection e.1)) : sameInfoB ⟨x0, x1, x2, x3, x4, x5, x6⟩ ⟨x0, x1, x2, y3, y4, y5, y6⟩ a b = false)
    have g3 := beq_no h3
    go_enter Tryz.func40, Tryz.ntmps40
    go_wp2
    refine bodyPost_ret (v := .bool false) (by simp [results, Tryz.f40, go_sem]) rfl ?_
    exact ⟨by rw [HN.out], HB2.out⟩
  subst h3
  by_cases h4 : x4 = y4
  rotate_left
  · have HN := Aside0.mk (sameInfoB_no (fun e => h4 (by injection e.1)) : sameInfoB ⟨x0, x1, x2, x3, x4, x5, x6⟩ ⟨x0, x1, x2, x3, y4, y5, y6⟩ a b = false)
    have g4 := beq_no h4
    go_enter Tryz.func40, Tryz.ntmps40
    go_wp2
    refine bodyPost_ret (v := .bool false) (by simp [results, Tryz.f40, go_sem]) rfl ?_
    exact ⟨by rw [HN.out], HB2.out⟩
  subst h4
  by_cases h5 : x5 = y5
  rotate_left
  · have HN := Aside0.mk (sameInfoB_no (fun e => h5 (by injection e.1)) : sameInfoB ⟨x0, x1, x2, x3, x4, x5, x6⟩ ⟨x0, x1, x2, x3, x4, y5, y6⟩ a b = false)
    have g5 : (x5 == y5) = false := by simpa using h5
    have g5' : (x5 != y5) = true := by simpa using h5
    go_enter Tryz.func40, Tryz.ntmps40
    go_wp2
    refine bodyPost_ret (v := .bool false) (by simp [results, Tryz.f40, go_sem]) rfl ?_
    exact ⟨by rw [HN.out], HB2.out⟩
  subst h5
  by_cases h6 : x6 = y6
  rotate_left
  · have HN := Aside0.mk (sameInfoB_no (fun e => h6 (by injection e.1)) : sameInfoB ⟨x0, x1, x2, x3, x4, x5, x6⟩ ⟨x0, x1, x2, x3, x4, x5, y6⟩ a b = false)
    have g6 : (x6 == y6) = false := by simpa using h6
    have g6' : (x6 != y6) = true := by simpa using h6
    go_enter Tryz.func40, Tryz.ntmps40
    go_wp2
    refine bodyPost_ret (v := .bool false) (by simp [results, Tryz.f40, go_sem]) rfl ?_
    exact ⟨by rw [HN.out], HB2.out⟩
  subst h6
  by_cases h7 : a.length = b.length
  rotate_left
  · have HN := Aside0.mk (sameInfoB_no (fun e => h7 (by rw [e.2])) : sameInfoB ⟨x0, x1, x2, x3, x4, x5, x6⟩ ⟨x0, x1, x2, x3, x4, x5, x6⟩ a b = false)
    have h7z : ¬ (a.length : Int) = (b.length : Int) := by omega
    have g7 : ((a.length : Int) == (b.length : Int)) = false := by simp; omega
    have g7' : ((a.length : Int) != (b.length : Int)) = true := by simp; omega
    go_enter Tryz.func40, Tryz.ntmps40
    go_wp2
    refine bodyPost_ret (v := .bool false) (by simp [results, Tryz.f40, go_sem]) rfl ?_
    exact ⟨by rw [HN.out], HB2.out⟩
  have g7 : ((a.length : Int) == (b.length : Int)) = true := by simp; omega
  have g7' : ((a.length : Int) != (b.length : Int)) = false := by simp; omega
  have HE := Aside0.mk h7
  clear h7
  go_enter Tryz.func40, Tryz.ntmps40
  go_wp2_with fail
  generalize (W.alloc (.cells #[.string x0, .int .i64 x1, .int .i64 x2, .string x3, .string x4, .int .i64 x5, .int .i64 x6, .slice A0 a.length c0] 71)).alloc (.cells #[.string x0, .int .i64 x1, .int .i64 x2, .string x3, .string x4, .int .i64 x5, .int .i64 x6, .slice A1 b.length c1] 71) = w2 at HB2 HX HY HC0 HC1 ⊢
  have p7 := (blk_cell HX.out 7).trans (show _ = some (Value.slice A0 a.length c0) from rfl)
  have q7 := (blk_cell HY.out 7).trans (show _ = some (Value.slice A1 b.length c1) from rfl)
  clear HX HY hc0 hc1
  go_loopw [5] (fun s wr => ∃ j : Nat, s = .int .i64 j ∧ j ≤ a.length ∧ Aside0 (Below w2.heap.size w2 wr) ∧ Aside0 (∀ i, i < j → a[i]? = b[i]?)) (fun s _ => a.length - (intOf s).toNat)
  case atStart => exact ⟨0, rfl, Nat.zero_le _, ⟨Below.refl _ _⟩, ⟨fun i h => by omega⟩⟩
  case round =>
    obtain ⟨j, rfl, hj, HBW, HF⟩ := hrel
    have r7 := pw_cell_below HBW.out p7
    have s7 := pw_cell_below HBW.out q7
    by_cases hlt : j < a.length
    · have hltz : (j : Int) < (a.length : Int) := by omega
      have hltb : (j : Int) < (b.length : Int) := by have := HE.out; omega
      have hlb : j < b.length := by have := HE.out; omega
      have hj0 : decide ((j : Int) < 0) = false := decide_eq_false (by omega)
      obtain ⟨ad, hA, z0, z1⟩ := at_T129 (Kd.C_below HC0.out HBW.out) (j : Int) (by omega) (by omega)
      obtain ⟨ad', hA', y0, y1⟩ := at_T129 (Kd.C_below HC1.out HBW.out) (j : Int) (by omega) (by omega)
      subst hA hA'
      rw [Int.toNat_natCast] at z0 z1 y0 y1
      have HGA := Aside0.mk (show a[j]? = some (rd_T129 a (j : Int)) by simp [rd_T129, List.getD_eq_getElem?_getD, List.getElem?_eq_getElem hlt])
      have HGB := Aside0.mk (show b[j]? = some (rd_T129 b (j : Int)) by simp [rd_T129, List.getD_eq_getElem?_getD, List.getElem?_eq_getElem hlb])
      generalize rd_T129 a (j : Int) = p at z0 z1 HGA
      generalize rd_T129 b (j : Int) = q at y0 y1 HGB
      obtain ⟨p0, p1⟩ := p
      obtain ⟨q0, q1⟩ := q
      simp only at z0 z1 y0 y1
      by_cases hp : p0 = q0
      · subst hp
        by_cases hq : p1 = q1
        · subst hq
          have HF2 := Aside0.mk (show ∀ i, i < j + 1 → a[i]? = b[i]? from fun i hi => by
            by_cases e : i = j
            · subst e; rw [HGA.out, HGB.out]
            · exact HF.out i (by omega))
          go_wp2_with fail
          go_quiet (fail)
          go_wp2_with fail
          go_roundw
          case rel => exact ⟨j + 1, by go_num, by omega, ⟨pw_below_drewN HBW.out _⟩, HF2⟩
          case measure => (simp [intOf]; omega)
        · have g1 : (p1 == q1) = false := by simpa using hq
          have HN := Aside0.mk (sameInfoB_no (fun e => hq (by have := HGA.out; rw [e.2, HGB.out] at this; injection this with this; injection this with _ h; exact h.symm)) : sameInfoB ⟨x0, x1, x2, x3, x4, x5, x6⟩ ⟨x0, x1, x2, x3, x4, x5, x6⟩ a b = false)
          go_wp2_with fail
          go_quiet (fail)
          go_wp2
          refine bodyPost_ret (v := .bool false) (by simp [results, Tryz.f40, go_sem]) rfl ?_
          exact ⟨by rw [HN.out], HB2.out.trans ((pw_below_drewN HBW.out _).mono HB2.out.size)⟩
      · have g0 := beq_no hp
        have HN := Aside0.mk (sameInfoB_no (fun e => hp (by have := HGA.out; rw [e.2, HGB.out] at this; injection this with this; injection this with h _; exact h.symm)) : sameInfoB ⟨x0, x1, x2, x3, x4, x5, x6⟩ ⟨x0, x1, x2, x3, x4, x5, x6⟩ a b = false)
        go_wp2_with fail
        go_quiet (fail)
        go_wp2
        refine bodyPost_ret (v := .bool false) (by simp [results, Tryz.f40, go_sem]) rfl ?_
        exact ⟨by rw [HN.out], HB2.out.trans ((pw_below_drewN HBW.out _).mono HB2.out.size)⟩
    · have hltz : ¬ (j : Int) < (a.length : Int) := by omega
      have HY := Aside0.mk (sameInfoB_yes ⟨rfl, List.ext_getElem? (fun i => by
        by_cases hi : i < j
        · exact HF.out i hi
        · rw [List.getElem?_eq_none (by omega), List.getElem?_eq_none (by have := HE.out; omega)])⟩ : sameInfoB ⟨x0, x1, x2, x3, x4, x5, x6⟩ ⟨x0, x1, x2, x3, x4, x5, x6⟩ a b = true)
      go_wp2
      refine bodyPost_ret (v := .bool true) (by simp [results, Tryz.f40, go_sem]) rfl ?_
      exact ⟨by rw [HY.out], HB2.out.trans (HBW.out.mono HB2.out.size)⟩
end Go.Proofs.YtehlmkgldcfciaaGreat.Files
-- Written by this repo's wip/tools/myprint.py (the kit's print program, with contracts of our own beside). Lean checks it.
namespace Go.Proofs.YtehlmkgldcfciaaGreat.F
open Go.Proofs.YtehlmkgldcfciaaGreat.Common
open Go.RowKit Go.Proofs.YtehlmkgldcfciaaGreatW.PrintWords Go.Proofs.YtehlmkgldcfciaaGreatW.PrintLast Go.Proofs.YtehlmkgldcfciaaGreatW.PrintMore
set_option linter.unusedVariables false
set_option linter.unusedSimpArgs false
theorem eqA62 (d : Nat) (w : World) (x0 y0 : ByteArray) (x1 y1 : ByteArray) (x2 y2 : Int) :
    (Op.equalIn (d + 2) 62 (.agg #[.string x0, .string x1, .int .i64 x2]) (.agg #[.string y0, .string y1, .int .i64 y2])).run Tryz.prog w = .ok (x0.toList == y0.toList && (x1.toList == y1.toList && (x2 == y2))) w := by
  refine eqA_of Tryz.underlying62 (by kernel_rfl) ?_
  refine eqf_cons (by rfl) (by go_simp; rfl) (by go_simp; rfl) (by go_simp) ?_
  refine eqf_cons (by rfl) (by go_simp; rfl) (by go_simp; rfl) (by go_simp) ?_
  exact eqf_last (by rfl) (by go_simp; rfl) (by go_simp; rfl) (by go_simp)
end Go.Proofs.YtehlmkgldcfciaaGreat.F
-- Written by this repo's wip/tools/myprint.py (the kit's print program, with contracts of our own beside). Lean checks it.
namespace Go.Proofs.YtehlmkgldcfciaaGreat.F
open Go.Proofs.YtehlmkgldcfciaaGreat.Common
open Go.RowKit Go.Proofs.YtehlmkgldcfciaaGreatW.PrintWords Go.Proofs.YtehlmkgldcfciaaGreatW.PrintLast Go.Proofs.YtehlmkgldcfciaaGreatW.PrintMore
set_option linter.unusedVariables false
set_option linter.unusedSimpArgs false
attribute [local go_sem high] eqA62
def heptadref28_Same.l0 : Nat → List (S62) → List (S62) → Int → Option (Bool)
 | 0, _, _, _ => none
 | k + 1, x0, x1, x5 => if x5 < (x0.length : Int) then (if 0 ≤ x5 then (if x5 < (x1.length : Int) then (if (!((((rd_T62 x0 x5).f0).toList) == (((rd_T62 x1 x5).f0).toList)) || (!((((rd_T62 x0 x5).f1).toList) == (((rd_T62 x1 x5).f1).toList)) || (!(((rd_T62 x0 x5).f2) == ((rd_T62 x1 x5).f2))))) = true then (some false) else (heptadref28_Same.l0 k x0 x1 (wrap64 (x5 + 1)))) else (none)) else (none)) else (some true)
def heptadref28_Same.f (k : Nat) (l0 : List (S62)) (l1 : List (S62)) : Option (Bool) := if (l0.length : Int) = (l1.length : Int) then (heptadref28_Same.l0 k l0 l1 0) else (some false)
set_option maxHeartbeats 8000000 in
set_option maxRecDepth 100000 in
theorem heptadref28_Same.calls (k : Nat) (A0 : Option Addr) (c0 : Nat) (l0 : List (S62)) (A1 : Option Addr) (c1 : Nat) (l1 : List (S62)) (r : Bool) (w : World) (hr0 : Kd.C k62 w A0 l0.length l0) (hc0 : l0.length ≤ c0) (hr1 : Kd.C k62 w A1 l1.length l1) (hc1 : l1.length ≤ c1) (h : heptadref28_Same.f k l0 l1 = some r) :
  Calls Tryz.prog 28 #[.slice A0 l0.length c0, .slice A1 l1.length c1] w fun e w' => e = .returned (.bool r) ∧ Drawn0 w w' := by
 have hu62 := Tryz.underlying62
 have HR0 := Aside0.mk hr0
 have HC0 := Aside0.mk hc0
 clear hr0 hc0
 have HR1 := Aside0.mk hr1
 have HC1 := Aside0.mk hc1
 clear hr1 hc1
 have H : (if (l0.length : Int) = (l1.length : Int) then (heptadref28_Same.l0 k l0 l1 0) else (some false)) = some r := h
 clear h
 by_cases c3 : (l0.length : Int) = (l1.length : Int)
 ·rw [if_pos c3] at H
  have c3b0 : ((l0.length : Int) == (l1.length : Int)) = true := beq_iff_eq.mpr c3
  have c3b1 : ((l0.length : Int) != (l1.length : Int)) = false := bne_eq_false_iff_eq.mpr c3
  have c3b2 : (l0.length == l1.length) = true := by first | simpa using c3 | (simp at c3 ⊢; omega)
  clear c3
  have H' := Aside0.mk H
  clear H
  go_enter Tryz.func28, Tryz.ntmps28
  go_wp2
  repeat (go_quiet (fail); try go_wp2)
  go_loopg [5] k (fun kq v5 w' => ∃ (x5_1 : Int), v5 = .int .i64 x5_1 ∧ Aside0 (heptadref28_Same.l0 kq l0 l1 x5_1 = some r) ∧ Aside0 (kq ≤ k) ∧ Drawn0 w w')
  case atStart => exact ⟨(0), (by first | rfl | (simp; done) | (simp [*]; done)), H', ⟨Nat.le_refl _⟩, by repeat (first | exact Drawn0.refl _ | apply Drawn0.step)⟩
  case round =>
   clear H'
   try clear c1
   try clear c2
   try clear p2
   try clear c3
   try clear c3b0
   try clear c3b1
   try clear c3b2
   obtain ⟨x5_1, rfl, HA, HK1, ⟨m1, rfl⟩⟩ := hrel
   cases gk with
   | zero => exact absurd HA.out (by simp [heptadref28_Same.l0])
   | succ k1 =>
    have H := HA.out
    clear HA
    simp only [heptadref28_Same.l0] at H
    by_cases c4 : x5_1 < (l0.length : Int)
    ·rw [if_pos c4] at H
     have c4b0 : decide (x5_1 < (l0.length : Int)) = true := decide_eq_true c4
     clear c4
     by_cases c5 : 0 ≤ x5_1
     ·rw [if_pos c5] at H
      have c5b0 : decide (0 ≤ x5_1) = true := decide_eq_true c5
      clear c5
      by_cases c6 : x5_1 < (l1.length : Int)
      ·rw [if_pos c6] at H
       have c6b0 : decide (x5_1 < (l1.length : Int)) = true := decide_eq_true c6
       clear c6
       by_cases c7 : (!((((rd_T62 l0 x5_1).f0).toList) == (((rd_T62 l1 x5_1).f0).toList)) || (!((((rd_T62 l0 x5_1).f1).toList) == (((rd_T62 l1 x5_1).f1).toList)) || (!(((rd_T62 l0 x5_1).f2) == ((rd_T62 l1 x5_1).f2))))) = true
       ·rw [if_pos c7] at H
        have c7b0 : (!((((rd_T62 l0 x5_1).f0).toList) == (((rd_T62 l1 x5_1).f0).toList)) || (!((((rd_T62 l0 x5_1).f1).toList) == (((rd_T62 l1 x5_1).f1).toList)) || (!(((rd_T62 l0 x5_1).f2) == ((rd_T62 l1 x5_1).f2))))) = true := c7
        clear c7
        obtain rfl := Option.some.inj H
        have p128 : 0 ≤ (x5_1 : Int) := of_decide_eq_true (by first | (with_reducible assumption) | assumption)
        have q128 : x5_1 < (l0.length : Int) := of_decide_eq_true (by first | (with_reducible assumption) | assumption)
        obtain ⟨ad128, e128, hx128_0, hx128_1, hx128_2⟩ := at_T62 HR0.out x5_1 p128 q128
        cases e128
        replace p128 := eq_true p128
        replace q128 := eq_true q128
        have p129 : 0 ≤ (x5_1 : Int) := of_decide_eq_true (by first | (with_reducible assumption) | assumption)
        have q129 : x5_1 < (l1.length : Int) := of_decide_eq_true (by first | (with_reducible assumption) | assumption)
        obtain ⟨ad129, e129, hx129_0, hx129_1, hx129_2⟩ := at_T62 HR1.out x5_1 p129 q129
        cases e129
        replace p129 := eq_true p129
        replace q129 := eq_true q129
        go_wp2
        repeat (go_quiet (fail); try go_wp2)
        go_ret
        exact ⟨by first | rfl | (simp; done) | (simp [*]; done), by repeat (first | exact Drawn0.refl _ | apply Drawn0.step)⟩
       ·rw [if_neg c7] at H
        have c7b0 : (!((((rd_T62 l0 x5_1).f0).toList) == (((rd_T62 l1 x5_1).f0).toList)) || (!((((rd_T62 l0 x5_1).f1).toList) == (((rd_T62 l1 x5_1).f1).toList)) || (!(((rd_T62 l0 x5_1).f2) == ((rd_T62 l1 x5_1).f2))))) = false := by simpa using c7
        clear c7
        have H' := Aside0.mk H
        clear H
        have p128 : 0 ≤ (x5_1 : Int) := of_decide_eq_true (by first | (with_reducible assumption) | assumption)
        have q128 : x5_1 < (l0.length : Int) := of_decide_eq_true (by first | (with_reducible assumption) | assumption)
        obtain ⟨ad128, e128, hx128_0, hx128_1, hx128_2⟩ := at_T62 HR0.out x5_1 p128 q128
        cases e128
        replace p128 := eq_true p128
        replace q128 := eq_true q128
        have p129 : 0 ≤ (x5_1 : Int) := of_decide_eq_true (by first | (with_reducible assumption) | assumption)
        have q129 : x5_1 < (l1.length : Int) := of_decide_eq_true (by first | (with_reducible assumption) | assumption)
        obtain ⟨ad129, e129, hx129_0, hx129_1, hx129_2⟩ := at_T62 HR1.out x5_1 p129 q129
        cases e129
        replace p129 := eq_true p129
        replace q129 := eq_true q129
        go_wp2
        repeat (go_quiet (fail); try go_wp2)
        go_roundg k1
        case measure => have := HK1.out; omega
        case rel => exact ⟨(wrap64 (x5_1 + 1)), (by first | rfl | (simp; done) | (simp [*]; done)), H', ⟨by have := HK1.out; omega⟩, by repeat (first | exact Drawn0.refl _ | apply Drawn0.step)⟩
      ·rw [if_neg c6] at H
       exact absurd H (by simp)
     ·rw [if_neg c5] at H
      exact absurd H (by simp)
    ·rw [if_neg c4] at H
     have c4b0 : decide (x5_1 < (l0.length : Int)) = false := decide_eq_false c4
     clear c4
     obtain rfl := Option.some.inj H
     go_wp2
     repeat (go_quiet (fail); try go_wp2)
     go_ret
     exact ⟨by first | rfl | (simp; done) | (simp [*]; done), by repeat (first | exact Drawn0.refl _ | apply Drawn0.step)⟩
 ·rw [if_neg c3] at H
  have c3b0 : ((l0.length : Int) == (l1.length : Int)) = false := beq_eq_false_iff_ne.mpr c3
  have c3b1 : ((l0.length : Int) != (l1.length : Int)) = true := bne_iff_ne.mpr c3
  have c3b2 : (l0.length == l1.length) = false := by first | simpa using c3 | (simp at c3 ⊢; omega)
  obtain rfl := Option.some.inj H
  go_enter Tryz.func28, Tryz.ntmps28
  go_wp2
  repeat (go_quiet (fail); try go_wp2)
  go_ret
  exact ⟨by first | rfl | (simp; done) | (simp [*]; done), by repeat (first | exact Drawn0.refl _ | apply Drawn0.step)⟩
end Go.Proofs.YtehlmkgldcfciaaGreat.F
-- Written by this repo's wip/tools/myprint.py (the kit's print program, with contracts of our own beside). Lean checks it.
namespace Go.Proofs.YtehlmkgldcfciaaGreat.F
open Go.Proofs.YtehlmkgldcfciaaGreat.Common
open Go.RowKit Go.Proofs.YtehlmkgldcfciaaGreatW.PrintWords Go.Proofs.YtehlmkgldcfciaaGreatW.PrintLast Go.Proofs.YtehlmkgldcfciaaGreatW.PrintMore
set_option linter.unusedVariables false
set_option linter.unusedSimpArgs false
def heptadlaw28_To.l0 : Nat → List (S29) → List (S62) → Int → Option ((List (S62)))
 | 0, _, _, _ => none
 | k + 1, x0, x3, x4 => if x4 < (x0.length : Int) then (if 0 ≤ x4 then (if x3.length < 3518437208883 then (heptadlaw28_To.l0 k x0 (x3 ++ [(⟨(rd_T29 x0 x4).f0, (rd_T29 x0 x4).f1, (rd_T29 x0 x4).f2⟩ : S62)]) (wrap64 (x4 + 1))) else (none)) else (none)) else (some x3)
def heptadlaw28_To.f (k : Nat) (l0 : List (S29)) : Option ((List (S62))) := heptadlaw28_To.l0 k l0 ([] : List (S62)) 0
def heptadlaw28_To.T5 : Bool × List (List Nat × List Nat) := (true, [([], []), ([], []), ([], []), ([1, 2], [1, 2]), ([3], [3]), ([4], [4]), ([], []), ([], []), ([6, 7], [6, 7]), ([8], [8]), ([9], [9]), ([], []), ([], []), ([11, 12], [11, 12]), ([13], [13]), ([14], [14]), ([5, 10, 15], [5, 10, 15]), ([16], [16]), ([0, 17], [0, 17]), ([18, 18, 0, 1, 2, 3, 4, 5, 6, 7, 8, 9, 10, 11, 12, 13, 14, 15, 16, 17, 18], [0, 18])])
def heptadlaw28_To.B5 : List Nat := [0, 0, 0, 6, 14, 30, 0, 0, 192, 448, 960, 0, 0, 6144, 14336, 30720, 65534, 131070, 262143, 524287]
theorem heptadlaw28_To.tab5 : rtab .any (opsOf Tryz.f29 5) = heptadlaw28_To.T5 := by kernel_rfl
theorem heptadlaw28_To.bits5 : waitsOk heptadlaw28_To.T5.2 heptadlaw28_To.B5 = true := by kernel_rfl
set_option maxHeartbeats 8000000 in
set_option maxRecDepth 100000 in
theorem heptadlaw28_To.calls (k : Nat) (A0 : Option Addr) (c0 : Nat) (l0 : List (S29)) (r : List (S62)) (w : World) (hr0 : Kd.C k29 w A0 l0.length l0) (hc0 : l0.length ≤ c0) (h : heptadlaw28_To.f k l0 = some r) :
  Calls Tryz.prog 29 #[.slice A0 l0.length c0] w fun e w' => ∃ v0_ : Value, e = .returned (v0_) ∧ Kd.R k62 62 w' w.heap.size (fun _ => True) v0_ r ∧ Below w.heap.size w w' := by
 have hu62 := Tryz.underlying62
 have HR0 := Aside0.mk hr0
 have HC0 := Aside0.mk hc0
 clear hr0 hc0
 have HB := Aside0.mk (Below.refl w.heap.size w)
 have H : (heptadlaw28_To.l0 k l0 ([] : List (S62)) 0) = some r := h
 clear h
 have H' := Aside0.mk H
 clear H
 go_enter Tryz.func29, Tryz.ntmps29
 go_wp2
 go_loopg [3, 4] k (fun kq v3 v4 w' => ∃ (x3_1 : List (S62)) (x4_1 : Int), v4 = .int .i64 x4_1 ∧ Aside0 (heptadlaw28_To.l0 kq l0 x3_1 x4_1 = some r) ∧ Aside0 (kq ≤ k) ∧ Aside0 (Kd.R k62 62 w' w.heap.size (fun _ => True) v3 x3_1) ∧ Aside0 (Below w.heap.size w w'))
 case atStart => exact ⟨(([] : List (S62))), (0), (by first | rfl | (simp; done) | (simp [*]; done)), H', ⟨Nat.le_refl _⟩, ⟨by first | exact Kd.R_nil _ _ _ _ _ | exact Kd.N_nil _ _ _ _ _ | exact Kd.V_nil _ _ _ _ _ | exact Kd.Q_nil _ _ _ _ _ | exact Kd.S_nil _ _ _ _ _⟩, ⟨by repeat (first | (with_reducible first | exact HB.out | apply below_alloc | apply pw_below_drewN | apply below_drew1) | exact HB.out)⟩⟩
 case round =>
  clear H'
  obtain ⟨x3_1, x4_1, rfl, HA, HK1, HO_3, HB⟩ := hrel
  cases gk with
  | zero => exact absurd HA.out (by simp [heptadlaw28_To.l0])
  | succ k1 =>
   have H := HA.out
   clear HA
   simp only [heptadlaw28_To.l0] at H
   by_cases c2 : x4_1 < (l0.length : Int)
   ·rw [if_pos c2] at H
    have c2b0 : decide (x4_1 < (l0.length : Int)) = true := decide_eq_true c2
    clear c2
    by_cases c3 : 0 ≤ x4_1
    ·rw [if_pos c3] at H
     have c3b0 : decide (0 ≤ x4_1) = true := decide_eq_true c3
     clear c3
     by_cases c4 : x3_1.length < 3518437208883
     ·rw [if_pos c4] at H
      have LMc4 := Aside0.mk c4
      clear c4
      obtain ⟨y133, hy133⟩ : ∃ y_ : List (S62), y_ = (x3_1 ++ [(⟨(rd_T29 l0 x4_1).f0, (rd_T29 l0 x4_1).f1, (rd_T29 l0 x4_1).f2⟩ : S62)]) := ⟨_, rfl⟩
      replace H : (heptadlaw28_To.l0 k1 l0 y133 (wrap64 (x4_1 + 1))) = some r := by first | (rw [hy133]; with_reducible exact H) | (have H2_ := (Option.bind_some _ _).symm.trans H; rw [hy133]; with_reducible exact H2_) | (have H2_ := (Option.bind_some _ _).symm.trans H; with_reducible exact H2_) | with_reducible exact H | (rw [hy133]; exact H) | exact H
      have Ny133 := Aside0.mk hy133
      clear hy133
      have H' := Aside0.mk H
      clear H
      try go_wp2
      have n0_ := Aside0.mk (Kd.R_drew HO_3.out)
      have n1_ := Aside0.mk (below_drew1 HB.out)
      clear HO_3
      clear HB
      have HO_3 := n0_
      have HB := n1_
      clear n0_ n1_
      have p130 : 0 ≤ (x4_1 : Int) := of_decide_eq_true (by first | (with_reducible assumption) | assumption)
      have q130 : x4_1 < (l0.length : Int) := of_decide_eq_true (by first | (with_reducible assumption) | assumption)
      obtain ⟨ad130, e130, hx130_0, hx130_1, hx130_2⟩ := at_T29 HR0.out x4_1 p130 q130
      have hw130_2 := hx130_2
      have hw130_1 := hx130_1
      have hw130_0 := hx130_0
      cases e130
      replace hx130_0 := (HB.out.cell (World.block_lt_of_cell? w _ hx130_0)).trans hx130_0
      replace hx130_1 := (HB.out.cell (World.block_lt_of_cell? w _ hx130_1)).trans hx130_1
      replace hx130_2 := (HB.out.cell (World.block_lt_of_cell? w _ hx130_2)).trans hx130_2
      replace p130 := eq_true p130
      replace q130 := eq_true q130
      have p131 : 0 ≤ (x4_1 : Int) := of_decide_eq_true (by first | (with_reducible assumption) | assumption)
      have q131 : x4_1 < (l0.length : Int) := of_decide_eq_true (by first | (with_reducible assumption) | assumption)
      obtain ⟨ad131, e131, hx131_0, hx131_1, hx131_2⟩ := at_T29 HR0.out x4_1 p131 q131
      have hw131_2 := hx131_2
      have hw131_1 := hx131_1
      have hw131_0 := hx131_0
      obtain rfl : ad130 = ad131 := (by injection e131)
      replace hx131_0 := (HB.out.cell (World.block_lt_of_cell? w _ hx131_0)).trans hx131_0
      replace hx131_1 := (HB.out.cell (World.block_lt_of_cell? w _ hx131_1)).trans hx131_1
      replace hx131_2 := (HB.out.cell (World.block_lt_of_cell? w _ hx131_2)).trans hx131_2
      replace p131 := eq_true p131
      replace q131 := eq_true q131
      have p132 : 0 ≤ (x4_1 : Int) := of_decide_eq_true (by first | (with_reducible assumption) | assumption)
      have q132 : x4_1 < (l0.length : Int) := of_decide_eq_true (by first | (with_reducible assumption) | assumption)
      obtain ⟨ad132, e132, hx132_0, hx132_1, hx132_2⟩ := at_T29 HR0.out x4_1 p132 q132
      have hw132_2 := hx132_2
      have hw132_1 := hx132_1
      have hw132_0 := hx132_0
      obtain rfl : ad130 = ad132 := (by injection e132)
      replace hx132_0 := (HB.out.cell (World.block_lt_of_cell? w _ hx132_0)).trans hx132_0
      replace hx132_1 := (HB.out.cell (World.block_lt_of_cell? w _ hx132_1)).trans hx132_1
      replace hx132_2 := (HB.out.cell (World.block_lt_of_cell? w _ hx132_2)).trans hx132_2
      replace p132 := eq_true p132
      replace q132 := eq_true q132
      refine start_ (n := 20) (S := fun w' => w'.cell? (ad130.add ((x4_1).toNat * 3)) = some (.string ((rd_T29 l0 x4_1).f0)) ∧ w'.cell? ⟨(ad130.add ((x4_1).toNat * 3)).block, (ad130.add ((x4_1).toNat * 3)).off + 1, none⟩ = some (.string ((rd_T29 l0 x4_1).f1)) ∧ w'.cell? ⟨(ad130.add ((x4_1).toNat * 3)).block, (ad130.add ((x4_1).toNat * 3)).off + 2, none⟩ = some (.int .i64 ((rd_T29 l0 x4_1).f2)) ∧ w'.cell? (ad130.add ((x4_1).toNat * 3)) = some (.string ((rd_T29 l0 x4_1).f0)) ∧ w'.cell? ⟨(ad130.add ((x4_1).toNat * 3)).block, (ad130.add ((x4_1).toNat * 3)).off + 1, none⟩ = some (.string ((rd_T29 l0 x4_1).f1)) ∧ w'.cell? ⟨(ad130.add ((x4_1).toNat * 3)).block, (ad130.add ((x4_1).toNat * 3)).off + 2, none⟩ = some (.int .i64 ((rd_T29 l0 x4_1).f2)) ∧ w'.cell? (ad130.add ((x4_1).toNat * 3)) = some (.string ((rd_T29 l0 x4_1).f0)) ∧ w'.cell? ⟨(ad130.add ((x4_1).toNat * 3)).block, (ad130.add ((x4_1).toNat * 3)).off + 1, none⟩ = some (.string ((rd_T29 l0 x4_1).f1)) ∧ w'.cell? ⟨(ad130.add ((x4_1).toNat * 3)).block, (ad130.add ((x4_1).toNat * 3)).off + 2, none⟩ = some (.int .i64 ((rd_T29 l0 x4_1).f2))) (ds := []) #[false, false, false, false, false, false, false, false, false, false, false, false, false, false, false, false, false, false, false, false] (by kernel_rfl) rfl rfl ⟨((HB.out.cell (World.block_lt_of_cell? w _ hw130_0)).trans hw130_0), ((HB.out.cell (World.block_lt_of_cell? w _ hw130_1)).trans hw130_1), ((HB.out.cell (World.block_lt_of_cell? w _ hw130_2)).trans hw130_2), ((HB.out.cell (World.block_lt_of_cell? w _ hw131_0)).trans hw131_0), ((HB.out.cell (World.block_lt_of_cell? w _ hw131_1)).trans hw131_1), ((HB.out.cell (World.block_lt_of_cell? w _ hw131_2)).trans hw131_2), ((HB.out.cell (World.block_lt_of_cell? w _ hw132_0)).trans hw132_0), ((HB.out.cell (World.block_lt_of_cell? w _ hw132_1)).trans hw132_1), ((HB.out.cell (World.block_lt_of_cell? w _ hw132_2)).trans hw132_2)⟩ (fun hHeld => ?_); refine with_tabW heptadlaw28_To.tab5 heptadlaw28_To.bits5 (fun HT_ HW_ => ?_)
      generalize wr.drew = w5 at HO_3 HB hx130_0 hx130_1 hx130_2 hx131_0 hx131_1 hx131_2 hx132_0 hx132_1 hx132_2 hHeld ⊢
      refine pure_ (i := 0) (N := some 11) (v := ?_) (a' := ?_) #[true, false, false, false, false, false, false, false, false, false, false, false, false, false, false, false, false, false, false, false] rfl rfl (any_of HT_.out (by kernel_rfl)) (fun _ _ _ h => h) (Or.inl ⟨by rfl, ?_⟩) ?_ ?_
      rotate_left
      ·intro w'
       go_simp
       with_reducible rfl
      rotate_left
      ·simp only [Act.put, List.setIfInBounds_toArray, List.set_cons_zero, List.set_cons_succ, i64_w, i32_w]
       rfl
      refine pure_ (i := 1) (N := some 12) (v := ?_) (a' := ?_) #[true, true, false, false, false, false, false, false, false, false, false, false, false, false, false, false, false, false, false, false] rfl rfl (any_of HT_.out (by kernel_rfl)) (fun _ _ _ h => h) (Or.inl ⟨by rfl, ?_⟩) ?_ ?_
      rotate_left
      ·intro w'
       go_simp
       with_reducible rfl
      rotate_left
      ·simp only [Act.put, List.setIfInBounds_toArray, List.set_cons_zero, List.set_cons_succ, i64_w, i32_w]
       rfl
      refine pure_ (i := 2) (N := some 13) (v := ?_) (a' := ?_) #[true, true, true, false, false, false, false, false, false, false, false, false, false, false, false, false, false, false, false, false] rfl rfl (any_of HT_.out (by kernel_rfl)) (fun _ _ _ h => h) (Or.inl ⟨by rfl, ?_⟩) ?_ ?_
      rotate_left
      ·intro w'
       go_simp
       with_reducible rfl
      rotate_left
      ·simp only [Act.put, List.setIfInBounds_toArray, List.set_cons_zero, List.set_cons_succ, i64_w, i32_w]
       rfl
      refine pure_ (i := 3) (N := some 14) (v := ?_) (a' := ?_) #[true, true, true, true, false, false, false, false, false, false, false, false, false, false, false, false, false, false, false, false] rfl rfl (any_of HT_.out (by kernel_rfl)) (fun _ _ _ h => h) (Or.inl ⟨by rfl, ?_⟩) ?_ ?_
      rotate_left
      ·intro w'
       go_simp
       with_reducible rfl
      rotate_left
      ·simp only [Act.put, List.setIfInBounds_toArray, List.set_cons_zero, List.set_cons_succ, i64_w, i32_w]
       rfl
      refine pure_ (i := 4) (N := some 15) (v := ?_) (a' := ?_) #[true, true, true, true, true, false, false, false, false, false, false, false, false, false, false, false, false, false, false, false] rfl rfl (any_of HT_.out (by kernel_rfl)) (fun _ _ _ h => h) (Or.inl ⟨by rfl, ?_⟩) ?_ ?_
      rotate_left
      ·intro w'
       go_simp
       with_reducible rfl
      rotate_left
      ·simp only [Act.put, List.setIfInBounds_toArray, List.set_cons_zero, List.set_cons_succ, i64_w, i32_w]
       rfl
      refine pure_ (i := 6) (N := some 17) (v := ?_) (a' := ?_) #[true, true, true, true, true, false, true, false, false, false, false, false, false, false, false, false, false, false, false, false] rfl rfl (any_of HT_.out (by kernel_rfl)) (fun _ _ _ h => h) (Or.inl ⟨by rfl, ?_⟩) ?_ ?_
      rotate_left
      ·intro w'
       go_simp
       with_reducible rfl
      rotate_left
      ·simp only [Act.put, List.setIfInBounds_toArray, List.set_cons_zero, List.set_cons_succ, i64_w, i32_w]
       rfl
      refine pure_ (i := 7) (N := some 18) (v := ?_) (a' := ?_) #[true, true, true, true, true, false, true, true, false, false, false, false, false, false, false, false, false, false, false, false] rfl rfl (any_of HT_.out (by kernel_rfl)) (fun _ _ _ h => h) (Or.inl ⟨by rfl, ?_⟩) ?_ ?_
      rotate_left
      ·intro w'
       go_simp
       with_reducible rfl
      rotate_left
      ·simp only [Act.put, List.setIfInBounds_toArray, List.set_cons_zero, List.set_cons_succ, i64_w, i32_w]
       rfl
      refine pure_ (i := 8) (N := some 19) (v := ?_) (a' := ?_) #[true, true, true, true, true, false, true, true, true, false, false, false, false, false, false, false, false, false, false, false] rfl rfl (any_of HT_.out (by kernel_rfl)) (fun _ _ _ h => h) (Or.inl ⟨by rfl, ?_⟩) ?_ ?_
      rotate_left
      ·intro w'
       go_simp
       with_reducible rfl
      rotate_left
      ·simp only [Act.put, List.setIfInBounds_toArray, List.set_cons_zero, List.set_cons_succ, i64_w, i32_w]
       rfl
      refine pure_ (i := 9) (N := some 20) (v := ?_) (a' := ?_) #[true, true, true, true, true, false, true, true, true, true, false, false, false, false, false, false, false, false, false, false] rfl rfl (any_of HT_.out (by kernel_rfl)) (fun _ _ _ h => h) (Or.inl ⟨by rfl, ?_⟩) ?_ ?_
      rotate_left
      ·intro w'
       go_simp
       with_reducible rfl
      rotate_left
      ·simp only [Act.put, List.setIfInBounds_toArray, List.set_cons_zero, List.set_cons_succ, i64_w, i32_w]
       rfl
      refine pure_ (i := 11) (N := some 22) (v := ?_) (a' := ?_) #[true, true, true, true, true, false, true, true, true, true, false, true, false, false, false, false, false, false, false, false] rfl rfl (any_of HT_.out (by kernel_rfl)) (fun _ _ _ h => h) (Or.inl ⟨by rfl, ?_⟩) ?_ ?_
      rotate_left
      ·intro w'
       go_simp
       with_reducible rfl
      rotate_left
      ·simp only [Act.put, List.setIfInBounds_toArray, List.set_cons_zero, List.set_cons_succ, i64_w, i32_w]
       rfl
      refine pure_ (i := 12) (N := some 23) (v := ?_) (a' := ?_) #[true, true, true, true, true, false, true, true, true, true, false, true, true, false, false, false, false, false, false, false] rfl rfl (any_of HT_.out (by kernel_rfl)) (fun _ _ _ h => h) (Or.inl ⟨by rfl, ?_⟩) ?_ ?_
      rotate_left
      ·intro w'
       go_simp
       with_reducible rfl
      rotate_left
      ·simp only [Act.put, List.setIfInBounds_toArray, List.set_cons_zero, List.set_cons_succ, i64_w, i32_w]
       rfl
      refine pure_ (i := 13) (N := some 24) (v := ?_) (a' := ?_) #[true, true, true, true, true, false, true, true, true, true, false, true, true, true, false, false, false, false, false, false] rfl rfl (any_of HT_.out (by kernel_rfl)) (fun _ _ _ h => h) (Or.inl ⟨by rfl, ?_⟩) ?_ ?_
      rotate_left
      ·intro w'
       go_simp
       with_reducible rfl
      rotate_left
      ·simp only [Act.put, List.setIfInBounds_toArray, List.set_cons_zero, List.set_cons_succ, i64_w, i32_w]
       rfl
      refine pure_ (i := 14) (N := some 25) (v := ?_) (a' := ?_) #[true, true, true, true, true, false, true, true, true, true, false, true, true, true, true, false, false, false, false, false] rfl rfl (any_of HT_.out (by kernel_rfl)) (fun _ _ _ h => h) (Or.inl ⟨by rfl, ?_⟩) ?_ ?_
      rotate_left
      ·intro w'
       go_simp
       with_reducible rfl
      rotate_left
      ·simp only [Act.put, List.setIfInBounds_toArray, List.set_cons_zero, List.set_cons_succ, i64_w, i32_w]
       rfl
      refine take_ (i := 5) (N := some 16) (v := ?_) (a' := ?_) #[true, true, true, true, true, true, true, true, true, true, false, true, true, true, true, false, false, false, false, false] rfl rfl (take_ofW HT_.out HW_.out (by kernel_rfl)) (fun _ _ _ h => h) (Or.inl ⟨by rfl, ?_⟩) hHeld ?_ ?_
      rotate_left
      ·rintro w' ⟨s0, s1, s2, s3, s4, s5, s6, s7, s8⟩
       go_simp
       with_reducible rfl
      rotate_left
      ·simp only [Act.put, List.setIfInBounds_toArray, List.set_cons_zero, List.set_cons_succ, i64_w, i32_w]
       rfl
      refine take_ (i := 10) (N := some 21) (v := ?_) (a' := ?_) #[true, true, true, true, true, true, true, true, true, true, true, true, true, true, true, false, false, false, false, false] rfl rfl (take_ofW HT_.out HW_.out (by kernel_rfl)) (fun _ _ _ h => h) (Or.inl ⟨by rfl, ?_⟩) hHeld ?_ ?_
      rotate_left
      ·rintro w' ⟨s0, s1, s2, s3, s4, s5, s6, s7, s8⟩
       go_simp
       with_reducible rfl
      rotate_left
      ·simp only [Act.put, List.setIfInBounds_toArray, List.set_cons_zero, List.set_cons_succ, i64_w, i32_w]
       rfl
      refine take_ (i := 15) (N := some 26) (v := ?_) (a' := ?_) #[true, true, true, true, true, true, true, true, true, true, true, true, true, true, true, true, false, false, false, false] rfl rfl (take_ofW HT_.out HW_.out (by kernel_rfl)) (fun _ _ _ h => h) (Or.inl ⟨by rfl, ?_⟩) hHeld ?_ ?_
      rotate_left
      ·rintro w' ⟨s0, s1, s2, s3, s4, s5, s6, s7, s8⟩
       go_simp
       with_reducible rfl
      rotate_left
      ·simp only [Act.put, List.setIfInBounds_toArray, List.set_cons_zero, List.set_cons_succ, i64_w, i32_w]
       rfl
      refine pure_ (i := 16) (N := some 27) (v := ?_) (a' := ?_) #[true, true, true, true, true, true, true, true, true, true, true, true, true, true, true, true, true, false, false, false] rfl rfl (any_of HT_.out (by kernel_rfl)) (fun _ _ _ h => h) (Or.inl ⟨by rfl, ?_⟩) ?_ ?_
      rotate_left
      ·intro w'
       go_simp
       with_reducible rfl
      rotate_left
      ·simp only [Act.put, List.setIfInBounds_toArray, List.set_cons_zero, List.set_cons_succ, i64_w, i32_w]
       rfl
      refine one_ (i := 17) (N := some 28) #[true, true, true, true, true, true, true, true, true, true, true, true, true, true, true, true, true, true, false, false] rfl rfl (one_of HT_.out (by kernel_rfl)) (by decide) (fun K hK => ?_)
      refine value_ (w1 := ?_) (v := ?_) (by rfl) rfl ?_ ?_
      rotate_left 2
      ·go_simp
       constructor
       ·rfl
       ·rfl
      refine hK.out _ _ ⟨(World.cell?_alloc_lt _ _ _ (World.block_lt_of_cell? _ _ (((HB.out.cell (World.block_lt_of_cell? w _ hw130_0)).trans hw130_0)))).trans (((HB.out.cell (World.block_lt_of_cell? w _ hw130_0)).trans hw130_0)), (World.cell?_alloc_lt _ _ _ (World.block_lt_of_cell? _ _ (((HB.out.cell (World.block_lt_of_cell? w _ hw130_1)).trans hw130_1)))).trans (((HB.out.cell (World.block_lt_of_cell? w _ hw130_1)).trans hw130_1)), (World.cell?_alloc_lt _ _ _ (World.block_lt_of_cell? _ _ (((HB.out.cell (World.block_lt_of_cell? w _ hw130_2)).trans hw130_2)))).trans (((HB.out.cell (World.block_lt_of_cell? w _ hw130_2)).trans hw130_2)), (World.cell?_alloc_lt _ _ _ (World.block_lt_of_cell? _ _ (((HB.out.cell (World.block_lt_of_cell? w _ hw131_0)).trans hw131_0)))).trans (((HB.out.cell (World.block_lt_of_cell? w _ hw131_0)).trans hw131_0)), (World.cell?_alloc_lt _ _ _ (World.block_lt_of_cell? _ _ (((HB.out.cell (World.block_lt_of_cell? w _ hw131_1)).trans hw131_1)))).trans (((HB.out.cell (World.block_lt_of_cell? w _ hw131_1)).trans hw131_1)), (World.cell?_alloc_lt _ _ _ (World.block_lt_of_cell? _ _ (((HB.out.cell (World.block_lt_of_cell? w _ hw131_2)).trans hw131_2)))).trans (((HB.out.cell (World.block_lt_of_cell? w _ hw131_2)).trans hw131_2)), (World.cell?_alloc_lt _ _ _ (World.block_lt_of_cell? _ _ (((HB.out.cell (World.block_lt_of_cell? w _ hw132_0)).trans hw132_0)))).trans (((HB.out.cell (World.block_lt_of_cell? w _ hw132_0)).trans hw132_0)), (World.cell?_alloc_lt _ _ _ (World.block_lt_of_cell? _ _ (((HB.out.cell (World.block_lt_of_cell? w _ hw132_1)).trans hw132_1)))).trans (((HB.out.cell (World.block_lt_of_cell? w _ hw132_1)).trans hw132_1)), (World.cell?_alloc_lt _ _ _ (World.block_lt_of_cell? _ _ (((HB.out.cell (World.block_lt_of_cell? w _ hw132_2)).trans hw132_2)))).trans (((HB.out.cell (World.block_lt_of_cell? w _ hw132_2)).trans hw132_2))⟩ (fun hHeld => ?_)
      clear hK K
      refine norm_ (a' := ?_) ?_ ?_
      rotate_left
      ·show Act.put _ (some 28) _ = _
       simp only [Act.put, List.setIfInBounds_toArray, List.set_cons_zero, List.set_cons_succ, i64_w, i32_w]
       rfl
      refine one_ (i := 18) (N := some 29) #[true, true, true, true, true, true, true, true, true, true, true, true, true, true, true, true, true, true, true, false] rfl rfl (one_of HT_.out (by kernel_rfl)) (by decide) (fun K hK => ?_)
      refine Kd.R_append_step k62 (w0 := w) w.heap.size (by rfl) (.tmp 11) (.tmp 28) 55 62 (.agg #[(.string ⟨#[]⟩), (.string ⟨#[]⟩), (.int .i64 0)]) 40 rfl Tryz.underlying55 info62 rfl (by decide) (by omega) u3 x3_1 (⟨(rd_T29 l0 x4_1).f0, (rd_T29 l0 x4_1).f1, (rd_T29 l0 x4_1).f2⟩ : S62) [.string ((rd_T29 l0 x4_1).f0), .string ((rd_T29 l0 x4_1).f1), .int .i64 ((rd_T29 l0 x4_1).f2)] (fun _ => True) (fun _ => False) rfl rfl ?aP (fun _ hk => hk.elim) ?aF ?aO ?aB ?aS ?aL ?_
      (case aP => exact k62_mkM _ _ _ (⟨(rd_T29 l0 x4_1).f0, (rd_T29 l0 x4_1).f1, (rd_T29 l0 x4_1).f2⟩ : S62))
      (case aB => exact (by repeat (first | (with_reducible first | exact HB.out | apply below_alloc | apply pw_below_drewN | apply below_drew1) | exact HB.out)))
      (case aF => exact (fun _ _ => trivial))
      (case aO => exact (by (with_reducible repeat (first | apply Kd.R_alloc | apply Kd.R_drewN | apply Kd.R_drew)); exact HO_3.out))
      (case aS => exact (below_size (by repeat (first | (with_reducible first | exact HB.out | apply below_alloc | apply pw_below_drewN | apply below_drew1) | exact HB.out))))
      (case aL => have := LMc4.out; omega)
      intro v134 w6 ho hb hg hat
      rw [← Ny133.out] at ho
      have n0_ := Aside0.mk (hb)
      have n1_ := Aside0.mk (ho)
      clear HB
      clear HO_3
      have HB := n0_
      have HO135 := n1_
      clear n0_ n1_
      clear ho hb hg hat
      refine hK.out _ _ ⟨((HB.out.cell (World.block_lt_of_cell? w _ hw130_0)).trans hw130_0), ((HB.out.cell (World.block_lt_of_cell? w _ hw130_1)).trans hw130_1), ((HB.out.cell (World.block_lt_of_cell? w _ hw130_2)).trans hw130_2), ((HB.out.cell (World.block_lt_of_cell? w _ hw131_0)).trans hw131_0), ((HB.out.cell (World.block_lt_of_cell? w _ hw131_1)).trans hw131_1), ((HB.out.cell (World.block_lt_of_cell? w _ hw131_2)).trans hw131_2), ((HB.out.cell (World.block_lt_of_cell? w _ hw132_0)).trans hw132_0), ((HB.out.cell (World.block_lt_of_cell? w _ hw132_1)).trans hw132_1), ((HB.out.cell (World.block_lt_of_cell? w _ hw132_2)).trans hw132_2)⟩ (fun hHeld => ?_)
      clear hK K
      refine norm_ (a' := ?_) ?_ ?_
      rotate_left
      ·show Act.put _ (some 29) _ = _
       simp only [Act.put, List.setIfInBounds_toArray, List.set_cons_zero, List.set_cons_succ, i64_w, i32_w]
       rfl
      refine pure_ (i := 19) (N := some 3) (v := ?_) (a' := ?_) #[true, true, true, true, true, true, true, true, true, true, true, true, true, true, true, true, true, true, true, true] rfl rfl (any_of HT_.out (by kernel_rfl)) (fun _ _ _ h => h) (Or.inl ⟨by rfl, ?_⟩) ?_ ?_
      rotate_left
      ·intro w'
       go_simp
       with_reducible rfl
      rotate_left
      ·simp only [Act.put, List.setIfInBounds_toArray, List.set_cons_zero, List.set_cons_succ, i64_w, i32_w]
       rfl
      refine done_ (done_of HT_.out (by kernel_rfl)) ?_
      try go_wp2
      go_roundg k1
      case measure => have := HK1.out; omega
      case rel => exact ⟨(y133), (wrap64 (x4_1 + 1)), (by first | rfl | (simp; done) | (simp [*]; done)), H', ⟨by have := HK1.out; omega⟩, ⟨by (with_reducible repeat (first | apply Kd.R_alloc | apply Kd.R_drewN | apply Kd.R_drew)); exact HO135.out⟩, ⟨by repeat (first | (with_reducible first | exact HB.out | apply below_alloc | apply pw_below_drewN | apply below_drew1) | exact HB.out)⟩⟩
     ·rw [if_neg c4] at H
      exact absurd H (by simp)
    ·rw [if_neg c3] at H
     exact absurd H (by simp)
   ·rw [if_neg c2] at H
    have c2b0 : decide (x4_1 < (l0.length : Int)) = false := decide_eq_false c2
    clear c2
    obtain rfl := Option.some.inj H
    go_wp2
    go_ret
    exact ⟨_, by first | rfl | (simp [errW_none, errW_some] <;> rfl) | (simp [*, errW_none, errW_some] <;> rfl), by (with_reducible repeat (first | apply Kd.R_alloc | apply Kd.R_drewN | apply Kd.R_drew)); exact HO_3.out, by repeat (first | (with_reducible first | exact HB.out | apply below_alloc | apply pw_below_drewN | apply below_drew1) | exact HB.out)⟩
end Go.Proofs.YtehlmkgldcfciaaGreat.F
