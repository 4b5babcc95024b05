/- The parts of this proof that lie in one text. -/
import Derived.Test.YtehlmkgldcfciaaDoorFN1
import Derived.Test.YtehlmkgldcfciaaDoorFN3
import Derived.Test.YtehlmkgldcfciaaDoorFx0
import Derived.Test.YtehlmkgldcfciaaDoorFN2
import Derived.Test.YtehlmkgldcfciaaDoorFx9
import Derived.Test.YtehlmkgldcfciaaDoorFx10
import Derived.Test.YtehlmkgldcfciaaDoorFx11
import Derived.Test.YtehlmkgldcfciaaDoorFN4
/- files.Valid and heptadref28.Valid answer alike: plain law. -/
set_option linter.unusedVariables false
set_option linter.unusedSimpArgs false
namespace Go.Proofs.YtehlmkgldcfciaaDoor.Files
open Go.Proofs.YtehlmkgldcfciaaDoor.Common Go.Maps Go.ChangeMaps Go.WideMaps Go.Proofs.YtehlmkgldcfciaaDoor.F
open Go.RowKit Go.Proofs.YtehlmkgldcfciaaDoorW.PrintWords Go.Proofs.YtehlmkgldcfciaaDoorW.PrintLast Go.Proofs.YtehlmkgldcfciaaDoorW.PrintMore
def toR (x : S46) : S58 := ⟨x.f0, x.f1, x.f2⟩
theorem rd_toR (l : List S46) (i : Nat) : rd_T58 (l.map toR) (i : Int) = toR (rd_T46 l (i : Int)) := by
  simp only [rd_T58, rd_T46, Int.toNat_natCast, List.getD_eq_getElem?_getD, List.getElem?_map]
  cases l[i]? <;> rfl
theorem lvR_toR (l : List S46) (i : Nat) : lvR (l.map toR) i = lv l i := by unfold lvR lv; rw [rd_toR]; rfl
theorem nmR_toR (l : List S46) (i : Nat) : nmR (l.map toR) i = nmP l i := by unfold nmR nmP; rw [rd_toR]; rfl
theorem dupR_iff (l : List S58) (i : Nat) : ∀ m : Nat, dupR l i m ↔ ∃ j, 0 < j ∧ j ≤ m ∧ (∀ t, j ≤ t → t ≤ m → lvR l t ≥ lvR l i) ∧ lvR l j = lvR l i ∧ nmR l i ≠ ⟨#[]⟩ ∧ nmR l j = nmR l i
  | 0 => by
    constructor
    · intro h; exact h.elim
    · rintro ⟨j, h1, h2, _⟩; omega
  | m + 1 => by
    have ih := dupR_iff l i m
    show lvR l (m + 1) ≥ lvR l i ∧ ((lvR l (m + 1) = lvR l i ∧ nmR l i ≠ ⟨#[]⟩ ∧ nmR l (m + 1) = nmR l i) ∨ dupR l i m) ↔ _
    rw [ih]
    constructor
    · rintro ⟨h1, h2 | ⟨j, h3, h4, h5, h6⟩⟩
      · exact ⟨m + 1, by omega, Nat.le_refl _, fun t h3 h4 => by rw [show t = m + 1 by omega]; exact h1, h2⟩
      · refine ⟨j, h3, by omega, fun t h7 h8 => ?_, h6⟩
        rcases Nat.lt_or_ge m t with h9 | h9
        · obtain rfl : t = m + 1 := by omega
          exact h1
        · exact h5 t h7 h9
    · rintro ⟨j, h1, h2, h3, h4⟩
      refine ⟨h3 (m + 1) h2 (Nat.le_refl _), ?_⟩
      rcases Nat.lt_or_ge m j with h9 | h9
      · obtain rfl : j = m + 1 := by omega
        exact .inl h4
      · exact .inr ⟨j, h1, h9, fun t h7 h8 => h3 t h7 (by omega), h4⟩
theorem chkR_toR (l : List S46) (kind : Int) (i : Nat) : chkR (l.map toR) kind i ↔ ((rd_T46 l (i : Int)).f0.size ≤ 30 ∧ (rd_T46 l (i : Int)).f1.size ≤ 400 ∧ (i = 0 → lv l i = 0) ∧ (i ≠ 0 → 1 ≤ lv l i ∧ lv l i ≤ lv l (i - 1) + 1) ∧ (kind = 1 → lv l i ≤ 1)) := by
  unfold chkR
  rw [lvR_toR, lvR_toR, rd_toR]
  exact Iff.rfl
theorem valid_iff (l : List S46) (kind : Int) : RefValid (l.map toR) kind ↔ validB l kind = true := by
  unfold RefValid validB headOk
  rw [List.length_map]
  simp only [Bool.and_eq_true, decide_eq_true_eq, okAll_iff]
  constructor
  · rintro ⟨h1, h2, h3, h4, h5, h6⟩
    have hchk : ∀ i, i < l.length → chk l kind i = true := fun i hi => by
      have hc := (chkR_toR l kind i).1 (h6 i hi).1
      rw [chk_iff]
      show _ ∧ _ ∧ ((i = 0 → lv l i = 0) ∧ (i ≠ 0 → lv l i ≠ 0)) ∧ 0 ≤ lv l i ∧ (i = 0 ∨ lv l i ≤ lv l (i - 1) + 1) ∧ (2 ≤ kind ∨ lv l i ≤ kind)
      obtain ⟨c1, c2, c3, c4, c5⟩ := hc
      by_cases e : i = 0
      · have := c3 e
        exact ⟨c1, c2, ⟨fun _ => this, fun h => absurd e h⟩, by omega, .inl e, by omega⟩
      · have := c4 e
        refine ⟨c1, c2, ⟨fun h => absurd h e, fun _ => by omega⟩, by omega, .inr this.2, ?_⟩
        by_cases k0 : kind = 0
        · have := h5 k0; omega
        · by_cases k1 : kind = 1
          · exact .inr (by have := c5 k1; omega)
          · exact .inl (by omega)
    refine ⟨⟨⟨⟨⟨h1, h2⟩, h3⟩, h4⟩, hchk⟩, fun p hp => (kidsOk_iff l p).2 (fun m m' hm hm' hlt hne he => ?_)⟩
    refine (h6 m hm.2.1).2 ((dupR_iff _ m (m - 1)).2 ⟨m', by have := hm'.1; omega, by omega, fun t ht htm => ?_, ?_, ?_, ?_⟩)
    · rw [lvR_toR, lvR_toR]
      have := hm.2.2.2 t (by have := hm'.1; omega) (by omega)
      have := hm.2.2.1
      omega
    · rw [lvR_toR, lvR_toR, hm'.2.2.1, hm.2.2.1]
    · rw [nmR_toR]; exact hne
    · rw [nmR_toR, nmR_toR]; exact he
  · rintro ⟨⟨⟨⟨⟨h1, h2⟩, h3⟩, h4⟩, h5⟩, h6⟩
    have hc := fun i hi => (chk_iff l kind i).1 (h5 i hi)
    have hs : Steps l := ⟨((hc 0 (by omega)).2.2.1.1 rfl), fun i hi hne => by
      obtain ⟨_, _, ⟨_, a3⟩, a4, a5, _⟩ := hc i hi
      have b3 : lv l i ≠ 0 := a3 hne
      have b4 : 0 ≤ lv l i := a4
      have b5 : i = 0 ∨ lv l i ≤ lv l (i - 1) + 1 := a5
      omega⟩
    refine ⟨h1, h2, h3, h4, fun k0 => ?_, fun i hi => ⟨(chkR_toR l kind i).2 ?_, fun hd => ?_⟩⟩
    · rcases Nat.lt_or_ge 1 l.length with h7 | h7
      · obtain ⟨_, _, ⟨_, a3⟩, a4, _, a6⟩ := hc 1 h7
        have b3 : lv l 1 ≠ 0 := a3 (by omega)
        have b4 : 0 ≤ lv l 1 := a4
        have b6 : 2 ≤ kind ∨ lv l 1 ≤ kind := a6
        omega
      · omega
    · obtain ⟨a1, a2, a3, a4, a5, a6⟩ := hc i hi
      exact ⟨a1, a2, a3.1, hs.2 i hi, fun k1 => by have b6 : 2 ≤ kind ∨ lv l i ≤ kind := a6; omega⟩
    · obtain ⟨j, d1, d2, d3, d4, d5, d6⟩ := (dupR_iff _ i (i - 1)).1 hd
      rw [lvR_toR, lvR_toR] at d4
      rw [nmR_toR] at d5
      rw [nmR_toR, nmR_toR] at d6
      have hall : ∀ t, j ≤ t → t ≤ i → lv l t ≥ lv l i := fun t ht hti => by
        rcases Nat.lt_or_ge t i with h7 | h7
        · have := d3 t ht (by omega)
          rwa [lvR_toR, lvR_toR] at this
        · obtain rfl : t = i := by omega
          exact Int.le_refl _
      obtain ⟨p, p1, p2, p3⟩ := parent_of hs i hi j d1 (by omega) hall
      exact (kidsOk_iff l p).1 (h6 p (by omega)) i j ⟨by omega, hi, p2, p3⟩ ⟨p1, by omega, by omega, fun t h7 h8 => p3 t h7 (by omega)⟩ (by omega) d5 d6
theorem refValid_eq (A : Option Addr) (c : Nat) (l : List S46) (kind : Int) (W : World) (hr : Kd.C k58 W A (l.map toR).length (l.map toR)) (hc : (l.map toR).length ≤ c) :
    Calls Tryd.prog 9 #[.slice A (l.map toR).length c, .int .i64 kind] W fun e w' => e = .returned (.bool (validB l kind)) ∧ Below W.heap.size W w' :=
  refValid_c A c (l.map toR) kind W _ hr hc (valid_iff l kind)
end Go.Proofs.YtehlmkgldcfciaaDoor.Files
/- Plain law of FilesCarries: To, parts of a text, what Join makes of them. -/
set_option linter.unusedVariables false
set_option linter.unusedSimpArgs false
namespace Go.Proofs.YtehlmkgldcfciaaDoor.Files
open Go.Proofs.YtehlmkgldcfciaaDoor.Common Go.Maps Go.ChangeMaps Go.WideMaps Go.Lib Go.Proofs.YtehlmkgldcfciaaDoor.F
open Go.RowKit Go.Proofs.YtehlmkgldcfciaaDoorW.PrintWords Go.Proofs.YtehlmkgldcfciaaDoorW.PrintLast Go.Proofs.YtehlmkgldcfciaaDoorW.PrintMore
theorem To_l0 (l : List S46) (hl : l.length < 3518437208883) : ∀ (d j k : Nat) (acc : List S58), l.length - j = d → j ≤ l.length → d < k → acc.length = j → heptadlaw28_To.l0 k l acc (j : Int) = some (acc ++ (l.drop j).map toR)
  | 0, j, k, acc, hd, hj, hk, ha => by
    obtain ⟨k, rfl⟩ : ∃ m, k = m + 1 := ⟨k - 1, by omega⟩
    simp only [heptadlaw28_To.l0]
    rw [if_neg (by omega), show j = l.length by omega, List.drop_length]
    simp
  | d + 1, j, k, acc, hd, hj, hk, ha => by
    obtain ⟨k, rfl⟩ : ∃ m, k = m + 1 := ⟨k - 1, by omega⟩
    simp only [heptadlaw28_To.l0]
    rw [if_pos (by omega), if_pos (by omega), if_pos (by omega), wr j l.length (by omega) (by omega), To_l0 l hl d (j + 1) k _ (by omega) (by omega) (by omega) (by simp [ha]), drop_at l j (by omega), List.append_assoc]
    all_goals rfl
theorem To_c (A : Option Addr) (c : Nat) (l : List S46) (W : World) (hr : Kd.C k46 W A l.length l) (hc : l.length ≤ c) (hl : l.length < 3518437208883) :
    Calls Tryd.prog 10 #[.slice A l.length c] W fun e w' => ∃ v : Value, e = .returned v ∧ Kd.R k58 58 w' W.heap.size (fun _ => True) v (l.map toR) ∧ Below W.heap.size W w' :=
  heptadlaw28_To.calls (l.length + 1) A c l _ W hr hc (by
    unfold heptadlaw28_To.f
    have := To_l0 l hl l.length 0 (l.length + 1) [] (by omega) (by omega) (by omega) rfl
    rw [List.drop_zero, List.nil_append] at this
    exact this)
theorem Same_l0 (l : List S58) (hl : l.length < 3518437208883) : ∀ (d j k : Nat), l.length - j = d → j ≤ l.length → d < k → heptadref28_Same.l0 k l l (j : Int) = some true
  | 0, j, k, hd, hj, hk => by
    obtain ⟨k, rfl⟩ : ∃ m, k = m + 1 := ⟨k - 1, by omega⟩
    simp only [heptadref28_Same.l0]
    rw [if_neg (by omega)]
  | d + 1, j, k, hd, hj, hk => by
    obtain ⟨k, rfl⟩ : ∃ m, k = m + 1 := ⟨k - 1, by omega⟩
    simp only [heptadref28_Same.l0]
    rw [if_pos (by omega), if_pos (by omega)]
    have h := Same_l0 l hl d (j + 1) k (by omega) (by omega) (by omega)
    have hw : wrap64 ((j : Int) + 1) = ((j + 1 : Nat) : Int) := by unfold wrap64; omega
    have h' : heptadref28_Same.l0 k l l (wrap64 ((j : Int) + 1)) = some true := by rw [hw]; exact h
    simp [h']
    omega
theorem Same_eq (l : List S58) (hl : l.length < 3518437208883) : heptadref28_Same.f (l.length + 1) l l = some true := by
  unfold heptadref28_Same.f
  rw [if_pos rfl]
  exact Same_l0 l hl l.length 0 _ (by omega) (by omega) (by omega)
theorem Strings_l0 (l : List ByteArray) (hl : l.length < 3518437208883) : ∀ (d j k : Nat), l.length - j = d → j ≤ l.length → d < k → heptadref01_Strings.l0 k l l (j : Int) = some true
  | 0, j, k, hd, hj, hk => by
    obtain ⟨k, rfl⟩ : ∃ m, k = m + 1 := ⟨k - 1, by omega⟩
    simp only [heptadref01_Strings.l0]
    rw [if_neg (by omega)]
  | d + 1, j, k, hd, hj, hk => by
    obtain ⟨k, rfl⟩ : ∃ m, k = m + 1 := ⟨k - 1, by omega⟩
    simp only [heptadref01_Strings.l0]
    rw [if_pos (by omega), if_pos (by omega), if_pos (by omega)]
    have h := Strings_l0 l hl d (j + 1) k (by omega) (by omega) (by omega)
    have hw : wrap64 ((j : Int) + 1) = ((j + 1 : Nat) : Int) := by unfold wrap64; omega
    have h' : heptadref01_Strings.l0 k l l (wrap64 ((j : Int) + 1)) = some true := by rw [hw]; exact h
    simp [h']
theorem Strings_eq (l : List ByteArray) (hl : l.length < 3518437208883) : heptadref01_Strings.f (l.length + 1) l l = some true := by
  unfold heptadref01_Strings.f
  rw [if_pos rfl]
  exact Strings_l0 l hl l.length 0 _ (by omega) (by omega) (by omega)
theorem Mod_eq (a : Int) (n : Nat) (hn : 1 ≤ n) (hl : n ≤ 100000) : ∃ j : Nat, heptadref01_Mod.f a (n : Int) = some (j : Int) ∧ j < n := by
  unfold heptadref01_Mod.f
  rw [if_neg (by omega), if_neg (by omega)]
  have h1 : Int.tmod a (n : Int) < (n : Int) := Int.tmod_lt_of_pos a (by omega)
  have h2 : -(n : Int) < Int.tmod a (n : Int) := by
    have h3 := Int.tmod_lt_of_pos (-a) (show (0 : Int) < (n : Int) by omega)
    rw [Int.neg_tmod] at h3
    omega
  by_cases h0 : Int.tmod a (n : Int) < 0
  · rw [if_pos h0]
    have hw : wrap64 (Int.tmod a (n : Int) + n) = Int.tmod a (n : Int) + n := by unfold wrap64; omega
    rw [hw]
    exact ⟨(Int.tmod a (n : Int) + n).toNat, by congr 1; omega, by omega⟩
  · rw [if_neg h0]
    exact ⟨(Int.tmod a (n : Int)).toNat, by congr 1; omega, by omega⟩
/-! Parts of a text. -/
def flatB (x : List ByteArray) : List UInt8 := (x.map (·.data.toList)).flatten
theorem textOf_flat (x : List ByteArray) : (textOf x).data.toList = flatB x := by
  rw [textOf_data]
  unfold flatB
  cases x with
  | nil => rfl
  | cons a r =>
    rw [List.map_cons, Lib.join_cons, List.flatten_cons]
    unfold Lib.joinTail
    congr 1
    simp
    rfl
theorem partsGo_flat (n : Nat) (hn : 1 ≤ n) : ∀ (k : Nat) (s : ByteArray), s.size < k → flatB (partsGo n k s) = s.data.toList
  | 0, s, h => absurd h (Nat.not_lt_zero _)
  | k + 1, s, h => by
    unfold partsGo
    by_cases hs : s = ⟨#[]⟩
    · rw [if_pos hs, hs]
      rfl
    · rw [if_neg hs]
      have hz : 1 ≤ s.size := by
        rcases Nat.eq_zero_or_pos s.size with h0 | h0
        · exact absurd (ByteArray.size_eq_zero_iff.1 h0) hs
        · exact h0
      have ih := partsGo_flat n hn k (s.extract (min n s.size) s.size) (by rw [cut_size _ _ (by omega)]; omega)
      unfold flatB at ih ⊢
      rw [List.map_cons, List.flatten_cons, ih, ex_data, ex_data]
      have hl := Lib.size_eq s
      rw [List.drop_zero, Nat.sub_zero, List.take_of_length_le (l := List.drop _ _) (by rw [List.length_drop]; omega)]
      exact List.take_append_drop _ _
theorem partsGo_len (n : Nat) (hn : 1 ≤ n) : ∀ (k : Nat) (s : ByteArray), s.size < k → (partsGo n k s).length ≤ s.size
  | 0, s, h => absurd h (Nat.not_lt_zero _)
  | k + 1, s, h => by
    unfold partsGo
    by_cases hs : s = ⟨#[]⟩
    · rw [if_pos hs]
      simp
    · rw [if_neg hs]
      have hz : 1 ≤ s.size := by
        rcases Nat.eq_zero_or_pos s.size with h0 | h0
        · exact absurd (ByteArray.size_eq_zero_iff.1 h0) hs
        · exact h0
      have ih := partsGo_len n hn k (s.extract (min n s.size) s.size) (by rw [cut_size _ _ (by omega)]; omega)
      rw [cut_size _ _ (by omega)] at ih
      rw [List.length_cons]
      omega
theorem partsGo_each (n : Nat) (hn : 1 ≤ n) : ∀ (k : Nat) (s : ByteArray) (i : Nat) (hi : i < (partsGo n k s).length), (partsGo n k s)[i].size ≤ n ∧ (i + 1 < (partsGo n k s).length → (partsGo n k s)[i].size = n)
  | 0, s, i, hi => by simp [partsGo] at hi
  | k + 1, s, i, hi => by
    by_cases hs : s = ⟨#[]⟩
    · simp [partsGo, hs] at hi
    · have e : partsGo n (k + 1) s = s.extract 0 (min n s.size) :: partsGo n k (s.extract (min n s.size) s.size) := by rw [partsGo, if_neg hs]
      have hx : (s.extract 0 (min n s.size)).size = min n s.size := by rw [ByteArray.size_extract]; omega
      cases i with
      | zero =>
        simp only [e, List.getElem_cons_zero, List.length_cons, hx]
        refine ⟨by omega, fun h => ?_⟩
        have h0 : s.extract (min n s.size) s.size ≠ ⟨#[]⟩ := fun h0 => by
          rw [h0] at h
          cases k with
          | zero => simp [partsGo] at h
          | succ k => simp [partsGo] at h
        have h1 : (s.extract (min n s.size) s.size).size ≠ 0 := fun h1 => h0 (ByteArray.size_eq_zero_iff.1 h1)
        rw [cut_size _ _ (by omega)] at h1
        omega
      | succ i =>
        have hi' : i < (partsGo n k (s.extract (min n s.size) s.size)).length := by rw [e, List.length_cons] at hi; omega
        have ih := partsGo_each n hn k (s.extract (min n s.size) s.size) i hi'
        simp only [e, List.getElem_cons_succ, List.length_cons]
        exact ⟨ih.1, fun h => ih.2 (by omega)⟩
theorem flat_take (x : List ByteArray) (j : Nat) : flatB (x.take j) <+: flatB x := by
  unfold flatB
  rw [List.map_take]
  refine ⟨((x.map (·.data.toList)).drop j).flatten, ?_⟩
  rw [← List.flatten_append, List.take_append_drop]
/-- What FilesCarries needs to know of the parts. -/
structure PartsOk (l : List S46) (n : Nat) (P : List ByteArray) : Prop where
  pos : 1 ≤ P.length
  len : P.length ≤ 45000
  each : ∀ i (hi : i < P.length), P[i].size ≤ n ∧ (i + 1 < P.length → P[i].size = n)
  whole : joinGo ((textOf P).size + 1) [] (textOf P) = some l
  part : ∀ j, j ≤ P.length → ∃ i, i ≤ l.length ∧ joinGo ((textOf (P.take j)).size + 1) [] (textOf (P.take j)) = some (l.take i)
  small : ∀ j, (textOf (P.take j)).size ≤ 45000
theorem parts_ok {l : List S46} {n : Nat} (hv : validB l 2 = true) (hn : 1 ≤ n) : PartsOk l n (partsOf l n) := by
  have hV := VOk.of_valid hv
  have hts := text_short l (smallU_of hV)
  have hlen := hV.len
  have hTB : (textB l).data.toList = textL l := List.toList_toArray
  have hsz : (textB l).size = (textL l).length := (Lib.size_eq _).trans (congrArg List.length hTB)
  have hfl : flatB (partsOf l n) = textL l := by
    unfold partsOf
    rw [partsGo_flat n hn _ _ (Nat.lt_succ_self _), hTB]
  have hpre : ∀ j, (textOf ((partsOf l n).take j)).data.toList <+: textL l := fun j => by
    rw [textOf_flat, ← hfl]
    exact flat_take _ _
  have hsm : ∀ j, (textOf ((partsOf l n).take j)).size ≤ 45000 := fun j => by
    have := (hpre j).length_le
    rw [Lib.size_eq]
    omega
  have hj : ∀ j, ∃ i, i ≤ l.length ∧ joinGo ((textOf ((partsOf l n).take j)).size + 1) [] (textOf ((partsOf l n).take j)) = some (l.take i) ∧ ((textOf ((partsOf l n).take j)).data.toList = textL l → i = l.length) := fun j => by
    have := joinGo_part l [] ((textOf ((partsOf l n).take j)).size + 1) (textOf ((partsOf l n).take j)) (.inr hV) (hpre j) (Nat.lt_succ_self _)
    simpa using this
  refine ⟨?_, ?_, fun i hi => partsGo_each n hn _ _ i hi, ?_, fun j _ => ?_, hsm⟩
  · rcases Nat.eq_zero_or_pos (partsOf l n).length with h0 | h0
    · rw [List.length_eq_zero_iff.1 h0] at hfl
      cases l with
      | nil => simp at hlen
      | cons u r =>
        rw [textL_cons] at hfl
        have := congrArg List.length hfl
        simp [flatB] at this
    · exact h0
  · have := partsGo_len n hn ((textB l).size + 1) (textB l) (Nat.lt_succ_self _)
    show (partsGo n ((textB l).size + 1) (textB l)).length ≤ 45000
    omega
  · obtain ⟨i, _, h2, h3⟩ := hj (partsOf l n).length
    rw [List.take_length] at h2 h3
    rw [h2, h3 (by rw [textOf_flat, hfl]), List.take_length]
  · obtain ⟨i, h1, h2, _⟩ := hj j
    exact ⟨i, h1, h2⟩
end Go.Proofs.YtehlmkgldcfciaaDoor.Files
/- The law FilesCarries, walked. -/
set_option linter.unusedVariables false
set_option linter.unusedSimpArgs false
namespace Go.Proofs.YtehlmkgldcfciaaDoor.Files
open Go.Proofs.YtehlmkgldcfciaaDoor.Common Go.RowKit Go.Lib Go.Shelf Go.Proofs.YtehlmkgldcfciaaDoor.F Go.Proofs.YtehlmkgldcfciaaDoorW.PrintWords Go.Proofs.YtehlmkgldcfciaaDoorW.PrintLast Go.Proofs.YtehlmkgldcfciaaDoorW.PrintMore
/-- The case's box. -/
structure CaseAt (W w : World) (A : Option Addr) (n c : Nat) (size tk : Int) : Prop where
  low : Below W.heap.size W w
  lt : W.heap.size < w.heap.size
  c0 : w.cell? ⟨W.heap.size, 0, none⟩ = some (.slice A n c)
  c1 : w.cell? ⟨W.heap.size, 1, none⟩ = some (.int .i64 size)
  c2 : w.cell? ⟨W.heap.size, 2, none⟩ = some (.int .i64 tk)
theorem CaseAt.below {W w w' : World} {A : Option Addr} {n c : Nat} {size tk : Int} (h : CaseAt W w A n c size tk) (hb : Below w.heap.size w w') : CaseAt W w' A n c size tk :=
  ⟨h.low.trans (hb.mono h.low.size), Nat.lt_of_lt_of_le h.lt hb.size, (hb.cell (p := ⟨_, 0, none⟩) h.lt).trans h.c0, (hb.cell (p := ⟨_, 1, none⟩) h.lt).trans h.c1, (hb.cell (p := ⟨_, 2, none⟩) h.lt).trans h.c2⟩
/-- .. and the parts. -/
structure CarryIn (W w : World) (A : Option Addr) (c : Nat) (l : List S46) (size tk : Int) (A1 : Option Addr) (P : List ByteArray) : Prop where
  box : CaseAt W w A l.length c size tk
  parts : Kd.C Kd.string w A1 P.length P
theorem CarryIn.below {W w w' : World} {A : Option Addr} {c : Nat} {l : List S46} {size tk : Int} {A1 : Option Addr} {P : List ByteArray} (h : CarryIn W w A c l size tk A1 P) (hb : Below w.heap.size w w') : CarryIn W w' A c l size tk A1 P :=
  ⟨h.box.below hb, Kd.C_below h.parts hb⟩
/-- .. and units that Join answered. -/
structure JoinedIn (W w : World) (A : Option Addr) (c : Nat) (l : List S46) (size tk : Int) (A1 : Option Addr) (P : List ByteArray) (Au : Option Addr) (T : List S46) : Prop where
  carry : CarryIn W w A c l size tk A1 P
  u : Kd.C k46 w Au T.length T
theorem JoinedIn.below {W w w' : World} {A : Option Addr} {c : Nat} {l : List S46} {size tk : Int} {A1 : Option Addr} {P : List ByteArray} {Au : Option Addr} {T : List S46} (h : JoinedIn W w A c l size tk A1 P Au T) (hb : Below w.heap.size w w') : JoinedIn W w' A c l size tk A1 P Au T :=
  ⟨h.carry.below hb, Kd.C_below h.u hb⟩
theorem toR_c (A : Option Addr) (c : Nat) (l : List S46) (W : World) (hr : Kd.C k46 W A l.length l) (hc : l.length ≤ c) (hl : l.length < 3518437208883) :
    Calls Tryd.prog 10 #[.slice A l.length c] W fun e w' => ∃ A' c', e = .returned (.slice A' l.length c') ∧ l.length ≤ c' ∧ Kd.C k58 w' A' l.length (l.map toR) ∧ Below W.heap.size W w' := by
  refine (To_c A c l W hr hc hl).mono ?_
  rintro e w ⟨v, rfl, h1, h2⟩
  obtain ⟨A', c', hv, hc', hC⟩ := Kd.R_reads h1
  subst hv
  rw [List.length_map] at hc' hC
  exact ⟨A', c', by rw [List.length_map], hc', hC, h2⟩
theorem same_c (A0 : Option Addr) (c0 : Nat) (A1 : Option Addr) (c1 : Nat) (l : List S46) (w : World) (h0 : Kd.C k58 w A0 l.length (l.map toR)) (hc0 : l.length ≤ c0) (h1 : Kd.C k58 w A1 l.length (l.map toR)) (hc1 : l.length ≤ c1) (hl : l.length < 3518437208883) :
    Calls Tryd.prog 11 #[.slice A0 l.length c0, .slice A1 l.length c1] w fun e w' => e = .returned (.bool true) ∧ Below w.heap.size w w' := by
  have hm : (l.map toR).length = l.length := List.length_map _
  have := heptadref28_Same.calls ((l.map toR).length + 1) A0 c0 (l.map toR) A1 c1 (l.map toR) true w (by rw [hm]; exact h0) (by rw [hm]; exact hc0) (by rw [hm]; exact h1) (by rw [hm]; exact hc1) (Same_eq _ (by rw [hm]; exact hl))
  rw [hm] at this
  exact this.mono fun e w' h => ⟨h.1, h.2.below⟩
theorem strs_c (A0 : Option Addr) (c0 : Nat) (A1 : Option Addr) (c1 m : Nat) (l : List ByteArray) (w : World) (hm : l.length = m) (h0 : Kd.C Kd.string w A0 m l) (hc0 : m ≤ c0) (h1 : Kd.C Kd.string w A1 m l) (hc1 : m ≤ c1) (hl : m < 3518437208883) :
    Calls Tryd.prog 14 #[.slice A0 m c0, .slice A1 m c1] w fun e w' => e = .returned (.bool true) ∧ Below w.heap.size w w' := by
  subst hm
  exact (heptadref01_Strings.calls (l.length + 1) A0 c0 l A1 c1 l true w h0 hc0 h1 hc1 (Strings_eq _ hl)).mono fun e w' h => ⟨h.1, h.2.below⟩
def Car.T7 : Bool × List (List Nat × List Nat) := (true, [([], []), ([0], [0]), ([1], [1]), ([2], [2]), ([2], [2]), ([4, 2], [2, 4]), ([3, 5, 2], [2, 3, 5]), ([2, 6], [2, 6]), ([7, 2], [7]), ([8], [8]), ([9, 8, 8], [8, 9]), ([8], [8]), ([11, 8], [8, 11]), ([12, 10, 8], [8, 12]), ([10, 13, 13, 8], [8, 10, 13]), ([14, 8], [8, 14]), ([8, 15], [8, 15])])
def Car.B7 : List Nat := [0, 1, 3, 7, 7, 23, 63, 127, 255, 511, 1023, 511, 2559, 8191, 16383, 32767, 65535]
theorem Car.tab7 : rtab .any (opsOf Tryd.f4 7) = Car.T7 := by kernel_rfl
theorem Car.bits7 : waitsOk Car.T7.2 Car.B7 = true := by kernel_rfl
def Car.T16 : Bool × List (List Nat × List Nat) := (true, [([], []), ([0], [0]), ([1], [1]), ([2], [2]), ([2], [2]), ([3, 4, 2], [2, 3, 4]), ([2, 5], [2, 5]), ([6, 2], [6]), ([7], [7]), ([8, 7], [7, 8]), ([7], [7]), ([10, 7], [7, 10]), ([11, 7], [7, 11]), ([9, 12, 7], [7, 9, 12]), ([7, 13], [7, 13]), ([14, 7], [14]), ([15], [15]), ([16, 15, 15], [15, 16]), ([15], [15]), ([18, 15], [15, 18]), ([15], [15]), ([20, 15], [15, 20]), ([19, 21, 15], [15, 19, 21]), ([22, 17, 15], [15, 22]), ([17, 23, 23, 15], [15, 17, 23]), ([24, 15], [15, 24]), ([15, 25], [15, 25])])
def Car.B16 : List Nat := [0, 1, 3, 7, 7, 31, 63, 127, 255, 511, 255, 1279, 3327, 8191, 16383, 32767, 65535, 131071, 65535, 327679, 65535, 1114111, 3997695, 8388607, 16777215, 33554431, 67108863]
theorem Car.tab16 : rtab .any (opsOf Tryd.f4 16) = Car.T16 := by kernel_rfl
theorem Car.bits16 : waitsOk Car.T16.2 Car.B16 = true := by kernel_rfl
def Car.T22 : Bool × List (List Nat × List Nat) := (true, [([], []), ([0], [0]), ([1], [1]), ([2], [2]), ([2], [2]), ([4, 2], [2, 4]), ([3, 5, 2], [2, 3, 5]), ([2, 6], [2, 6]), ([7, 2], [7]), ([8], [8]), ([9, 8, 8], [8, 9]), ([8], [8]), ([11, 8], [8, 11]), ([12, 10, 8], [8, 12]), ([10, 13, 13, 8], [8, 10, 13]), ([8, 14], [8, 14]), ([15, 14], [15]), ([16, 16], [16]), ([16, 17], [16, 17]), ([18, 17, 0, 1, 2, 3, 4, 5, 6, 7, 8, 9, 10, 11, 12, 13, 14, 15, 16, 17, 18], [18])])
def Car.B22 : List Nat := [0, 1, 3, 7, 7, 23, 63, 127, 255, 511, 1023, 511, 2559, 8191, 16383, 32767, 65535, 131071, 262143, 524287]
theorem Car.tab22 : rtab .any (opsOf Tryd.f4 22) = Car.T22 := by kernel_rfl
theorem Car.bits22 : waitsOk Car.T22.2 Car.B22 = true := by kernel_rfl
set_option maxRecDepth 100000 in
set_option maxHeartbeats 2000000 in
theorem FilesCarries_c (A : Option Addr) (c : Nat) (l : List S46) (size tk : Int) (W : World) (hT : Tab10 W) (hr : Kd.C k46 W A l.length l) (hc : l.length ≤ c) (hl : l.length < 3518437208883) :
    Calls Tryd.prog 4 #[.agg #[.slice A l.length c, .int .i64 size, .int .i64 tk]] W fun e w' => e = .returned (.bool true) ∧ Below W.heap.size W w' := by
  have HT := Aside0.mk hT
  have HR := Aside0.mk hr
  have HB0 := Aside0.mk (show CaseAt W (W.alloc (.cells #[.slice A l.length c, .int .i64 size, .int .i64 tk] 31)) A l.length c size tk from by
    have hb := heap_alloc_new W (.cells #[.slice A l.length c, .int .i64 size, .int .i64 tk] 31)
    exact ⟨(Below.refl _ W).alloc (Nat.le_refl _) _, by rw [World.size_alloc]; omega, Lib.cell_of_heap hb 0, Lib.cell_of_heap hb 1, Lib.cell_of_heap hb 2⟩)
  clear hT hr
  go_enter Tryd.func4, Tryd.ntmps4
  go_wp2_with fail
  refine (Write_c A c l size _ (HT.out.below HB0.out.low) (Kd.C_below HR.out HB0.out.low) hc).mono ?_
  rintro e w1 hW
  rcases hW with ⟨hno, rfl, hb1⟩ | ⟨v, hok, rfl, hrow, hb1⟩
  · have HB1 := Aside0.mk (HB0.out.below hb1)
    have CT := Aside0.mk (To_c A c l w1 (Kd.C_below HR.out HB1.out.low) hc hl)
    have z0 := HB1.out.c0
    have z1 := HB1.out.c1
    have z2 := HB1.out.c2
    clear hb1 HB0
    go_wp2_with fail
    refine CT.out.mono ?_
    rintro e w2 ⟨v, rfl, hr2, hb2⟩
    have HB2 := Aside0.mk (HB1.out.below hb2)
    obtain ⟨A2, c2, rfl, hc2, hC2⟩ := Kd.R_reads hr2
    have CR := refValid_eq A2 c2 l 2 w2 hC2 hc2
    rw [List.length_map] at CR
    have CR' := Aside0.mk CR
    clear CR hb2 hr2 hC2 CT z0 z1 z2
    by_cases hv : validB l 2 = true
    · rw [hv] at CR'
      go_wp2_with fail
      refine CR'.out.mono ?_
      rintro e w3 ⟨rfl, hb3⟩
      have HB3 := Aside0.mk (HB2.out.below hb3)
      have z0 := HB3.out.c0
      have z1 := HB3.out.c1
      have CS := Aside0.mk (sane_c w3)
      clear hb3 CR'
      by_cases h20 : size < 20
      · have g1 : decide (size < 20) = true := decide_eq_true h20
        go_wp2_with fail
        refine CS.out.mono ?_
        rintro e w4 ⟨rfl, hb4⟩
        have HB4 := Aside0.mk (HB3.out.below hb4)
        clear hb4
        go_wp2
        go_ret
        exact ⟨rfl, HB4.out.low⟩
      · have g1 : decide (size < 20) = false := decide_eq_false h20
        have h1000 : 1000 < size := by
          rcases Int.lt_or_le 1000 size with h | h
          · exact h
          · exact absurd ⟨hv, by omega, h⟩ hno
        have g2 : decide (size > 1000) = true := decide_eq_true h1000
        have g3 : decide (1000 < size) = true := decide_eq_true h1000
        clear h20 h1000
        go_wp2_with fail
        refine CS.out.mono ?_
        rintro e w4 ⟨rfl, hb4⟩
        have HB4 := Aside0.mk (HB3.out.below hb4)
        clear hb4
        go_wp2
        go_ret
        exact ⟨rfl, HB4.out.low⟩
    · have hvf : validB l 2 = false := by simpa using hv
      rw [hvf] at CR'
      go_wp2_with fail
      refine CR'.out.mono ?_
      rintro e w3 ⟨rfl, hb3⟩
      have HB3 := Aside0.mk (HB2.out.below hb3)
      have CS := Aside0.mk (sane_c w3)
      clear hb3 CR'
      go_wp2_with fail
      refine CS.out.mono ?_
      rintro e w4 ⟨rfl, hb4⟩
      have HB4 := Aside0.mk (HB3.out.below hb4)
      clear hb4
      go_wp2
      go_ret
      exact ⟨rfl, HB4.out.low⟩
  · obtain ⟨A1, c1, hv1, hc1, hC1⟩ := Kd.R_reads hrow
    subst hv1
    obtain ⟨hv, h20, h1000⟩ := hok
    have HB1 := Aside0.mk (HB0.out.below hb1)
    have hcw : (partsOf l size.toNat).length ≤ c1 := hc1
    have HI1 := Aside0.mk (show CarryIn W w1 A c l size tk A1 (partsOf l size.toNat) from ⟨HB1.out, hC1⟩)
    have HPO := Aside0.mk (parts_ok (n := size.toNat) hv (by omega))
    have HOK := Aside0.mk (show WriteOk l size from ⟨hv, h20, h1000⟩)
    have HRES := Aside0.mk (fun (w : World) (j : Nat) (hb : Below W.heap.size W w) (hj : j ≤ (partsOf l size.toNat).length) => Resume_c A c l size j w (HT.out.below hb) (Kd.C_below HR.out hb) hc HOK.out hj)
    obtain ⟨n, rfl⟩ := Int.eq_ofNat_of_zero_le (show 0 ≤ size by omega)
    rw [Int.toNat_natCast] at hc1 HI1 HPO HRES ⊢
    have CV := Aside0.mk (fun (w : World) (A2 : Option Addr) (c2 : Nat) (h1 : Kd.C k58 w A2 (l.map toR).length (l.map toR)) (h2 : (l.map toR).length ≤ c2) => refValid_eq A2 c2 l 2 w h1 h2)
    rw [hv] at CV
    have g1 : decide ((n : Int) < 20) = false := decide_eq_false (by omega)
    have g2 : decide ((n : Int) > 1000) = false := decide_eq_false (by omega)
    have g3 : decide (1000 < (n : Int)) = false := decide_eq_false (by omega)
    have CT := Aside0.mk (To_c A c l w1 (Kd.C_below HR.out HB1.out.low) hc hl)
    clear hrow hC1 hb1 HB0 HB1 hv h20 h1000 hcw
    generalize partsOf l n = P at *
    have hP1 := HPO.out.pos
    have hPl := HPO.out.len
    have z0 := HI1.out.box.c0
    have z1 := HI1.out.box.c1
    have z2 := HI1.out.box.c2
    go_wp2_with fail
    refine CT.out.mono ?_
    rintro e w2 ⟨v, rfl, hr2, hb2⟩
    obtain ⟨A2, c2, rfl, hc2, hC2⟩ := Kd.R_reads hr2
    have HI2 := Aside0.mk (HI1.out.below hb2)
    have CV2 := CV.out w2 A2 c2 hC2 hc2
    rw [List.length_map] at CV2
    have CV2' := Aside0.mk CV2
    clear CV2 hb2 hr2 hC2 CT z0 z1 z2 CV HI1
    go_wp2_with fail
    refine CV2'.out.mono ?_
    rintro e w3 ⟨rfl, hb3⟩
    have HI3 := Aside0.mk (HI2.out.below hb3)
    have z0 := HI3.out.box.c0
    have z1 := HI3.out.box.c1
    have gp : ((P.length : Int) == 0) = false := by rw [beq_eq_false_iff_ne]; omega
    have CJ := Aside0.mk (Join_c A1 c1 P w3 (HT.out.below HI3.out.box.low) HI3.out.parts hc1 (by omega) (by have := HPO.out.small P.length; rw [List.take_length] at this; omega))
    rw [HPO.out.whole] at CJ
    clear hb3 CV2' HI2
    go_wp2_with fail
    refine CJ.out.mono ?_
    rintro e w4 hJ
    obtain ⟨v4, rfl, hr4, hb4⟩ : ∃ v4, e = .returned (.tuple #[v4, .int .i64 P.length, .int .i64 0]) ∧ Kd.R k46 46 w4 w3.heap.size (fun _ => True) v4 l ∧ Below w3.heap.size w3 w4 := by
      rcases hJ with ⟨h, _⟩ | ⟨out, v4, h1, h2, h3, h4⟩
      · cases h
      · injection h1 with h1
        subst h1
        exact ⟨v4, h2, h3, h4⟩
    obtain ⟨Au, cu, rfl, hcu, hCu⟩ := Kd.R_reads hr4
    clear hr4 CJ hJ z0 z1
    have HI4 := Aside0.mk (show JoinedIn W w4 A c l n tk A1 P Au l from ⟨HI3.out.below hb4, hCu⟩)
    have HTL := Aside0.mk (show ∀ w, Below W.heap.size W w → Kd.C k46 w A l.length l from fun w h => Kd.C_below HR.out h)
    have HTC := Aside0.mk hc
    clear hb4 hCu HI3
    go_wp2_with fail
    have hz0 : w4.drew.cell? ⟨W.heap.size, 0, none⟩ = some (.slice A l.length c) := HI4.out.carry.box.c0
    refine start_ (n := 17) (S := fun w' => w'.cell? ⟨W.heap.size, 0, none⟩ = some (.slice A l.length c)) (ds := [13, 14]) #[false, false, false, false, false, false, false, false, false, false, false, false, false, false, false, false, false] (by kernel_rfl) rfl rfl (hz0) (fun hHeld => ?_)
    refine with_tabW Car.tab7 Car.bits7 (fun HT_ HW_ => ?_)
    have HWD := Aside0.mk (HI4.out.below ((Below.refl _ w4).drew))
    generalize w4.drew = wd at HWD hHeld ⊢
    refine pure_ (i := 0) (N := some 57) (v := ?_) (a' := ?_) #[true, false, false, false, false, false, false, false, false, false, false, false, false, false, false, false, false] rfl rfl (any_of HT_.out (by kernel_rfl)) (fun _ _ _ h => h) (Or.inl ⟨by rfl, ?_⟩) ?_ ?_
    rotate_left
    · intro w'
      go_simp
      with_reducible rfl
    rotate_left
    · simp only [Act.put, List.setIfInBounds_toArray, List.set_cons_zero, List.set_cons_succ, i64_w, i32_w]
      rfl
    refine pure_ (i := 1) (N := some 58) (v := ?_) (a' := ?_) #[true, true, false, false, false, false, false, false, false, false, false, false, false, false, false, false, false] rfl rfl (any_of HT_.out (by kernel_rfl)) (fun _ _ _ h => h) (Or.inl ⟨by rfl, ?_⟩) ?_ ?_
    rotate_left
    · intro w'
      go_simp
      with_reducible rfl
    rotate_left
    · simp only [Act.put, List.setIfInBounds_toArray, List.set_cons_zero, List.set_cons_succ, i64_w, i32_w]
      rfl
    refine pure_ (i := 2) (N := some 59) (v := ?_) (a' := ?_) #[true, true, true, false, false, false, false, false, false, false, false, false, false, false, false, false, false] rfl rfl (any_of HT_.out (by kernel_rfl)) (fun _ _ _ h => h) (Or.inl ⟨by rfl, ?_⟩) ?_ ?_
    rotate_left
    · intro w'
      go_simp
      with_reducible rfl
    rotate_left
    · simp only [Act.put, List.setIfInBounds_toArray, List.set_cons_zero, List.set_cons_succ, i64_w, i32_w]
      rfl
    refine pure_ (i := 3) (N := some 60) (v := ?_) (a' := ?_) #[true, true, true, true, false, false, false, false, false, false, false, false, false, false, false, false, false] rfl rfl (any_of HT_.out (by kernel_rfl)) (fun _ _ _ h => h) (Or.inl ⟨by rfl, ?_⟩) ?_ ?_
    rotate_left
    · intro w'
      go_simp
      with_reducible rfl
    rotate_left
    · simp only [Act.put, List.setIfInBounds_toArray, List.set_cons_zero, List.set_cons_succ, i64_w, i32_w]
      rfl
    refine pure_ (i := 4) (N := some 61) (v := ?_) (a' := ?_) #[true, true, true, true, true, false, false, false, false, false, false, false, false, false, false, false, false] rfl rfl (any_of HT_.out (by kernel_rfl)) (fun _ _ _ h => h) (Or.inl ⟨by rfl, ?_⟩) ?_ ?_
    rotate_left
    · intro w'
      go_simp
      with_reducible rfl
    rotate_left
    · simp only [Act.put, List.setIfInBounds_toArray, List.set_cons_zero, List.set_cons_succ, i64_w, i32_w]
      rfl
    refine pure_ (i := 5) (N := some 62) (v := ?_) (a' := ?_) #[true, true, true, true, true, true, false, false, false, false, false, false, false, false, false, false, false] rfl rfl (any_of HT_.out (by kernel_rfl)) (fun _ _ _ h => h) (Or.inl ⟨by rfl, ?_⟩) ?_ ?_
    rotate_left
    · intro w'
      go_simp
      with_reducible rfl
    rotate_left
    · simp only [Act.put, List.setIfInBounds_toArray, List.set_cons_zero, List.set_cons_succ, i64_w, i32_w]
      rfl
    refine pure_ (i := 6) (N := some 63) (v := ?_) (a' := ?_) #[true, true, true, true, true, true, true, false, false, false, false, false, false, false, false, false, false] rfl rfl (any_of HT_.out (by kernel_rfl)) (fun _ _ _ h => h) (Or.inl ⟨by rfl, ?_⟩) ?_ ?_
    rotate_left
    · intro w'
      go_simp
      with_reducible rfl
    rotate_left
    · simp only [Act.put, List.setIfInBounds_toArray, List.set_cons_zero, List.set_cons_succ, i64_w, i32_w]
      rfl
    refine pure_ (i := 7) (N := some 64) (v := ?_) (a' := ?_) #[true, true, true, true, true, true, true, true, false, false, false, false, false, false, false, false, false] rfl rfl (any_of HT_.out (by kernel_rfl)) (fun _ _ _ h => h) (Or.inl ⟨by rfl, ?_⟩) ?_ ?_
    rotate_left
    · intro w'
      go_simp
      with_reducible rfl
    rotate_left
    · simp only [Act.put, List.setIfInBounds_toArray, List.set_cons_zero, List.set_cons_succ, i64_w, i32_w]
      rfl
    refine pure_ (i := 8) (N := some 65) (v := ?_) (a' := ?_) #[true, true, true, true, true, true, true, true, true, false, false, false, false, false, false, false, false] rfl rfl (any_of HT_.out (by kernel_rfl)) (fun _ _ _ h => h) (Or.inl ⟨by rfl, ?_⟩) ?_ ?_
    rotate_left
    · intro w'
      go_simp
      with_reducible rfl
    rotate_left
    · simp only [Act.put, List.setIfInBounds_toArray, List.set_cons_zero, List.set_cons_succ, i64_w, i32_w]
      rfl
    refine pure_ (i := 9) (N := some 66) (v := ?_) (a' := ?_) #[true, true, true, true, true, true, true, true, true, true, false, false, false, false, false, false, false] rfl rfl (any_of HT_.out (by kernel_rfl)) (fun _ _ _ h => h) (Or.inl ⟨by rfl, ?_⟩) ?_ ?_
    rotate_left
    · intro w'
      go_simp
      with_reducible rfl
    rotate_left
    · simp only [Act.put, List.setIfInBounds_toArray, List.set_cons_zero, List.set_cons_succ, i64_w, i32_w]
      rfl
    refine pure_ (i := 11) (N := some 68) (v := ?_) (a' := ?_) #[true, true, true, true, true, true, true, true, true, true, false, true, false, false, false, false, false] rfl rfl (any_of HT_.out (by kernel_rfl)) (fun _ _ _ h => h) (Or.inl ⟨by rfl, ?_⟩) ?_ ?_
    rotate_left
    · intro w'
      go_simp
      with_reducible rfl
    rotate_left
    · simp only [Act.put, List.setIfInBounds_toArray, List.set_cons_zero, List.set_cons_succ, i64_w, i32_w]
      rfl
    refine take_ (i := 12) (N := some 69) (v := ?_) (a' := ?_) #[true, true, true, true, true, true, true, true, true, true, false, true, true, false, false, false, false] rfl rfl (take_ofW HT_.out HW_.out (by kernel_rfl)) (fun _ _ _ h => h) (Or.inl ⟨by rfl, ?_⟩) hHeld ?_ ?_
    rotate_left
    · intro w' s0
      go_simp
      with_reducible rfl
    rotate_left
    · simp only [Act.put, List.setIfInBounds_toArray, List.set_cons_zero, List.set_cons_succ, i64_w, i32_w]
      rfl
    refine one_ (i := 10) (N := some 67) #[true, true, true, true, true, true, true, true, true, true, true, true, true, false, false, false, false] rfl rfl (one_of HT_.out (by kernel_rfl)) (by decide) (fun K hK => ?_)
    refine goes_ Tryd.func10 (by kernel_rfl) rfl #[.slice Au l.length cu] (by rfl) rfl rfl (by (try simp only [List.map_toArray, List.map_cons, List.map_nil]); first | done | rfl | (simp only []; rfl)) ?_
    with_reducible refine (toR_c _ _ l _ HWD.out.u hcu (by omega)).mono ?_
    rintro e w10 ⟨A10, c10, rfl, hc10, hC10, hb10⟩
    have HJ10 := Aside0.mk (HWD.out.below hb10)
    have HC10 := Aside0.mk hC10
    clear hb10 hC10
    refine ⟨_, rfl, ?_⟩
    refine hK.out _ _ (HJ10.out.carry.box.c0) (fun hHeld => ?_)
    clear hK K
    refine norm_ (a' := ?_) ?_ ?_
    rotate_left
    · show Act.put _ (some 67) _ = _
      simp only [Act.put, List.setIfInBounds_toArray, List.set_cons_zero, List.set_cons_succ, i64_w, i32_w]
      rfl
    refine last_ (i := 13) (N := some 70) #[true, true, true, true, true, true, true, true, true, true, true, true, true, true, false, false, false] rfl rfl (one_of HT_.out (by kernel_rfl)) (by decide) (fun K hK => ?_)
    refine goes_ Tryd.func10 (by kernel_rfl) rfl #[.slice A l.length c] (by rfl) rfl rfl (by (try simp only [List.map_toArray, List.map_cons, List.map_nil]); first | done | rfl | (simp only []; rfl)) ?_
    with_reducible refine (toR_c A c l _ (HTL.out _ HJ10.out.carry.box.low) HTC.out (by omega)).mono ?_
    rintro e w13 ⟨A13, c13, rfl, hc13, hC13, hb13⟩
    have HJ13 := Aside0.mk (HJ10.out.below hb13)
    have HC13 := Aside0.mk hC13
    have HD10 := Aside0.mk (Kd.C_below HC10.out hb13)
    clear hb13 hC13
    refine ⟨_, rfl, ?_⟩
    refine hK.out _ _ ?_
    clear hK K
    refine norm_ (a' := ?_) ?_ ?_
    rotate_left
    · show Act.put _ (some 70) _ = _
      simp only [Act.put, List.setIfInBounds_toArray, List.set_cons_zero, List.set_cons_succ, i64_w, i32_w]
      rfl
    refine last_ (i := 14) (N := some 71) #[true, true, true, true, true, true, true, true, true, true, true, true, true, true, true, false, false] rfl rfl (one_of HT_.out (by kernel_rfl)) (by decide) (fun K hK => ?_)
    refine goes_ Tryd.func11 (by kernel_rfl) rfl #[.slice A10 l.length c10, .slice A13 l.length c13] (by rfl) rfl rfl (by (try simp only [List.map_toArray, List.map_cons, List.map_nil]); first | done | rfl | (simp only []; rfl)) ?_
    with_reducible refine (same_c A10 c10 A13 c13 l _ HD10.out hc10 HC13.out hc13 (by omega)).mono ?_
    rintro e w14 ⟨rfl, hb14⟩
    have HJ14 := Aside0.mk (HJ13.out.below hb14)
    clear hb14
    refine ⟨_, rfl, ?_⟩
    refine hK.out _ _ ?_
    clear hK K
    refine norm_ (a' := ?_) ?_ ?_
    rotate_left
    · show Act.put _ (some 71) _ = _
      simp only [Act.put, List.setIfInBounds_toArray, List.set_cons_zero, List.set_cons_succ, i64_w, i32_w]
      rfl
    refine pure_ (i := 15) (N := some 72) (v := ?_) (a' := ?_) #[true, true, true, true, true, true, true, true, true, true, true, true, true, true, true, true, false] rfl rfl (any_of HT_.out (by kernel_rfl)) (fun _ _ _ h => h) (Or.inl ⟨by rfl, ?_⟩) ?_ ?_
    rotate_left
    · intro w'
      go_simp
      with_reducible rfl
    rotate_left
    · simp only [Act.put, List.setIfInBounds_toArray, List.set_cons_zero, List.set_cons_succ, i64_w, i32_w]
      rfl
    refine pure_ (i := 16) (N := some 73) (v := ?_) (a' := ?_) #[true, true, true, true, true, true, true, true, true, true, true, true, true, true, true, true, true] rfl rfl (any_of HT_.out (by kernel_rfl)) (fun _ _ _ h => h) (Or.inl ⟨by rfl, ?_⟩) ?_ ?_
    rotate_left
    · intro w'
      go_simp
      with_reducible rfl
    rotate_left
    · simp only [Act.put, List.setIfInBounds_toArray, List.set_cons_zero, List.set_cons_succ, i64_w, i32_w]
      rfl
    refine done_ (done_of HT_.out (by kernel_rfl)) ?_
    have HI5 := Aside0.mk HJ14.out.carry
    clear HJ14 HJ13 HJ10 HC13 HD10 HC10 HWD HI4 hz0 hcu HTL HTC
    go_wp2_with fail
    go_loopw [7] (fun s w' => ∃ i : Nat, s = .int .i64 i ∧ i ≤ P.length ∧ Aside0 (CarryIn W w' A c l n tk A1 P)) (fun s _ => P.length - (RowKit.intOf s).toNat)
    case atStart => exact ⟨0, rfl, by omega, HI5⟩
    case round =>
      clear HI5
      obtain ⟨i, rfl, hi, HI⟩ := hrel
      by_cases hlt : i < P.length
      · have hltz : (i : Int) < (P.length : Int) := by omega
        have hi0 : decide ((i : Int) < 0) = false := decide_eq_false (by omega)
        obtain ⟨ad, rfl, hx⟩ := Kd.at_string HI.out.parts (i : Int) (by omega) (by omega)
        obtain ⟨e1, e2⟩ := HPO.out.each i hlt
        have hrd : rdOf ByteArray.empty P (i : Int) = P[i] := by simp [rdOf, List.getD_eq_getElem?_getD, List.getElem?_eq_getElem hlt]
        rw [Int.toNat_natCast, hrd] at hx
        clear hrd
        generalize P[i] = s at *
        have z1 := HI.out.box.c1
        have k1 : decide ((s.size : Int) > (n : Int)) = false := decide_eq_false (by omega)
        have k1' : decide ((n : Int) < (s.size : Int)) = false := decide_eq_false (by omega)
        by_cases hlast : i + 1 < P.length
        · have k2 : decide ((i : Int) + 1 < (P.length : Int)) = true := decide_eq_true (by omega)
          have k3 : ((s.size : Int) != (n : Int)) = false := by rw [e2 hlast]; simp
          have k4 : ((s.size : Int) == (n : Int)) = true := by rw [e2 hlast]; simp
          have k5 : ¬ n < s.size := by omega
          clear e1 e2
          go_wp2
          go_quiet (fail)
          try go_wp2
          go_roundw
          case rel => exact ⟨i + 1, by go_num, by omega, ⟨HI.out.below (pw_below_drewN (Below.refl _ _) _)⟩⟩
          case measure => simp [RowKit.intOf]; omega
        · have k2 : decide ((i : Int) + 1 < (P.length : Int)) = false := decide_eq_false (by omega)
          have k5 : ¬ n < s.size := by omega
          clear e1 e2
          go_wp2
          go_quiet (fail)
          try go_wp2
          go_roundw
          case rel => exact ⟨i + 1, by go_num, by omega, ⟨HI.out.below (pw_below_drewN (Below.refl _ _) _)⟩⟩
          case measure => simp [RowKit.intOf]; omega
      · have hnz : decide ((i : Int) < (P.length : Int)) = false := decide_eq_false (by omega)
        obtain ⟨j, hm, hj⟩ := Mod_eq tk (P.length + 1) (by omega) (by omega)
        have hjl : j ≤ P.length := by omega
        rw [show ((P.length + 1 : Nat) : Int) = (P.length : Int) + 1 by omega] at hm
        have z2 := HI.out.box.c2
        have CM := Aside0.mk (heptadref01_Mod.calls tk ((P.length : Int) + 1) (j : Int) wr hm)
        clear hm
        go_wp2_with fail
        refine CM.out.mono ?_
        rintro e w5 ⟨rfl, hd5⟩
        have HI5 := Aside0.mk (HI.out.below hd5.below)
        clear hd5 CM z2
        have hTl : (P.take j).length = j := by rw [List.length_take]; omega
        have CJ0 := Join_c A1 c1 (P.take j) w5 (HT.out.below HI5.out.box.low) (Kd.C_take HI5.out.parts hjl) (by omega) (by omega) (by have := HPO.out.small j; omega)
        obtain ⟨i2, hi2, hpart⟩ := HPO.out.part j hjl
        rw [hTl, hpart] at CJ0
        have CJ := Aside0.mk CJ0
        have HTL := Aside0.mk (show ∀ w, Below W.heap.size W w → Kd.C k46 w A (l.take i2).length (l.take i2) from fun w h => Kd.C_take (Kd.C_below HR.out h) hi2)
        have hTT : (l.take i2).length ≤ l.length := by rw [List.length_take]; omega
        clear CJ0 hpart
        generalize l.take i2 = T at *
        have hjz : (j : Int) ≤ (P.length : Int) := by omega
        have hjc : (j : Int) ≤ (c1 : Int) := by omega
        have hj0 : (0 : Int) ≤ (j : Int) := by omega
        go_wp2_with fail
        refine CJ.out.mono ?_
        rintro e w6 hJ
        obtain ⟨v6, rfl, hr6, hb6⟩ : ∃ v6, e = .returned (.tuple #[v6, .int .i64 j, .int .i64 0]) ∧ Kd.R k46 46 w6 w5.heap.size (fun _ => True) v6 T ∧ Below w5.heap.size w5 w6 := by
          rcases hJ with ⟨h, _⟩ | ⟨out, v6, h1, h2, h3, h4⟩
          · cases h
          · injection h1 with h1
            subst h1
            exact ⟨v6, h2, h3, h4⟩
        obtain ⟨Ap, cp, rfl, hcp, hCp⟩ := Kd.R_reads hr6
        have HI6 := Aside0.mk (show JoinedIn W w6 A c l n tk A1 P Ap T from ⟨HI5.out.below hb6, hCp⟩)
        have HTC := Aside0.mk (show T.length ≤ c by omega)
        have t1 : decide ((T.length : Int) > (l.length : Int)) = false := decide_eq_false (by omega)
        have t2 : decide ((l.length : Int) < (T.length : Int)) = false := decide_eq_false (by omega)
        have t5 : decide (l.length < T.length) = false := decide_eq_false (by omega)
        have t6 : ¬ l.length < T.length := by omega
        have t3 : (T.length : Int) ≤ (c : Int) := by omega
        have t7 : T.length ≤ c := by omega
        have t4 : (0 : Int) ≤ (T.length : Int) := by omega
        have hz0 : w6.drew.cell? ⟨W.heap.size, 0, none⟩ = some (.slice A l.length c) := HI6.out.carry.box.c0
        clear hr6 hb6 hCp CJ hJ HI5 HI
        go_wp2_with fail
        refine start_ (n := 27) (S := fun w' => w'.cell? ⟨W.heap.size, 0, none⟩ = some (.slice A l.length c)) (ds := [23, 24]) #[false, false, false, false, false, false, false, false, false, false, false, false, false, false, false, false, false, false, false, false, false, false, false, false, false, false, false] (by kernel_rfl) rfl rfl (hz0) (fun hHeld => ?_)
        refine with_tabW Car.tab16 Car.bits16 (fun HT_ HW_ => ?_)
        have HWD := Aside0.mk (HI6.out.below ((Below.refl _ w6).drew))
        generalize w6.drew = wd at HWD hHeld ⊢
        refine pure_ (i := 0) (N := some 119) (v := ?_) (a' := ?_) #[true, false, false, false, false, false, false, false, false, false, false, false, false, false, false, false, false, false, false, false, false, false, false, false, false, false, false] rfl rfl (any_of HT_.out (by kernel_rfl)) (fun _ _ _ h => h) (Or.inl ⟨by rfl, ?_⟩) ?_ ?_
        rotate_left
        · intro w'
          go_simp
          with_reducible rfl
        rotate_left
        · simp only [Act.put, List.setIfInBounds_toArray, List.set_cons_zero, List.set_cons_succ, i64_w, i32_w]
          rfl
        refine pure_ (i := 1) (N := some 120) (v := ?_) (a' := ?_) #[true, true, false, false, false, false, false, false, false, false, false, false, false, false, false, false, false, false, false, false, false, false, false, false, false, false, false] rfl rfl (any_of HT_.out (by kernel_rfl)) (fun _ _ _ h => h) (Or.inl ⟨by rfl, ?_⟩) ?_ ?_
        rotate_left
        · intro w'
          go_simp
          with_reducible rfl
        rotate_left
        · simp only [Act.put, List.setIfInBounds_toArray, List.set_cons_zero, List.set_cons_succ, i64_w, i32_w]
          rfl
        refine pure_ (i := 2) (N := some 121) (v := ?_) (a' := ?_) #[true, true, true, false, false, false, false, false, false, false, false, false, false, false, false, false, false, false, false, false, false, false, false, false, false, false, false] rfl rfl (any_of HT_.out (by kernel_rfl)) (fun _ _ _ h => h) (Or.inl ⟨by rfl, ?_⟩) ?_ ?_
        rotate_left
        · intro w'
          go_simp
          with_reducible rfl
        rotate_left
        · simp only [Act.put, List.setIfInBounds_toArray, List.set_cons_zero, List.set_cons_succ, i64_w, i32_w]
          rfl
        refine pure_ (i := 3) (N := some 122) (v := ?_) (a' := ?_) #[true, true, true, true, false, false, false, false, false, false, false, false, false, false, false, false, false, false, false, false, false, false, false, false, false, false, false] rfl rfl (any_of HT_.out (by kernel_rfl)) (fun _ _ _ h => h) (Or.inl ⟨by rfl, ?_⟩) ?_ ?_
        rotate_left
        · intro w'
          go_simp
          with_reducible rfl
        rotate_left
        · simp only [Act.put, List.setIfInBounds_toArray, List.set_cons_zero, List.set_cons_succ, i64_w, i32_w]
          rfl
        refine pure_ (i := 4) (N := some 123) (v := ?_) (a' := ?_) #[true, true, true, true, true, false, false, false, false, false, false, false, false, false, false, false, false, false, false, false, false, false, false, false, false, false, false] rfl rfl (any_of HT_.out (by kernel_rfl)) (fun _ _ _ h => h) (Or.inl ⟨by rfl, ?_⟩) ?_ ?_
        rotate_left
        · intro w'
          go_simp
          with_reducible rfl
        rotate_left
        · simp only [Act.put, List.setIfInBounds_toArray, List.set_cons_zero, List.set_cons_succ, i64_w, i32_w]
          rfl
        refine pure_ (i := 5) (N := some 124) (v := ?_) (a' := ?_) #[true, true, true, true, true, true, false, false, false, false, false, false, false, false, false, false, false, false, false, false, false, false, false, false, false, false, false] rfl rfl (any_of HT_.out (by kernel_rfl)) (fun _ _ _ h => h) (Or.inl ⟨by rfl, ?_⟩) ?_ ?_
        rotate_left
        · intro w'
          go_simp
          with_reducible rfl
        rotate_left
        · simp only [Act.put, List.setIfInBounds_toArray, List.set_cons_zero, List.set_cons_succ, i64_w, i32_w]
          rfl
        refine pure_ (i := 6) (N := some 125) (v := ?_) (a' := ?_) #[true, true, true, true, true, true, true, false, false, false, false, false, false, false, false, false, false, false, false, false, false, false, false, false, false, false, false] rfl rfl (any_of HT_.out (by kernel_rfl)) (fun _ _ _ h => h) (Or.inl ⟨by rfl, ?_⟩) ?_ ?_
        rotate_left
        · intro w'
          go_simp
          with_reducible rfl
        rotate_left
        · simp only [Act.put, List.setIfInBounds_toArray, List.set_cons_zero, List.set_cons_succ, i64_w, i32_w]
          rfl
        refine pure_ (i := 7) (N := some 126) (v := ?_) (a' := ?_) #[true, true, true, true, true, true, true, true, false, false, false, false, false, false, false, false, false, false, false, false, false, false, false, false, false, false, false] rfl rfl (any_of HT_.out (by kernel_rfl)) (fun _ _ _ h => h) (Or.inl ⟨by rfl, ?_⟩) ?_ ?_
        rotate_left
        · intro w'
          go_simp
          with_reducible rfl
        rotate_left
        · simp only [Act.put, List.setIfInBounds_toArray, List.set_cons_zero, List.set_cons_succ, i64_w, i32_w]
          rfl
        refine pure_ (i := 8) (N := some 127) (v := ?_) (a' := ?_) #[true, true, true, true, true, true, true, true, true, false, false, false, false, false, false, false, false, false, false, false, false, false, false, false, false, false, false] rfl rfl (any_of HT_.out (by kernel_rfl)) (fun _ _ _ h => h) (Or.inl ⟨by rfl, ?_⟩) ?_ ?_
        rotate_left
        · intro w'
          go_simp
          with_reducible rfl
        rotate_left
        · simp only [Act.put, List.setIfInBounds_toArray, List.set_cons_zero, List.set_cons_succ, i64_w, i32_w]
          rfl
        refine pure_ (i := 9) (N := some 128) (v := ?_) (a' := ?_) #[true, true, true, true, true, true, true, true, true, true, false, false, false, false, false, false, false, false, false, false, false, false, false, false, false, false, false] rfl rfl (any_of HT_.out (by kernel_rfl)) (fun _ _ _ h => h) (Or.inl ⟨by rfl, ?_⟩) ?_ ?_
        rotate_left
        · intro w'
          go_simp
          with_reducible rfl
        rotate_left
        · simp only [Act.put, List.setIfInBounds_toArray, List.set_cons_zero, List.set_cons_succ, i64_w, i32_w]
          rfl
        refine pure_ (i := 10) (N := some 129) (v := ?_) (a' := ?_) #[true, true, true, true, true, true, true, true, true, true, true, false, false, false, false, false, false, false, false, false, false, false, false, false, false, false, false] rfl rfl (any_of HT_.out (by kernel_rfl)) (fun _ _ _ h => h) (Or.inl ⟨by rfl, ?_⟩) ?_ ?_
        rotate_left
        · intro w'
          go_simp
          with_reducible rfl
        rotate_left
        · simp only [Act.put, List.setIfInBounds_toArray, List.set_cons_zero, List.set_cons_succ, i64_w, i32_w]
          rfl
        refine take_ (i := 11) (N := some 130) (v := ?_) (a' := ?_) #[true, true, true, true, true, true, true, true, true, true, true, true, false, false, false, false, false, false, false, false, false, false, false, false, false, false, false] rfl rfl (take_ofW HT_.out HW_.out (by kernel_rfl)) (fun _ _ _ h => h) (Or.inl ⟨by rfl, ?_⟩) hHeld ?_ ?_
        rotate_left
        · intro w' s0
          go_simp
          with_reducible rfl
        rotate_left
        · simp only [Act.put, List.setIfInBounds_toArray, List.set_cons_zero, List.set_cons_succ, i64_w, i32_w]
          rfl
        refine pure_ (i := 12) (N := some 131) (v := ?_) (a' := ?_) #[true, true, true, true, true, true, true, true, true, true, true, true, true, false, false, false, false, false, false, false, false, false, false, false, false, false, false] rfl rfl (any_of HT_.out (by kernel_rfl)) (fun _ _ _ h => h) (Or.inl ⟨by rfl, ?_⟩) ?_ ?_
        rotate_left
        · intro w'
          go_simp
          with_reducible rfl
        rotate_left
        · simp only [Act.put, List.setIfInBounds_toArray, List.set_cons_zero, List.set_cons_succ, i64_w, i32_w]
          rfl
        refine pure_ (i := 13) (N := some 132) (v := ?_) (a' := ?_) #[true, true, true, true, true, true, true, true, true, true, true, true, true, true, false, false, false, false, false, false, false, false, false, false, false, false, false] rfl rfl (any_of HT_.out (by kernel_rfl)) (fun _ _ _ h => h) (Or.inl ⟨by rfl, ?_⟩) ?_ ?_
        rotate_left
        · intro w'
          go_simp
          with_reducible rfl
        rotate_left
        · simp only [Act.put, List.setIfInBounds_toArray, List.set_cons_zero, List.set_cons_succ, i64_w, i32_w]
          rfl
        refine pure_ (i := 14) (N := some 133) (v := ?_) (a' := ?_) #[true, true, true, true, true, true, true, true, true, true, true, true, true, true, true, false, false, false, false, false, false, false, false, false, false, false, false] rfl rfl (any_of HT_.out (by kernel_rfl)) (fun _ _ _ h => h) (Or.inl ⟨by rfl, ?_⟩) ?_ ?_
        rotate_left
        · intro w'
          go_simp
          with_reducible rfl
        rotate_left
        · simp only [Act.put, List.setIfInBounds_toArray, List.set_cons_zero, List.set_cons_succ, i64_w, i32_w]
          rfl
        refine pure_ (i := 15) (N := some 134) (v := ?_) (a' := ?_) #[true, true, true, true, true, true, true, true, true, true, true, true, true, true, true, true, false, false, false, false, false, false, false, false, false, false, false] rfl rfl (any_of HT_.out (by kernel_rfl)) (fun _ _ _ h => h) (Or.inl ⟨by rfl, ?_⟩) ?_ ?_
        rotate_left
        · intro w'
          go_simp
          with_reducible rfl
        rotate_left
        · simp only [Act.put, List.setIfInBounds_toArray, List.set_cons_zero, List.set_cons_succ, i64_w, i32_w]
          rfl
        refine pure_ (i := 16) (N := some 135) (v := ?_) (a' := ?_) #[true, true, true, true, true, true, true, true, true, true, true, true, true, true, true, true, true, false, false, false, false, false, false, false, false, false, false] rfl rfl (any_of HT_.out (by kernel_rfl)) (fun _ _ _ h => h) (Or.inl ⟨by rfl, ?_⟩) ?_ ?_
        rotate_left
        · intro w'
          go_simp
          with_reducible rfl
        rotate_left
        · simp only [Act.put, List.setIfInBounds_toArray, List.set_cons_zero, List.set_cons_succ, i64_w, i32_w]
          rfl
        refine pure_ (i := 18) (N := some 137) (v := ?_) (a' := ?_) #[true, true, true, true, true, true, true, true, true, true, true, true, true, true, true, true, true, false, true, false, false, false, false, false, false, false, false] rfl rfl (any_of HT_.out (by kernel_rfl)) (fun _ _ _ h => h) (Or.inl ⟨by rfl, ?_⟩) ?_ ?_
        rotate_left
        · intro w'
          go_simp
          with_reducible rfl
        rotate_left
        · simp only [Act.put, List.setIfInBounds_toArray, List.set_cons_zero, List.set_cons_succ, i64_w, i32_w]
          rfl
        refine pure_ (i := 20) (N := some 139) (v := ?_) (a' := ?_) #[true, true, true, true, true, true, true, true, true, true, true, true, true, true, true, true, true, false, true, false, true, false, false, false, false, false, false] rfl rfl (any_of HT_.out (by kernel_rfl)) (fun _ _ _ h => h) (Or.inl ⟨by rfl, ?_⟩) ?_ ?_
        rotate_left
        · intro w'
          go_simp
          with_reducible rfl
        rotate_left
        · simp only [Act.put, List.setIfInBounds_toArray, List.set_cons_zero, List.set_cons_succ, i64_w, i32_w]
          rfl
        refine pure_ (i := 21) (N := some 140) (v := ?_) (a' := ?_) #[true, true, true, true, true, true, true, true, true, true, true, true, true, true, true, true, true, false, true, false, true, true, false, false, false, false, false] rfl rfl (any_of HT_.out (by kernel_rfl)) (fun _ _ _ h => h) (Or.inl ⟨by rfl, ?_⟩) ?_ ?_
        rotate_left
        · intro w'
          go_simp
          with_reducible rfl
        rotate_left
        · simp only [Act.put, List.setIfInBounds_toArray, List.set_cons_zero, List.set_cons_succ, i64_w, i32_w]
          rfl
        refine take_ (i := 19) (N := some 138) (v := ?_) (a' := ?_) #[true, true, true, true, true, true, true, true, true, true, true, true, true, true, true, true, true, false, true, true, true, true, false, false, false, false, false] rfl rfl (take_ofW HT_.out HW_.out (by kernel_rfl)) (fun _ _ _ h => h) (Or.inl ⟨by rfl, ?_⟩) hHeld ?_ ?_
        rotate_left
        · intro w' s0
          go_simp
          with_reducible rfl
        rotate_left
        · simp only [Act.put, List.setIfInBounds_toArray, List.set_cons_zero, List.set_cons_succ, i64_w, i32_w]
          rfl
        refine pure_ (i := 22) (N := some 141) (v := ?_) (a' := ?_) #[true, true, true, true, true, true, true, true, true, true, true, true, true, true, true, true, true, false, true, true, true, true, true, false, false, false, false] rfl rfl (any_of HT_.out (by kernel_rfl)) (fun _ _ _ h => h) (Or.inl ⟨by rfl, ?_⟩) ?_ ?_
        rotate_left
        · intro w'
          go_simp
          with_reducible rfl
        rotate_left
        · simp only [Act.put, List.setIfInBounds_toArray, List.set_cons_zero, List.set_cons_succ, i64_w, i32_w]
          rfl
        refine one_ (i := 17) (N := some 136) #[true, true, true, true, true, true, true, true, true, true, true, true, true, true, true, true, true, true, true, true, true, true, true, false, false, false, false] rfl rfl (one_of HT_.out (by kernel_rfl)) (by decide) (fun K hK => ?_)
        refine goes_ Tryd.func10 (by kernel_rfl) rfl #[.slice Ap T.length cp] (by rfl) rfl rfl (by (try simp only [List.map_toArray, List.map_cons, List.map_nil]); first | done | rfl | (simp only []; rfl)) ?_
        with_reducible refine (toR_c _ _ T _ HWD.out.u hcp (by omega)).mono ?_
        rintro e w10 ⟨A10, c10, rfl, hc10, hC10, hb10⟩
        have HJ10 := Aside0.mk (HWD.out.below hb10)
        have HC10 := Aside0.mk hC10
        clear hb10 hC10
        refine ⟨_, rfl, ?_⟩
        refine hK.out _ _ (HJ10.out.carry.box.c0) (fun hHeld => ?_)
        clear hK K
        refine norm_ (a' := ?_) ?_ ?_
        rotate_left
        · show Act.put _ (some 136) _ = _
          simp only [Act.put, List.setIfInBounds_toArray, List.set_cons_zero, List.set_cons_succ, i64_w, i32_w]
          rfl
        refine last_ (i := 23) (N := some 142) #[true, true, true, true, true, true, true, true, true, true, true, true, true, true, true, true, true, true, true, true, true, true, true, true, false, false, false] rfl rfl (one_of HT_.out (by kernel_rfl)) (by decide) (fun K hK => ?_)
        refine goes_ Tryd.func10 (by kernel_rfl) rfl #[.slice A T.length c] (by rfl) rfl rfl (by (try simp only [List.map_toArray, List.map_cons, List.map_nil]); first | done | rfl | (simp only []; rfl)) ?_
        with_reducible refine (toR_c A c T _ (HTL.out _ HJ10.out.carry.box.low) HTC.out (by omega)).mono ?_
        rintro e w13 ⟨A13, c13, rfl, hc13, hC13, hb13⟩
        have HJ13 := Aside0.mk (HJ10.out.below hb13)
        have HC13 := Aside0.mk hC13
        have HD10 := Aside0.mk (Kd.C_below HC10.out hb13)
        clear hb13 hC13
        refine ⟨_, rfl, ?_⟩
        refine hK.out _ _ ?_
        clear hK K
        refine norm_ (a' := ?_) ?_ ?_
        rotate_left
        · show Act.put _ (some 142) _ = _
          simp only [Act.put, List.setIfInBounds_toArray, List.set_cons_zero, List.set_cons_succ, i64_w, i32_w]
          rfl
        refine last_ (i := 24) (N := some 143) #[true, true, true, true, true, true, true, true, true, true, true, true, true, true, true, true, true, true, true, true, true, true, true, true, true, false, false] rfl rfl (one_of HT_.out (by kernel_rfl)) (by decide) (fun K hK => ?_)
        refine goes_ Tryd.func11 (by kernel_rfl) rfl #[.slice A10 T.length c10, .slice A13 T.length c13] (by rfl) rfl rfl (by (try simp only [List.map_toArray, List.map_cons, List.map_nil]); first | done | rfl | (simp only []; rfl)) ?_
        with_reducible refine (same_c A10 c10 A13 c13 T _ HD10.out hc10 HC13.out hc13 (by omega)).mono ?_
        rintro e w14 ⟨rfl, hb14⟩
        have HJ14 := Aside0.mk (HJ13.out.below hb14)
        clear hb14
        refine ⟨_, rfl, ?_⟩
        refine hK.out _ _ ?_
        clear hK K
        refine norm_ (a' := ?_) ?_ ?_
        rotate_left
        · show Act.put _ (some 143) _ = _
          simp only [Act.put, List.setIfInBounds_toArray, List.set_cons_zero, List.set_cons_succ, i64_w, i32_w]
          rfl
        refine pure_ (i := 25) (N := some 144) (v := ?_) (a' := ?_) #[true, true, true, true, true, true, true, true, true, true, true, true, true, true, true, true, true, true, true, true, true, true, true, true, true, true, false] rfl rfl (any_of HT_.out (by kernel_rfl)) (fun _ _ _ h => h) (Or.inl ⟨by rfl, ?_⟩) ?_ ?_
        rotate_left
        · intro w'
          go_simp
          with_reducible rfl
        rotate_left
        · simp only [Act.put, List.setIfInBounds_toArray, List.set_cons_zero, List.set_cons_succ, i64_w, i32_w]
          rfl
        refine pure_ (i := 26) (N := some 145) (v := ?_) (a' := ?_) #[true, true, true, true, true, true, true, true, true, true, true, true, true, true, true, true, true, true, true, true, true, true, true, true, true, true, true] rfl rfl (any_of HT_.out (by kernel_rfl)) (fun _ _ _ h => h) (Or.inl ⟨by rfl, ?_⟩) ?_ ?_
        rotate_left
        · intro w'
          go_simp
          with_reducible rfl
        rotate_left
        · simp only [Act.put, List.setIfInBounds_toArray, List.set_cons_zero, List.set_cons_succ, i64_w, i32_w]
          rfl
        refine done_ (done_of HT_.out (by kernel_rfl)) ?_
        have HI7 := Aside0.mk HJ14.out.carry
        clear HJ14 HJ13 HJ10 HC13 HD10 HC10 HWD HI6 hz0 hcp HTL HTC t1 t2 t3 t4 t5 t6 t7 hTT
        have z0 := HI7.out.box.c0
        have z1 := HI7.out.box.c1
        have hdl : (P.drop j).length = P.length - j := List.length_drop
        have CR0 := HRES.out w14 j HI7.out.box.low hjl
        rw [hdl] at CR0
        have CR := Aside0.mk CR0
        clear CR0
        go_wp2_with fail
        refine CR.out.mono ?_
        rintro e w7 ⟨Ar0, cr0, rfl, hcr0, hC7, hb7⟩
        have HI8 := Aside0.mk (HI7.out.below hb7)
        have HREST := Aside0.mk hC7
        have HD := Aside0.mk (Kd.C_drop (c := c1) HI8.out.parts hjl hc1)
        clear hb7 hC7 CR z0 z1 HI7
        go_wp2_with fail
        · have h := HD.out
          have hcj : c1 = j := by assumption
          rw [if_pos hcj, hdl] at h
          refine (strs_c Ar0 cr0 A1 0 (P.length - j) (P.drop j) w7 hdl HREST.out hcr0 h (by omega) (by omega)).mono ?_
          clear h HD
          rintro e w8 ⟨rfl, hb8⟩
          have HI8b := Aside0.mk (HI8.out.below hb8)
          have HREST8 := Aside0.mk (Kd.C_below HREST.out hb8)
          clear hb8 HI8 HREST
          have HTK := Aside0.mk (show ∀ w, Below w8.heap.size w8 w → Kd.C Kd.string w A1 j (P.take j) from fun w h => by have := Kd.C_take (Kd.C_below HI8b.out.parts h) hjl; rwa [hTl] at this)
          go_wp2_with (first
            | ((with_reducible refine gate_dst (N := 166) rfl ?_); refine Kd.R_lit Kd.string w8.heap.size 9 ?hg (N := 166) ?hd (xs := ([] : List ByteArray)) (inner := []) (ok := fun _ => True) (okp := fun _ => True) ?hr ?hp (fun _ hk => hk) trivial (Below.refl _ _) (Nat.le_refl _) (by simp) ?_; (case hd => rfl); (case hg => rfl); (case hr => first | (go_simp; done) | (go_simp; rfl)); (case hp => exact (Reps.none _ _)); intro v1 x1 ho hb _ _; have HOa := Aside0.mk ho; have HBa := Aside0.mk hb; clear ho hb)
            | ((with_reducible refine gate_builtin (b := .append) (xs := #[.tmp 166, .tmp 169]) rfl ?_); at_builtin; refine Kd.R_append_rows Kd.string (Rr := Kd.string.K x1) (w0 := w8) w8.heap.size rfl (.tmp 166) (.tmp 169) 22 9 (.string ⟨#[]⟩) 16 rfl Tryd.underlying22 (by kernel_rfl) rfl (by decide) (by omega) v1 [] (P.take j) _ _ _ (fun _ => True) (fun _ => False) rfl rfl HOa.out (HTK.out _ HBa.out) (fun _ _ h => h) (fun _ h => h.elim) (fun _ _ => trivial) HBa.out HBa.out.size (by simp only [List.length_nil]; omega) ?_; intro v2 x2 ho hb _ _; rw [List.nil_append] at ho; have HOb := Aside0.mk ho; have HBb := Aside0.mk hb; clear ho hb)
            | ((with_reducible refine gate_builtin (b := .append) (xs := #[.tmp 170, .tmp 171]) rfl ?_); at_builtin; refine Kd.R_append_rows Kd.string (Rr := Kd.string.K x2) (w0 := w8) w8.heap.size rfl (.tmp 170) (.tmp 171) 22 9 (.string ⟨#[]⟩) 16 rfl Tryd.underlying22 (by kernel_rfl) rfl (by decide) (by omega) v2 (P.take j) (P.drop j) _ _ _ (fun _ => True) (fun _ => False) rfl rfl HOb.out (Kd.C_below HREST8.out HBb.out) (fun _ _ h => h) (fun _ h => h.elim) (fun _ _ => trivial) HBb.out HBb.out.size (by rw [hTl]; omega) ?_; intro v3 x3 ho hb _ _; rw [List.take_append_drop] at ho; obtain ⟨A3, c3, hv3, hc3, hC3⟩ := Kd.R_reads ho; subst hv3; have HC3 := Aside0.mk hC3; have HBc := Aside0.mk hb; clear ho hb hC3))
          have HI8c := Aside0.mk (CarryIn.below HI8b.out HBc.out)
          have CJ := Aside0.mk (Join_c A3 c3 P x3 (HT.out.below HI8c.out.box.low) HC3.out hc3 (by omega) (by have := HPO.out.small P.length; rw [List.take_length] at this; omega))
          rw [HPO.out.whole] at CJ
          clear HOa HBa HOb HBb HBc HTK HREST8 HI8b
          refine CJ.out.mono ?_
          rintro e w9 hJ
          obtain ⟨v9, rfl, hr9, hb9⟩ : ∃ v9, e = .returned (.tuple #[v9, .int .i64 P.length, .int .i64 0]) ∧ Kd.R k46 46 w9 x3.heap.size (fun _ => True) v9 l ∧ Below x3.heap.size x3 w9 := by
            rcases hJ with ⟨h, _⟩ | ⟨out, v9, h1, h2, h3, h4⟩
            · cases h
            · injection h1 with h1
              subst h1
              exact ⟨v9, h2, h3, h4⟩
          obtain ⟨Ar, cr, rfl, hcr, hCr⟩ := Kd.R_reads hr9
          have HI9 := Aside0.mk (show JoinedIn W w9 A c l n tk A1 P Ar l from ⟨HI8c.out.below hb9, hCr⟩)
          have HTL := Aside0.mk (show ∀ w, Below W.heap.size W w → Kd.C k46 w A l.length l from fun w h => Kd.C_below HR.out h)
          have HTC := Aside0.mk hc
          have hz0 : w9.drew.cell? ⟨W.heap.size, 0, none⟩ = some (.slice A l.length c) := HI9.out.carry.box.c0
          clear hr9 hb9 hCr CJ hJ HI8c HC3
          go_wp2_with fail
          refine start_ (n := 20) (S := fun w' => w'.cell? ⟨W.heap.size, 0, none⟩ = some (.slice A l.length c)) (ds := [13, 14, 17]) #[false, false, false, false, false, false, false, false, false, false, false, false, false, false, false, false, false, false, false, false] (by kernel_rfl) rfl rfl (hz0) (fun hHeld => ?_)
          refine with_tabW Car.tab22 Car.bits22 (fun HT_ HW_ => ?_)
          have HWD := Aside0.mk (HI9.out.below ((Below.refl _ w9).drew))
          generalize w9.drew = wd at HWD hHeld ⊢
          refine pure_ (i := 0) (N := some 177) (v := ?_) (a' := ?_) #[true, false, false, false, false, false, false, false, false, false, false, false, false, false, false, false, false, false, false, false] rfl rfl (any_of HT_.out (by kernel_rfl)) (fun _ _ _ h => h) (Or.inl ⟨by rfl, ?_⟩) ?_ ?_
          rotate_left
          · intro w'
            go_simp
            with_reducible rfl
          rotate_left
          · simp only [Act.put, List.setIfInBounds_toArray, List.set_cons_zero, List.set_cons_succ, i64_w, i32_w]
            rfl
          refine pure_ (i := 1) (N := some 178) (v := ?_) (a' := ?_) #[true, true, false, false, false, false, false, false, false, false, false, false, false, false, false, false, false, false, false, false] rfl rfl (any_of HT_.out (by kernel_rfl)) (fun _ _ _ h => h) (Or.inl ⟨by rfl, ?_⟩) ?_ ?_
          rotate_left
          · intro w'
            go_simp
            with_reducible rfl
          rotate_left
          · simp only [Act.put, List.setIfInBounds_toArray, List.set_cons_zero, List.set_cons_succ, i64_w, i32_w]
            rfl
          refine pure_ (i := 2) (N := some 179) (v := ?_) (a' := ?_) #[true, true, true, false, false, false, false, false, false, false, false, false, false, false, false, false, false, false, false, false] rfl rfl (any_of HT_.out (by kernel_rfl)) (fun _ _ _ h => h) (Or.inl ⟨by rfl, ?_⟩) ?_ ?_
          rotate_left
          · intro w'
            go_simp
            with_reducible rfl
          rotate_left
          · simp only [Act.put, List.setIfInBounds_toArray, List.set_cons_zero, List.set_cons_succ, i64_w, i32_w]
            rfl
          refine pure_ (i := 3) (N := some 180) (v := ?_) (a' := ?_) #[true, true, true, true, false, false, false, false, false, false, false, false, false, false, false, false, false, false, false, false] rfl rfl (any_of HT_.out (by kernel_rfl)) (fun _ _ _ h => h) (Or.inl ⟨by rfl, ?_⟩) ?_ ?_
          rotate_left
          · intro w'
            go_simp
            with_reducible rfl
          rotate_left
          · simp only [Act.put, List.setIfInBounds_toArray, List.set_cons_zero, List.set_cons_succ, i64_w, i32_w]
            rfl
          refine pure_ (i := 4) (N := some 181) (v := ?_) (a' := ?_) #[true, true, true, true, true, false, false, false, false, false, false, false, false, false, false, false, false, false, false, false] rfl rfl (any_of HT_.out (by kernel_rfl)) (fun _ _ _ h => h) (Or.inl ⟨by rfl, ?_⟩) ?_ ?_
          rotate_left
          · intro w'
            go_simp
            with_reducible rfl
          rotate_left
          · simp only [Act.put, List.setIfInBounds_toArray, List.set_cons_zero, List.set_cons_succ, i64_w, i32_w]
            rfl
          refine pure_ (i := 5) (N := some 182) (v := ?_) (a' := ?_) #[true, true, true, true, true, true, false, false, false, false, false, false, false, false, false, false, false, false, false, false] rfl rfl (any_of HT_.out (by kernel_rfl)) (fun _ _ _ h => h) (Or.inl ⟨by rfl, ?_⟩) ?_ ?_
          rotate_left
          · intro w'
            go_simp
            with_reducible rfl
          rotate_left
          · simp only [Act.put, List.setIfInBounds_toArray, List.set_cons_zero, List.set_cons_succ, i64_w, i32_w]
            rfl
          refine pure_ (i := 6) (N := some 183) (v := ?_) (a' := ?_) #[true, true, true, true, true, true, true, false, false, false, false, false, false, false, false, false, false, false, false, false] rfl rfl (any_of HT_.out (by kernel_rfl)) (fun _ _ _ h => h) (Or.inl ⟨by rfl, ?_⟩) ?_ ?_
          rotate_left
          · intro w'
            go_simp
            with_reducible rfl
          rotate_left
          · simp only [Act.put, List.setIfInBounds_toArray, List.set_cons_zero, List.set_cons_succ, i64_w, i32_w]
            rfl
          refine pure_ (i := 7) (N := some 184) (v := ?_) (a' := ?_) #[true, true, true, true, true, true, true, true, false, false, false, false, false, false, false, false, false, false, false, false] rfl rfl (any_of HT_.out (by kernel_rfl)) (fun _ _ _ h => h) (Or.inl ⟨by rfl, ?_⟩) ?_ ?_
          rotate_left
          · intro w'
            go_simp
            with_reducible rfl
          rotate_left
          · simp only [Act.put, List.setIfInBounds_toArray, List.set_cons_zero, List.set_cons_succ, i64_w, i32_w]
            rfl
          refine pure_ (i := 8) (N := some 185) (v := ?_) (a' := ?_) #[true, true, true, true, true, true, true, true, true, false, false, false, false, false, false, false, false, false, false, false] rfl rfl (any_of HT_.out (by kernel_rfl)) (fun _ _ _ h => h) (Or.inl ⟨by rfl, ?_⟩) ?_ ?_
          rotate_left
          · intro w'
            go_simp
            with_reducible rfl
          rotate_left
          · simp only [Act.put, List.setIfInBounds_toArray, List.set_cons_zero, List.set_cons_succ, i64_w, i32_w]
            rfl
          refine pure_ (i := 9) (N := some 186) (v := ?_) (a' := ?_) #[true, true, true, true, true, true, true, true, true, true, false, false, false, false, false, false, false, false, false, false] rfl rfl (any_of HT_.out (by kernel_rfl)) (fun _ _ _ h => h) (Or.inl ⟨by rfl, ?_⟩) ?_ ?_
          rotate_left
          · intro w'
            go_simp
            with_reducible rfl
          rotate_left
          · simp only [Act.put, List.setIfInBounds_toArray, List.set_cons_zero, List.set_cons_succ, i64_w, i32_w]
            rfl
          refine pure_ (i := 11) (N := some 188) (v := ?_) (a' := ?_) #[true, true, true, true, true, true, true, true, true, true, false, true, false, false, false, false, false, false, false, false] rfl rfl (any_of HT_.out (by kernel_rfl)) (fun _ _ _ h => h) (Or.inl ⟨by rfl, ?_⟩) ?_ ?_
          rotate_left
          · intro w'
            go_simp
            with_reducible rfl
          rotate_left
          · simp only [Act.put, List.setIfInBounds_toArray, List.set_cons_zero, List.set_cons_succ, i64_w, i32_w]
            rfl
          refine take_ (i := 12) (N := some 189) (v := ?_) (a' := ?_) #[true, true, true, true, true, true, true, true, true, true, false, true, true, false, false, false, false, false, false, false] rfl rfl (take_ofW HT_.out HW_.out (by kernel_rfl)) (fun _ _ _ h => h) (Or.inl ⟨by rfl, ?_⟩) hHeld ?_ ?_
          rotate_left
          · intro w' s0
            go_simp
            with_reducible rfl
          rotate_left
          · simp only [Act.put, List.setIfInBounds_toArray, List.set_cons_zero, List.set_cons_succ, i64_w, i32_w]
            rfl
          refine one_ (i := 10) (N := some 187) #[true, true, true, true, true, true, true, true, true, true, true, true, true, false, false, false, false, false, false, false] rfl rfl (one_of HT_.out (by kernel_rfl)) (by decide) (fun K hK => ?_)
          refine goes_ Tryd.func10 (by kernel_rfl) rfl #[.slice Ar l.length cr] (by rfl) rfl rfl (by (try simp only [List.map_toArray, List.map_cons, List.map_nil]); first | done | rfl | (simp only []; rfl)) ?_
          with_reducible refine (toR_c _ _ l _ HWD.out.u hcr (by omega)).mono ?_
          rintro e w10 ⟨A10, c10, rfl, hc10, hC10, hb10⟩
          have HJ10 := Aside0.mk (HWD.out.below hb10)
          have HC10 := Aside0.mk hC10
          clear hb10 hC10
          refine ⟨_, rfl, ?_⟩
          refine hK.out _ _ (HJ10.out.carry.box.c0) (fun hHeld => ?_)
          clear hK K
          refine norm_ (a' := ?_) ?_ ?_
          rotate_left
          · show Act.put _ (some 187) _ = _
            simp only [Act.put, List.setIfInBounds_toArray, List.set_cons_zero, List.set_cons_succ, i64_w, i32_w]
            rfl
          refine last_ (i := 13) (N := some 190) #[true, true, true, true, true, true, true, true, true, true, true, true, true, true, false, false, false, false, false, false] rfl rfl (one_of HT_.out (by kernel_rfl)) (by decide) (fun K hK => ?_)
          refine goes_ Tryd.func10 (by kernel_rfl) rfl #[.slice A l.length c] (by rfl) rfl rfl (by (try simp only [List.map_toArray, List.map_cons, List.map_nil]); first | done | rfl | (simp only []; rfl)) ?_
          with_reducible refine (toR_c A c l _ (HTL.out _ HJ10.out.carry.box.low) HTC.out (by omega)).mono ?_
          rintro e w13 ⟨A13, c13, rfl, hc13, hC13, hb13⟩
          have HJ13 := Aside0.mk (HJ10.out.below hb13)
          have HC13 := Aside0.mk hC13
          have HD10 := Aside0.mk (Kd.C_below HC10.out hb13)
          clear hb13 hC13
          refine ⟨_, rfl, ?_⟩
          refine hK.out _ _ ?_
          clear hK K
          refine norm_ (a' := ?_) ?_ ?_
          rotate_left
          · show Act.put _ (some 190) _ = _
            simp only [Act.put, List.setIfInBounds_toArray, List.set_cons_zero, List.set_cons_succ, i64_w, i32_w]
            rfl
          refine last_ (i := 14) (N := some 191) #[true, true, true, true, true, true, true, true, true, true, true, true, true, true, true, false, false, false, false, false] rfl rfl (one_of HT_.out (by kernel_rfl)) (by decide) (fun K hK => ?_)
          refine goes_ Tryd.func11 (by kernel_rfl) rfl #[.slice A10 l.length c10, .slice A13 l.length c13] (by rfl) rfl rfl (by (try simp only [List.map_toArray, List.map_cons, List.map_nil]); first | done | rfl | (simp only []; rfl)) ?_
          with_reducible refine (same_c A10 c10 A13 c13 l _ HD10.out hc10 HC13.out hc13 (by omega)).mono ?_
          rintro e w14 ⟨rfl, hb14⟩
          have HJ14 := Aside0.mk (HJ13.out.below hb14)
          clear hb14
          refine ⟨_, rfl, ?_⟩
          refine hK.out _ _ ?_
          clear hK K
          refine norm_ (a' := ?_) ?_ ?_
          rotate_left
          · show Act.put _ (some 191) _ = _
            simp only [Act.put, List.setIfInBounds_toArray, List.set_cons_zero, List.set_cons_succ, i64_w, i32_w]
            rfl
          refine pure_ (i := 15) (N := some 192) (v := ?_) (a' := ?_) #[true, true, true, true, true, true, true, true, true, true, true, true, true, true, true, true, false, false, false, false] rfl rfl (any_of HT_.out (by kernel_rfl)) (fun _ _ _ h => h) (Or.inl ⟨by rfl, ?_⟩) ?_ ?_
          rotate_left
          · intro w'
            go_simp
            with_reducible rfl
          rotate_left
          · simp only [Act.put, List.setIfInBounds_toArray, List.set_cons_zero, List.set_cons_succ, i64_w, i32_w]
            rfl
          refine pure_ (i := 16) (N := some 193) (v := ?_) (a' := ?_) #[true, true, true, true, true, true, true, true, true, true, true, true, true, true, true, true, true, false, false, false] rfl rfl (any_of HT_.out (by kernel_rfl)) (fun _ _ _ h => h) (Or.inl ⟨by rfl, ?_⟩) ?_ ?_
          rotate_left
          · intro w'
            go_simp
            with_reducible rfl
          rotate_left
          · simp only [Act.put, List.setIfInBounds_toArray, List.set_cons_zero, List.set_cons_succ, i64_w, i32_w]
            rfl
          refine last_ (i := 17) (N := some 194) #[true, true, true, true, true, true, true, true, true, true, true, true, true, true, true, true, true, true, false, false] rfl rfl (one_of HT_.out (by kernel_rfl)) (by decide) (fun K hK => ?_)
          refine goes_ Tryd.func6 (by kernel_rfl) rfl #[] (by rfl) rfl rfl (by (try simp only [List.map_toArray, List.map_cons, List.map_nil]); first | done | rfl | (simp only []; rfl)) ?_
          with_reducible refine (sane_c _).mono ?_
          rintro e w17 ⟨rfl, hb17⟩
          have HJ17 := Aside0.mk (HJ14.out.below hb17)
          clear hb17
          refine ⟨_, rfl, ?_⟩
          refine hK.out _ _ ?_
          clear hK K
          refine norm_ (a' := ?_) ?_ ?_
          rotate_left
          · show Act.put _ (some 194) _ = _
            simp only [Act.put, List.setIfInBounds_toArray, List.set_cons_zero, List.set_cons_succ, i64_w, i32_w]
            rfl
          refine pure_ (i := 18) (N := some 195) (v := ?_) (a' := ?_) #[true, true, true, true, true, true, true, true, true, true, true, true, true, true, true, true, true, true, true, false] rfl rfl (any_of HT_.out (by kernel_rfl)) (fun _ _ _ h => h) (Or.inl ⟨by rfl, ?_⟩) ?_ ?_
          rotate_left
          · intro w'
            go_simp
            with_reducible rfl
          rotate_left
          · simp only [Act.put, List.setIfInBounds_toArray, List.set_cons_zero, List.set_cons_succ, i64_w, i32_w]
            rfl
          refine pure_ (i := 19) (N := some 2) (v := ?_) (a' := ?_) #[true, true, true, true, true, true, true, true, true, true, true, true, true, true, true, true, true, true, true, true] rfl rfl (any_of HT_.out (by kernel_rfl)) (fun _ _ _ h => h) (Or.inl ⟨by rfl, ?_⟩) ?_ ?_
          rotate_left
          · intro w'
            go_simp
            with_reducible rfl
          rotate_left
          · simp only [Act.put, List.setIfInBounds_toArray, List.set_cons_zero, List.set_cons_succ, i64_w, i32_w]
            rfl
          refine done_ (done_of HT_.out (by kernel_rfl)) ?_
          go_wp2
          go_ret
          exact ⟨rfl, HJ17.out.carry.box.low⟩
        · have h := HD.out
          rw [if_neg (by assumption), hdl, show j * Kd.string.sz = j from Nat.mul_one j] at h
          refine (strs_c Ar0 cr0 (A1.map (fun x => x.add j)) (c1 - j) (P.length - j) (P.drop j) w7 hdl HREST.out hcr0 h (by omega) (by omega)).mono ?_
          clear h HD
          rintro e w8 ⟨rfl, hb8⟩
          have HI8b := Aside0.mk (HI8.out.below hb8)
          have HREST8 := Aside0.mk (Kd.C_below HREST.out hb8)
          clear hb8 HI8 HREST
          have HTK := Aside0.mk (show ∀ w, Below w8.heap.size w8 w → Kd.C Kd.string w A1 j (P.take j) from fun w h => by have := Kd.C_take (Kd.C_below HI8b.out.parts h) hjl; rwa [hTl] at this)
          go_wp2_with (first
            | ((with_reducible refine gate_dst (N := 166) rfl ?_); refine Kd.R_lit Kd.string w8.heap.size 9 ?hg (N := 166) ?hd (xs := ([] : List ByteArray)) (inner := []) (ok := fun _ => True) (okp := fun _ => True) ?hr ?hp (fun _ hk => hk) trivial (Below.refl _ _) (Nat.le_refl _) (by simp) ?_; (case hd => rfl); (case hg => rfl); (case hr => first | (go_simp; done) | (go_simp; rfl)); (case hp => exact (Reps.none _ _)); intro v1 x1 ho hb _ _; have HOa := Aside0.mk ho; have HBa := Aside0.mk hb; clear ho hb)
            | ((with_reducible refine gate_builtin (b := .append) (xs := #[.tmp 166, .tmp 169]) rfl ?_); at_builtin; refine Kd.R_append_rows Kd.string (Rr := Kd.string.K x1) (w0 := w8) w8.heap.size rfl (.tmp 166) (.tmp 169) 22 9 (.string ⟨#[]⟩) 16 rfl Tryd.underlying22 (by kernel_rfl) rfl (by decide) (by omega) v1 [] (P.take j) _ _ _ (fun _ => True) (fun _ => False) rfl rfl HOa.out (HTK.out _ HBa.out) (fun _ _ h => h) (fun _ h => h.elim) (fun _ _ => trivial) HBa.out HBa.out.size (by simp only [List.length_nil]; omega) ?_; intro v2 x2 ho hb _ _; rw [List.nil_append] at ho; have HOb := Aside0.mk ho; have HBb := Aside0.mk hb; clear ho hb)
            | ((with_reducible refine gate_builtin (b := .append) (xs := #[.tmp 170, .tmp 171]) rfl ?_); at_builtin; refine Kd.R_append_rows Kd.string (Rr := Kd.string.K x2) (w0 := w8) w8.heap.size rfl (.tmp 170) (.tmp 171) 22 9 (.string ⟨#[]⟩) 16 rfl Tryd.underlying22 (by kernel_rfl) rfl (by decide) (by omega) v2 (P.take j) (P.drop j) _ _ _ (fun _ => True) (fun _ => False) rfl rfl HOb.out (Kd.C_below HREST8.out HBb.out) (fun _ _ h => h) (fun _ h => h.elim) (fun _ _ => trivial) HBb.out HBb.out.size (by rw [hTl]; omega) ?_; intro v3 x3 ho hb _ _; rw [List.take_append_drop] at ho; obtain ⟨A3, c3, hv3, hc3, hC3⟩ := Kd.R_reads ho; subst hv3; have HC3 := Aside0.mk hC3; have HBc := Aside0.mk hb; clear ho hb hC3))
          have HI8c := Aside0.mk (CarryIn.below HI8b.out HBc.out)
          have CJ := Aside0.mk (Join_c A3 c3 P x3 (HT.out.below HI8c.out.box.low) HC3.out hc3 (by omega) (by have := HPO.out.small P.length; rw [List.take_length] at this; omega))
          rw [HPO.out.whole] at CJ
          clear HOa HBa HOb HBb HBc HTK HREST8 HI8b
          refine CJ.out.mono ?_
          rintro e w9 hJ
          obtain ⟨v9, rfl, hr9, hb9⟩ : ∃ v9, e = .returned (.tuple #[v9, .int .i64 P.length, .int .i64 0]) ∧ Kd.R k46 46 w9 x3.heap.size (fun _ => True) v9 l ∧ Below x3.heap.size x3 w9 := by
            rcases hJ with ⟨h, _⟩ | ⟨out, v9, h1, h2, h3, h4⟩
            · cases h
            · injection h1 with h1
              subst h1
              exact ⟨v9, h2, h3, h4⟩
          obtain ⟨Ar, cr, rfl, hcr, hCr⟩ := Kd.R_reads hr9
          have HI9 := Aside0.mk (show JoinedIn W w9 A c l n tk A1 P Ar l from ⟨HI8c.out.below hb9, hCr⟩)
          have HTL := Aside0.mk (show ∀ w, Below W.heap.size W w → Kd.C k46 w A l.length l from fun w h => Kd.C_below HR.out h)
          have HTC := Aside0.mk hc
          have hz0 : w9.drew.cell? ⟨W.heap.size, 0, none⟩ = some (.slice A l.length c) := HI9.out.carry.box.c0
          clear hr9 hb9 hCr CJ hJ HI8c HC3
          go_wp2_with fail
          refine start_ (n := 20) (S := fun w' => w'.cell? ⟨W.heap.size, 0, none⟩ = some (.slice A l.length c)) (ds := [13, 14, 17]) #[false, false, false, false, false, false, false, false, false, false, false, false, false, false, false, false, false, false, false, false] (by kernel_rfl) rfl rfl (hz0) (fun hHeld => ?_)
          refine with_tabW Car.tab22 Car.bits22 (fun HT_ HW_ => ?_)
          have HWD := Aside0.mk (HI9.out.below ((Below.refl _ w9).drew))
          generalize w9.drew = wd at HWD hHeld ⊢
          refine pure_ (i := 0) (N := some 177) (v := ?_) (a' := ?_) #[true, false, false, false, false, false, false, false, false, false, false, false, false, false, false, false, false, false, false, false] rfl rfl (any_of HT_.out (by kernel_rfl)) (fun _ _ _ h => h) (Or.inl ⟨by rfl, ?_⟩) ?_ ?_
          rotate_left
          · intro w'
            go_simp
            with_reducible rfl
          rotate_left
          · simp only [Act.put, List.setIfInBounds_toArray, List.set_cons_zero, List.set_cons_succ, i64_w, i32_w]
            rfl
          refine pure_ (i := 1) (N := some 178) (v := ?_) (a' := ?_) #[true, true, false, false, false, false, false, false, false, false, false, false, false, false, false, false, false, false, false, false] rfl rfl (any_of HT_.out (by kernel_rfl)) (fun _ _ _ h => h) (Or.inl ⟨by rfl, ?_⟩) ?_ ?_
          rotate_left
          · intro w'
            go_simp
            with_reducible rfl
          rotate_left
          · simp only [Act.put, List.setIfInBounds_toArray, List.set_cons_zero, List.set_cons_succ, i64_w, i32_w]
            rfl
          refine pure_ (i := 2) (N := some 179) (v := ?_) (a' := ?_) #[true, true, true, false, false, false, false, false, false, false, false, false, false, false, false, false, false, false, false, false] rfl rfl (any_of HT_.out (by kernel_rfl)) (fun _ _ _ h => h) (Or.inl ⟨by rfl, ?_⟩) ?_ ?_
          rotate_left
          · intro w'
            go_simp
            with_reducible rfl
          rotate_left
          · simp only [Act.put, List.setIfInBounds_toArray, List.set_cons_zero, List.set_cons_succ, i64_w, i32_w]
            rfl
          refine pure_ (i := 3) (N := some 180) (v := ?_) (a' := ?_) #[true, true, true, true, false, false, false, false, false, false, false, false, false, false, false, false, false, false, false, false] rfl rfl (any_of HT_.out (by kernel_rfl)) (fun _ _ _ h => h) (Or.inl ⟨by rfl, ?_⟩) ?_ ?_
          rotate_left
          · intro w'
            go_simp
            with_reducible rfl
          rotate_left
          · simp only [Act.put, List.setIfInBounds_toArray, List.set_cons_zero, List.set_cons_succ, i64_w, i32_w]
            rfl
          refine pure_ (i := 4) (N := some 181) (v := ?_) (a' := ?_) #[true, true, true, true, true, false, false, false, false, false, false, false, false, false, false, false, false, false, false, false] rfl rfl (any_of HT_.out (by kernel_rfl)) (fun _ _ _ h => h) (Or.inl ⟨by rfl, ?_⟩) ?_ ?_
          rotate_left
          · intro w'
            go_simp
            with_reducible rfl
          rotate_left
          · simp only [Act.put, List.setIfInBounds_toArray, List.set_cons_zero, List.set_cons_succ, i64_w, i32_w]
            rfl
          refine pure_ (i := 5) (N := some 182) (v := ?_) (a' := ?_) #[true, true, true, true, true, true, false, false, false, false, false, false, false, false, false, false, false, false, false, false] rfl rfl (any_of HT_.out (by kernel_rfl)) (fun _ _ _ h => h) (Or.inl ⟨by rfl, ?_⟩) ?_ ?_
          rotate_left
          · intro w'
            go_simp
            with_reducible rfl
          rotate_left
          · simp only [Act.put, List.setIfInBounds_toArray, List.set_cons_zero, List.set_cons_succ, i64_w, i32_w]
            rfl
          refine pure_ (i := 6) (N := some 183) (v := ?_) (a' := ?_) #[true, true, true, true, true, true, true, false, false, false, false, false, false, false, false, false, false, false, false, false] rfl rfl (any_of HT_.out (by kernel_rfl)) (fun _ _ _ h => h) (Or.inl ⟨by rfl, ?_⟩) ?_ ?_
          rotate_left
          · intro w'
            go_simp
            with_reducible rfl
          rotate_left
          · simp only [Act.put, List.setIfInBounds_toArray, List.set_cons_zero, List.set_cons_succ, i64_w, i32_w]
            rfl
          refine pure_ (i := 7) (N := some 184) (v := ?_) (a' := ?_) #[true, true, true, true, true, true, true, true, false, false, false, false, false, false, false, false, false, false, false, false] rfl rfl (any_of HT_.out (by kernel_rfl)) (fun _ _ _ h => h) (Or.inl ⟨by rfl, ?_⟩) ?_ ?_
          rotate_left
          · intro w'
            go_simp
            with_reducible rfl
          rotate_left
          · simp only [Act.put, List.setIfInBounds_toArray, List.set_cons_zero, List.set_cons_succ, i64_w, i32_w]
            rfl
          refine pure_ (i := 8) (N := some 185) (v := ?_) (a' := ?_) #[true, true, true, true, true, true, true, true, true, false, false, false, false, false, false, false, false, false, false, false] rfl rfl (any_of HT_.out (by kernel_rfl)) (fun _ _ _ h => h) (Or.inl ⟨by rfl, ?_⟩) ?_ ?_
          rotate_left
          · intro w'
            go_simp
            with_reducible rfl
          rotate_left
          · simp only [Act.put, List.setIfInBounds_toArray, List.set_cons_zero, List.set_cons_succ, i64_w, i32_w]
            rfl
          refine pure_ (i := 9) (N := some 186) (v := ?_) (a' := ?_) #[true, true, true, true, true, true, true, true, true, true, false, false, false, false, false, false, false, false, false, false] rfl rfl (any_of HT_.out (by kernel_rfl)) (fun _ _ _ h => h) (Or.inl ⟨by rfl, ?_⟩) ?_ ?_
          rotate_left
          · intro w'
            go_simp
            with_reducible rfl
          rotate_left
          · simp only [Act.put, List.setIfInBounds_toArray, List.set_cons_zero, List.set_cons_succ, i64_w, i32_w]
            rfl
          refine pure_ (i := 11) (N := some 188) (v := ?_) (a' := ?_) #[true, true, true, true, true, true, true, true, true, true, false, true, false, false, false, false, false, false, false, false] rfl rfl (any_of HT_.out (by kernel_rfl)) (fun _ _ _ h => h) (Or.inl ⟨by rfl, ?_⟩) ?_ ?_
          rotate_left
          · intro w'
            go_simp
            with_reducible rfl
          rotate_left
          · simp only [Act.put, List.setIfInBounds_toArray, List.set_cons_zero, List.set_cons_succ, i64_w, i32_w]
            rfl
          refine take_ (i := 12) (N := some 189) (v := ?_) (a' := ?_) #[true, true, true, true, true, true, true, true, true, true, false, true, true, false, false, false, false, false, false, false] rfl rfl (take_ofW HT_.out HW_.out (by kernel_rfl)) (fun _ _ _ h => h) (Or.inl ⟨by rfl, ?_⟩) hHeld ?_ ?_
          rotate_left
          · intro w' s0
            go_simp
            with_reducible rfl
          rotate_left
          · simp only [Act.put, List.setIfInBounds_toArray, List.set_cons_zero, List.set_cons_succ, i64_w, i32_w]
            rfl
          refine one_ (i := 10) (N := some 187) #[true, true, true, true, true, true, true, true, true, true, true, true, true, false, false, false, false, false, false, false] rfl rfl (one_of HT_.out (by kernel_rfl)) (by decide) (fun K hK => ?_)
          refine goes_ Tryd.func10 (by kernel_rfl) rfl #[.slice Ar l.length cr] (by rfl) rfl rfl (by (try simp only [List.map_toArray, List.map_cons, List.map_nil]); first | done | rfl | (simp only []; rfl)) ?_
          with_reducible refine (toR_c _ _ l _ HWD.out.u hcr (by omega)).mono ?_
          rintro e w10 ⟨A10, c10, rfl, hc10, hC10, hb10⟩
          have HJ10 := Aside0.mk (HWD.out.below hb10)
          have HC10 := Aside0.mk hC10
          clear hb10 hC10
          refine ⟨_, rfl, ?_⟩
          refine hK.out _ _ (HJ10.out.carry.box.c0) (fun hHeld => ?_)
          clear hK K
          refine norm_ (a' := ?_) ?_ ?_
          rotate_left
          · show Act.put _ (some 187) _ = _
            simp only [Act.put, List.setIfInBounds_toArray, List.set_cons_zero, List.set_cons_succ, i64_w, i32_w]
            rfl
          refine last_ (i := 13) (N := some 190) #[true, true, true, true, true, true, true, true, true, true, true, true, true, true, false, false, false, false, false, false] rfl rfl (one_of HT_.out (by kernel_rfl)) (by decide) (fun K hK => ?_)
          refine goes_ Tryd.func10 (by kernel_rfl) rfl #[.slice A l.length c] (by rfl) rfl rfl (by (try simp only [List.map_toArray, List.map_cons, List.map_nil]); first | done | rfl | (simp only []; rfl)) ?_
          with_reducible refine (toR_c A c l _ (HTL.out _ HJ10.out.carry.box.low) HTC.out (by omega)).mono ?_
          rintro e w13 ⟨A13, c13, rfl, hc13, hC13, hb13⟩
          have HJ13 := Aside0.mk (HJ10.out.below hb13)
          have HC13 := Aside0.mk hC13
          have HD10 := Aside0.mk (Kd.C_below HC10.out hb13)
          clear hb13 hC13
          refine ⟨_, rfl, ?_⟩
          refine hK.out _ _ ?_
          clear hK K
          refine norm_ (a' := ?_) ?_ ?_
          rotate_left
          · show Act.put _ (some 190) _ = _
            simp only [Act.put, List.setIfInBounds_toArray, List.set_cons_zero, List.set_cons_succ, i64_w, i32_w]
            rfl
          refine last_ (i := 14) (N := some 191) #[true, true, true, true, true, true, true, true, true, true, true, true, true, true, true, false, false, false, false, false] rfl rfl (one_of HT_.out (by kernel_rfl)) (by decide) (fun K hK => ?_)
          refine goes_ Tryd.func11 (by kernel_rfl) rfl #[.slice A10 l.length c10, .slice A13 l.length c13] (by rfl) rfl rfl (by (try simp only [List.map_toArray, List.map_cons, List.map_nil]); first | done | rfl | (simp only []; rfl)) ?_
          with_reducible refine (same_c A10 c10 A13 c13 l _ HD10.out hc10 HC13.out hc13 (by omega)).mono ?_
          rintro e w14 ⟨rfl, hb14⟩
          have HJ14 := Aside0.mk (HJ13.out.below hb14)
          clear hb14
          refine ⟨_, rfl, ?_⟩
          refine hK.out _ _ ?_
          clear hK K
          refine norm_ (a' := ?_) ?_ ?_
          rotate_left
          · show Act.put _ (some 191) _ = _
            simp only [Act.put, List.setIfInBounds_toArray, List.set_cons_zero, List.set_cons_succ, i64_w, i32_w]
            rfl
          refine pure_ (i := 15) (N := some 192) (v := ?_) (a' := ?_) #[true, true, true, true, true, true, true, true, true, true, true, true, true, true, true, true, false, false, false, false] rfl rfl (any_of HT_.out (by kernel_rfl)) (fun _ _ _ h => h) (Or.inl ⟨by rfl, ?_⟩) ?_ ?_
          rotate_left
          · intro w'
            go_simp
            with_reducible rfl
          rotate_left
          · simp only [Act.put, List.setIfInBounds_toArray, List.set_cons_zero, List.set_cons_succ, i64_w, i32_w]
            rfl
          refine pure_ (i := 16) (N := some 193) (v := ?_) (a' := ?_) #[true, true, true, true, true, true, true, true, true, true, true, true, true, true, true, true, true, false, false, false] rfl rfl (any_of HT_.out (by kernel_rfl)) (fun _ _ _ h => h) (Or.inl ⟨by rfl, ?_⟩) ?_ ?_
          rotate_left
          · intro w'
            go_simp
            with_reducible rfl
          rotate_left
          · simp only [Act.put, List.setIfInBounds_toArray, List.set_cons_zero, List.set_cons_succ, i64_w, i32_w]
            rfl
          refine last_ (i := 17) (N := some 194) #[true, true, true, true, true, true, true, true, true, true, true, true, true, true, true, true, true, true, false, false] rfl rfl (one_of HT_.out (by kernel_rfl)) (by decide) (fun K hK => ?_)
          refine goes_ Tryd.func6 (by kernel_rfl) rfl #[] (by rfl) rfl rfl (by (try simp only [List.map_toArray, List.map_cons, List.map_nil]); first | done | rfl | (simp only []; rfl)) ?_
          with_reducible refine (sane_c _).mono ?_
          rintro e w17 ⟨rfl, hb17⟩
          have HJ17 := Aside0.mk (HJ14.out.below hb17)
          clear hb17
          refine ⟨_, rfl, ?_⟩
          refine hK.out _ _ ?_
          clear hK K
          refine norm_ (a' := ?_) ?_ ?_
          rotate_left
          · show Act.put _ (some 194) _ = _
            simp only [Act.put, List.setIfInBounds_toArray, List.set_cons_zero, List.set_cons_succ, i64_w, i32_w]
            rfl
          refine pure_ (i := 18) (N := some 195) (v := ?_) (a' := ?_) #[true, true, true, true, true, true, true, true, true, true, true, true, true, true, true, true, true, true, true, false] rfl rfl (any_of HT_.out (by kernel_rfl)) (fun _ _ _ h => h) (Or.inl ⟨by rfl, ?_⟩) ?_ ?_
          rotate_left
          · intro w'
            go_simp
            with_reducible rfl
          rotate_left
          · simp only [Act.put, List.setIfInBounds_toArray, List.set_cons_zero, List.set_cons_succ, i64_w, i32_w]
            rfl
          refine pure_ (i := 19) (N := some 2) (v := ?_) (a' := ?_) #[true, true, true, true, true, true, true, true, true, true, true, true, true, true, true, true, true, true, true, true] rfl rfl (any_of HT_.out (by kernel_rfl)) (fun _ _ _ h => h) (Or.inl ⟨by rfl, ?_⟩) ?_ ?_
          rotate_left
          · intro w'
            go_simp
            with_reducible rfl
          rotate_left
          · simp only [Act.put, List.setIfInBounds_toArray, List.set_cons_zero, List.set_cons_succ, i64_w, i32_w]
            rfl
          refine done_ (done_of HT_.out (by kernel_rfl)) ?_
          go_wp2
          go_ret
          exact ⟨rfl, HJ17.out.carry.box.low⟩
end Go.Proofs.YtehlmkgldcfciaaDoor.Files
/- The kind of a CarryCase. -/
set_option linter.unusedVariables false
set_option linter.unusedSimpArgs false
namespace Go.Proofs.YtehlmkgldcfciaaDoor.Files
open Go.Proofs.YtehlmkgldcfciaaDoor.Common Go.RowKit Go.Lib Go.Shelf Go.Proofs.YtehlmkgldcfciaaDoor.F Go.Proofs.YtehlmkgldcfciaaDoorW.PrintWords Go.Proofs.YtehlmkgldcfciaaDoorW.PrintLast Go.Proofs.YtehlmkgldcfciaaDoorW.PrintMore
structure S31 where
  f0 : List S46
  f1 : Int
  f2 : Int
def k31 : Kd S31 := Kd.iso (Kd.pair (Kd.slice 46 k46) (Kd.pair (Kd.int .i64) (Kd.int .i64))) (fun x : S31 => (x.f0, x.f1, x.f2))
theorem k31_open {w : World} {x : S31} {cs : List Value} (h : k31.K w x cs) : ∃ Ar cr, cs = [.slice Ar x.f0.length cr, .int .i64 x.f1, .int .i64 x.f2] ∧ x.f0.length ≤ cr ∧ Kd.C k46 w Ar x.f0.length x.f0 := by
  obtain ⟨_, _, rfl, ⟨Ar, cr, rfl, hl, hr⟩, _, _, rfl, rfl, rfl⟩ := h
  exact ⟨Ar, cr, rfl, hl, hr⟩
end Go.Proofs.YtehlmkgldcfciaaDoor.Files
