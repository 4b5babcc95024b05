/- The parts of this proof that lie in one text. -/
import Derived.Test.YtehlmkgldcfciaaGreatGN5
import Derived.Test.YtehlmkgldcfciaaGreatGN1
/- The reference's store: how it lies in memory; what it finds. -/
set_option linter.unusedVariables false
set_option linter.unusedSimpArgs false
namespace Go.Proofs.YtehlmkgldcfciaaGreat.Files
open Go.Proofs.YtehlmkgldcfciaaGreat.Common Go.Maps Go.ChangeMaps Go.WideMaps Go.Proofs.YtehlmkgldcfciaaGreat.F
open Go.RowKit Go.Proofs.YtehlmkgldcfciaaGreatW.PrintWords Go.Proofs.YtehlmkgldcfciaaGreatW.PrintLast Go.Proofs.YtehlmkgldcfciaaGreatW.PrintMore
def toU (x : S29) : S62 := ⟨x.f0, x.f1, x.f2⟩
def toRu (x : S100) : S129 := ⟨x.f0, x.f1⟩
def toO (p : ByteArray × (Int × Int)) : S95 := ⟨p.1, p.2.1, p.2.2⟩
def toR (f : AF) : S85 := ⟨⟨f.F.name, f.F.kind, f.F.perm, f.F.owner, f.F.last, f.F.ch, f.F.rd, f.rules.map toRu⟩, f.units.map toU, f.users.map toO⟩
def rows (st : Fs) : List S85 := st.map toR
theorem rows_len (st : Fs) : (rows st).length = st.length := by simp [rows]
theorem rd_rows (st : Fs) (i : Nat) (f : AF) (h : st[i]? = some f) : rd_T85 (rows st) (i : Int) = toR f := by
  simp [rd_T85, rows, List.getElem?_map, h]
structure RParts (W : World) (ok : Nat → Prop) (rb : Nat) (st : Fs) (A : Option Addr) (c : Nat) : Prop where
  okr : ok rb
  S : W.heap[rb]? = some (.cells #[.bool true, .slice A st.length c] 46 (0, 0))
  F : Kd.R k85 85 W 0 (fun k => ok k ∧ k ≠ rb) (.slice A st.length c) (rows st)
  lt : ∀ k, ok k → k < W.heap.size
def RRep (W : World) (ok : Nat → Prop) (rb : Nat) (st : Fs) : Prop := ∃ A c, RParts W ok rb st A c
section
variable {W w' : World} {ok S : Nat → Prop} {rb c : Nat} {st : Fs} {A : Option Addr}
theorem RParts.cap (h : RParts W ok rb st A c) : st.length ≤ c ∧ Kd.C k85 W A (rows st).length (rows st) := ⟨(Kd.R_reads' h.F).2.1, (Kd.R_reads' h.F).2.2⟩
theorem RParts.C (h : RParts W ok rb st A c) : Kd.C k85 W A st.length (rows st) := by have := h.cap.2; rw [rows_len] at this; exact this
theorem RParts.c1 (h : RParts W ok rb st A c) : W.cell? ⟨rb, 1, none⟩ = some (.slice A st.length c) := (blk_cell h.S 1).trans rfl
theorem RParts.c0 (h : RParts W ok rb st A c) : W.cell? ⟨rb, 0, none⟩ = some (.bool true) := (blk_cell h.S 0).trans rfl
theorem RParts.small (h : RParts W ok rb st A c) : st.length ≤ 9223372036854775807 := h.C.2.1
theorem RParts.other (h : RParts W ok rb st A c) (hc : Chg W w' S) (hs : ∀ k, ok k → ¬ S k) : RParts w' ok rb st A c :=
  ⟨h.okr, (hc.block rb (h.lt rb h.okr) (hs rb h.okr)).trans h.S, hc.row h.F (fun k hk => hs k hk.1), fun k hk => Nat.lt_of_lt_of_le (h.lt k hk) hc.size⟩
theorem RParts.below (h : RParts W ok rb st A c) (hb : Below W.heap.size W w') : RParts w' ok rb st A c := h.other (Chg.of_below hb (fun _ => False)) (fun _ _ h => h)
theorem RRep.other (h : RRep W ok rb st) (hc : Chg W w' S) (hs : ∀ k, ok k → ¬ S k) : RRep w' ok rb st := by
  obtain ⟨A, c, h⟩ := h
  exact ⟨A, c, h.other hc hs⟩
theorem RRep.below (h : RRep W ok rb st) (hb : Below W.heap.size W w') : RRep w' ok rb st := h.other (Chg.of_below hb (fun _ => False)) (fun _ _ h => h)
end
def posI (st : Fs) (n : ByteArray) : Int := match posF st n with | some p => p.1 | none => -1
theorem find_shift (n : ByteArray) : ∀ (l : List AF) (s : Nat), ((l.zipIdx s).find? fun p => decide (p.1.F.name = n)).map (fun p => (p.2, p.1)) = (((l.zipIdx 0).find? fun p => decide (p.1.F.name = n)).map fun p => (p.2, p.1)).map fun p => (p.1 + s, p.2)
  | [], s => rfl
  | f :: l, s => by
    rw [List.zipIdx_cons, List.zipIdx_cons]
    by_cases h : f.F.name = n
    · rw [List.find?_cons_of_pos (by simp [h]), List.find?_cons_of_pos (by simp [h])]
      simp
    · rw [List.find?_cons_of_neg (by simp [h]), List.find?_cons_of_neg (by simp [h]), find_shift n l (s + 1), find_shift n l (0 + 1)]
      simp only [Option.map_map]
      congr 1
      funext p
      simp
      omega
theorem posF_cons (f : AF) (l : Fs) (n : ByteArray) : posF (f :: l) n = if f.F.name = n then some (0, f) else (posF l n).map fun p => (p.1 + 1, p.2) := by
  unfold posF
  rw [List.zipIdx_cons]
  by_cases h : f.F.name = n
  · rw [List.find?_cons_of_pos (by simp [h]), if_pos h]; rfl
  · rw [List.find?_cons_of_neg (by simp [h]), if_neg h]
    exact find_shift n l (0 + 1)
theorem posF_hit : ∀ (st : Fs) (n : ByteArray) (k : Nat) (f : AF), st[k]? = some f → f.F.name = n → (∀ (j : Nat) (g : AF), j < k → st[j]? = some g → g.F.name ≠ n) → posF st n = some (k, f)
  | [], n, k, f, h, _, _ => by simp at h
  | a :: l, n, 0, f, h, hn, _ => by
    obtain rfl : a = f := by simpa using h
    rw [posF_cons, if_pos hn]
  | a :: l, n, k + 1, f, h, hn, hb => by
    rw [posF_cons, if_neg (hb 0 a (by omega) rfl), posF_hit l n k f (by simpa using h) hn (fun j g hj hg => hb (j + 1) g (by omega) (by simpa using hg))]
    all_goals rfl
theorem posF_miss : ∀ (st : Fs) (n : ByteArray), (∀ (j : Nat) (g : AF), st[j]? = some g → g.F.name ≠ n) → posF st n = none
  | [], n, _ => rfl
  | a :: l, n, hb => by
    rw [posF_cons, if_neg (hb 0 a rfl), posF_miss l n (fun j g hg => hb (j + 1) g (by simpa using hg))]
    all_goals rfl
theorem posI_range (st : Fs) (n : ByteArray) : posI st n = -1 ∧ posF st n = none ∨ ∃ k f, posI st n = (k : Nat) ∧ posF st n = some (k, f) ∧ st[k]? = some f ∧ f.F.name = n := by
  unfold posI
  cases h : posF st n with
  | none => exact .inl ⟨rfl, rfl⟩
  | some p =>
    obtain ⟨h1, h2⟩ := posF_some (k := p.1) (f := p.2) h
    exact .inr ⟨p.1, p.2, rfl, rfl, h1, h2⟩
theorem ruser_c (u : ByteArray) (w : World) : Calls Tryz.prog 80 #[.string u] w fun e w' => e = .returned (.bool (userB u)) ∧ w = w' := by
  unfold userB
  by_cases c : 1 ≤ u.size
  · have h0 : decide (1 ≤ (u.size : Int)) = true := decide_eq_true (by omega)
    have h1 : decide (1 ≤ u.size) = true := decide_eq_true c
    have h2 : decide ((u.size : Int) ≤ 20) = decide (u.size ≤ 20) := decide_eq_decide.2 (by omega)
    go_enter Tryz.func80, Tryz.ntmps80
    go_wp2
    go_ret
    exact ⟨by simp [h1, h2], rfl⟩
  · have h0 : decide (1 ≤ (u.size : Int)) = false := decide_eq_false (by omega)
    have h1 : decide (1 ≤ u.size) = false := decide_eq_false c
    go_enter Tryz.func80, Tryz.ntmps80
    go_wp2
    go_ret
    exact ⟨by simp [h1], rfl⟩
theorem rnamed_c (u : ByteArray) (w : World) : Calls Tryz.prog 86 #[.string u] w fun e w' => e = .returned (.bool (nameB u)) ∧ w = w' := by
  unfold nameB
  by_cases c : 1 ≤ u.size
  · have h0 : decide (1 ≤ (u.size : Int)) = true := decide_eq_true (by omega)
    have h1 : decide (1 ≤ u.size) = true := decide_eq_true c
    have h2 : decide ((u.size : Int) ≤ 30) = decide (u.size ≤ 30) := decide_eq_decide.2 (by omega)
    go_enter Tryz.func86, Tryz.ntmps86
    go_wp2
    go_ret
    exact ⟨by simp [h1, h2], rfl⟩
  · have h0 : decide (1 ≤ (u.size : Int)) = false := decide_eq_false (by omega)
    have h1 : decide (1 ≤ u.size) = false := decide_eq_false c
    go_enter Tryz.func86, Tryz.ntmps86
    go_wp2
    go_ret
    exact ⟨by simp [h1], rfl⟩
theorem rset_c (n : Int) (w : World) : Calls Tryz.prog 57 #[.int .i64 n] w fun e w' => e = .returned (.bool (setB n)) ∧ w = w' := by
  unfold setB
  by_cases c : 0 ≤ n
  · have h0 : decide (0 ≤ n) = true := decide_eq_true c
    go_enter Tryz.func57, Tryz.ntmps57
    go_wp2
    go_ret
    exact ⟨by simp [h0], rfl⟩
  · have h0 : decide (0 ≤ n) = false := decide_eq_false c
    go_enter Tryz.func57, Tryz.ntmps57
    go_wp2
    go_ret
    exact ⟨by simp [h0], rfl⟩
theorem rwithin_c (a b : Int) (w : World) : Calls Tryz.prog 61 #[.int .i64 a, .int .i64 b] w fun e w' => e = .returned (.bool (decide (bits .and .i64 a b = a))) ∧ w = w' := by
  by_cases c : bits .and .i64 a b = a
  · have h0 : (bits .and .i64 a b == a) = true := by simpa using c
    rw [decide_eq_true c]
    go_enter Tryz.func61, Tryz.ntmps61
    go_wp2
    go_ret
    exact ⟨by simp [h0], rfl⟩
  · have h0 : (bits .and .i64 a b == a) = false := by simpa using c
    rw [decide_eq_false c]
    go_enter Tryz.func61, Tryz.ntmps61
    go_wp2
    go_ret
    exact ⟨by simp [h0], rfl⟩
theorem rbad_c (rb : Nat) (u n : ByteArray) (W : World) (c0 : W.cell? ⟨rb, 0, none⟩ = some (.bool true)) : Calls Tryz.prog 56 #[.pointer (some ⟨rb, 0, none⟩), .string u, .string n] W fun e w' => e = .returned (.bool (!(userB u && nameB n))) ∧ W = w' := by
  have CU := Aside0.mk (ruser_c u W)
  have CN := Aside0.mk (rnamed_c n W)
  cases hu : userB u with
  | false =>
    rw [hu] at CU
    go_enter Tryz.func56, Tryz.ntmps56
    go_wp2_with first | (go_at_call 80; refine CU.out.mono ?_; rintro e w' ⟨rfl, rfl⟩)
    go_ret
    exact ⟨by simp, rfl⟩
  | true =>
    rw [hu] at CU
    go_enter Tryz.func56, Tryz.ntmps56
    go_wp2_with first | (go_at_call 80; refine CU.out.mono ?_; rintro e w' ⟨rfl, rfl⟩) | (go_at_call 86; refine CN.out.mono ?_; rintro e w' ⟨rfl, rfl⟩)
    go_ret
    exact ⟨by simp, rfl⟩
set_option maxRecDepth 100000 in
set_option maxHeartbeats 2000000 in
theorem find_c (rb c : Nat) (ok : Nat → Prop) (st : Fs) (A : Option Addr) (n : ByteArray) (W : World) (h : RParts W ok rb st A c) :
    Calls Tryz.prog 49 #[.pointer (some ⟨rb, 0, none⟩), .string n] W fun e w' => e = .returned (.int .i64 (posI st n)) ∧ W = w' := by
  have hl := h.small
  have c1 := h.c1
  have HC := Aside0.mk h.C
  clear h
  go_enter Tryz.func49, Tryz.ntmps49
  go_wp2_with fail
  go_loopw [5] (fun s wr => ∃ k : Nat, s = .int .i64 k ∧ k ≤ st.length ∧ wr = W ∧ Aside0 (∀ (j : Nat) (g : AF), j < k → st[j]? = some g → g.F.name ≠ n)) (fun s _ => st.length - (intOf s).toNat)
  case atStart => exact ⟨0, rfl, by omega, rfl, ⟨fun j g hj _ => absurd hj (by omega)⟩⟩
  case round =>
    obtain ⟨k, rfl, hk, rfl, HB⟩ := hrel
    by_cases hlt : k < st.length
    · have hltz : (k : Int) < (st.length : Int) := by omega
      have hk0 : decide ((k : Int) < 0) = false := decide_eq_false (by omega)
      obtain ⟨ad, A7, c7, A8, c8, A9, c9, rfl, hx⟩ := at_T85 HC.out (k : Int) (by omega) (by omega)
      have x0 := hx.1
      rw [rd_rows st k st[k] (List.getElem?_eq_getElem hlt)] at x0
      have HK := Aside0.mk (List.getElem?_eq_getElem hlt)
      generalize st[k] = f at x0 HK
      have x0' : wr.cell? (ad.add (k * 10)) = some (.string f.F.name) := x0
      clear x0 hx
      by_cases he : f.F.name = n
      · have he' : (f.F.name.toList == n.toList) = true := by rw [he]; exact beq_yes _
        have HP := Aside0.mk (show posI st n = k by unfold posI; rw [posF_hit st n k f HK.out he HB.out])
        clear he
        go_wp2
        refine bodyPost_ret (v := .int .i64 (k : Int)) (by simp [results, Tryz.f49, go_sem]) rfl ?_
        exact ⟨by rw [HP.out], rfl⟩
      · have he' := beq_no he
        have HB2 := Aside0.mk (show ∀ (j : Nat) (g : AF), j < k + 1 → st[j]? = some g → g.F.name ≠ n from fun j g hj hg => by
          by_cases hjk : j = k
          · subst hjk
            rw [HK.out] at hg
            injection hg with hg
            rw [← hg]; exact he
          · exact HB.out j g (by omega) hg)
        clear he
        go_wp2_with fail
        go_roundw
        case rel => exact ⟨k + 1, by go_num, by omega, by trivial, HB2⟩
        case measure => simp [intOf]; omega
    · have hltz : ¬ (k : Int) < (st.length : Int) := by omega
      have HP := Aside0.mk (show posI st n = -1 by
        unfold posI
        rw [posF_miss st n (fun j g hg => HB.out j g (by have := (List.getElem?_eq_some_iff.1 hg).1; omega) hg)])
      go_wp2
      refine bodyPost_ret (v := .int .i64 (-1)) (by simp [results, Tryz.f49, go_sem]) rfl ?_
      exact ⟨by rw [HP.out], rfl⟩
end Go.Proofs.YtehlmkgldcfciaaGreat.Files
/- The reference's store: one file's row, read and written. -/
set_option linter.unusedVariables false
set_option linter.unusedSimpArgs false
namespace Go.Proofs.YtehlmkgldcfciaaGreat.Files
open Go.Proofs.YtehlmkgldcfciaaGreat.Common Go.Maps Go.ChangeMaps Go.WideMaps Go.Proofs.YtehlmkgldcfciaaGreat.F
open Go.RowKit Go.Proofs.YtehlmkgldcfciaaGreatW.PrintWords Go.Proofs.YtehlmkgldcfciaaGreatW.PrintLast Go.Proofs.YtehlmkgldcfciaaGreatW.PrintMore
def RowIs (f : AF) (rv uv ov : Value) : List Value := [.string f.F.name, .int .i64 f.F.kind, .int .i64 f.F.perm, .string f.F.owner, .string f.F.last, .int .i64 f.F.ch, .int .i64 f.F.rd, rv, uv, ov]
structure InR (W : World) (okI : Nat → Prop) (f : AF) (Ar : Option Addr) (cr : Nat) (Au : Option Addr) (cu : Nat) (Ao : Option Addr) (co : Nat) : Prop where
  r : k129.R 129 W 0 okI (.slice Ar f.rules.length cr) (f.rules.map toRu)
  u : k62.R 62 W 0 okI (.slice Au f.units.length cu) (f.units.map toU)
  o : k95.R 95 W 0 okI (.slice Ao f.users.length co) (f.users.map toO)
section
variable {W w' : World} {ok okI S : Nat → Prop} {rb c i g cr cu co : Nat} {st : Fs} {A Ar Au Ao : Option Addr} {f : AF}
theorem InR.step (h : InR W okI f Ar cr Au cu Ao co) (hc : Chg W w' S) (hs : ∀ k, okI k → ¬ S k) : InR w' okI f Ar cr Au cu Ao co := ⟨hc.row h.r hs, hc.row h.u hs, hc.row h.o hs⟩
theorem InR.mono {ok2 : Nat → Prop} (h : InR W okI f Ar cr Au cu Ao co) (hs : ∀ k, okI k → ok2 k) : InR W ok2 f Ar cr Au cu Ao co := ⟨Kd.R_mono h.r hs, Kd.R_mono h.u hs, Kd.R_mono h.o hs⟩
theorem InR.rC (h : InR W okI f Ar cr Au cu Ao co) : f.rules.length ≤ cr ∧ Kd.C k129 W Ar (f.rules.map toRu).length (f.rules.map toRu) := ⟨(Kd.R_reads' h.r).2.1, (Kd.R_reads' h.r).2.2⟩
theorem InR.uC (h : InR W okI f Ar cr Au cu Ao co) : f.units.length ≤ cu ∧ Kd.C k62 W Au (f.units.map toU).length (f.units.map toU) := ⟨(Kd.R_reads' h.u).2.1, (Kd.R_reads' h.u).2.2⟩
theorem InR.oC (h : InR W okI f Ar cr Au cu Ao co) : f.users.length ≤ co ∧ Kd.C k95 W Ao (f.users.map toO).length (f.users.map toO) := ⟨(Kd.R_reads' h.o).2.1, (Kd.R_reads' h.o).2.2⟩
structure RowAt (W : World) (ok : Nat → Prop) (rb : Nat) (A : Option Addr) (i g : Nat) (f : AF) (Ar : Option Addr) (cr : Nat) (Au : Option Addr) (cu : Nat) (Ao : Option Addr) (co : Nat) : Prop where
  hA : A = some ⟨g, 0, none⟩
  okg : ok g ∧ g ≠ rb
  cells : ∀ j u, (RowIs f (.slice Ar f.rules.length cr) (.slice Au f.units.length cu) (.slice Ao f.users.length co))[j]? = some u → W.cell? ⟨g, i * 10 + j, none⟩ = some u
  In : InR W (fun k => (ok k ∧ k ≠ rb) ∧ k ≠ g) f Ar cr Au cu Ao co
  fz : ∀ o, W.frozen? ⟨g, o, none⟩ = false
theorem RParts.row (h : RParts W ok rb st A c) (hi : st[i]? = some f) : ∃ g Ar cr Au cu Ao co, RowAt W ok rb A i g f Ar cr Au cu Ao co := by
  have hil : i < st.length := (List.getElem?_eq_some_iff.1 hi).1
  obtain ⟨h0, inner, ho, hl, hr⟩ := h.F
  have hx : (rows st)[i]? = some (toR f) := by simp [rows, List.getElem?_map, hi]
  have hM := hr i _ hx
  obtain ⟨v7, v8, v9, hcs, g7, g8, g9⟩ := k85_openM hM
  obtain ⟨g, hAg, hblk⟩ : ∃ g, A = some ⟨g, 0, none⟩ ∧ ∃ cur, W.heap[g]? = some (.cells cur 85 (0, 0)) := by
    rcases ho.2 with ⟨hv, hn⟩ | ⟨g, cap, cur, hv, _, hh, _⟩
    · rw [rows_len] at hn; omega
    · injection hv with hv _ _
      exact ⟨g, hv, cur, hh⟩
  subst hAg
  obtain ⟨cur, hblk⟩ := hblk
  obtain ⟨ad, cs, he, hcl, hK, hcc⟩ := Kd.C_get h.C z85 (i : Int) (by omega) (by omega)
  cases he
  obtain ⟨Ar, cr, e7⟩ := Kd.R_slice g7
  obtain ⟨Au, cu, e8⟩ := Kd.R_slice g8
  obtain ⟨Ao, co, e9⟩ := Kd.R_slice g9
  subst e7 e8 e9
  have r7 : (toR f).f0.f7.length = f.rules.length := by simp [toR]
  have r8 : (toR f).f1.length = f.units.length := by simp [toR]
  have r9 : (toR f).f2.length = f.users.length := by simp [toR]
  rw [r7] at hcs g7
  rw [r8] at hcs g8
  rw [r9] at hcs g9
  have hok : ∀ k, ((ok k ∧ k ≠ rb) ∧ some k ≠ (Value.slice (some ⟨g, 0, none⟩) st.length c).ownBlock) → (ok k ∧ k ≠ rb) ∧ k ≠ g := fun k hk => ⟨hk.1, fun e => hk.2 (by rw [e]; rfl)⟩
  refine ⟨g, Ar, cr, Au, cu, Ao, co, rfl, h0 g rfl, fun j u hj => ?_, ⟨Kd.R_mono g7 hok, Kd.R_mono g8 hok, Kd.R_mono g9 hok⟩, fun o => by simp [World.frozen?, hblk]⟩
  have hk2 : inner.length = st.length * 10 := by rw [hl, rows_len]; rfl
  have hcell : ∀ q, q < inner.length → W.cell? ⟨g, q, none⟩ = inner[q]? := fun q hq => by
    rcases ho.2 with ⟨hv, _⟩ | ⟨g', cap, cur', hv, _, hh, hnc, _, hcs2, htk⟩
    · cases hv
    · injection hv with hv1 _ hv3
      injection hv1 with hv1
      injection hv1 with hv1
      subst hv1
      have e1 : W.cell? ⟨g, q, none⟩ = cur'[q]? := blk_cell hh q
      rw [e1, ← htk, List.getElem?_take]
      rw [← htk, List.length_take] at hq
      rw [if_pos (by omega)]
      simp
  have hj10 : j < 10 := by
    have := (List.getElem?_eq_some_iff.1 hj).1
    simpa [RowIs] using this
  rw [hcell _ (by omega)]
  have h10 : (inner.drop (i * k85.sz)).take k85.sz = RowIs f (.slice Ar f.rules.length cr) (.slice Au f.units.length cu) (.slice Ao f.users.length co) := hcs
  have : k85.sz = 10 := rfl
  rw [this] at h10
  rw [← h10, List.getElem?_take, if_pos hj10, List.getElem?_drop] at hj
  exact hj
theorem RowAt.step (h : RowAt W ok rb A i g f Ar cr Au cu Ao co) (hb : Below W.heap.size W w') (hg : g < W.heap.size) : RowAt w' ok rb A i g f Ar cr Au cu Ao co :=
  ⟨h.hA, h.okg, fun j u hj => (hb.cell (p := ⟨g, i * 10 + j, none⟩) hg).trans (h.cells j u hj), h.In.step (Chg.of_below hb (fun _ => False)) (fun _ _ h => h), fun o => by rw [World.frozen?_of_block (hb.block g hg)]; exact h.fz o⟩
theorem RowAt.x (h : RowAt W ok rb A i g f Ar cr Au cu Ao co) : W.cell? ⟨g, i * 10, none⟩ = some (.string f.F.name) ∧ W.cell? ⟨g, i * 10 + 1, none⟩ = some (.int .i64 f.F.kind) ∧ W.cell? ⟨g, i * 10 + 2, none⟩ = some (.int .i64 f.F.perm) ∧
    W.cell? ⟨g, i * 10 + 3, none⟩ = some (.string f.F.owner) ∧ W.cell? ⟨g, i * 10 + 4, none⟩ = some (.string f.F.last) ∧ W.cell? ⟨g, i * 10 + 5, none⟩ = some (.int .i64 f.F.ch) ∧ W.cell? ⟨g, i * 10 + 6, none⟩ = some (.int .i64 f.F.rd) ∧
    W.cell? ⟨g, i * 10 + 7, none⟩ = some (.slice Ar f.rules.length cr) ∧ W.cell? ⟨g, i * 10 + 8, none⟩ = some (.slice Au f.units.length cu) ∧ W.cell? ⟨g, i * 10 + 9, none⟩ = some (.slice Ao f.users.length co) :=
  ⟨h.cells 0 _ rfl, h.cells 1 _ rfl, h.cells 2 _ rfl, h.cells 3 _ rfl, h.cells 4 _ rfl, h.cells 5 _ rfl, h.cells 6 _ rfl, h.cells 7 _ rfl, h.cells 8 _ rfl, h.cells 9 _ rfl⟩
theorem RParts.glt (h : RParts W ok rb st A c) (T : RowAt W ok rb A i g f Ar cr Au cu Ao co) : g < W.heap.size := h.lt g T.okg.1
theorem RParts.set (h : RParts W ok rb st A c) (T : RowAt W ok rb A i g f Ar cr Au cu Ao co) (hi : st[i]? = some f) (j : Nat) (u : Value) {f' : AF} {Ar' Au' Ao' : Option Addr} {cr' cu' co' : Nat}
    (hj : j < 10) (hc : (RowIs f (.slice Ar f.rules.length cr) (.slice Au f.units.length cu) (.slice Ao f.users.length co)).set j u = RowIs f' (.slice Ar' f'.rules.length cr') (.slice Au' f'.units.length cu') (.slice Ao' f'.users.length co'))
    (hI : InR W (fun k => (ok k ∧ k ≠ rb) ∧ k ≠ g) f' Ar' cr' Au' cu' Ao' co') :
    RParts (W.setCell ⟨g, i * 10 + j, none⟩ u) ok rb (st.set i f') A c ∧ Chg W (W.setCell ⟨g, i * 10 + j, none⟩ u) (fun k => k = g) := by
  have hil : i < st.length := (List.getElem?_eq_some_iff.1 hi).1
  have hA := T.hA
  subst hA
  have hM : k85.M W 0 (fun k => (ok k ∧ k ≠ rb) ∧ k ≠ g) (toR f') (RowIs f' (.slice Ar' f'.rules.length cr') (.slice Au' f'.units.length cu') (.slice Ao' f'.users.length co')) :=
    k85_mkM W 0 _ (toR f') hI.r hI.u hI.o
  have hlen : (RowIs f (.slice Ar f.rules.length cr) (.slice Au f.units.length cu) (.slice Ao f.users.length co)).length = k85.sz := rfl
  have hset : ∀ (l : List Value), j < l.length → l.take j ++ [u] ++ l.drop (j + [u].length) = l.set j u := fun l hl => by
    rw [List.set_eq_take_append_cons_drop, if_pos hl]
    simp
  obtain ⟨h1, h2⟩ := Kd.R_seg (okp := fun k => (ok k ∧ k ≠ rb) ∧ k ≠ g) h.F (i : Int) (by omega) (by omega) (c := RowIs f (.slice Ar f.rules.length cr) (.slice Au f.units.length cu) (.slice Ao f.users.length co)) (seg := [u]) (j := j) hlen
    (fun j' u' hj' => by rw [Int.toNat_natCast]; exact T.cells j' u' hj') (by show j + 1 ≤ 10; omega) (x' := toR f') (by rw [hset _ (by rw [hlen]; exact hj), hc]; exact hM) (fun k hk => hk)
  rw [Int.toNat_natCast] at h1 h2
  have e : W.setCells g (i * k85.sz + j) [u] = W.setCell ⟨g, i * 10 + j, none⟩ u := rfl
  rw [e] at h1 h2
  have hC : Chg W (W.setCell ⟨g, i * 10 + j, none⟩ u) (fun k => k = g) := Chg.of_grown h2 (fun k hk => by injection hk)
  have hrows : (rows st).set i (toR f') = rows (st.set i f') := by unfold rows; rw [List.map_set]
  rw [hrows] at h1
  refine ⟨⟨h.okr, ?_, ?_, fun k hk => Nat.lt_of_lt_of_le (h.lt k hk) hC.size⟩, hC⟩
  · rw [List.length_set]
    exact (hC.block rb (h.lt rb h.okr) (fun e => T.okg.2 e.symm)).trans h.S
  · rw [List.length_set]
    exact h1
theorem RParts.mono (h : RParts W ok rb st A c) {ok' : Nat → Prop} (hs : ∀ k, ok k → ok' k) (hl : ∀ k, ok' k → k < W.heap.size) : RParts W ok' rb st A c :=
  ⟨hs _ h.okr, h.S, Kd.R_mono h.F (fun k hk => ⟨hs _ hk.1, hk.2⟩), hl⟩
theorem RowAt.mono (h : RowAt W ok rb A i g f Ar cr Au cu Ao co) {ok' : Nat → Prop} (hs : ∀ k, ok k → ok' k) : RowAt W ok' rb A i g f Ar cr Au cu Ao co :=
  ⟨h.hA, ⟨hs _ h.okg.1, h.okg.2⟩, h.cells, h.In.mono (fun k hk => ⟨⟨hs _ hk.1.1, hk.1.2⟩, hk.2⟩), h.fz⟩
end
def ROut (W : World) (ok : Nat → Prop) (rb : Nat) (v : Value) (st' : Fs) (e : Ending) (w' : World) : Prop := e = .returned v ∧ ∃ ok', RRep w' ok' rb st' ∧ Chg W w' ok ∧ ∀ q, ok' q → ok q ∨ W.heap.size ≤ q
theorem ROut.below {W w' : World} {ok : Nat → Prop} {rb : Nat} {st : Fs} {v : Value} (h : RRep W ok rb st) (hb : Below W.heap.size W w') : ROut W ok rb v st (.returned v) w' := ⟨rfl, ok, h.below hb, Chg.of_below hb _, fun q hq => .inl hq⟩
end Go.Proofs.YtehlmkgldcfciaaGreat.Files
/- The reference's store: who has a file open, what a user may do. -/
set_option linter.unusedVariables false
set_option linter.unusedSimpArgs false
namespace Go.Proofs.YtehlmkgldcfciaaGreat.Files
open Go.Proofs.YtehlmkgldcfciaaGreat.Common Go.Maps Go.ChangeMaps Go.WideMaps Go.Proofs.YtehlmkgldcfciaaGreat.F
open Go.RowKit Go.Proofs.YtehlmkgldcfciaaGreatW.PrintWords Go.Proofs.YtehlmkgldcfciaaGreatW.PrintLast Go.Proofs.YtehlmkgldcfciaaGreatW.PrintMore
def isU (u : ByteArray) (p : ByteArray × (Int × Int)) : Bool := decide (p.1 = u)
def hasI (l : List (ByteArray × (Int × Int))) (u : ByteArray) : Int := idxP (isU u) l
theorem rd_toO (l : List (ByteArray × (Int × Int))) (k : Nat) (h : k < l.length) : rd_T95 (l.map toO) (k : Int) = toO l[k] := by
  simp [rd_T95, List.getElem?_map, List.getElem?_eq_getElem h]
theorem rd_toRu (l : List S100) (k : Nat) (h : k < l.length) : rd_T129 (l.map toRu) (k : Int) = toRu l[k] := by
  simp [rd_T129, List.getElem?_map, List.getElem?_eq_getElem h]
theorem at_users {W : World} {Ao : Option Addr} {l : List (ByteArray × (Int × Int))} (h : Kd.C k95 W Ao (l.map toO).length (l.map toO)) (k : Nat) (hk : k < l.length) : ∃ ad, Ao = some ad ∧ W.cell? (ad.add (k * 3)) = some (.string l[k].1) ∧
    W.cell? ⟨(ad.add (k * 3)).block, (ad.add (k * 3)).off + 1, none⟩ = some (.int .i64 l[k].2.1) ∧ W.cell? ⟨(ad.add (k * 3)).block, (ad.add (k * 3)).off + 2, none⟩ = some (.int .i64 l[k].2.2) := by
  obtain ⟨ad, e, h0, h1, h2⟩ := at_T95 h (k : Int) (by omega) (by simp; omega)
  rw [rd_toO l k hk, Int.toNat_natCast] at h0 h1 h2
  exact ⟨ad, e, h0, h1, h2⟩
theorem at_rules {W : World} {Ar : Option Addr} {l : List S100} (h : Kd.C k129 W Ar (l.map toRu).length (l.map toRu)) (k : Nat) (hk : k < l.length) : ∃ ad, Ar = some ad ∧ W.cell? (ad.add (k * 2)) = some (.string l[k].f0) ∧
    W.cell? ⟨(ad.add (k * 2)).block, (ad.add (k * 2)).off + 1, none⟩ = some (.int .i64 l[k].f1) := by
  obtain ⟨ad, e, h0, h1⟩ := at_T129 h (k : Int) (by omega) (by simp; omega)
  rw [rd_toRu l k hk, Int.toNat_natCast] at h0 h1
  exact ⟨ad, e, h0, h1⟩
set_option maxRecDepth 100000 in
set_option maxHeartbeats 2000000 in
theorem has_c (okI : Nat → Prop) (f : AF) (Ar Au Ao : Option Addr) (cr cu co : Nat) (u : ByteArray) (W : World) (h : InR W okI f Ar cr Au cu Ao co) :
    Calls Tryz.prog 62 #[.agg (RowIs f (.slice Ar f.rules.length cr) (.slice Au f.units.length cu) (.slice Ao f.users.length co)).toArray, .string u] W fun e w' => e = .returned (.int .i64 (hasI f.users u)) ∧ Below W.heap.size W w' := by
  have hl : (f.users.length : Int) ≤ 9223372036854775807 := by have := h.oC.2.2.1; simp at this; omega
  have hb1 : Below W.heap.size W (W.alloc (.cells (RowIs f (.slice Ar f.rules.length cr) (.slice Au f.units.length cu) (.slice Ao f.users.length co)).toArray 85)) := (Below.refl _ _).alloc (Nat.le_refl _) _
  have HC := Aside0.mk (Kd.C_below h.oC.2 hb1)
  have HB1 := Aside0.mk hb1
  clear h hb1
  unfold RowIs at *
  go_enter Tryz.func62, Tryz.ntmps62
  go_wp2_with fail
  go_loopw [5] (fun s wr => ∃ k : Nat, s = .int .i64 k ∧ k ≤ f.users.length ∧ wr = W.alloc (.cells #[.string f.F.name, .int .i64 f.F.kind, .int .i64 f.F.perm, .string f.F.owner, .string f.F.last, .int .i64 f.F.ch, .int .i64 f.F.rd, .slice Ar f.rules.length cr, .slice Au f.units.length cu, .slice Ao f.users.length co] 85) ∧ Aside0 (∀ j, j < k → isU u (f.users.getD j (⟨#[]⟩, 0, 0)) = false)) (fun s _ => f.users.length - (intOf s).toNat)
  case atStart => exact ⟨0, rfl, by omega, rfl, ⟨fun j hj => absurd hj (by omega)⟩⟩
  case round =>
    obtain ⟨k, rfl, hk, rfl, HF⟩ := hrel
    by_cases hlt : k < f.users.length
    · have hltz : (k : Int) < (f.users.length : Int) := by omega
      have hk0 : decide ((k : Int) < 0) = false := decide_eq_false (by omega)
      obtain ⟨ad, rfl, x0, _, _⟩ := at_users HC.out k hlt
      have HG := Aside0.mk (show f.users.getD k (⟨#[]⟩, 0, 0) = f.users[k] by rw [List.getD_eq_getElem?_getD, List.getElem?_eq_getElem hlt]; rfl)
      generalize f.users[k] = p at x0 HG
      by_cases he : p.1 = u
      · have he' : (p.1.toList == u.toList) = true := by rw [he]; exact beq_yes _
        have HP := Aside0.mk (show hasI f.users u = k from idxP_hit _ (⟨#[]⟩, 0, 0) _ k hlt (by rw [HG.out]; simp [isU, he]) HF.out)
        clear he
        go_wp2
        refine bodyPost_ret (v := .int .i64 (k : Int)) (by simp [results, Tryz.f62, go_sem]) rfl ?_
        exact ⟨by rw [HP.out], HB1.out⟩
      · have he' := beq_no he
        have HF2 := Aside0.mk (show ∀ j, j < k + 1 → isU u (f.users.getD j (⟨#[]⟩, 0, 0)) = false from fun j hj => by
          by_cases hjk : j = k
          · subst hjk
            rw [HG.out]; simp [isU, he]
          · exact HF.out j (by omega))
        clear he
        go_wp2_with fail
        go_roundw
        case rel => exact ⟨k + 1, by go_num, by omega, by trivial, HF2⟩
        case measure => simp [intOf]; omega
    · have hltz : ¬ (k : Int) < (f.users.length : Int) := by omega
      have HP := Aside0.mk (show hasI f.users u = -1 from idxP_all _ (⟨#[]⟩, 0, 0) _ k (by omega) HF.out)
      go_wp2
      refine bodyPost_ret (v := .int .i64 (-1)) (by simp [results, Tryz.f62, go_sem]) rfl ?_
      exact ⟨by rw [HP.out], HB1.out⟩
theorem hasI_lookU (l : List (ByteArray × (Int × Int))) (u : ByteArray) : (hasI l u = -1 ∧ lookU l u = none) ∨ ∃ k : Nat, ∃ q, hasI l u = k ∧ k < l.length ∧ l[k]? = some (u, q) ∧ lookU l u = some q := by
  induction l with
  | nil => exact .inl ⟨rfl, rfl⟩
  | cons p l ih =>
    unfold hasI lookU at ih ⊢
    rw [idxP]
    by_cases h : p.1 = u
    · refine .inr ⟨0, p.2, ?_, by simp, ?_, ?_⟩
      · simp [isU, h]
      · rw [← h]; rfl
      · rw [List.find?_cons_of_pos (by simp [h])]; rfl
    · rw [if_neg (by simp [isU, h]), List.find?_cons_of_neg (by simp [h])]
      rcases ih with ⟨h1, h2⟩ | ⟨k, q, h1, h2, h3, h4⟩
      · exact .inl ⟨by rw [h1]; rfl, h2⟩
      · exact .inr ⟨k + 1, q, by rw [h1, if_neg (by omega)]; omega, by simp; omega, by simpa using h3, h4⟩
theorem and_comm64 (a b : Int) : bits .and .i64 a b = bits .and .i64 b a := by
  show IntKind.i64.wrap ((BitVec.ofInt 64 a &&& BitVec.ofInt 64 b).toNat : Int) = IntKind.i64.wrap ((BitVec.ofInt 64 b &&& BitVec.ofInt 64 a).toNat : Int)
  rw [BitVec.and_comm]
theorem find_hit {α : Type} (p : α → Bool) (d : α) : ∀ (l : List α) (k : Nat) (x : α), l[k]? = some x → p x = true → (∀ j, j < k → p (l.getD j d) = false) → l.find? p = some x
  | [], k, x, h, _, _ => by simp at h
  | a :: l, 0, x, h, hp, _ => by
    obtain rfl : a = x := by simpa using h
    rw [List.find?_cons_of_pos hp]
  | a :: l, k + 1, x, h, hp, hb => by
    have h0 : p a = false := by simpa using hb 0 (by omega)
    rw [List.find?_cons_of_neg (by simp [h0])]
    exact find_hit p d l k x (by simpa using h) hp (fun j hj => by simpa using hb (j + 1) (by omega))
theorem find_all {α : Type} (p : α → Bool) (d : α) (l : List α) (n : Nat) (hn : l.length ≤ n) (h : ∀ j, j < n → p (l.getD j d) = false) : l.find? p = none := by
  rw [List.find?_eq_none]
  intro x hx
  obtain ⟨j, hj, rfl⟩ := List.getElem_of_mem hx
  have := h j (by omega)
  simpa [List.getD_eq_getElem?_getD, List.getElem?_eq_getElem hj] using this
set_option maxRecDepth 100000 in
set_option maxHeartbeats 2000000 in
theorem rmay_c (okI : Nat → Prop) (f : AF) (Ar Au Ao : Option Addr) (cr cu co : Nat) (u : ByteArray) (a : Int) (W : World) (h : InR W okI f Ar cr Au cu Ao co) :
    Calls Tryz.prog 60 #[.agg (RowIs f (.slice Ar f.rules.length cr) (.slice Au f.units.length cu) (.slice Ao f.users.length co)).toArray, .string u, .int .i64 a] W fun e w' => e = .returned (.bool (mayB f.F f.rules u a)) ∧ Below W.heap.size W w' := by
  have hl : (f.rules.length : Int) ≤ 9223372036854775807 := by have := h.rC.2.2.1; simp at this; omega
  have hb1 : Below W.heap.size W (W.alloc (.cells (RowIs f (.slice Ar f.rules.length cr) (.slice Au f.units.length cu) (.slice Ao f.users.length co)).toArray 85)) := (Below.refl _ _).alloc (Nat.le_refl _) _
  have HC := Aside0.mk (Kd.C_below h.rC.2 hb1)
  have HB1 := Aside0.mk hb1
  clear h hb1
  unfold RowIs at *
  go_enter Tryz.func60, Tryz.ntmps60
  go_wp2_with fail
  refine (rwithin_c a f.F.perm _).mono ?_
  rintro e w' ⟨rfl, rfl⟩
  have HCOM := Aside0.mk (and_comm64 f.F.perm a)
  have HBK := Aside0.mk (show (W.alloc (.cells #[.string f.F.name, .int .i64 f.F.kind, .int .i64 f.F.perm, .string f.F.owner, .string f.F.last, .int .i64 f.F.ch, .int .i64 f.F.rd, .slice Ar f.rules.length cr, .slice Au f.units.length cu, .slice Ao f.users.length co] 85)).heap[W.heap.size]? = some (.cells #[.string f.F.name, .int .i64 f.F.kind, .int .i64 f.F.perm, .string f.F.owner, .string f.F.last, .int .i64 f.F.ch, .int .i64 f.F.rd, .slice Ar f.rules.length cr, .slice Au f.units.length cu, .slice Ao f.users.length co] 85 (0, 0)) by simpa using heap_alloc_new W _)
  by_cases hperm : bits .and .i64 a f.F.perm = a
  · have hd : decide (bits .and .i64 a f.F.perm = a) = true := decide_eq_true hperm
    have HM0 := Aside0.mk (fun x (h : f.rules.find? (ruleOf u) = some x) => show mayB f.F f.rules u a = decide (bits .and .i64 a x.f1 = a) by unfold mayB; rw [HCOM.out, if_pos hperm, h, and_comm64 a x.f1])
    have HM1 := Aside0.mk (fun (h : f.rules.find? (ruleOf u) = none) => show mayB f.F f.rules u a = decide (u = f.F.owner) by unfold mayB; rw [HCOM.out, if_pos hperm, h])
    clear hperm
    go_wp2_with fail
    go_loopw [7] (fun s wr => ∃ k : Nat, s = .int .i64 k ∧ k ≤ f.rules.length ∧ Aside0 (Below (W.heap.size + 1) (W.alloc (.cells #[.string f.F.name, .int .i64 f.F.kind, .int .i64 f.F.perm, .string f.F.owner, .string f.F.last, .int .i64 f.F.ch, .int .i64 f.F.rd, .slice Ar f.rules.length cr, .slice Au f.units.length cu, .slice Ao f.users.length co] 85)) wr) ∧ Aside0 (∀ j, j < k → ruleOf u (f.rules.getD j z100) = false)) (fun s _ => f.rules.length - (intOf s).toNat)
    case atStart => exact ⟨0, rfl, by omega, ⟨Below.refl _ _⟩, ⟨fun j hj => absurd hj (by omega)⟩⟩
    case round =>
      obtain ⟨k, rfl, hk, HB, HF⟩ := hrel
      have hblk := (HB.out.block W.heap.size (Nat.lt_succ_self _)).trans HBK.out
      have hc7 : wr.cell? ⟨W.heap.size, 7, none⟩ = some (.slice Ar f.rules.length cr) := (blk_cell hblk 7).trans rfl
      have hc3 : wr.cell? ⟨W.heap.size, 3, none⟩ = some (.string f.F.owner) := (blk_cell hblk 3).trans rfl
      have HL := Aside0.mk (HB1.out.trans (HB.out.mono (Nat.le_succ _)))
      have HSZ := Aside0.mk HB.out.size
      clear hblk
      by_cases hlt : k < f.rules.length
      · have hltz : (k : Int) < (f.rules.length : Int) := by omega
        have hk0 : decide ((k : Int) < 0) = false := decide_eq_false (by omega)
        obtain ⟨ad, rfl, x0, x1⟩ := at_rules (Kd.C_below HC.out (by rw [World.size_alloc]; exact HB.out)) k hlt
        have HG := Aside0.mk (show f.rules.getD k z100 = f.rules[k] by rw [List.getD_eq_getElem?_getD, List.getElem?_eq_getElem hlt]; rfl)
        have HGG := Aside0.mk (List.getElem?_eq_getElem hlt)
        generalize f.rules[k] = p at x0 x1 HG HGG
        have HH := Aside0.mk (fun (h : ruleOf u p = true) => HM0.out p (find_hit _ z100 _ k p HGG.out h HF.out))
        by_cases h1 : p.f0 = u
        · have g1 : (p.f0.toList == u.toList) = true := by rw [h1]; exact beq_yes _
          have HP := Aside0.mk (HH.out (by simp [ruleOf, h1]))
          clear h1
          go_wp2_with fail
          refine (rwithin_c a p.f1 _).mono ?_
          rintro e w' ⟨rfl, rfl⟩
          go_wp2
          refine bodyPost_ret (v := .bool (decide (bits .and .i64 a p.f1 = a))) (by simp [results, Tryz.f60, go_sem]) rfl ?_
          exact ⟨by rw [HP.out], HL.out.trans ((Below.refl _ _).alloc (by have := HSZ.out; simp at this ⊢; omega) _)⟩
        · have g1 := beq_no h1
          by_cases h2 : p.f0 = ⟨#[42]⟩
          · have g2 : (p.f0.toList == [42]) = true := by rw [h2, ByteArray.toList_eq]; rfl
            have HP := Aside0.mk (HH.out (by simp [ruleOf, h2]))
            clear h1 h2
            go_wp2_with fail
            refine (rwithin_c a p.f1 _).mono ?_
            rintro e w' ⟨rfl, rfl⟩
            go_wp2
            refine bodyPost_ret (v := .bool (decide (bits .and .i64 a p.f1 = a))) (by simp [results, Tryz.f60, go_sem]) rfl ?_
            exact ⟨by rw [HP.out], HL.out.trans ((Below.refl _ _).alloc (by have := HSZ.out; simp at this ⊢; omega) _)⟩
          · have g2 : (p.f0.toList == [42]) = false := by
              have := beq_no h2
              rw [ByteArray.toList_eq ⟨#[42]⟩] at this
              exact this
            have HF2 := Aside0.mk (show ∀ j, j < k + 1 → ruleOf u (f.rules.getD j z100) = false from fun j hj => by
              by_cases hjk : j = k
              · subst hjk
                rw [HG.out]; simp [ruleOf, h1, h2]
              · exact HF.out j (by omega))
            have HB3 := Aside0.mk (HB.out.alloc (show W.heap.size + 1 ≤ wr.heap.size by have := HSZ.out; simpa using this) (.cells #[.string p.f0, .int .i64 p.f1] 129))
            clear h1 h2
            go_wp2_with fail
            go_roundw
            case rel => exact ⟨k + 1, by go_num, by omega, HB3, HF2⟩
            case measure => simp [intOf]; omega
      · have hltz : ¬ (k : Int) < (f.rules.length : Int) := by omega
        have HP := Aside0.mk (HM1.out (find_all _ z100 _ k (by omega) HF.out))
        by_cases h1 : f.F.owner = u
        · have g1 : (f.F.owner.toList == u.toList) = true := by rw [h1]; exact beq_yes _
          have HQ := Aside0.mk (show mayB f.F f.rules u a = true by rw [HP.out, h1]; simp)
          clear h1
          go_wp2
          refine bodyPost_ret (v := .bool true) (by simp [results, Tryz.f60, go_sem]) rfl ?_
          exact ⟨by rw [HQ.out], HL.out⟩
        · have g1 := beq_no h1
          have HQ := Aside0.mk (show mayB f.F f.rules u a = false by rw [HP.out]; simpa using fun e => h1 e.symm)
          clear h1
          go_wp2
          refine bodyPost_ret (v := .bool false) (by simp [results, Tryz.f60, go_sem]) rfl ?_
          exact ⟨by rw [HQ.out], HL.out⟩
  · have hd : decide (bits .and .i64 a f.F.perm = a) = false := decide_eq_false hperm
    have HM := Aside0.mk (show mayB f.F f.rules u a = false by unfold mayB; rw [HCOM.out, if_neg hperm])
    clear hperm
    go_wp2
    refine bodyPost_ret (v := .bool false) (by simp [results, Tryz.f60, go_sem]) rfl ?_
    exact ⟨by rw [HM.out], HB1.out⟩
def mBegin (st : Fs) (u n : ByteArray) : Except Int (Nat × AF × Int) := match posF st n with
  | none => .error 3
  | some (k, f) => match lookU f.users u with | none => .error 8 | some (a, _) => .ok (k, f, a)
def BeginOut (W : World) (r : Except Int (Nat × AF × Int)) (e : Ending) (w' : World) : Prop := Below W.heap.size W w' ∧ match r with
  | .error E => e = .returned (.tuple #[.int .i64 0, .int .i64 0, .int .i64 E])
  | .ok (k, _, a) => e = .returned (.tuple #[.int .i64 (k : Int), .int .i64 a, .int .i64 0])
set_option maxRecDepth 100000 in
set_option maxHeartbeats 2000000 in
theorem begin_c (rb c : Nat) (ok : Nat → Prop) (st : Fs) (A : Option Addr) (u n : ByteArray) (W : World) (h : RParts W ok rb st A c) :
    Calls Tryz.prog 67 #[.pointer (some ⟨rb, 0, none⟩), .string u, .string n] W (BeginOut W (mBegin st u n)) := by
  have CF := Aside0.mk (find_c rb c ok st A n W h)
  unfold mBegin
  rcases posI_range st n with ⟨hp, hpf⟩ | ⟨k, f, hp, hpf, hk, hnm⟩
  · rw [hpf]
    rw [hp] at CF
    have c1 := h.c1
    clear h
    go_enter Tryz.func67, Tryz.ntmps67
    go_wp2_with first | (go_at_call 49; refine CF.out.mono ?_; rintro e w' ⟨rfl, rfl⟩)
    go_ret3
    exact ⟨Below.refl _ _, rfl⟩
  · rw [hpf]
    rw [hp] at CF
    have hil : k < st.length := (List.getElem?_eq_some_iff.1 hk).1
    obtain ⟨g, Ar, cr, Au, cu, Ao, co, T⟩ := h.row hk
    have c1 := h.c1
    have hlz : (k : Int) < (st.length : Int) := by omega
    have hk0 : decide ((k : Int) < 0) = false := decide_eq_false (by omega)
    have hA := T.hA
    subst hA
    obtain ⟨x0, x1, x2, x3, x4, x5, x6, x7, x8, x9⟩ := T.x
    have CH := Aside0.mk (has_c _ f Ar Au Ao cr cu co u W T.In)
    unfold RowIs at CH
    have HIn := Aside0.mk T.In
    have hrb := h.lt rb h.okr
    have hgl := h.glt T
    clear h T hnm hpf hp
    rcases hasI_lookU f.users u with ⟨hh, hlu⟩ | ⟨q, p, hh, hql, hq, hlu⟩
    · rw [hh] at CH
      simp only [hlu]
      go_enter Tryz.func67, Tryz.ntmps67
      go_wp2_with first | (go_at_call 49; refine CF.out.mono ?_; rintro e w' ⟨rfl, rfl⟩)
      refine CH.out.mono ?_
      rintro e w2 ⟨rfl, hb2⟩
      go_wp2
      go_ret3
      exact ⟨hb2, rfl⟩
    · rw [hh] at CH
      obtain ⟨pa, px⟩ := p
      simp only [hlu]
      have hqz : (q : Int) < (f.users.length : Int) := by omega
      have hq0 : decide ((q : Int) < 0) = false := decide_eq_false (by omega)
      go_enter Tryz.func67, Tryz.ntmps67
      go_wp2_with first | (go_at_call 49; refine CF.out.mono ?_; rintro e w' ⟨rfl, rfl⟩)
      refine CH.out.mono ?_
      rintro e w2 ⟨rfl, hb2⟩
      have d1 := (hb2.cell (p := ⟨rb, 1, none⟩) hrb).trans c1
      have d9 := (hb2.cell (p := ⟨g, k * 10 + 9, none⟩) hgl).trans x9
      obtain ⟨ad, rfl, y0, y1, y2⟩ := at_users (HIn.out.step (Chg.of_below hb2 (fun _ => False)) (fun _ _ h => h)).oC.2 q hql
      have e1 : f.users[q] = (u, (pa, px)) := by
        rw [List.getElem?_eq_getElem hql] at hq
        injection hq
      rw [e1] at y1
      simp only at y1
      clear y0 y2 e1 x0 x1 x2 x3 x4 x5 x6 x7 x8 x9 c1
      go_wp2
      go_region
      go_wp2
      go_ret3
      exact ⟨by first | exact hb2.drew | exact pw_below_drewN hb2 _, rfl⟩
end Go.Proofs.YtehlmkgldcfciaaGreat.Files
/- The reference's store: a change noted. -/
set_option linter.unusedVariables false
set_option linter.unusedSimpArgs false
namespace Go.Proofs.YtehlmkgldcfciaaGreat.Files
open Go.Proofs.YtehlmkgldcfciaaGreat.Common Go.Maps Go.ChangeMaps Go.WideMaps Go.Proofs.YtehlmkgldcfciaaGreat.F
open Go.RowKit Go.Proofs.YtehlmkgldcfciaaGreatW.PrintWords Go.Proofs.YtehlmkgldcfciaaGreatW.PrintLast Go.Proofs.YtehlmkgldcfciaaGreatW.PrintMore
section
variable {W w' X : World} {ok okI S : Nat → Prop} {rb c i g cr cu co : Nat} {st : Fs} {A Ar Au Ao : Option Addr} {f : AF}
theorem R_made {α : Type} {d : Kd α} {e : Nat} {v : Value} {xs : List α} (hr : d.R e X W.heap.size (fun _ => True) v xs) (hb : Below W.heap.size W X) (h : RParts W ok rb st A c) (T : RowAt W ok rb A i g f Ar cr Au cu Ao co) :
    d.R e X 0 (fun k => (((ok k ∨ W.heap.size ≤ k) ∧ k < X.heap.size) ∧ k ≠ rb) ∧ k ≠ g) v xs :=
  Kd.R_mono (Kd.R_lower (Kd.R_bound hr) (Nat.zero_le _)) (fun k hk => ⟨⟨⟨.inr hk.2.1, hk.2.2.1⟩, fun e => by have := h.lt rb h.okr; have := hk.2.1; omega⟩, fun e => by have := h.glt T; have := hk.2.1; omega⟩)
theorem InR.old (h : RParts W ok rb st A c) (hI : InR W (fun k => (ok k ∧ k ≠ rb) ∧ k ≠ g) f Ar cr Au cu Ao co) (hb : Below W.heap.size W X) :
    InR X (fun k => (((ok k ∨ W.heap.size ≤ k) ∧ k < X.heap.size) ∧ k ≠ rb) ∧ k ≠ g) f Ar cr Au cu Ao co :=
  (hI.step (Chg.of_below hb (fun _ => False)) (fun _ _ h => h)).mono (fun k hk => ⟨⟨⟨.inl hk.1.1, Nat.lt_of_lt_of_le (h.lt k hk.1.1) hb.size⟩, hk.1.2⟩, hk.2⟩)
theorem RParts.later (h : RParts W ok rb st A c) (hb : Below W.heap.size W X) : RParts X (okP ok W X) rb st A c :=
  (h.below hb).mono (fun k hk => ⟨.inl hk, Nat.lt_of_lt_of_le (h.lt k hk) hb.size⟩) (fun k hk => hk.2)
theorem RowAt.later (h : RParts W ok rb st A c) (T : RowAt W ok rb A i g f Ar cr Au cu Ao co) (hb : Below W.heap.size W X) : RowAt X (okP ok W X) rb A i g f Ar cr Au cu Ao co :=
  (T.step hb (h.glt T)).mono (fun k hk => ⟨.inl hk, Nat.lt_of_lt_of_le (h.lt k hk) hb.size⟩)
theorem RParts.put (h : RParts W ok rb st A c) (T : RowAt W ok rb A i g f Ar cr Au cu Ao co) (hi : st[i]? = some f) (hb : Below W.heap.size W X) (j : Nat) (u : Value) {f' : AF} {Ar' Au' Ao' : Option Addr} {cr' cu' co' : Nat}
    (hj : j < 10) (hc : (RowIs f (.slice Ar f.rules.length cr) (.slice Au f.units.length cu) (.slice Ao f.users.length co)).set j u = RowIs f' (.slice Ar' f'.rules.length cr') (.slice Au' f'.units.length cu') (.slice Ao' f'.users.length co'))
    (hI : InR X (fun k => (((ok k ∨ W.heap.size ≤ k) ∧ k < X.heap.size) ∧ k ≠ rb) ∧ k ≠ g) f' Ar' cr' Au' cu' Ao' co') (v : Value) :
    ROut W ok rb v (st.set i f') (.returned v) (X.setCell ⟨g, i * 10 + j, none⟩ u) := by
  obtain ⟨h1, h2⟩ := (h.later hb).set (T.later h hb) hi j u hj hc hI
  refine ⟨rfl, okP ok W X, ⟨A, c, h1⟩, ((Chg.of_below hb (fun _ => False)).mono (fun _ h => h.elim)).trans h2 (fun q hq => .inl (by rw [hq]; exact T.okg.1)), fun q hq => hq.1⟩
end
def AF.units' (f : AF) (who : ByteArray) (l : List S29) : AF := { f with F := f.F.noted who, units := l }
set_option maxRecDepth 100000 in
set_option maxHeartbeats 4000000 in
theorem rchanged_c (rb c i g cr cu co cl : Nat) (ok : Nat → Prop) (st : Fs) (f : AF) (A Ar Au Ao Al : Option Addr) (who : ByteArray) (l : List S29) (W : World) (h : RParts W ok rb st A c) (hi : st[i]? = some f) (T : RowAt W ok rb A i g f Ar cr Au cu Ao co) :
    Calls Tryz.prog 75 #[.pointer (some ⟨rb, 0, none⟩), .int .i64 (i : Int), .string who, .slice Al l.length cl] W fun e w' => e = .returned (.int .i64 0) ∧ ∃ m, w' = (((W.setCell ⟨g, i * 10 + 8, none⟩ (.slice Al l.length cl)).drewN m).setCell ⟨g, i * 10 + 5, none⟩ (.int .i64 (wrap64 (f.F.ch + 1)))).setCell ⟨g, i * 10 + 4, none⟩ (.string who) := by
  have hil : i < st.length := (List.getElem?_eq_some_iff.1 hi).1
  have hilz : (i : Int) < (st.length : Int) := by omega
  have hi0 : decide ((i : Int) < 0) = false := decide_eq_false (by omega)
  have c1 := h.c1
  have hA := T.hA
  subst hA
  obtain ⟨x0, x1, x2, x3, x4, x5, x6, x7, x8, x9⟩ := T.x
  have f8 := T.fz (i * 10 + 8)
  have f5 := T.fz (i * 10 + 5)
  have f4 := T.fz (i * 10 + 4)
  have hne : g ≠ rb := T.okg.2
  have hne2 : rb ≠ g := Ne.symm hne
  clear h T x0 x1 x2 x3 x6 x7 x9
  go_enter Tryz.func75, Tryz.ntmps75
  go_wp2
  go_region
  go_wp2
  go_ret
  exact ⟨rfl, 1, rfl⟩
end Go.Proofs.YtehlmkgldcfciaaGreat.Files
/- The reference's store: what its steps are, plainly. -/
set_option linter.unusedVariables false
set_option linter.unusedSimpArgs false
namespace Go.Proofs.YtehlmkgldcfciaaGreat.Files
open Go.Proofs.YtehlmkgldcfciaaGreat.Common Go.Maps Go.ChangeMaps Go.WideMaps Go.Proofs.YtehlmkgldcfciaaGreat.F
open Go.RowKit Go.Proofs.YtehlmkgldcfciaaGreatW.PrintWords Go.Proofs.YtehlmkgldcfciaaGreatW.PrintLast Go.Proofs.YtehlmkgldcfciaaGreatW.PrintMore
theorem pow_cast (k : Nat) : ((2 : Int) ^ k) = ((2 ^ k : Nat) : Int) := by rw [Int.natCast_pow]; rfl
theorem wrap_small (m : Nat) (hm : m < 4611686018427387904) : IntKind.i64.wrap (m : Int) = (m : Int) := by
  rw [show IntKind.i64.wrap (m : Int) = wrap64 (m : Int) from (i64_w _).symm ▸ rfl]
  unfold wrap64
  omega
theorem andTwo (b : Int) (k : Nat) (hk : k < 62) : (bits .and .i64 (2 ^ k) b = 2 ^ k) ↔ ¬ bits .and .i64 b (2 ^ k) = 0 := by
  have hp : (2 : Nat) ^ k < 4611686018427387904 := Nat.lt_of_lt_of_le (Nat.pow_lt_pow_right (by decide) hk) (by decide)
  have hp0 : 0 < (2 : Nat) ^ k := Nat.two_pow_pos k
  have ht : (BitVec.twoPow 64 k).toNat = 2 ^ k := by rw [BitVec.toNat_twoPow, Nat.mod_eq_of_lt (by omega)]
  have h1 : BitVec.ofInt 64 ((2 ^ k : Nat) : Int) = BitVec.twoPow 64 k := by
    apply BitVec.eq_of_toNat_eq
    rw [BitVec.ofInt_natCast, BitVec.toNat_ofNat, ht, Nat.mod_eq_of_lt (by omega)]
  rw [pow_cast]
  have e1 : bits .and .i64 ((2 ^ k : Nat) : Int) b = IntKind.i64.wrap ((BitVec.ofInt 64 ((2 ^ k : Nat) : Int) &&& BitVec.ofInt 64 b).toNat : Int) := rfl
  have e2 : bits .and .i64 b ((2 ^ k : Nat) : Int) = IntKind.i64.wrap ((BitVec.ofInt 64 b &&& BitVec.ofInt 64 ((2 ^ k : Nat) : Int)).toNat : Int) := rfl
  rw [e1, e2, h1, BitVec.and_comm, BitVec.and_twoPow]
  clear e1 e2 h1
  split
  · rw [ht, wrap_small _ hp]
    omega
  · rw [show (0#64).toNat = 0 from rfl, wrap_small 0 (by omega)]
    omega
theorem within_den (a action : Int) (k : Nat) (hk : k < 62) (h : action = 2 ^ k) : decide (bits .and .i64 action a = action) = decide (denied a action = 0) := by
  subst h
  have := andTwo a k hk
  unfold denied
  by_cases h2 : bits .and .i64 a (2 ^ k) = 0
  · rw [if_pos h2, decide_eq_false (fun e => (this.1 e) h2)]; rfl
  · rw [if_neg h2, decide_eq_true (this.2 h2)]; rfl
section
variable {st : Fs} {u n : ByteArray} {k : Nat} {f : AF} {E a : Int}
theorem mFound_bad (h : (userB u && nameB n) = false) : mFound st u n = .error 1 := by unfold mFound; rw [if_pos h]
theorem mFound_none (h : (userB u && nameB n) = true) (hp : posF st n = none) : mFound st u n = .error 3 := by unfold mFound; rw [if_neg (by simp [h]), hp]
theorem mFound_ok (h : (userB u && nameB n) = true) (hp : posF st n = some (k, f)) : mFound st u n = .ok (k, f) := by unfold mFound; rw [if_neg (by simp [h]), hp]
theorem mOpened_bad (h : (userB u && nameB n) = false) (action : Int) : mOpened st u n action = .error 1 := by unfold mOpened; rw [mFound_bad h]
theorem mOpened_err (h : (userB u && nameB n) = true) (hb : mBegin st u n = .error E) (action : Int) : mOpened st u n action = .error E := by
  unfold mBegin at hb
  cases hp : posF st n with
  | none =>
    rw [hp] at hb
    injection hb with hb
    unfold mOpened
    rw [mFound_none h hp, hb]
  | some p =>
    obtain ⟨k, f⟩ := p
    rw [hp] at hb
    simp only at hb
    cases hl : lookU f.users u with
    | none =>
      rw [hl] at hb
      injection hb with hb
      unfold mOpened
      rw [mFound_ok h hp]
      simp only [hl, hb]
    | some q => rw [hl] at hb; cases hb
theorem mOpened_ok (h : (userB u && nameB n) = true) (hb : mBegin st u n = .ok (k, f, a)) (action : Int) : mOpened st u n action = .ok (k, f, denied a action) := by
  unfold mBegin at hb
  cases hp : posF st n with
  | none => rw [hp] at hb; cases hb
  | some p =>
    obtain ⟨k, f⟩ := p
    rw [hp] at hb
    simp only at hb
    cases hl : lookU f.users u with
    | none => rw [hl] at hb; cases hb
    | some q =>
      obtain ⟨q1, q2⟩ := q
      rw [hl] at hb
      injection hb with hb
      injection hb with h1 hb
      injection hb with h2 h3
      subst h1 h2 h3
      unfold mOpened
      rw [mFound_ok h hp]
      simp only [hl]
theorem mBegin_at (hb : mBegin st u n = .ok (k, f, a)) : st[k]? = some f ∧ f.F.name = n := by
  unfold mBegin at hb
  cases hp : posF st n with
  | none => rw [hp] at hb; cases hb
  | some p =>
    obtain ⟨k', f'⟩ := p
    rw [hp] at hb
    simp only at hb
    cases hl : lookU f'.users u with
    | none => rw [hl] at hb; cases hb
    | some q =>
      rw [hl] at hb
      injection hb with hb
      injection hb with h1 hb
      injection hb with h2 h3
      subst h1 h2
      exact posF_some hp
theorem mBegin_E (hb : mBegin st u n = .error E) : (E == 0) = false := by
  unfold mBegin at hb
  cases hp : posF st n with
  | none => rw [hp] at hb; injection hb with hb; rw [← hb]; rfl
  | some p =>
    obtain ⟨k', f'⟩ := p
    rw [hp] at hb
    simp only at hb
    cases hl : lookU f'.users u with
    | none => rw [hl] at hb; injection hb with hb; rw [← hb]; rfl
    | some q => rw [hl] at hb; cases hb
theorem mUnit_neg {at_ action : Int} (h : at_ < 0) : mUnit st u n at_ action = .error 1 := by unfold mUnit; rw [if_pos h]
theorem mUnit_err {at_ action : Int} (h : ¬ at_ < 0) (ho : mOpened st u n action = .error E) : mUnit st u n at_ action = .error E := by unfold mUnit; rw [if_neg h, ho]
theorem mUnit_none {at_ action dn : Int} (h : ¬ at_ < 0) (ho : mOpened st u n action = .ok (k, f, dn)) (hl : (f.units.length : Int) ≤ at_) : mUnit st u n at_ action = .error 3 := by unfold mUnit; rw [if_neg h, ho]; simp only [if_pos hl]
theorem mUnit_ok {at_ action dn : Int} (h : ¬ at_ < 0) (ho : mOpened st u n action = .ok (k, f, dn)) (hl : ¬ (f.units.length : Int) ≤ at_) : mUnit st u n at_ action = .ok (k, f, at_.toNat, dn) := by unfold mUnit; rw [if_neg h, ho]; simp only [if_neg hl]
end
theorem ROut.stay {W w' : World} {ok : Nat → Prop} {rb : Nat} {st st' : Fs} {E E' : Int} (h : RRep W ok rb st) (hb : Below W.heap.size W w') (h1 : E' = E) (h2 : st' = st) : ROut W ok rb (.int .i64 E') st' (.returned (.int .i64 E)) w' := by
  subst h1 h2
  exact ROut.below h hb
theorem filter_erase : ∀ (l : List (ByteArray × (Int × Int))) (u : ByteArray) (q : Nat), hasI l u = (q : Int) → (l.map (fun p => p.1.data.toList)).Nodup → l.filter (fun p => !decide (p.1 = u)) = l.take q ++ l.drop (q + 1)
  | [], u, q, h, _ => by simp [hasI, idxP] at h
  | p :: l, u, q, h, hn => by
    simp only [List.map_cons, List.nodup_cons] at hn
    unfold hasI at h
    rw [idxP] at h
    by_cases hp : p.1 = u
    · rw [if_pos (by simp [isU, hp])] at h
      obtain rfl : q = 0 := by omega
      rw [List.filter_cons_of_neg (by simp [hp])]
      simp only [List.take_zero, List.nil_append, Nat.zero_add, List.drop_succ_cons, List.drop_zero]
      refine List.filter_eq_self.2 fun x hx => ?_
      have : ¬ x.1 = u := fun e => hn.1 (List.mem_map.2 ⟨x, hx, by rw [e, hp]⟩)
      simp [this]
    · rw [if_neg (by simp [isU, hp])] at h
      have hr := idxP_range (isU u) l
      split at h
      · omega
      · obtain ⟨q', rfl⟩ : ∃ q', q = q' + 1 := ⟨q - 1, by omega⟩
        rw [List.filter_cons_of_pos (by simp [hp]), filter_erase l u q' (by unfold hasI; omega) hn.2]
        simp
theorem closed_erase (f : AF) (u : ByteArray) (q : Nat) (h : hasI f.users u = (q : Int)) (hn : (f.users.map (fun p => p.1.data.toList)).Nodup) : f.closed u = { f with users := f.users.take q ++ f.users.drop (q + 1) } := by
  unfold AF.closed
  rw [filter_erase f.users u q h hn]
theorem take_row {α : Type} {d : Kd α} {W : World} {A : Option Addr} {n m : Nat} {xs : List α} (h : d.C W A xs.length xs) (hn : xs.length = n) (hm : m ≤ n) : d.C W A m (xs.take m) := by
  have := Kd.C_take (m := m) h (by omega)
  rwa [List.length_take, Nat.min_eq_left (by omega)] at this
theorem drop_row {α : Type} {d : Kd α} {W : World} {A : Option Addr} {n m c : Nat} {xs : List α} (h : d.C W A xs.length xs) (hn : xs.length = n) (hm : m ≤ n) (hc : n ≤ c) : d.C W (if c = m then A else A.map (·.add (m * d.sz))) (n - m) (xs.drop m) := by
  have := Kd.C_drop (m := m) (c := c) h (by omega) (by omega)
  rwa [List.length_drop, hn] at this
end Go.Proofs.YtehlmkgldcfciaaGreat.Files
/- The reference's store: Close. -/
set_option linter.unusedVariables false
set_option linter.unusedSimpArgs false
namespace Go.Proofs.YtehlmkgldcfciaaGreat.Files
open Go.Proofs.YtehlmkgldcfciaaGreat.Common Go.Maps Go.ChangeMaps Go.WideMaps Go.Proofs.YtehlmkgldcfciaaGreat.F
open Go.RowKit Go.Proofs.YtehlmkgldcfciaaGreatW.PrintWords Go.Proofs.YtehlmkgldcfciaaGreatW.PrintLast Go.Proofs.YtehlmkgldcfciaaGreatW.PrintMore
def RClose.T10 : Bool × List (List Nat × List Nat) := (true, [([], []), ([0], [0]), ([1], [1]), ([2], [2]), ([], []), ([], []), ([], []), ([6], [6]), ([], []), ([7, 8], [7, 8]), ([5, 9], [5, 9]), ([], []), ([11], [11]), ([], []), ([13], [13]), ([12, 14], [12, 14]), ([10, 15, 10], [10, 15]), ([3, 4, 0, 1, 2, 3, 4, 5, 6, 7, 8, 9, 10, 11, 12, 13, 14, 15, 16], [3, 4]), ([17, 0, 1, 2, 3, 4, 5, 6, 7, 8, 9, 10, 11, 12, 13, 14, 15, 16], [17]), ([18, 16, 16, 0, 1, 2, 3, 4, 5, 6, 7, 8, 9, 10, 11, 12, 13, 14, 15, 16], [16, 18])])
def RClose.B10 : List Nat := [0, 1, 3, 7, 0, 0, 0, 64, 0, 448, 992, 0, 2048, 0, 8192, 30720, 65504, 131071, 262143, 524287]
theorem RClose.tab10 : rtab .any (opsOf Tryz.f23 10) = RClose.T10 := by kernel_rfl
theorem RClose.bits10 : waitsOk RClose.T10.2 RClose.B10 = true := by kernel_rfl
set_option maxRecDepth 100000 in
set_option maxHeartbeats 4000000 in
theorem rClose_c (rb c : Nat) (ok : Nat → Prop) (st : Fs) (A : Option Addr) (u n : ByteArray) (W : World) (h : RParts W ok rb st A c) (hU : ∀ f ∈ st, f.users.length ≤ 1000 ∧ (f.users.map (fun p => p.1.data.toList)).Nodup) :
    Calls Tryz.prog 23 #[.pointer (some ⟨rb, 0, none⟩), .string u, .string n] W (ROut W ok rb (.int .i64 (mClose st u n).1) (mClose st u n).2) := by
  have C56 := Aside0.mk (rbad_c rb u n W h.c0)
  have CF := Aside0.mk (find_c rb c ok st A n W h)
  have HRR := Aside0.mk (show RRep W ok rb st from ⟨A, c, h⟩)
  have c1 := h.c1
  cases hbad : (userB u && nameB n) with
  | false =>
    rw [hbad] at C56
    have HM := Aside0.mk (show mClose st u n = (1, st) by unfold mClose; rw [mFound_bad hbad])
    clear h hbad c1 CF hU
    go_enter Tryz.func23, Tryz.ntmps23
    go_wp2_with first | (go_at_call 56; refine C56.out.mono ?_; rintro e w' ⟨rfl, rfl⟩)
    go_ret
    exact ROut.stay HRR.out (Below.refl _ _) (by rw [HM.out]) (by rw [HM.out])
  | true =>
   rw [hbad] at C56
   rcases posI_range st n with ⟨hp, hpf⟩ | ⟨k, f, hp, hpf, hk, hnm⟩
   · rw [hp] at CF
     have HM := Aside0.mk (show mClose st u n = (3, st) by unfold mClose; rw [mFound_none hbad hpf])
     clear h hbad c1 hU hp hpf
     go_enter Tryz.func23, Tryz.ntmps23
     go_wp2_with first | (go_at_call 56; refine C56.out.mono ?_; rintro e w' ⟨rfl, rfl⟩) | (go_at_call 49; refine CF.out.mono ?_; rintro e w' ⟨rfl, rfl⟩)
     go_ret
     exact ROut.stay HRR.out (Below.refl _ _) (by rw [HM.out]) (by rw [HM.out])
   · rw [hp] at CF
     obtain ⟨g, Ar, cr, Au, cu, Ao, co, T⟩ := h.row hk
     have hil : k < st.length := (List.getElem?_eq_some_iff.1 hk).1
     have hlz : (k : Int) < (st.length : Int) := by omega
     have hk0 : decide ((k : Int) < 0) = false := decide_eq_false (by omega)
     have hA := T.hA
     subst hA
     obtain ⟨x0, x1, x2, x3, x4, x5, x6, x7, x8, x9⟩ := T.x
     have HH := Aside0.mk h
     have HT := Aside0.mk T
     have HK := Aside0.mk hk
     have hrb := h.lt rb h.okr
     have hgl := h.glt T
     have hne : g ≠ rb := T.okg.2
     have hne2 : rb ≠ g := Ne.symm hne
     have hul := (hU f (List.mem_of_getElem? hk)).1
     have hnd := Aside0.mk (hU f (List.mem_of_getElem? hk)).2
     have CH := Aside0.mk (fun W' (hb : Below W.heap.size W W') => has_c _ f Ar Au Ao cr cu co u W' (T.In.step (Chg.of_below hb (fun _ => False)) (fun _ _ h => h)))
     unfold RowIs at CH
     have HMF := Aside0.mk (mFound_ok hbad hpf)
     have HBX := Aside0.mk (show Below W.heap.size W (W.alloc (.cells #[.string f.F.name, .int .i64 f.F.kind, .int .i64 f.F.perm, .string f.F.owner, .string f.F.last, .int .i64 f.F.ch, .int .i64 f.F.rd, .slice Ar f.rules.length cr, .slice Au f.units.length cu, .slice Ao f.users.length co] 85)) from (Below.refl _ _).alloc (Nat.le_refl _) _)
     have HBK := Aside0.mk (show (W.alloc (.cells #[.string f.F.name, .int .i64 f.F.kind, .int .i64 f.F.perm, .string f.F.owner, .string f.F.last, .int .i64 f.F.ch, .int .i64 f.F.rd, .slice Ar f.rules.length cr, .slice Au f.units.length cu, .slice Ao f.users.length co] 85)).heap[W.heap.size]? = some (.cells #[.string f.F.name, .int .i64 f.F.kind, .int .i64 f.F.perm, .string f.F.owner, .string f.F.last, .int .i64 f.F.ch, .int .i64 f.F.rd, .slice Ar f.rules.length cr, .slice Au f.units.length cu, .slice Ao f.users.length co] 85 (0, 0)) by simpa using heap_alloc_new W _)
     have HL9 := Aside0.mk (T.In.oC)
     clear h T hnm hpf hp hbad hU hk
     rcases hasI_lookU f.users u with ⟨hh, hlu⟩ | ⟨q, p, hh, hql, hq, hlu⟩
     · have HM := Aside0.mk (show mClose st u n = (8, st) by unfold mClose; rw [HMF.out]; simp only [hlu])
       rw [hh] at CH
       clear hlu hh
       go_enter Tryz.func23, Tryz.ntmps23
       go_wp2_with first | (go_at_call 56; refine C56.out.mono ?_; rintro e w' ⟨rfl, rfl⟩) | (go_at_call 49; refine CF.out.mono ?_; rintro e w' ⟨rfl, rfl⟩)
       refine (CH.out _ HBX.out).mono ?_
       rintro e w2 ⟨rfl, hb2⟩
       have HB := Aside0.mk (HBX.out.trans (hb2.mono HBX.out.size))
       clear hb2 x0 x1 x2 x3 x4 x5 x6 x7 x8 x9
       go_wp2
       go_ret
       exact ROut.stay HRR.out HB.out (by rw [HM.out]) (by rw [HM.out])
     · have HM := Aside0.mk (show mClose st u n = (0, st.set k (f.closed u)) by unfold mClose; rw [HMF.out]; simp only [hlu])
       rw [hh] at CH
       have HCL := Aside0.mk (closed_erase f u q hh hnd.out)
       have hqz : (q : Int) ≤ (f.users.length : Int) := by omega
       have hq1z : (q : Int) + 1 ≤ (f.users.length : Int) := by omega
       have hq0 : decide ((q : Int) < 0) = false := decide_eq_false (by omega)
       have hqc : q ≤ co := by have := HL9.out.1; omega
       have hqw : wrap64 ((q : Int) + 1) = ((q + 1 : Nat) : Int) := by unfold wrap64; omega
       have hqn : ((q + 1 : Nat) : Int) ≤ (f.users.length : Int) := by omega
       have hqm : (0 : Int) ≤ (q : Int) + 1 := by omega
       have HTK := Aside0.mk (fun w (hb : Below W.heap.size W w) => take_row (Kd.C_below HL9.out.2 hb) (n := f.users.length) (by simp) (Nat.le_of_lt hql))
       have HDR := Aside0.mk (fun w (hb : Below W.heap.size W w) => drop_row (m := q + 1) (c := co) (Kd.C_below HL9.out.2 hb) (n := f.users.length) (by simp) (by omega) HL9.out.1)
       clear hlu hh hq
       go_enter Tryz.func23, Tryz.ntmps23
       go_wp2_with first | (go_at_call 56; refine C56.out.mono ?_; rintro e w' ⟨rfl, rfl⟩) | (go_at_call 49; refine CF.out.mono ?_; rintro e w' ⟨rfl, rfl⟩)
       refine (CH.out _ HBX.out).mono ?_
       rintro e w2 ⟨rfl, hb2⟩
       have HB := Aside0.mk (HBX.out.trans (hb2.mono HBX.out.size))
       have d9 : w2.cell? ⟨W.heap.size, 9, none⟩ = some (.slice Ao f.users.length co) := (hb2.cell (p := ⟨W.heap.size, 9, none⟩) (by simp)).trans ((blk_cell HBK.out 9).trans rfl)
       have d1 : w2.cell? ⟨rb, 1, none⟩ = some (.slice (some ⟨g, 0, none⟩) st.length c) := (HB.out.cell (p := ⟨rb, 1, none⟩) hrb).trans c1
       have HX9 := Aside0.mk x9
       obtain ⟨N, hN⟩ : ∃ N, N = (f.users.take q ++ f.users.drop (q + 1)).length := ⟨_, rfl⟩
       have HN := Aside0.mk hN
       have HLEN := Aside0.mk (show ((f.users.map toO).take q ++ (f.users.map toO).drop (q + 1)).length = N by rw [hN]; simp)
       clear hN
       clear hb2 x0 x1 x2 x3 x4 x5 x6 x7 x8 x9 c1
       go_wp2_with fail
       refine start_ (n := 20) (S := fun w' => w'.cell? ⟨rb, 1, none⟩ = some (.slice (some ⟨g, 0, none⟩) st.length c) ∧ w'.cell? ⟨W.heap.size, 9, none⟩ = some (.slice Ao f.users.length co)) (ds := [19]) #[false, false, false, false, false, false, false, false, false, false, false, false, false, false, false, false, false, false, false, false] (by kernel_rfl) rfl rfl ⟨d1, d9⟩ (fun hHeld => ?_)
       refine with_tabW RClose.tab10 RClose.bits10 (fun HT_ HW_ => ?_)
       have HWD := Aside0.mk (show Below W.heap.size W w2.drew from HB.out.drew)
       generalize w2.drew = wd at HWD hHeld ⊢
       have HF0 := Aside0.mk hHeld
       refine pure_ (i := 0) (N := some 31) (v := ?_) (a' := ?_) #[true, false, false, false, false, false, false, false, false, false, false, false, false, false, false, false, false, false, false, false] rfl rfl (any_of HT_.out (by kernel_rfl)) (fun _ _ _ h => h) (Or.inl ⟨by rfl, ?_⟩) ?_ ?_
       rotate_left
       · intro w'
         go_simp
         with_reducible rfl
       rotate_left
       · simp only [Act.put, List.setIfInBounds_toArray, List.set_cons_zero, List.set_cons_succ, i64_w, i32_w]
         rfl
       refine pure_ (i := 1) (N := some 32) (v := ?_) (a' := ?_) #[true, true, false, false, false, false, false, false, false, false, false, false, false, false, false, false, false, false, false, false] rfl rfl (any_of HT_.out (by kernel_rfl)) (fun _ _ _ h => h) (Or.inl ⟨by rfl, ?_⟩) ?_ ?_
       rotate_left
       · intro w'
         go_simp
         with_reducible rfl
       rotate_left
       · simp only [Act.put, List.setIfInBounds_toArray, List.set_cons_zero, List.set_cons_succ, i64_w, i32_w]
         rfl
       refine pure_ (i := 2) (N := some 33) (v := ?_) (a' := ?_) #[true, true, true, false, false, false, false, false, false, false, false, false, false, false, false, false, false, false, false, false] rfl rfl (any_of HT_.out (by kernel_rfl)) (fun _ _ _ h => h) (Or.inl ⟨by rfl, ?_⟩) ?_ ?_
       rotate_left
       · intro w'
         go_simp
         with_reducible rfl
       rotate_left
       · simp only [Act.put, List.setIfInBounds_toArray, List.set_cons_zero, List.set_cons_succ, i64_w, i32_w]
         rfl
       refine pure_ (i := 4) (N := some 35) (v := ?_) (a' := ?_) #[true, true, true, false, true, false, false, false, false, false, false, false, false, false, false, false, false, false, false, false] rfl rfl (any_of HT_.out (by kernel_rfl)) (fun _ _ _ h => h) (Or.inl ⟨by rfl, ?_⟩) ?_ ?_
       rotate_left
       · intro w'
         go_simp
         with_reducible rfl
       rotate_left
       · simp only [Act.put, List.setIfInBounds_toArray, List.set_cons_zero, List.set_cons_succ, i64_w, i32_w]
         rfl
       refine pure_ (i := 6) (N := some 37) (v := ?_) (a' := ?_) #[true, true, true, false, true, false, true, false, false, false, false, false, false, false, false, false, false, false, false, false] rfl rfl (any_of HT_.out (by kernel_rfl)) (fun _ _ _ h => h) (Or.inl ⟨by rfl, ?_⟩) ?_ ?_
       rotate_left
       · intro w'
         go_simp
         with_reducible rfl
       rotate_left
       · simp only [Act.put, List.setIfInBounds_toArray, List.set_cons_zero, List.set_cons_succ, i64_w, i32_w]
         rfl
       refine pure_ (i := 8) (N := some 39) (v := ?_) (a' := ?_) #[true, true, true, false, true, false, true, false, true, false, false, false, false, false, false, false, false, false, false, false] rfl rfl (any_of HT_.out (by kernel_rfl)) (fun _ _ _ h => h) (Or.inl ⟨by rfl, ?_⟩) ?_ ?_
       rotate_left
       · intro w'
         go_simp
         with_reducible rfl
       rotate_left
       · simp only [Act.put, List.setIfInBounds_toArray, List.set_cons_zero, List.set_cons_succ, i64_w, i32_w]
         rfl
       refine pure_ (i := 11) (N := some 42) (v := ?_) (a' := ?_) #[true, true, true, false, true, false, true, false, true, false, false, true, false, false, false, false, false, false, false, false] rfl rfl (any_of HT_.out (by kernel_rfl)) (fun _ _ _ h => h) (Or.inl ⟨by rfl, ?_⟩) ?_ ?_
       rotate_left
       · intro w'
         go_simp
         with_reducible rfl
       rotate_left
       · simp only [Act.put, List.setIfInBounds_toArray, List.set_cons_zero, List.set_cons_succ, i64_w, i32_w]
         rfl
       refine pure_ (i := 13) (N := some 44) (v := ?_) (a' := ?_) #[true, true, true, false, true, false, true, false, true, false, false, true, false, true, false, false, false, false, false, false] rfl rfl (any_of HT_.out (by kernel_rfl)) (fun _ _ _ h => h) (Or.inl ⟨by rfl, ?_⟩) ?_ ?_
       rotate_left
       · intro w'
         go_simp
         with_reducible rfl
       rotate_left
       · simp only [Act.put, List.setIfInBounds_toArray, List.set_cons_zero, List.set_cons_succ, i64_w, i32_w]
         rfl
       refine pure_ (i := 14) (N := some 45) (v := ?_) (a' := ?_) #[true, true, true, false, true, false, true, false, true, false, false, true, false, true, true, false, false, false, false, false] rfl rfl (any_of HT_.out (by kernel_rfl)) (fun _ _ _ h => h) (Or.inl ⟨by rfl, ?_⟩) ?_ ?_
       rotate_left
       · intro w'
         go_simp
         with_reducible rfl
       rotate_left
       · simp only [Act.put, List.setIfInBounds_toArray, List.set_cons_zero, List.set_cons_succ, i64_w, i32_w]
         rfl
       refine take_ (i := 3) (N := some 34) (v := ?_) (a' := ?_) #[true, true, true, true, true, false, true, false, true, false, false, true, false, true, true, false, false, false, false, false] rfl rfl (take_ofW HT_.out HW_.out (by kernel_rfl)) (fun _ _ _ h => h) (Or.inl ⟨by rfl, ?_⟩) hHeld ?_ ?_
       rotate_left
       · rintro w' ⟨s0, s1⟩
         go_simp
         with_reducible rfl
       rotate_left
       · simp only [Act.put, List.setIfInBounds_toArray, List.set_cons_zero, List.set_cons_succ, i64_w, i32_w]
         rfl
       refine take_ (i := 7) (N := some 38) (v := ?_) (a' := ?_) #[true, true, true, true, true, false, true, true, true, false, false, true, false, true, true, false, false, false, false, false] rfl rfl (take_ofW HT_.out HW_.out (by kernel_rfl)) (fun _ _ _ h => h) (Or.inl ⟨by rfl, ?_⟩) hHeld ?_ ?_
       rotate_left
       · rintro w' ⟨s0, s1⟩
         go_simp
         with_reducible rfl
       rotate_left
       · simp only [Act.put, List.setIfInBounds_toArray, List.set_cons_zero, List.set_cons_succ, i64_w, i32_w]
         rfl
       refine pure_ (i := 9) (N := some 40) (v := ?_) (a' := ?_) #[true, true, true, true, true, false, true, true, true, true, false, true, false, true, true, false, false, false, false, false] rfl rfl (any_of HT_.out (by kernel_rfl)) (fun _ _ _ h => h) (Or.inl ⟨by rfl, ?_⟩) ?_ ?_
       rotate_left
       · intro w'
         go_simp
         with_reducible rfl
       rotate_left
       · simp only [Act.put, List.setIfInBounds_toArray, List.set_cons_zero, List.set_cons_succ, i64_w, i32_w]
         rfl
       refine take_ (i := 12) (N := some 43) (v := ?_) (a' := ?_) #[true, true, true, true, true, false, true, true, true, true, false, true, true, true, true, false, false, false, false, false] rfl rfl (take_ofW HT_.out HW_.out (by kernel_rfl)) (fun _ _ _ h => h) (Or.inl ⟨by rfl, ?_⟩) hHeld ?_ ?_
       rotate_left
       · rintro w' ⟨s0, s1⟩
         go_simp
         with_reducible rfl
       rotate_left
       · simp only [Act.put, List.setIfInBounds_toArray, List.set_cons_zero, List.set_cons_succ, i64_w, i32_w]
         rfl
       refine pure_ (i := 15) (N := some 46) (v := ?_) (a' := ?_) #[true, true, true, true, true, false, true, true, true, true, false, true, true, true, true, true, false, false, false, false] rfl rfl (any_of HT_.out (by kernel_rfl)) (fun _ _ _ h => h) (Or.inl ⟨by rfl, ?_⟩) ?_ ?_
       rotate_left
       · intro w'
         go_simp
         with_reducible rfl
       rotate_left
       · simp only [Act.put, List.setIfInBounds_toArray, List.set_cons_zero, List.set_cons_succ, i64_w, i32_w]
         rfl
       refine one_ (i := 5) (N := some 36) #[true, true, true, true, true, true, true, true, true, true, false, true, true, true, true, true, false, false, false, false] rfl rfl (one_of HT_.out (by kernel_rfl)) (by decide) (fun K hK => ?_)
       refine Kd.R_lit_step k95 (w0 := wd) wd.heap.size 95 ?hg (N := 36) ?hd (xs := ([] : List S95)) (inner := []) (ok := fun _ => True) (okp := fun _ => True) ?hr ?hp (fun _ hk => hk) trivial (Below.refl _ _) (Nat.le_refl _) (by simp) ?_; (case hd => rfl); (case hg => rfl); (case hr => first | (go_simp; done) | (go_simp; rfl)); (case hp => exact (Reps.none _ _))
       intro v1 x1 ho hb _ _
       have HO1 := Aside0.mk ho
       have HB1 := Aside0.mk hb
       clear ho hb
       refine hK.out _ _ ⟨pw_cell_below HB1.out HF0.out.1, pw_cell_below HB1.out HF0.out.2⟩ (fun hHeld => ?_)
       clear hK K
       refine norm_ (a' := ?_) ?_ ?_
       rotate_left
       · show Act.put _ (some 36) _ = _
         simp only [Act.put, List.setIfInBounds_toArray, List.set_cons_zero, List.set_cons_succ, i64_w, i32_w]
         rfl
       refine one_ (i := 10) (N := some 41) #[true, true, true, true, true, true, true, true, true, true, true, true, true, true, true, true, false, false, false, false] rfl rfl (one_of HT_.out (by kernel_rfl)) (by decide) (fun K hK => ?_)
       refine Kd.R_append_rows_step k95 (Rr := k95.K x1) (w0 := wd) wd.heap.size (by rfl) (.tmp 36) (.tmp 40) 83 95 (.agg #[.string ⟨#[]⟩, .int .i64 0, .int .i64 0]) 32 rfl Tryz.underlying83 (by kernel_rfl) rfl (by decide) (by omega) v1 [] ((f.users.map toO).take q) Ao q co (fun _ => True) (fun _ => False) rfl rfl HO1.out (HTK.out _ (HWD.out.trans (HB1.out.mono HWD.out.size))) (fun x cs h => by rw [k95_open h]; exact k95_mkM _ _ _ _) (fun _ h => h.elim) (fun _ _ => trivial) HB1.out HB1.out.size (by simp only [List.length_nil]; omega) ?_
       intro v2 x2 ho hb _ _
       rw [List.nil_append] at ho
       have HB2 := Aside0.mk hb
       have HO2 := Aside0.mk ho
       clear ho hb
       refine hK.out _ _ ⟨pw_cell_below HB2.out HF0.out.1, pw_cell_below HB2.out HF0.out.2⟩ (fun hHeld => ?_)
       clear hK K
       refine norm_ (a' := ?_) ?_ ?_
       rotate_left
       · show Act.put _ (some 41) _ = _
         simp only [Act.put, List.setIfInBounds_toArray, List.set_cons_zero, List.set_cons_succ, i64_w, i32_w]
         rfl
       refine one_ (i := 16) (N := some 47) #[true, true, true, true, true, true, true, true, true, true, true, true, true, true, true, true, true, false, false, false] rfl rfl (one_of HT_.out (by kernel_rfl)) (by decide) (fun K hK => ?_)
       refine Kd.R_append_rows_step k95 (Rr := k95.K x2) (w0 := wd) wd.heap.size (by rfl) (.tmp 41) (.tmp 46) 83 95 (.agg #[.string ⟨#[]⟩, .int .i64 0, .int .i64 0]) 32 rfl Tryz.underlying83 (by kernel_rfl) rfl (by decide) (by omega) v2 ((f.users.map toO).take q) ((f.users.map toO).drop (q + 1)) _ (f.users.length - (q + 1)) _ (fun _ => True) (fun _ => False) rfl rfl HO2.out (HDR.out _ (HWD.out.trans (HB2.out.mono HWD.out.size))) (fun x cs h => by rw [k95_open h]; exact k95_mkM _ _ _ _) (fun _ h => h.elim) (fun _ _ => trivial) HB2.out HB2.out.size (by rw [List.length_take, List.length_map]; omega) ?_
       intro v3 x3 ho hb _ _
       have HB3 := Aside0.mk hb
       obtain ⟨A3, c3, hv3⟩ := Kd.R_slice ho
       rw [HLEN.out] at hv3
       subst hv3
       have HBW3 := Aside0.mk (HWD.out.trans (HB3.out.mono HWD.out.size))
       have y_3 := (HBW3.out.cell (p := ⟨g, k * 10 + 9, none⟩) hgl).trans HX9.out
       have z_3 : x3.frozen? ⟨g, k * 10 + 9, none⟩ = false := by rw [World.frozen?_of_block (HBW3.out.block g hgl)]; exact HT.out.fz _
       have HO3 := Aside0.mk ho
       clear ho hb
       refine hK.out _ _ ⟨pw_cell_below HB3.out HF0.out.1, pw_cell_below HB3.out HF0.out.2⟩ (fun hHeld => ?_)
       clear hK K
       refine norm_ (a' := ?_) ?_ ?_
       rotate_left
       · show Act.put _ (some 47) _ = _
         simp only [Act.put, List.setIfInBounds_toArray, List.set_cons_zero, List.set_cons_succ, i64_w, i32_w]
         rfl
       refine pure_ (i := 17) (N := some 48) (v := ?_) (a' := ?_) #[true, true, true, true, true, true, true, true, true, true, true, true, true, true, true, true, true, true, false, false] rfl rfl (any_of HT_.out (by kernel_rfl)) (fun _ _ _ h => h) (Or.inl ⟨by rfl, ?_⟩) ?_ ?_
       rotate_left
       · intro w'
         go_simp
         with_reducible rfl
       rotate_left
       · simp only [Act.put, List.setIfInBounds_toArray, List.set_cons_zero, List.set_cons_succ, i64_w, i32_w]
         rfl
       refine pure_ (i := 18) (N := some 49) (v := ?_) (a' := ?_) #[true, true, true, true, true, true, true, true, true, true, true, true, true, true, true, true, true, true, true, false] rfl rfl (any_of HT_.out (by kernel_rfl)) (fun _ _ _ h => h) (Or.inl ⟨by rfl, ?_⟩) ?_ ?_
       rotate_left
       · intro w'
         go_simp
         with_reducible rfl
       rotate_left
       · simp only [Act.put, List.setIfInBounds_toArray, List.set_cons_zero, List.set_cons_succ, i64_w, i32_w]
         rfl
       refine last_ (i := 19) (N := none) #[true, true, true, true, true, true, true, true, true, true, true, true, true, true, true, true, true, true, true, true] rfl rfl (one_of HT_.out (by kernel_rfl)) (by decide) (fun K hK => ?_)
       refine skip_ (w1 := ?_) (by rfl) rfl ?_ ?_
       rotate_left
       · go_simp
         rfl
       refine hK.out _ _ ?_
       clear hK K
       refine done_ (done_of HT_.out (by kernel_rfl)) ?_
       have HR3 := Aside0.mk (show k95.R 95 x3 W.heap.size (fun _ => True) (.slice A3 N c3) ((f.users.take q ++ f.users.drop (q + 1)).map toO) by
         rw [List.map_append, List.map_take, List.map_drop]
         exact Kd.R_lower HO3.out HWD.out.size)
       go_wp2
       all_goals
         refine bodyPost_ret (v := .int .i64 0) (by simp [results, Tryz.f23, go_sem]) rfl ?_
         rw [HM.out, HCL.out]
         have hN := HN.out
         subst hN
         exact HH.out.put HT.out HK.out HBW3.out 9 _ (f' := { f with users := f.users.take q ++ f.users.drop (q + 1) }) (by decide) rfl ⟨(InR.old HH.out HT.out.In HBW3.out).r, (InR.old HH.out HT.out.In HBW3.out).u, R_made HR3.out HBW3.out HH.out HT.out⟩ _
end Go.Proofs.YtehlmkgldcfciaaGreat.Files
/- The reference's store: a change noted, as a method's end; one unit written. -/
set_option linter.unusedVariables false
set_option linter.unusedSimpArgs false
namespace Go.Proofs.YtehlmkgldcfciaaGreat.Files
open Go.Proofs.YtehlmkgldcfciaaGreat.Common Go.Maps Go.ChangeMaps Go.WideMaps Go.Proofs.YtehlmkgldcfciaaGreat.F
open Go.RowKit Go.Proofs.YtehlmkgldcfciaaGreatW.PrintWords Go.Proofs.YtehlmkgldcfciaaGreatW.PrintLast Go.Proofs.YtehlmkgldcfciaaGreatW.PrintMore
theorem ROut.from_ {W w2 w' : World} {ok : Nat → Prop} {rb : Nat} {v : Value} {st' : Fs} {e : Ending} (hb : Below W.heap.size W w2) (h : ROut w2 ok rb v st' e w') : ROut W ok rb v st' e w' := by
  obtain ⟨he, ok', h1, h2, h3⟩ := h
  exact ⟨he, ok', h1, ((Chg.of_below hb (fun _ => False)).mono (fun _ h => h.elim)).trans h2 (fun i hi => .inl hi), fun q hq => (h3 q hq).elim .inl (fun e => .inr (Nat.le_trans hb.size e))⟩
theorem set_at {α : Type} {l : List α} {i : Nat} {x y : α} (h : l[i]? = some x) : (l.set i y)[i]? = some y := by
  have := (List.getElem?_eq_some_iff.1 h).1
  rw [List.getElem?_set, if_pos rfl, if_pos this]
theorem rchanged_out {W X : World} {ok : Nat → Prop} {rb c i g cr cu co cl : Nat} {st : Fs} {f : AF} {A Ar Au Ao Al : Option Addr} {who : ByteArray} {l : List S29} (h : RParts W ok rb st A c) (hi : st[i]? = some f) (T : RowAt W ok rb A i g f Ar cr Au cu Ao co) (hb : Below W.heap.size W X)
    (hl : k62.R 62 X W.heap.size (fun _ => True) (.slice Al l.length cl) (l.map toU)) :
    Calls Tryz.prog 75 #[.pointer (some ⟨rb, 0, none⟩), .int .i64 (i : Int), .string who, .slice Al l.length cl] X (ROut W ok rb (.int .i64 0) (st.set i (f.units' who l))) := by
  have h0 := h.later hb
  have T0 := T.later h hb
  refine (rchanged_c rb c i g cr cu co cl _ st f A Ar Au Ao Al who l X h0 hi T0).mono ?_
  rintro e w' ⟨rfl, m, rfl⟩
  have hI := InR.old h T.In hb
  obtain ⟨h1, c1⟩ := h0.set T0 hi 8 (.slice Al l.length cl) (f' := { f with units := l }) (by decide) rfl ⟨hI.r, R_made hl hb h T, hI.o⟩
  have hd : Below (X.setCell ⟨g, i * 10 + 8, none⟩ (.slice Al l.length cl)).heap.size (X.setCell ⟨g, i * 10 + 8, none⟩ (.slice Al l.length cl)) ((X.setCell ⟨g, i * 10 + 8, none⟩ (.slice Al l.length cl)).drewN m) := pw_below_drewN (Below.refl _ _) m
  have h1d := h1.below hd
  obtain ⟨g1, Ar1, cr1, Au1, cu1, Ao1, co1, T1⟩ := h1d.row (set_at hi)
  obtain rfl : g1 = g := by have := T1.hA.symm.trans T.hA; injection this with this; injection this
  obtain ⟨h2, c2⟩ := h1d.set T1 (set_at hi) 5 (.int .i64 (wrap64 (f.F.ch + 1))) (f' := { f with F := { f.F with ch := wrap64 (f.F.ch + 1) }, units := l }) (by decide) rfl ⟨T1.In.r, T1.In.u, T1.In.o⟩
  rw [List.set_set] at h2
  obtain ⟨g2, Ar2, cr2, Au2, cu2, Ao2, co2, T2⟩ := h2.row (set_at hi)
  obtain rfl : g2 = g1 := by have := T2.hA.symm.trans T1.hA; injection this with this; injection this
  obtain ⟨h3, c3⟩ := h2.set T2 (set_at hi) 4 (.string who) (f' := f.units' who l) (by decide) rfl ⟨T2.In.r, T2.In.u, T2.In.o⟩
  rw [List.set_set] at h3
  have hg : ok g2 := T.okg.1
  have hC : Chg W _ ok := (((((Chg.of_below hb (fun _ => False)).mono (fun _ h => h.elim)).trans (c1.mono (T := ok) (fun k hk => by rw [hk]; exact hg)) (fun i hi => .inl hi)).trans ((Chg.of_below hd (fun _ => False)).mono (T := ok) (fun _ h => h.elim)) (fun i hi => .inl hi)).trans (c2.mono (T := ok) (fun k hk => by rw [hk]; exact hg)) (fun i hi => .inl hi)).trans (c3.mono (T := ok) (fun k hk => by rw [hk]; exact hg)) (fun i hi => .inl hi)
  exact ⟨rfl, okP ok W X, ⟨A, c, h3⟩, hC, fun q hq => hq.1⟩
theorem add_zero' {W : World} {ad : Addr} {v : Value} (h : W.cell? (ad.add 0) = some v) : W.cell? ad = some v := h
def gOf : Option Addr → Nat
  | some a => a.block
  | none => 0
theorem U_slice {W : World} {base : Nat} {ok : Nat → Prop} {v : Value} {l : List S62} (h : k62.R 62 W base ok v l) (hn : 0 < l.length) : ∃ g cp, v = .slice (some ⟨g, 0, none⟩) l.length cp ∧ base ≤ g ∧ l.length ≤ cp ∧ (∃ cur, W.heap[g]? = some (.cells cur 62 (0, 0))) := by
  obtain ⟨_, inner, ho, _⟩ := h
  rcases ho.2 with ⟨_, h0⟩ | ⟨g, cap, cur, hv, hb, hh, hc, _⟩
  · omega
  · exact ⟨g, cap, hv, hb, hc, cur, hh⟩
theorem at_units {W : World} {Au : Option Addr} {l : List S29} (h : Kd.C k62 W Au (l.map toU).length (l.map toU)) (k : Nat) (hk : k < l.length) : ∃ ad, Au = some ad ∧ W.cell? (ad.add (k * 3)) = some (.string l[k].f0) ∧
    W.cell? ⟨(ad.add (k * 3)).block, (ad.add (k * 3)).off + 1, none⟩ = some (.string l[k].f1) ∧ W.cell? ⟨(ad.add (k * 3)).block, (ad.add (k * 3)).off + 2, none⟩ = some (.int .i64 l[k].f2) := by
  obtain ⟨ad, e, h0, h1, h2⟩ := at_T62 h (k : Int) (by omega) (by simp; omega)
  have hrd : rd_T62 (l.map toU) (k : Int) = toU l[k] := by simp [rd_T62, List.getElem?_map, List.getElem?_eq_getElem hk]
  rw [hrd, Int.toNat_natCast] at h0 h1 h2
  exact ⟨ad, e, h0, h1, h2⟩
theorem U_set {W : World} {base g n cap i : Nat} {ok : Nat → Prop} {l : List S29} (h : k62.R 62 W base ok (.slice (some ⟨g, 0, none⟩) n cap) (l.map toU)) (hi : i < l.length) (d : ByteArray) :
    k62.R 62 (W.setCell ⟨g, i * 3 + 1, none⟩ (.string d)) base ok (.slice (some ⟨g, 0, none⟩) n cap) ((withData l i d).map toU) ∧ W.grownBy (W.setCell ⟨g, i * 3 + 1, none⟩ (.string d)) (some g) := by
  obtain ⟨hn, _, hC⟩ := Kd.R_reads' h
  obtain ⟨ad, e, x0, x1, x2⟩ := at_units hC i hi
  cases e
  rw [add_plain] at x0 x1 x2
  obtain ⟨h1, h2⟩ := Kd.R_seg (okp := fun k => ok k ∧ k ≠ g) h (i : Int) (by omega) (by rw [hn]; simp; omega) (c := [.string l[i].f0, .string l[i].f1, .int .i64 l[i].f2]) (seg := [.string d]) (j := 1) rfl
    (fun j u hj => by
      rw [Int.toNat_natCast]
      rcases j with _ | _ | _ | j
      · injection hj with hj; subst hj; exact x0
      · injection hj with hj; subst hj; exact x1
      · injection hj with hj; subst hj; exact x2
      · simp at hj) (Nat.le_of_ble_eq_true rfl) (x' := ⟨l[i].f0, d, l[i].f2⟩) (k62_mkM _ _ _ _) (fun k hk => hk)
  rw [Int.toNat_natCast] at h1 h2
  refine ⟨?_, h2⟩
  have e2 : (l.map toU).set i ⟨l[i].f0, d, l[i].f2⟩ = (withData l i d).map toU := by
    unfold withData
    rw [rd_get l i hi, List.map_set]
    all_goals rfl
  rw [← e2]
  exact h1
end Go.Proofs.YtehlmkgldcfciaaGreat.Files
/- The reference's store: Replace, Extend. -/
set_option linter.unusedVariables false
set_option linter.unusedSimpArgs false
namespace Go.Proofs.YtehlmkgldcfciaaGreat.Files
open Go.Proofs.YtehlmkgldcfciaaGreat.Common Go.Maps Go.ChangeMaps Go.WideMaps Go.Proofs.YtehlmkgldcfciaaGreat.F
open Go.RowKit Go.Proofs.YtehlmkgldcfciaaGreatW.PrintWords Go.Proofs.YtehlmkgldcfciaaGreatW.PrintLast Go.Proofs.YtehlmkgldcfciaaGreatW.PrintMore
def mPut (st : Fs) (u n : ByteArray) (at_ action : Int) (d : ByteArray) (whole : Bool) : Int × Fs :=
  if (userB u && nameB n) = false ∨ decide (at_ < 0) = true ∨ decide (400 < d.size) = true then (1, st) else match mBegin st u n with
  | .error E => (E, st)
  | .ok (k, f, a) => if (f.units.length : Int) ≤ at_ then (3, st) else if denied a action = 0 then (if whole then (0, st.set k (f.data u at_.toNat d)) else if 400 < (rd_T29 f.units at_).f1.size + d.size then (9, st) else (0, st.set k (f.data u at_.toNat ((rd_T29 f.units at_).f1 ++ d)))) else (denied a action, st)
set_option maxRecDepth 100000 in
set_option maxHeartbeats 4000000 in
theorem rput_c (rb c : Nat) (ok : Nat → Prop) (st : Fs) (A : Option Addr) (u n : ByteArray) (at_ action : Int) (d : ByteArray) (whole : Bool) (ka : Nat) (W : World) (h : RParts W ok rb st A c) (hka : ka < 62) (ha : action = 2 ^ ka) (hU : ∀ f ∈ st, 1 ≤ f.units.length ∧ f.units.length ≤ 1000) (hD : ∀ f ∈ st, ∀ x ∈ f.units, x.f1.size ≤ 400) :
    Calls Tryz.prog 76 #[.pointer (some ⟨rb, 0, none⟩), .string u, .string n, .int .i64 at_, .int .i64 action, .string d, .bool whole] W (ROut W ok rb (.int .i64 (mPut st u n at_ action d whole).1) (mPut st u n at_ action d whole).2) := by
  have C56 := Aside0.mk (rbad_c rb u n W h.c0)
  have CB := Aside0.mk (begin_c rb c ok st A u n W h)
  have HRR := Aside0.mk (show RRep W ok rb st from ⟨A, c, h⟩)
  cases hbad : (userB u && nameB n) with
  | false =>
    rw [hbad] at C56
    have HM := Aside0.mk (show mPut st u n at_ action d whole = (1, st) by unfold mPut; rw [hbad]; rfl)
    clear h hbad CB hU ha hka
    go_enter Tryz.func76, Tryz.ntmps76
    go_wp2_with first | (go_at_call 56; refine C56.out.mono ?_; rintro e w' ⟨rfl, rfl⟩)
    refine bodyPost_ret (v := .int .i64 1) (by simp [results, Tryz.f76, go_sem]) rfl ?_
    exact ROut.stay HRR.out (Below.refl _ _) (by rw [HM.out]) (by rw [HM.out])
  | true =>
   rw [hbad] at C56
   by_cases hr : at_ < 0
   · have g1 : decide (at_ < 0) = true := decide_eq_true hr
     have HM := Aside0.mk (show mPut st u n at_ action d whole = (1, st) by unfold mPut; rw [hbad, decide_eq_true hr]; rfl)
     clear h hbad CB hr hU ha hka
     go_enter Tryz.func76, Tryz.ntmps76
     go_wp2_with first | (go_at_call 56; refine C56.out.mono ?_; rintro e w' ⟨rfl, rfl⟩)
     refine bodyPost_ret (v := .int .i64 1) (by simp [results, Tryz.f76, go_sem]) rfl ?_
     exact ROut.stay HRR.out (Below.refl _ _) (by rw [HM.out]) (by rw [HM.out])
   have g1 : decide (at_ < 0) = false := decide_eq_false hr
   have HN0 := Aside0.mk hr
   clear hr
   by_cases hr : 400 < d.size
   · have g2 : decide ((400 : Int) < (d.size : Int)) = true := decide_eq_true (by omega)
     have HM := Aside0.mk (show mPut st u n at_ action d whole = (1, st) by unfold mPut; rw [hbad, decide_eq_true hr]; simp)
     clear h hbad CB hr hU ha hka
     go_enter Tryz.func76, Tryz.ntmps76
     go_wp2_with first | (go_at_call 56; refine C56.out.mono ?_; rintro e w' ⟨rfl, rfl⟩)
     refine bodyPost_ret (v := .int .i64 1) (by simp [results, Tryz.f76, go_sem]) rfl ?_
     exact ROut.stay HRR.out (Below.refl _ _) (by rw [HM.out]) (by rw [HM.out])
   have g2 : decide ((400 : Int) < (d.size : Int)) = false := decide_eq_false (by omega)
   have HD0 := Aside0.mk hr
   clear hr
   cases hB : mBegin st u n with
   | error E =>
     rw [hB] at CB
     have hE := mBegin_E hB
     have HM := Aside0.mk (show mPut st u n at_ action d whole = (E, st) by unfold mPut; rw [hbad, decide_eq_false HN0.out, decide_eq_false HD0.out]; simp [hB])
     clear h hbad hB hU ha hka
     go_enter Tryz.func76, Tryz.ntmps76
     go_wp2_with first | (go_at_call 56; refine C56.out.mono ?_; rintro e w' ⟨rfl, rfl⟩) | (go_at_call 67; refine CB.out.mono ?_; rintro e w2 ⟨hb2, rfl⟩)
     refine bodyPost_ret (v := .int .i64 E) (by simp [results, Tryz.f76, go_sem]) rfl ?_
     exact ROut.stay HRR.out (hb2) (by rw [HM.out]) (by rw [HM.out])
   | ok p =>
     obtain ⟨k, f, a⟩ := p
     rw [hB] at CB
     obtain ⟨hk, hnm⟩ := mBegin_at hB
     have HMP := Aside0.mk (show mPut st u n at_ action d whole = (if (f.units.length : Int) ≤ at_ then (3, st) else if denied a action = 0 then (if whole then (0, st.set k (f.data u at_.toNat d)) else if 400 < (rd_T29 f.units at_).f1.size + d.size then (9, st) else (0, st.set k (f.data u at_.toNat ((rd_T29 f.units at_).f1 ++ d)))) else (denied a action, st)) by unfold mPut; rw [hbad, decide_eq_false HN0.out, decide_eq_false HD0.out]; simp [hB])
     have HDD := Aside0.mk (denied_cases a action)
     have HWI := Aside0.mk (within_den a action ka hka ha)
     have HUL := Aside0.mk (hU f (List.mem_of_getElem? hk))
     have HR := Aside0.mk h
     have HHK := Aside0.mk hk
     clear hB hnm hk ha hka hU h
     go_enter Tryz.func76, Tryz.ntmps76
     go_wp2_with first | (go_at_call 56; refine C56.out.mono ?_; rintro e w' ⟨rfl, rfl⟩)
     refine CB.out.mono ?_
     rintro e w2 ⟨hb2, rfl⟩
     have h := HR.out
     have hk := HHK.out
     have R2 := h.below hb2
     obtain ⟨g, Ar, cr, Au, cu, Ao, co, T⟩ := R2.row hk
     have hil : k < st.length := (List.getElem?_eq_some_iff.1 hk).1
     have hlz : (k : Int) < (st.length : Int) := by omega
     have hk0 : decide ((k : Int) < 0) = false := decide_eq_false (by omega)
     have c1 := R2.c1
     have hA := T.hA
     subst hA
     obtain ⟨x0, x1, x2, x3, x4, x5, x6, x7, x8, x9⟩ := T.x
     have HH := Aside0.mk R2
     have HT := Aside0.mk T
     have HK := Aside0.mk hk
     have hrb := R2.lt rb R2.okr
     have hgl := R2.glt T
     have hne : g ≠ rb := T.okg.2
     have hne2 : rb ≠ g := Ne.symm hne
     have HB2 := Aside0.mk hb2
     have HIN := Aside0.mk T.In
     have HUC := Aside0.mk (fun w (hb : Below w2.heap.size w2 w) => (show Kd.C k62 w Au f.units.length (f.units.map toU) by have := (T.In.step (Chg.of_below hb (fun _ => False)) (fun _ _ h => h)).uC.2; rwa [List.length_map] at this))
     have hul := HUL.out
     have old_small := Aside0.mk (hD f (List.mem_of_getElem? hk))
     clear R2 T h hk hb2 hD x0 x1 x2 x3 x4 x5 x6 x7 x9
     by_cases hpl : (f.units.length : Int) ≤ at_
     · have g3 : decide ((f.units.length : Int) ≤ at_) = true := decide_eq_true hpl
       have HM := Aside0.mk (show mPut st u n at_ action d whole = (3, st) by rw [HMP.out, if_pos hpl])
       clear hpl
       go_wp2_with (first
         | ((with_reducible refine gate_dst (N := 43) rfl ?_); refine Kd.R_lit k62 (w0 := w2) w2.heap.size 62 ?hg (N := 43) ?hd (xs := ([] : List S62)) (inner := []) (ok := fun _ => True) (okp := fun _ => True) ?hr ?hp (fun _ hk => hk) trivial (Below.refl _ _) (Nat.le_refl _) (by simp) ?_; (case hd => rfl); (case hg => rfl); (case hr => first | (go_simp; done) | (go_simp; rfl)); (case hp => exact (Reps.none _ _)); intro v1 x1 ho hb _ _; have HO1 := Aside0.mk ho; have HB1 := Aside0.mk hb; clear ho hb; have d1 := (HB1.out.cell (p := ⟨rb, 1, none⟩) hrb).trans c1; have d8 := (HB1.out.cell (p := ⟨g, k * 10 + 8, none⟩) hgl).trans x8)
         | ((with_reducible refine gate_builtin (b := .append) (xs := #[.tmp 43, .tmp 51]) rfl ?_); at_builtin; refine Kd.R_append_rows k62 (Rr := k62.K x1) (w0 := w2) w2.heap.size rfl (.tmp 43) (.tmp 51) 55 62 (.agg #[.string ⟨#[]⟩, .string ⟨#[]⟩, .int .i64 0]) 40 rfl Tryz.underlying55 (by kernel_rfl) rfl (by decide) (by omega) v1 [] (f.units.map toU) Au f.units.length cu (fun _ => True) (fun _ => False) rfl rfl HO1.out (HUC.out _ HB1.out) (fun x cs h => by rw [k62_open h]; exact k62_mkM _ _ _ _) (fun _ h => h.elim) (fun _ _ => trivial) HB1.out HB1.out.size (by simp only [List.length_nil]; omega) ?_; intro v3 x3 ho hb _ _; rw [List.nil_append] at ho; have HB3 := Aside0.mk hb; obtain ⟨A3, c3, hv3⟩ := Kd.R_slice ho; rw [List.length_map] at hv3; subst hv3; have HO3 := Aside0.mk ho; clear ho hb))
       refine bodyPost_ret (v := .int .i64 3) (by simp [results, Tryz.f76, go_sem]) rfl ?_
       exact ROut.stay HRR.out (HB2.out.trans (HB3.out.mono HB2.out.size)) (by rw [HM.out]) (by rw [HM.out])
     · have g3 : decide ((f.units.length : Int) ≤ at_) = false := decide_eq_false hpl
       have HMP2 := Aside0.mk (HMP.out.trans (if_neg hpl))
       clear HMP
       have hpl2 : at_ < (f.units.length : Int) := by omega
       clear hpl
       go_wp2_with (first
         | ((with_reducible refine gate_dst (N := 43) rfl ?_); refine Kd.R_lit k62 (w0 := w2) w2.heap.size 62 ?hg (N := 43) ?hd (xs := ([] : List S62)) (inner := []) (ok := fun _ => True) (okp := fun _ => True) ?hr ?hp (fun _ hk => hk) trivial (Below.refl _ _) (Nat.le_refl _) (by simp) ?_; (case hd => rfl); (case hg => rfl); (case hr => first | (go_simp; done) | (go_simp; rfl)); (case hp => exact (Reps.none _ _)); intro v1 x1 ho hb _ _; have HO1 := Aside0.mk ho; have HB1 := Aside0.mk hb; clear ho hb; have d1 := (HB1.out.cell (p := ⟨rb, 1, none⟩) hrb).trans c1; have d8 := (HB1.out.cell (p := ⟨g, k * 10 + 8, none⟩) hgl).trans x8)
         | ((with_reducible refine gate_builtin (b := .append) (xs := #[.tmp 43, .tmp 51]) rfl ?_); at_builtin; refine Kd.R_append_rows k62 (Rr := k62.K x1) (w0 := w2) w2.heap.size rfl (.tmp 43) (.tmp 51) 55 62 (.agg #[.string ⟨#[]⟩, .string ⟨#[]⟩, .int .i64 0]) 40 rfl Tryz.underlying55 (by kernel_rfl) rfl (by decide) (by omega) v1 [] (f.units.map toU) Au f.units.length cu (fun _ => True) (fun _ => False) rfl rfl HO1.out (HUC.out _ HB1.out) (fun x cs h => by rw [k62_open h]; exact k62_mkM _ _ _ _) (fun _ h => h.elim) (fun _ _ => trivial) HB1.out HB1.out.size (by simp only [List.length_nil]; omega) ?_; intro v3 x3 ho hb _ _; rw [List.nil_append] at ho; have HB3 := Aside0.mk hb; obtain ⟨A3, c3, hv3⟩ := Kd.R_slice ho; rw [List.length_map] at hv3; subst hv3; have HO3 := Aside0.mk ho; clear ho hb))
       have HHE := Aside0.mk (show ∀ i : Nat, i < f.units.length → at_ = (i : Int) → (∀ d', Calls Tryz.prog 75 #[.pointer (some ⟨rb, 0, none⟩), .int .i64 (k : Int), .string u, .slice A3 f.units.length c3] (x3.setCell ⟨gOf A3, i * 3 + 1, none⟩ (.string d')) (ROut w2 ok rb (.int .i64 0) (st.set k (f.data u i d')))) ∧ ∃ g3, A3 = some ⟨g3, 0, none⟩ ∧ x3.cell? ⟨g3, i * 3 + 1, none⟩ = some (.string (rd_T29 f.units (i : Int)).f1) ∧ ∀ o, x3.frozen? ⟨g3, o, none⟩ = false from fun i hi hat => by
         obtain ⟨g3, cp, hv, hbg, hcp, cur, hblk⟩ := U_slice (l := f.units.map toU) HO3.out (by simp; omega)
         injection hv with hv1 _ hv3
         subst hv1
         refine ⟨fun d' => ?_, g3, rfl, ?_, fun o => by simp [World.frozen?, hblk]⟩
         · obtain ⟨h1, h2⟩ := U_set (l := f.units) HO3.out hi d'
           have hlen : (withData f.units i d').length = f.units.length := by simp [withData]
           have hbX : Below w2.heap.size w2 (x3.setCell ⟨g3, i * 3 + 1, none⟩ (.string d')) := (HB3.out).trans (⟨h2.os, h2.tape, h2.output, h2.size, fun q hq => h2.block q (Nat.lt_of_lt_of_le hq HB3.out.size) (fun e => by injection e with e; omega)⟩ : Below w2.heap.size x3 _)
           have := rchanged_out (who := u) (l := withData f.units i d') (Al := some ⟨g3, 0, none⟩) (cl := c3) HH.out HK.out HT.out hbX (by rw [hlen]; exact h1)
           rw [hlen] at this
           exact this
         · obtain ⟨_, _, hC⟩ := Kd.R_reads' HO3.out
           obtain ⟨ad, e, _, y1, _⟩ := at_units hC i hi
           cases e
           rw [add_plain] at y1
           rw [rd_get _ _ hi]
           exact y1)
       rcases HDD.out with hd0 | hd12
       · have gW : decide (bits .and .i64 action a = action) = true := by rw [HWI.out, hd0]; rfl
         obtain ⟨i, rfl⟩ : ∃ i : Nat, at_ = (i : Int) := ⟨at_.toNat, by have := HN0.out; omega⟩
         obtain ⟨CC0, gg, rfl, y1, yz⟩ := HHE.out i (by omega) rfl
         have y1z := yz (i * 3 + 1)
         have hiz : (i : Int) < (f.units.length : Int) := by omega
         have hi0 : decide ((i : Int) < 0) = false := decide_eq_false (by omega)
         generalize hold : (rd_T29 f.units (i : Int)).f1 = old at y1
         have CC := Aside0.mk CC0
         clear CC0 yz HHE
         cases whole with
         | true =>
           have HM := Aside0.mk (show mPut st u n (i : Int) action d true = (0, st.set k (f.data u i d)) by rw [HMP2.out, if_pos hd0]; rfl)
           clear hd0 hold
           go_wp2_with fail
           refine (rwithin_c action a _).mono ?_
           rintro e w' ⟨rfl, rfl⟩
           go_wp2_with fail
           refine (CC.out d).mono ?_
           rintro e w5 hR
           obtain ⟨rfl, hR'⟩ := hR
           have HR5 := Aside0.mk hR'
           clear hR'
           go_wp2
           refine bodyPost_ret (v := .int .i64 0) (by simp [results, Tryz.f76, go_sem]) rfl ?_
           rw [HM.out]
           exact ROut.from_ HB2.out ⟨rfl, HR5.out⟩
         | false =>
           by_cases hfull : 400 < old.size + d.size
           · have HM := Aside0.mk (show mPut st u n (i : Int) action d false = (9, st) by rw [HMP2.out, if_pos hd0, hold]; simp [hfull])
             have gw : IntKind.i64.wrap ((old.size : Int) + (d.size : Int)) = (old.size : Int) + (d.size : Int) := by have := old_small.out _ (by rw [rd_get _ _ (show i < f.units.length by omega)]; exact List.getElem_mem _ : rd_T29 f.units (i : Int) ∈ f.units); rw [hold] at this; have := HD0.out; rw [IntKind.wrap_i64]; omega
             have g5 : decide ((400 : Int) < (old.size : Int) + (d.size : Int)) = true := decide_eq_true (by omega)
             have g6 : (400 : Int) < (old.size : Int) + (d.size : Int) := by omega
             clear hd0 hold hfull
             go_wp2_with fail
             refine (rwithin_c action a _).mono ?_
             rintro e w' ⟨rfl, rfl⟩
             go_wp2
             refine bodyPost_ret (v := .int .i64 9) (by simp [results, Tryz.f76, go_sem]) rfl ?_
             exact ROut.stay HRR.out (HB2.out.trans (HB3.out.mono HB2.out.size)) (by rw [HM.out]) (by rw [HM.out])
           · have HM := Aside0.mk (show mPut st u n (i : Int) action d false = (0, st.set k (f.data u i (old ++ d))) by rw [HMP2.out, if_pos hd0, hold]; simp [hfull])
             have gw : IntKind.i64.wrap ((old.size : Int) + (d.size : Int)) = (old.size : Int) + (d.size : Int) := by rw [IntKind.wrap_i64]; omega
             have g5 : decide ((400 : Int) < (old.size : Int) + (d.size : Int)) = false := decide_eq_false (by omega)
             have g6 : ¬ ((400 : Int) < (old.size : Int) + (d.size : Int)) := by omega
             have g7 : old.size + d.size < 8796093022208 := by omega
             have g8 : ¬ 8796093022208 ≤ old.size + d.size := by omega
             clear hd0 hold hfull
             go_wp2_with fail
             refine (rwithin_c action a _).mono ?_
             rintro e w' ⟨rfl, rfl⟩
             go_wp2_with fail
             refine (CC.out (old ++ d)).mono ?_
             rintro e w5 hR
             obtain ⟨rfl, hR'⟩ := hR
             have HR5 := Aside0.mk hR'
             clear hR'
             go_wp2
             refine bodyPost_ret (v := .int .i64 0) (by simp [results, Tryz.f76, go_sem]) rfl ?_
             rw [HM.out]
             exact ROut.from_ HB2.out ⟨rfl, HR5.out⟩
       · have gW : decide (bits .and .i64 action a = action) = false := by rw [HWI.out, hd12]; rfl
         have HM := Aside0.mk (show mPut st u n at_ action d whole = (12, st) by rw [HMP2.out, hd12]; rfl)
         clear hd12
         go_wp2_with fail
         refine (rwithin_c action a _).mono ?_
         rintro e w' ⟨rfl, rfl⟩
         go_wp2
         refine bodyPost_ret (v := .int .i64 12) (by simp [results, Tryz.f76, go_sem]) rfl ?_
         exact ROut.stay HRR.out (HB2.out.trans (HB3.out.mono HB2.out.size)) (by rw [HM.out]) (by rw [HM.out])
end Go.Proofs.YtehlmkgldcfciaaGreat.Files
