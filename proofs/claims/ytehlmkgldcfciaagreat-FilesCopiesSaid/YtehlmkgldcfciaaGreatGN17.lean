/- The parts of this proof that lie in one text. -/
import Derived.Test.YtehlmkgldcfciaaGreatGN16
import Derived.Test.YtehlmkgldcfciaaGreatGN15
import Derived.Test.YtehlmkgldcfciaaGreatGN1
import Derived.Test.YtehlmkgldcfciaaGreatGN10
/- The law FilesScripts, walked. -/
set_option linter.unusedVariables false
set_option linter.unusedSimpArgs false
namespace Go.Proofs.YtehlmkgldcfciaaGreat.Files
open Go.Proofs.YtehlmkgldcfciaaGreat.Common Go.Maps Go.ChangeMaps Go.WideMaps Go.Proofs.YtehlmkgldcfciaaGreat.F
open Go.RowKit Go.Proofs.YtehlmkgldcfciaaGreatW.PrintWords Go.Proofs.YtehlmkgldcfciaaGreatW.PrintLast Go.Proofs.YtehlmkgldcfciaaGreatW.PrintMore
theorem strings_s {W : World} {A0 A1 : Option Addr} {n0 n1 c0 c1 B0 B1 : Nat} {ok0 ok1 : Nat → Prop} {xs : List ByteArray} (h0 : Kd.R Kd.string 9 W B0 ok0 (.slice A0 n0 c0) xs) (h1 : Kd.R Kd.string 9 W B1 ok1 (.slice A1 n1 c1) xs) (hl : xs.length ≤ 1000) :
    Calls Tryz.prog 8 #[.slice A0 n0 c0, .slice A1 n1 c1] W fun e w' => e = .returned (.bool true) ∧ Below W.heap.size W w' := by
  have e0 := (Kd.R_reads' h0).1
  have e1 := (Kd.R_reads' h1).1
  subst e0
  subst e1
  obtain ⟨r, hr, hrt⟩ := Strings_ex xs xs hl
  obtain rfl := hrt rfl
  refine (heptadref01_Strings.calls _ A0 c0 xs A1 c1 xs true W (same_s h0).1 (same_s h0).2 (same_s h1).1 (same_s h1).2 hr).mono ?_
  rintro e w' ⟨rfl, hd⟩
  exact ⟨rfl, hd.below⟩
theorem RWords.slice {W w' : World} {l : List ByteArray} {e : Ending} (h : RWords W l e w') : ∃ A n c, e = .returned (.slice A n c) ∧ Kd.R Kd.string 9 w' W.heap.size (fun _ => True) (.slice A n c) (sortL l) := by
  obtain ⟨v, rfl, hr, _⟩ := h
  obtain ⟨A, c, rfl⟩ := Kd.R_slice hr
  exact ⟨A, _, c, rfl, hr⟩
theorem names_len {c : Nat} {st : Fs} (hI : TInv c st) : (sortL (st.map (·.F.name))).length ≤ 1000 := by
  rw [(sortL_perm _).length_eq, List.length_map]
  have := hI.count
  omega
theorem act_row {w : World} {ad : Addr} {k : Nat} {x : S33} {Ap Ar : Option Addr} {cp cr : Nat} (h : ∀ j u, (actCells x Ap cp Ar cr)[j]? = some u → w.cell? (ad.add (k * 11 + j)) = some u) : w.cell? (ad.add (k * 11)) = some (.int .i64 x.f0) ∧ w.cell? ⟨(ad.add (k * 11)).block, (ad.add (k * 11)).off + 1, none⟩ = some (.int .i64 x.f1) ∧ w.cell? ⟨(ad.add (k * 11)).block, (ad.add (k * 11)).off + 2, none⟩ = some (.int .i64 x.f2) ∧ w.cell? ⟨(ad.add (k * 11)).block, (ad.add (k * 11)).off + 3, none⟩ = some (.string x.f3) ∧ w.cell? ⟨(ad.add (k * 11)).block, (ad.add (k * 11)).off + 4, none⟩ = some (.string x.f4) ∧ w.cell? ⟨(ad.add (k * 11)).block, (ad.add (k * 11)).off + 5, none⟩ = some (.bool x.f5) ∧ w.cell? ⟨(ad.add (k * 11)).block, (ad.add (k * 11)).off + 6, none⟩ = some (.string x.f6.f0) ∧ w.cell? ⟨(ad.add (k * 11)).block, (ad.add (k * 11)).off + 7, none⟩ = some (.string x.f6.f1) ∧ w.cell? ⟨(ad.add (k * 11)).block, (ad.add (k * 11)).off + 8, none⟩ = some (.int .i64 x.f6.f2) ∧ w.cell? ⟨(ad.add (k * 11)).block, (ad.add (k * 11)).off + 9, none⟩ = some (.slice Ap x.f7.length cp) ∧ w.cell? ⟨(ad.add (k * 11)).block, (ad.add (k * 11)).off + 10, none⟩ = some (.slice Ar x.f8.length cr) :=
  ⟨h 0 _ rfl, (by rw [← add_field _ _ 1 (by omega)]; exact h 1 _ rfl), (by rw [← add_field _ _ 2 (by omega)]; exact h 2 _ rfl), (by rw [← add_field _ _ 3 (by omega)]; exact h 3 _ rfl), (by rw [← add_field _ _ 4 (by omega)]; exact h 4 _ rfl), (by rw [← add_field _ _ 5 (by omega)]; exact h 5 _ rfl), (by rw [← add_field _ _ 6 (by omega)]; exact h 6 _ rfl), (by rw [← add_field _ _ 7 (by omega)]; exact h 7 _ rfl), (by rw [← add_field _ _ 8 (by omega)]; exact h 8 _ rfl), (by rw [← add_field _ _ 9 (by omega)]; exact h 9 _ rfl), (by rw [← add_field _ _ 10 (by omega)]; exact h 10 _ rfl)⟩
end Go.Proofs.YtehlmkgldcfciaaGreat.Files
/- Three stores in one world: two of the program's, one of the reference's. -/
set_option linter.unusedVariables false
set_option linter.unusedSimpArgs false
namespace Go.Proofs.YtehlmkgldcfciaaGreat.Files
open Go.Proofs.YtehlmkgldcfciaaGreat.Common Go.Maps Go.ChangeMaps Go.WideMaps Go.Proofs.YtehlmkgldcfciaaGreat.F
open Go.RowKit Go.Proofs.YtehlmkgldcfciaaGreatW.PrintWords Go.Proofs.YtehlmkgldcfciaaGreatW.PrintLast Go.Proofs.YtehlmkgldcfciaaGreatW.PrintMore
noncomputable def blocksOf (w : World) (ok : Nat → Prop) : List (Nat × Obj) := (List.range w.heap.size).filterMap (fun q => @ite _ (ok q) (Classical.propDecidable _) ((w.heap[q]?).map (fun o => (q, o))) none)
theorem mem_blocksOf {w : World} {ok : Nat → Prop} {q : Nat} {o : Obj} : (q, o) ∈ blocksOf w ok ↔ ok q ∧ w.heap[q]? = some o := by
  unfold blocksOf
  rw [List.mem_filterMap]
  constructor
  · rintro ⟨a, ha, h⟩
    by_cases hk : ok a
    · rw [if_pos hk] at h
      obtain ⟨x, hx, e⟩ := Option.map_eq_some_iff.1 h
      injection e with e1 e2
      subst e1 e2
      exact ⟨hk, hx⟩
    · rw [if_neg hk] at h
      cases h
  · rintro ⟨h1, h2⟩
    exact ⟨q, List.mem_range.2 (at_lt h2), by rw [if_pos h1, h2]; rfl⟩
structure ThreeP (W0 : World × Nat) (sb cb rb c : Nat) (st ct rt : Fs) (G : List (Nat × Obj)) (wr : World) (ok okc okr : Nat → Prop) (L Lc : List (Nat × AF)) : Prop where
  B : BothP W0 sb rb c st rt G wr ok okr L
  P : StoreRep wr okc cb Lc
  hst : Lc.map (·.2) = ct
  I : TInv c ct
  apS : ∀ q, ok q → ¬ okc q
  apR : ∀ q, okr q → ¬ okc q
  okC : ∀ q, okc q → W0.1.heap.size ≤ q ∧ ∀ p ∈ G, q ≠ p.1
def Three (W0 : World × Nat) (sb cb rb c : Nat) (st ct rt : Fs) (G : List (Nat × Obj)) (wr : World) : Prop := ∃ ok okc okr L Lc, ThreeP W0 sb cb rb c st ct rt G wr ok okc okr L Lc
section
variable {W0 : World × Nat} {wr w2 w' : World} {sb cb rb c c' : Nat} {st ct rt nst st' rt' : Fs} {G : List (Nat × Obj)}
theorem Three.swap (h : Three W0 sb cb rb c st ct rt G wr) : Three W0 cb sb rb c ct st rt G wr := by
  obtain ⟨ok, okc, okr, L, Lc, h⟩ := h
  exact ⟨okc, ok, okr, Lc, L, ⟨h.P, h.hst, h.B.R, fun q hq hr => h.apR q hr hq, h.I, h.B.J, h.B.X, h.B.low, h.B.grow, h.okC, h.B.okR, h.B.at_⟩, h.B.P, h.B.hst, h.B.I, fun q hq hs => h.apS q hs hq, fun q hq hs => h.B.apart q hs hq, h.B.okP⟩
theorem Three.forget (h : Three W0 sb cb rb c st ct rt G wr) : Both W0 sb rb c st rt G wr := by
  obtain ⟨ok, okc, okr, L, Lc, h⟩ := h
  exact ⟨ok, okr, L, h.B⟩
theorem Both.third (h : Both W0 sb rb c st rt G wr) {nb : Nat} {okn : Nat → Prop} {Ln : List (Nat × AF)} (hN : StoreRep w2 okn nb Ln) (hst : Ln.map (·.2) = nst) (hI : TInv c nst) (hb : Below wr.heap.size wr w2) (hok : ∀ q, okn q → wr.heap.size ≤ q) : Three W0 sb nb rb c st nst rt G w2 := by
  have h' := h.below hb
  obtain ⟨ok, okr, L, h⟩ := h
  have l1 := h.P.lt
  have l2 := h.R.lt
  refine ⟨ok, okn, okr, L, Ln, ⟨h.P.other (Chg.of_below hb (fun _ => False)) (fun _ _ h => h), h.hst, h.R.below hb, h.apart, h.I, h.J, h.X, h.low.trans (hb.mono h.low.size), Nat.le_trans h.grow hb.size, h.okP, h.okR, fun p hp => (hb.block _ (at_lt (h.at_ p hp))).trans (h.at_ p hp)⟩, hN, hst, hI, fun q h1 h2 => ?_, fun q h1 h2 => ?_, fun q hq => ⟨Nat.le_trans h.low.size (hok q hq), fun p hp e => ?_⟩⟩
  · have := l1 q h1; have := hok q h2; omega
  · have := l2 q h1; have := hok q h2; omega
  · have := at_lt (h.at_ p hp); have := hok q hq; omega
theorem Three.focus (h : Three W0 sb cb rb c st ct rt G wr) : ∃ F, Both (W0.1, wr.heap.size) sb rb c st rt (F ++ G) wr ∧ ∀ c' st' rt' w', c ≤ c' → Both (W0.1, wr.heap.size) sb rb c' st' rt' (F ++ G) w' → Three W0 sb cb rb c' st' ct rt' G w' := by
  obtain ⟨ok, okc, okr, L, Lc, h⟩ := h
  refine ⟨blocksOf wr okc, ⟨ok, okr, L, h.B.P, h.B.hst, h.B.R, h.B.apart, h.B.I, h.B.J, h.B.X, h.B.low, Nat.le_refl _, fun q hq => ⟨(h.B.okP q hq).1, fun p hp e => ?_⟩, fun q hq => ⟨(h.B.okR q hq).1, fun p hp e => ?_⟩, fun p hp => ?_⟩, ?_⟩
  · rcases List.mem_append.1 hp with hp | hp
    · obtain ⟨a, o⟩ := p
      subst e
      exact h.apS _ hq (mem_blocksOf.1 hp).1
    · exact (h.B.okP q hq).2 p hp e
  · rcases List.mem_append.1 hp with hp | hp
    · obtain ⟨a, o⟩ := p
      subst e
      exact h.apR _ hq (mem_blocksOf.1 hp).1
    · exact (h.B.okR q hq).2 p hp e
  · rcases List.mem_append.1 hp with hp | hp
    · obtain ⟨a, o⟩ := p
      exact (mem_blocksOf.1 hp).2
    · exact h.B.at_ p hp
  · rintro c' st' rt' w' hcc ⟨ok', okr', L', h'⟩
    have hlt := h.P.lt
    have hin : ∀ q, okc q → ∃ o, wr.heap[q]? = some o ∧ (q, o) ∈ blocksOf wr okc ++ G := fun q hq => by
      have hq' := hlt q hq
      exact ⟨_, Array.getElem?_eq_getElem hq', List.mem_append_left _ (mem_blocksOf.2 ⟨hq, Array.getElem?_eq_getElem hq'⟩)⟩
    have hc : Chg wr w' (fun q => ¬ okc q) := ⟨h'.low.os.trans h.B.low.os.symm, h'.low.tape.trans h.B.low.tape.symm, h'.low.output.trans h.B.low.output.symm, h'.grow, fun k hk hn => by
      have hk' : okc k := Classical.not_not.1 hn
      obtain ⟨o, h1, h2⟩ := hin k hk'
      rw [h1]
      exact h'.at_ _ h2⟩
    refine ⟨ok', okc, okr', L', Lc, ⟨h'.P, h'.hst, h'.R, h'.apart, h'.I, h'.J, h'.X, h'.low, Nat.le_trans h.B.grow h'.grow, fun q hq => ⟨(h'.okP q hq).1, fun p hp => (h'.okP q hq).2 p (List.mem_append_right _ hp)⟩, fun q hq => ⟨(h'.okR q hq).1, fun p hp => (h'.okR q hq).2 p (List.mem_append_right _ hp)⟩, fun p hp => h'.at_ p (List.mem_append_right _ hp)⟩, h.P.other hc (fun k hk hs => hs hk), h.hst, h.I.mono hcc, fun q h1 h2 => ?_, fun q h1 h2 => ?_, h.okC⟩
    · obtain ⟨o, _, h4⟩ := hin q h2
      exact (h'.okP q h1).2 _ h4 rfl
    · obtain ⟨o, _, h4⟩ := hin q h2
      exact (h'.okR q h1).2 _ h4 rfl
theorem Three.keep (h : Three W0 sb cb rb c st ct rt G w2) (hb : Below w2.heap.size w2 wr) {b : Nat} {o : Obj} (hg : w2.heap.size ≤ b) (ho : wr.heap[b]? = some o) : Three W0 sb cb rb c st ct rt ((b, o) :: G) wr := by
  obtain ⟨ok, okc, okr, L, Lc, h⟩ := h
  have l1 := h.B.P.lt
  have l2 := h.B.R.lt
  have l3 := h.P.lt
  have k {q : Nat} (hq : q < w2.heap.size) (hG : ∀ p ∈ G, q ≠ p.1) : ∀ p ∈ (b, o) :: G, q ≠ p.1 := fun p hp => by
    rcases List.mem_cons.1 hp with rfl | hp
    · show q ≠ b
      omega
    · exact hG p hp
  refine ⟨ok, okc, okr, L, Lc, ⟨h.B.P.other (Chg.of_below hb (fun _ => False)) (fun _ _ h => h), h.B.hst, h.B.R.below hb, h.B.apart, h.B.I, h.B.J, h.B.X, h.B.low.trans (hb.mono h.B.low.size), Nat.le_trans h.B.grow hb.size, fun q hq => ⟨(h.B.okP q hq).1, k (l1 q hq) (h.B.okP q hq).2⟩, fun q hq => ⟨(h.B.okR q hq).1, k (l2 q hq) (h.B.okR q hq).2⟩, fun p hp => ?_⟩, h.P.other (Chg.of_below hb (fun _ => False)) (fun _ _ h => h), h.hst, h.I, h.apS, h.apR, fun q hq => ⟨(h.okC q hq).1, k (l3 q hq) (h.okC q hq).2⟩⟩
  rcases List.mem_cons.1 hp with rfl | hp
  · exact ho
  · exact (hb.block _ (at_lt (h.B.at_ p hp))).trans (h.B.at_ p hp)
theorem Three.below (h : Three W0 sb cb rb c st ct rt G wr) (hb : Below wr.heap.size wr w') : Three W0 sb cb rb c st ct rt G w' := by
  obtain ⟨ok, okc, okr, L, Lc, h⟩ := h
  exact ⟨ok, okc, okr, L, Lc, ⟨h.B.P.other (Chg.of_below hb (fun _ => False)) (fun _ _ h => h), h.B.hst, h.B.R.below hb, h.B.apart, h.B.I, h.B.J, h.B.X, h.B.low.trans (hb.mono h.B.low.size), Nat.le_trans h.B.grow hb.size, h.B.okP, h.B.okR, fun p hp => (hb.block _ (at_lt (h.B.at_ p hp))).trans (h.B.at_ p hp)⟩, h.P.other (Chg.of_below hb (fun _ => False)) (fun _ _ h => h), h.hst, h.I, h.apS, h.apR, h.okC⟩
theorem Both.do_ (h : Both W0 sb rb c st rt G wr) (hc : c < 1000) (x : S33) (pv : Value) (Ar : Option Addr) (cr : Nat) (hr : Kd.C k100 wr Ar x.f8.length x.f8) (hcr : x.f8.length ≤ cr) :
    Calls Tryz.prog 14 #[.pointer (some ⟨sb, 0, none⟩), .agg (ActIs x.f0 x.f1 x.f2 x.f3 x.f4 x.f5 x.f6 pv (.slice Ar x.f8.length cr))] wr fun e w' => e = .returned (.tuple #[]) ∧ Both W0 sb rb (c + 1) (mStep st x) rt G w' ∧ Apart W0 wr w' G :=
  h.prog (Nat.le_succ c) (fun h => inv_do h x.f0 x.f1 x.f2 x.f3 x.f4 x.f5 x.f6 x.f8) (fun ok L hR hst hI => (do_c ok sb L st c x.f0 x.f1 x.f2 x.f3 x.f4 x.f5 x.f6 pv Ar cr x.f8 wr ⟨hR, hst, hI.S, hc, hr, hcr⟩).mono (fun e w' h => ⟨h.1, .tuple #[], h.1, h.2⟩))
end
end Go.Proofs.YtehlmkgldcfciaaGreat.Files
/- The law FilesCopies, walked. -/
set_option linter.unusedVariables false
set_option linter.unusedSimpArgs false
namespace Go.Proofs.YtehlmkgldcfciaaGreat.Files
open Go.Proofs.YtehlmkgldcfciaaGreat.Common Go.Maps Go.ChangeMaps Go.WideMaps Go.Proofs.YtehlmkgldcfciaaGreat.F
open Go.RowKit Go.Proofs.YtehlmkgldcfciaaGreatW.PrintWords Go.Proofs.YtehlmkgldcfciaaGreatW.PrintLast Go.Proofs.YtehlmkgldcfciaaGreatW.PrintMore
def steps (st : Fs) (l : List S33) (i : Nat) : Fs := (l.take i).foldl mStep st
theorem steps_succ (st : Fs) (l : List S33) (i : Nat) (h : i < l.length) : steps st l (i + 1) = mStep (steps st l i) (rd_T33 l (i : Int)) := by
  unfold steps
  rw [List.take_succ_eq_append_getElem h, List.foldl_append]
  simp [rd_T33, List.getD_eq_getElem?_getD, List.getElem?_eq_getElem h]
theorem strings_k {W : World} {A0 A1 : Option Addr} {n0 n1 c0 c1 B0 : Nat} {ok0 : Nat → Prop} {xs : List ByteArray} (h0 : Kd.R Kd.string 9 W B0 ok0 (.slice A0 n0 c0) xs) (hn : n1 = xs.length) (h1 : Kd.C Kd.string W A1 n1 xs) (hc1 : n1 ≤ c1) (hl : xs.length ≤ 1000) :
    Calls Tryz.prog 8 #[.slice A0 n0 c0, .slice A1 n1 c1] W fun e w' => e = .returned (.bool true) ∧ Below W.heap.size W w' := by
  have e0 := (Kd.R_reads' h0).1
  subst e0
  subst hn
  obtain ⟨r, hr, hrt⟩ := Strings_ex xs xs hl
  obtain rfl := hrt rfl
  refine (heptadref01_Strings.calls _ A0 c0 xs A1 c1 xs true W (same_s h0).1 (same_s h0).2 h1 hc1 hr).mono ?_
  rintro e w' ⟨rfl, hd⟩
  exact ⟨rfl, hd.below⟩
theorem words_cells {w w' : World} {A : Option Addr} {n : Nat} {ws : List ByteArray} (h : Kd.C Kd.string w A n ws) (hb : ∀ ad, A = some ad → w'.heap[ad.block]? = w.heap[ad.block]?) : Kd.C Kd.string w' A n ws := by
  refine ⟨h.1, h.2.1, fun hp => ?_⟩
  obtain ⟨ad, e, hc⟩ := h.2.2 hp
  refine ⟨ad, e, fun j p hj => ?_⟩
  obtain ⟨c, h1, h2, h3⟩ := hc j p hj
  refine ⟨c, h1, h2, fun i u hu => ?_⟩
  rw [← h3 i u hu]
  unfold World.cell?
  have hk : ∀ q, (ad.add q).block = ad.block := fun q => by unfold Addr.add; split <;> rfl
  rw [hk, hb ad e]
theorem at_word' {w : World} {base : Nat} {ok : Nat → Prop} {v : Value} {ws : List ByteArray} (h : Kd.R Kd.string 9 w base ok v ws) (hp : 0 < ws.length) : ∃ g c, v = .slice (some ⟨g, 0, none⟩) ws.length c ∧ ws.length ≤ c := by
  obtain ⟨inner, ho⟩ := Kd.R_own h
  rcases ho.2 with ⟨_, h0⟩ | ⟨g, cap, cur, hv, _, _, hnc, _⟩
  · omega
  · exact ⟨g, cap, hv, hnc⟩
section
variable {W0 : World × Nat} {wr w2 w' : World} {sb cb rb c : Nat} {st ct rt : Fs} {G : List (Nat × Obj)}
theorem Three.words (h : Three W0 sb cb rb c st ct rt [] w2) (hb : Below w2.heap.size w2 wr) {A : Option Addr} {n cp : Nat} {ws : List ByteArray} (hr : Kd.R Kd.string 9 wr w2.heap.size (fun _ => True) (.slice A n cp) ws) :
    ∃ G, Three W0 sb cb rb c st ct rt G wr ∧ ∀ w', (∀ p ∈ G, w'.heap[p.1]? = some p.2) → Kd.C Kd.string w' A n ws := by
  obtain ⟨hn, hcp, hC⟩ := Kd.R_reads' hr
  have hC' : Kd.C Kd.string wr A n ws := by rw [hn]; exact hC
  rcases Nat.eq_zero_or_pos ws.length with h0 | h0
  · exact ⟨[], h.below hb, fun w' _ => ⟨hn.symm, hC'.2.1, fun hp => by omega⟩⟩
  · obtain ⟨g, cp', e, _⟩ := at_word' hr h0
    have hg : w2.heap.size ≤ g := Kd.R_base hr g (by rw [e]; rfl)
    have hgl : g < wr.heap.size := R_ltx hr g (by rw [e]; rfl)
    injection e with e1 _ _
    refine ⟨[(g, wr.heap[g])], h.keep hb hg (Array.getElem?_eq_getElem hgl), fun w' hp => words_cells hC' fun ad ha => ?_⟩
    rw [e1] at ha
    injection ha with ha
    subst ha
    rw [hp _ (List.mem_singleton.2 rfl), Array.getElem?_eq_getElem hgl]
theorem Three.names (h : Three W0 sb cb rb c st ct rt G wr) : Calls Tryz.prog 9 #[.pointer (some ⟨sb, 0, none⟩)] wr fun e w' => (∃ A n cp, e = .returned (.slice A n cp) ∧ Kd.R Kd.string 9 w' wr.heap.size (fun _ => True) (.slice A n cp) (sortL (st.map (·.F.name)))) ∧ Three W0 sb cb rb c st ct rt G w' ∧ Below wr.heap.size wr w' :=
  h.forget.pNames.mono (fun e w' hw => ⟨hw.1.slice, h.below hw.2.2, hw.2.2⟩)
theorem Three.at_ (h : Three W0 sb cb rb c st ct rt G wr) : ∀ p ∈ G, wr.heap[p.1]? = some p.2 := h.forget.at_
theorem Both.copy (h : Both W0 sb rb c st rt G wr) : Calls Tryz.prog 15 #[.pointer (some ⟨sb, 0, none⟩)] wr fun e w' => ∃ cb, e = .returned (.pointer (some ⟨cb, 0, none⟩)) ∧ Three W0 sb cb rb c st st rt G w' := by
  have H := h
  obtain ⟨ok, okr, L, h⟩ := h
  refine (S_Copy h.P h.hst h.I).mono ?_
  rintro e w' ⟨cb, okc, Lc, rfl, h1, h2, h3, h4⟩
  exact ⟨cb, rfl, H.third h1 h2 h.I h3 h4⟩
end
theorem bound_at {l : List S33} (h : ∀ x ∈ l, x.f4.size ≤ 140737488355328 ∧ x.f8.length ≤ 5864062014805) (k : Nat) (hk : k < l.length) : (rd_T33 l (k : Int)).f8.length ≤ 5864062014805 :=
  (h (rd_T33 l (k : Int)) (by unfold rd_T33; rw [Int.toNat_natCast, List.getD_eq_getElem?_getD, List.getElem?_eq_getElem hk]; exact List.getElem_mem hk)).2
set_option maxRecDepth 100000 in
set_option maxHeartbeats 16000000 in
theorem FilesCopies_c (A1 : Option Addr) (c1 : Nat) (l : List S33) (A2 : Option Addr) (c2 : Nat) (m : List S33) (W : World) (hr1 : Kd.C k33 W A1 l.length l) (hc1 : l.length ≤ c1) (hr2 : Kd.C k33 W A2 m.length m) (hc2 : m.length ≤ c2)
    (hb1 : ∀ x ∈ l, x.f4.size ≤ 140737488355328 ∧ x.f8.length ≤ 5864062014805) (hb2 : ∀ x ∈ m, x.f4.size ≤ 140737488355328 ∧ x.f8.length ≤ 5864062014805) :
    Calls Tryz.prog 4 #[.slice A1 l.length c1, .slice A2 m.length c2] W fun e w' => e = .returned (.bool true) ∧ Below W.heap.size W w' := by
  have HR1 := Aside0.mk hr1
  have HR2 := Aside0.mk hr2
  have HZ1 := Aside0.mk hb1
  have HZ2 := Aside0.mk hb2
  obtain ⟨N, hN⟩ : ∃ N, N = min m.length 100 := ⟨_, rfl⟩
  have HN := Aside0.mk (show N ≤ 100 ∧ N ≤ m.length ∧ (N = 100 ∨ N = m.length) by omega)
  have CN := Aside0.mk (S_New W)
  have hll : (l.length : Int) ≤ 9223372036854775807 := by have := hr1.2.1; omega
  have hml : (m.length : Int) ≤ 9223372036854775807 := by have := hr2.2.1; omega
  clear hr1 hr2 hb1 hb2 hN
  go_enter Tryz.func4, Tryz.ntmps4
  go_wp2_with fail
  refine CN.out.mono ?_
  rintro e w1 ⟨sb, okk, rfl, hR1, hb1, hok1⟩
  have HQ1 := Aside0.mk hR1
  have HB1 := Aside0.mk hb1
  have HOK := Aside0.mk hok1
  clear hR1 hb1 hok1 CN
  go_wp2_with fail
  refine (rNew_c w1).mono ?_
  rintro e w2 ⟨rb, rfl, hR2, hb2, hrb⟩
  have HH := Aside0.mk (show Both (W, 0) sb rb 0 [] [] [] w2 from ⟨okk, fun q => q = rb, [], HQ1.out.other (Chg.of_below hb2 (fun _ => False)) (fun _ _ h => h), rfl, hR2, fun q hq e => by have h1 := HQ1.out.lt q hq; subst e; omega, TInv.nil 0, TInv.nil 0, XInv.nil, HB1.out.trans (hb2.mono HB1.out.size), Nat.zero_le _, fun q hq => ⟨HOK.out q hq, fun p hp => by cases hp⟩, fun q hq => ⟨by have h1 := HB1.out.size; subst hq; show W.heap.size ≤ _; omega, fun p hp => by cases hp⟩, fun p hp => by cases hp⟩)
  clear hR2 hb2 hrb HQ1 HB1 HOK
  go_wp2_with fail
  go_loopw [7] (fun s wr => ∃ (k : Nat) (st : Fs), s = .int .i64 k ∧ k ≤ 100 ∧ k ≤ l.length ∧ Aside0 (Both (W, 0) sb rb (3 * k) st st [] wr)) (fun s _ => 100 - (intOf s).toNat)
  case atStart => exact ⟨0, [], rfl, by omega, by omega, HH⟩
  case round =>
    clear HH
    obtain ⟨k, st, rfl, hk1, hk2, HH⟩ := hrel
    by_cases hlt : k < l.length ∧ k < 100
    · have h1z : (k : Int) < (l.length : Int) := by omega
      have h2z : (k : Int) < 100 := by omega
      have hk0 : decide ((k : Int) < 0) = false := decide_eq_false (by omega)
      have hkp : (0 : Int) ≤ (k : Int) := by omega
      obtain ⟨ad, Ap, cp, Ar, cr, rfl, hlp, hpp, hlr, hrr, hcs⟩ := at_T33 HR1.out k hlt.1
      have HX := Aside0.mk (fun X (hb : Below W.heap.size W X) => (fun j u hj => pw_cell_below hb (hcs j u hj) : ∀ j u, (actCells (rd_T33 l (k : Int)) Ap cp Ar cr)[j]? = some u → X.cell? (ad.add (k * 11 + j)) = some u))
      have HN8 := Aside0.mk (bound_at HZ1.out k hlt.1)
      have HPP := Aside0.mk hpp
      have HRR := Aside0.mk hrr
      clear hcs hpp hrr
      generalize rd_T33 l (k : Int) = x at *
      obtain ⟨x0, x1, x2, x3, x4, x5, x6, x7, x8, x9, x10⟩ := act_row (HX.out wr HH.out.low)
      have HK := Aside0.mk hk1
      have CD := Aside0.mk (HH.out.do_ (by omega) x (.slice Ap x.f7.length cp) Ar cr (Kd.C_below HRR.out HH.out.low) hlr)
      unfold ActIs at CD
      go_wp2_with fail
      refine CD.out.mono ?_
      rintro e w5 ⟨rfl, h5, -⟩
      have HB5 := Aside0.mk h5
      obtain ⟨y0, y1, y2, y3, y4, y5, y6, y7, y8, y9, y10⟩ := act_row (HX.out w5 h5.low)
      clear h5 CD x0 x1 x2 x3 x4 x5 x6 x7 x8 x9 x10
      go_wp2_with fail
      go_region_held3 (fun w' => w'.cell? (ad.add (k * 11)) = some (.int .i64 x.f0) ∧ w'.cell? ⟨(ad.add (k * 11)).block, (ad.add (k * 11)).off + 1, none⟩ = some (.int .i64 x.f1) ∧ w'.cell? ⟨(ad.add (k * 11)).block, (ad.add (k * 11)).off + 2, none⟩ = some (.int .i64 x.f2) ∧ w'.cell? ⟨(ad.add (k * 11)).block, (ad.add (k * 11)).off + 3, none⟩ = some (.string x.f3) ∧ w'.cell? ⟨(ad.add (k * 11)).block, (ad.add (k * 11)).off + 4, none⟩ = some (.string x.f4) ∧ w'.cell? ⟨(ad.add (k * 11)).block, (ad.add (k * 11)).off + 5, none⟩ = some (.bool x.f5) ∧ w'.cell? ⟨(ad.add (k * 11)).block, (ad.add (k * 11)).off + 6, none⟩ = some (.string x.f6.f0) ∧ w'.cell? ⟨(ad.add (k * 11)).block, (ad.add (k * 11)).off + 7, none⟩ = some (.string x.f6.f1) ∧ w'.cell? ⟨(ad.add (k * 11)).block, (ad.add (k * 11)).off + 8, none⟩ = some (.int .i64 x.f6.f2) ∧ w'.cell? ⟨(ad.add (k * 11)).block, (ad.add (k * 11)).off + 9, none⟩ = some (.slice Ap x.f7.length cp) ∧ w'.cell? ⟨(ad.add (k * 11)).block, (ad.add (k * 11)).off + 10, none⟩ = some (.slice Ar x.f8.length cr)) (go_keep)
        (first
          | (go_at_call 5; (with_reducible refine (S_New _).mono ?_); rintro e w6 ⟨nb, okn, rfl, hR6, hb6, hok6⟩; have H6 := Aside0.mk ((HB5.out.drew.third hR6 rfl (TInv.nil _) hb6 hok6).swap); obtain ⟨z0, z1, z2, z3, z4, z5, z6, z7, z8, z9, z10⟩ := act_row (HX.out w6 H6.out.forget.low); clear hR6 hb6 hok6)
          | (go_at_call 7; obtain ⟨F, hF, hback⟩ := H6.out.focus; refine ((same_c (W, w6.heap.size) w6 nb rb (3 * k + 1) [] st (F ++ []) x Ap Ar cp cr hF (by have := HK.out; omega) HPP.out hlp HRR.out hlr HN8.out : Calls Tryz.prog 7 #[.pointer (some ⟨nb, 0, none⟩), .pointer (some ⟨rb, 0, none⟩), .agg #[.int .i64 x.f0, .int .i64 x.f1, .int .i64 x.f2, .string x.f3, .string x.f4, .bool x.f5, .string x.f6.f0, .string x.f6.f1, .int .i64 x.f6.f2, .slice Ap x.f7.length cp, .slice Ar x.f8.length cr]] w6 (SameOut (W, w6.heap.size) nb rb (3 * k + 1 + 2) ([] = st) (mStep [] x) (mStep st x) (F ++ [])))).mono ?_; rintro e w7 ⟨b, rfl, -, h7⟩; have H7 := Aside0.mk ((hback _ _ _ w7 (by omega) h7).swap.forget); obtain ⟨a0, a1, a2, a3, a4, a5, a6, a7, a8, a9, a10⟩ := act_row (HX.out w7 H7.out.low); clear hF hback h7))
      all_goals
        go_wp2_with fail
        go_roundw
        case rel => exact ⟨k + 1, mStep st x, by go_num, by omega, by omega, ⟨by rw [show 3 * (k + 1) = 3 * k + 1 + 2 by omega]; exact H7.out⟩⟩
        case measure => (simp [intOf]; omega)
    · have hcase : ¬ (k : Int) < (l.length : Int) ∨ ((k : Int) < (l.length : Int) ∧ ¬ (k : Int) < 100) := by omega
      have HC1 := Aside0.mk (show 3 * k + 100 < 600 by omega)
      generalize 3 * k = C1 at HH HC1
      clear hlt
      rcases hcase with h1z | ⟨h1z, h2z⟩
      all_goals
        go_wp2_with fail
        try clear h2z
        clear h1z
        refine HH.out.copy.mono ?_
        rintro e w3 ⟨cb, rfl, h3⟩
        have H3 := Aside0.mk h3
        clear h3
        go_wp2_with fail
        refine H3.out.swap.names.mono ?_
        rintro e w4 ⟨⟨A4, n4, c4, rfl, hr4⟩, h4, -⟩
        have HR4 := Aside0.mk hr4
        have H4 := Aside0.mk h4.swap
        clear hr4 h4
        go_wp2_with fail
        refine H4.out.names.mono ?_
        rintro e w5 ⟨⟨A5, n5, c5, rfl, hr5⟩, h5, hb5⟩
        have HR5 := Aside0.mk hr5
        have HR45 := Aside0.mk (Kd.R_below HR4.out hb5)
        have H5 := Aside0.mk h5
        clear hr5 h5 hb5
        go_wp2_with fail
        refine (strings_s HR45.out HR5.out (names_len H5.out.forget.I.1)).mono ?_
        rintro e w6 ⟨rfl, hb6⟩
        have H6 := Aside0.mk (H5.out.below hb6)
        clear hb6
        go_wp2_with fail
        refine H6.out.names.mono ?_
        rintro e w7 ⟨⟨A7, n7, c7, rfl, hr7⟩, -, hb7⟩
        have HNW := Aside0.mk (Kd.R_reads' hr7).1
        have HCW := Aside0.mk (show n7 ≤ c7 by have := (Kd.R_reads' hr7).2.1; omega)
        obtain ⟨G, hG, hwd⟩ := H6.out.words hb7 hr7
        have HG := Aside0.mk hG
        have HWD := Aside0.mk hwd
        clear hr7 hb7 hG hwd
        have HPX := Aside0.mk ((HG.out : Three (W, 0) sb cb rb (C1 + 0) st (steps st m 0) st G w7))
        go_wp2_with fail
        go_loopw [10] (fun s wr => ∃ k : Nat, s = .int .i64 k ∧ k ≤ 100 ∧ k ≤ m.length ∧ Aside0 (Three (W, 0) sb cb rb (C1 + k) st (steps st m k) st G wr)) (fun s _ => 100 - (intOf s).toNat)
        case atStart => exact ⟨0, rfl, by omega, by omega, HPX⟩
        case round =>
          clear HPX
          obtain ⟨k, rfl, hk1, hk2, HT⟩ := hrel
          by_cases hlt : k < m.length ∧ k < 100
          · have h1z : (k : Int) < (m.length : Int) := by omega
            have h2z : (k : Int) < 100 := by omega
            have hk0 : decide ((k : Int) < 0) = false := decide_eq_false (by omega)
            have hkp : (0 : Int) ≤ (k : Int) := by omega
            obtain ⟨ad, Ap, cp, Ar, cr, rfl, hlp, hpp, hlr, hrr, hcs⟩ := at_T33 HR2.out k hlt.1
            have HX := Aside0.mk (fun X (hb : Below W.heap.size W X) => (fun j u hj => pw_cell_below hb (hcs j u hj) : ∀ j u, (actCells (rd_T33 m (k : Int)) Ap cp Ar cr)[j]? = some u → X.cell? (ad.add (k * 11 + j)) = some u))
            have HN8 := Aside0.mk (bound_at HZ2.out k hlt.1)
            have HPP := Aside0.mk hpp
            have HRR := Aside0.mk hrr
            clear hcs hpp hrr
            have HSS := Aside0.mk (steps_succ st m k hlt.1)
            generalize rd_T33 m (k : Int) = x at *
            obtain ⟨x0, x1, x2, x3, x4, x5, x6, x7, x8, x9, x10⟩ := act_row (HX.out wr HT.out.forget.low)
            obtain ⟨F, hF, hback⟩ := HT.out.swap.focus
            have CD := Aside0.mk (hF.do_ (by have := HC1.out; omega) x (.slice Ap x.f7.length cp) Ar cr (Kd.C_below HRR.out hF.low) hlr)
            unfold ActIs at CD
            have HBK := Aside0.mk hback
            clear hF hback
            go_wp2_with fail
            refine CD.out.mono ?_
            rintro e w5 ⟨rfl, h5, -⟩
            have H5 := Aside0.mk ((HBK.out _ _ _ w5 (by omega) h5).swap)
            rw [← HSS.out] at H5
            clear h5 CD
            go_wp2_with fail
            go_roundw
            case rel => exact ⟨k + 1, by go_num, by omega, by omega, ⟨by rw [show C1 + (k + 1) = C1 + k + 1 by omega]; exact H5.out⟩⟩
            case measure => (simp [intOf]; omega)
          · have hcase : ¬ (k : Int) < (m.length : Int) ∨ ((k : Int) < (m.length : Int) ∧ ¬ (k : Int) < 100) := by omega
            obtain rfl : N = k := by have := HN.out; omega
            clear hlt
            rcases hcase with h1z | ⟨h1z, h2z⟩
            all_goals
              go_wp2_with fail
              try clear h2z
              clear h1z
              refine HT.out.names.mono ?_
              rintro e w6 ⟨⟨A6, n6, c6, rfl, hr6⟩, h6, -⟩
              have CT := Aside0.mk (strings_k hr6 HNW.out (HWD.out w6 h6.at_) HCW.out (names_len h6.forget.I.1))
              have H6 := Aside0.mk h6
              clear hr6 h6
              go_wp2_with fail
              refine CT.out.mono ?_
              rintro e w7 ⟨rfl, hb7⟩
              have H7 := Aside0.mk (H6.out.below hb7)
              have HC2 := Aside0.mk (show C1 + N + 200 < 900 by have := HC1.out; have := HN.out; omega)
              obtain ⟨C2, hC2⟩ : ∃ C2, C2 = C1 + N := ⟨_, rfl⟩
              rw [← hC2] at H7 HC2
              clear hb7 CT hC2
              have HPX := Aside0.mk ((by have := H7.out; rwa [show C2 = C2 + 2 * 0 by omega] at this : Three (W, 0) sb cb rb (C2 + 2 * 0) (steps st m 0) (steps st m N) (steps st m 0) G w7))
              go_wp2_with fail
              go_loopw [11] (fun s wr => ∃ k : Nat, s = .int .i64 k ∧ k ≤ 100 ∧ k ≤ m.length ∧ Aside0 (Three (W, 0) sb cb rb (C2 + 2 * k) (steps st m k) (steps st m N) (steps st m k) G wr)) (fun s _ => 100 - (intOf s).toNat)
              case atStart => exact ⟨0, rfl, by omega, by omega, HPX⟩
              case round =>
                clear HPX
                obtain ⟨k, rfl, hk1, hk2, HT⟩ := hrel
                by_cases hlt : k < m.length ∧ k < 100
                · have h1z : (k : Int) < (m.length : Int) := by omega
                  have h2z : (k : Int) < 100 := by omega
                  have hk0 : decide ((k : Int) < 0) = false := decide_eq_false (by omega)
                  have hkp : (0 : Int) ≤ (k : Int) := by omega
                  obtain ⟨ad, Ap, cp, Ar, cr, rfl, hlp, hpp, hlr, hrr, hcs⟩ := at_T33 HR2.out k hlt.1
                  have HX := Aside0.mk (fun X (hb : Below W.heap.size W X) => (fun j u hj => pw_cell_below hb (hcs j u hj) : ∀ j u, (actCells (rd_T33 m (k : Int)) Ap cp Ar cr)[j]? = some u → X.cell? (ad.add (k * 11 + j)) = some u))
                  have HN8 := Aside0.mk (bound_at HZ2.out k hlt.1)
                  have HPP := Aside0.mk hpp
                  have HRR := Aside0.mk hrr
                  clear hcs hpp hrr
                  have HSS := Aside0.mk (steps_succ st m k hlt.1)
                  generalize rd_T33 m (k : Int) = x at *
                  obtain ⟨x0, x1, x2, x3, x4, x5, x6, x7, x8, x9, x10⟩ := act_row (HX.out wr HT.out.forget.low)
                  obtain ⟨F, hF, hback⟩ := HT.out.focus
                  have CS := Aside0.mk (same_c (W, wr.heap.size) wr sb rb (C2 + 2 * k) (steps st m k) (steps st m k) (F ++ G) x Ap Ar cp cr hF (by have := HC2.out; omega) HPP.out hlp HRR.out hlr HN8.out)
                  unfold actCells at CS
                  have HBK := Aside0.mk hback
                  clear hF hback
                  go_wp2_with fail
                  refine CS.out.mono ?_
                  rintro e w5 ⟨b, rfl, hb, h5⟩
                  obtain rfl : b = true := hb (by trivial)
                  have H5 := Aside0.mk (HBK.out _ _ _ w5 (by omega) h5)
                  rw [← HSS.out] at H5
                  clear h5 hb CS
                  go_wp2_with fail
                  go_roundw
                  case rel => exact ⟨k + 1, by go_num, by omega, by omega, ⟨by rw [show C2 + 2 * (k + 1) = C2 + 2 * k + 2 by omega]; exact H5.out⟩⟩
                  case measure => (simp [intOf]; omega)
                · have hcase : ¬ (k : Int) < (m.length : Int) ∨ ((k : Int) < (m.length : Int) ∧ ¬ (k : Int) < 100) := by omega
                  obtain rfl : N = k := by have := HN.out; omega
                  clear hlt
                  rcases hcase with h1z | ⟨h1z, h2z⟩
                  all_goals
                    go_wp2_with fail
                    refine HT.out.swap.names.mono ?_
                    rintro e w6 ⟨⟨A6, n6, c6, rfl, hr6⟩, h6, -⟩
                    have HR6 := Aside0.mk hr6
                    have H6 := Aside0.mk h6.swap
                    clear hr6 h6
                    go_wp2_with fail
                    refine H6.out.names.mono ?_
                    rintro e w7 ⟨⟨A7, n7, c7, rfl, hr7⟩, h7, hb7⟩
                    have HR7 := Aside0.mk hr7
                    have HR67 := Aside0.mk (Kd.R_below HR6.out hb7)
                    have H7 := Aside0.mk h7
                    clear hr7 h7 hb7
                    go_wp2_with fail
                    refine (strings_s HR67.out HR7.out (names_len H7.out.forget.I.1)).mono ?_
                    rintro e w8 ⟨rfl, hb8⟩
                    have H8 := Aside0.mk ((H7.out.forget.below hb8).low)
                    clear hb8
                    have CSN := Aside0.mk (sane_c w8)
                    go_wp2_with fail
                    refine CSN.out.mono ?_
                    rintro e w9 ⟨rfl, hb9⟩
                    have HL := Aside0.mk (H8.out.trans (hb9.mono H8.out.size))
                    clear hb9
                    go_wp2
                    refine bodyPost_ret (v := .bool true) (by simp [results, Tryz.f4, go_sem]) rfl ?_
                    exact ⟨rfl, HL.out⟩
end Go.Proofs.YtehlmkgldcfciaaGreat.Files
