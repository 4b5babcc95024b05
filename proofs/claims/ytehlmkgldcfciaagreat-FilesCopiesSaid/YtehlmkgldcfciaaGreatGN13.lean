/- The parts of this proof that lie in one text. -/
import Derived.Test.YtehlmkgldcfciaaGreatGN8
import Derived.Test.YtehlmkgldcfciaaGreatGN10
import Derived.Test.YtehlmkgldcfciaaGreatGN6
import Derived.Test.YtehlmkgldcfciaaGreatGN7
import Derived.Test.YtehlmkgldcfciaaGreatGN11
import Derived.Test.YtehlmkgldcfciaaGreatGN12
import Derived.Test.YtehlmkgldcfciaaGreatGN1
import Derived.Deep.RegionWith
import Derived.BigQuiet
import Derived.Deep.RegionHeld3
/- Two stores in one world: the program's and the reference's; an act as data. -/
set_option linter.unusedVariables false
set_option linter.unusedSimpArgs false
namespace Go.Proofs.YtehlmkgldcfciaaGreat.Files
open Go.Proofs.YtehlmkgldcfciaaGreat.Common Go.Maps Go.ChangeMaps Go.WideMaps Go.Proofs.YtehlmkgldcfciaaGreat.F
open Go.RowKit Go.Proofs.YtehlmkgldcfciaaGreatW.PrintWords Go.Proofs.YtehlmkgldcfciaaGreatW.PrintLast Go.Proofs.YtehlmkgldcfciaaGreatW.PrintMore
structure S33 where
  f0 : Int
  f1 : Int
  f2 : Int
  f3 : ByteArray
  f4 : ByteArray
  f5 : Bool
  f6 : S29
  f7 : List ByteArray
  f8 : List S100
def z33 : S33 := ⟨0, 0, 0, ⟨#[]⟩, ⟨#[]⟩, false, z29, [], []⟩
def k33 : Kd S33 := Kd.iso (Kd.pair (Kd.int .i64) (Kd.pair (Kd.int .i64) (Kd.pair (Kd.int .i64) (Kd.pair Kd.string (Kd.pair Kd.string (Kd.pair Kd.bool (Kd.pair k29 (Kd.pair (Kd.slice 9 Kd.string) (Kd.slice 100 k100))))))))) (fun x : S33 => (x.f0, x.f1, x.f2, x.f3, x.f4, x.f5, x.f6, x.f7, x.f8))
def actCells (x : S33) (Ap : Option Addr) (cp : Nat) (Ar : Option Addr) (cr : Nat) : List Value := [.int .i64 x.f0, .int .i64 x.f1, .int .i64 x.f2, .string x.f3, .string x.f4, .bool x.f5, .string x.f6.f0, .string x.f6.f1, .int .i64 x.f6.f2, .slice Ap x.f7.length cp, .slice Ar x.f8.length cr]
theorem k33_open {w : World} {x : S33} {cs : List Value} (h : k33.K w x cs) : ∃ Ap cp Ar cr, cs = actCells x Ap cp Ar cr ∧ x.f7.length ≤ cp ∧ Kd.C Kd.string w Ap x.f7.length x.f7 ∧ x.f8.length ≤ cr ∧ Kd.C k100 w Ar x.f8.length x.f8 := by
  obtain ⟨_, _, rfl, rfl, _, _, rfl, rfl, _, _, rfl, rfl, _, _, rfl, rfl, _, _, rfl, rfl, _, _, rfl, rfl, _, _, rfl, h6, _, _, rfl, ⟨Ap, cp, rfl, hl1, hr1⟩, ⟨Ar, cr, rfl, hl, hr⟩⟩ := h
  obtain rfl := k29_open h6
  exact ⟨Ap, cp, Ar, cr, rfl, hl1, hr1, hl, hr⟩
def rd_T33 (xs : List S33) (i : Int) : S33 := xs.getD i.toNat z33
theorem at_T33 {w : World} {A : Option Addr} {n : Nat} {xs : List S33} (h : Kd.C k33 w A n xs) (i : Nat) (h1 : i < n) : ∃ ad Ap cp Ar cr, A = some ad ∧ (rd_T33 xs i).f7.length ≤ cp ∧ Kd.C Kd.string w Ap (rd_T33 xs i).f7.length (rd_T33 xs i).f7 ∧ (rd_T33 xs i).f8.length ≤ cr ∧ Kd.C k100 w Ar (rd_T33 xs i).f8.length (rd_T33 xs i).f8 ∧
    ∀ j u, (actCells (rd_T33 xs i) Ap cp Ar cr)[j]? = some u → w.cell? (ad.add (i * 11 + j)) = some u := by
  obtain ⟨ad, c, e, _, hK, hc0⟩ := Kd.C_get h z33 (i : Int) (by omega) (by omega)
  rw [Int.toNat_natCast] at hK hc0
  have hc : ∀ j u, c[j]? = some u → w.cell? (ad.add (i * 11 + j)) = some u := hc0
  have hx : rd_T33 xs i = xs.getD i z33 := by unfold rd_T33; rw [Int.toNat_natCast]
  rw [← hx] at hK
  obtain ⟨Ap, cp, Ar, cr, rfl, hl1, hr1, hl, hr⟩ := k33_open hK
  exact ⟨ad, Ap, cp, Ar, cr, e, hl1, hr1, hl, hr, hc⟩
def mStep (st : Fs) (x : S33) : Fs := mDo st x.f0 x.f1 x.f2 x.f3 x.f4 x.f5 x.f6 x.f8
structure BothP (W0 : World × Nat) (sb rb c : Nat) (st rt : Fs) (F : List (Nat × Obj)) (wr : World) (ok okr : Nat → Prop) (L : List (Nat × AF)) : Prop where
  P : StoreRep wr ok sb L
  hst : L.map (·.2) = st
  R : RRep wr okr rb rt
  apart : ∀ q, ok q → ¬ okr q
  I : TInv c st
  J : TInv c rt
  X : XInv rt
  low : Below W0.1.heap.size W0.1 wr
  grow : W0.2 ≤ wr.heap.size
  okP : ∀ q, ok q → W0.1.heap.size ≤ q ∧ ∀ p ∈ F, q ≠ p.1
  okR : ∀ q, okr q → W0.1.heap.size ≤ q ∧ ∀ p ∈ F, q ≠ p.1
  at_ : ∀ p ∈ F, wr.heap[p.1]? = some p.2
def Both (W0 : World × Nat) (sb rb c : Nat) (st rt : Fs) (F : List (Nat × Obj)) (wr : World) : Prop := ∃ ok okr L, BothP W0 sb rb c st rt F wr ok okr L
section
variable {W0 : World × Nat} {wr w' : World} {sb rb c c' : Nat} {st rt st' rt' : Fs} {F : List (Nat × Obj)}
theorem StoreRep.lt {ok : Nat → Prop} {L : List (Nat × AF)} (h : StoreRep wr ok sb L) : ∀ q, ok q → q < wr.heap.size := by
  obtain ⟨_, _, _, h⟩ := h
  exact h.lt
theorem RRep.lt {ok : Nat → Prop} (h : RRep wr ok rb rt) : ∀ q, ok q → q < wr.heap.size := by
  obtain ⟨_, _, h⟩ := h
  exact h.lt
theorem at_lt {b : Nat} {o : Obj} (h : wr.heap[b]? = some o) : b < wr.heap.size := (Array.getElem?_eq_some_iff.1 h).1
theorem Both.below (h : Both W0 sb rb c st rt F wr) (hb : Below wr.heap.size wr w') : Both W0 sb rb c st rt F w' := by
  obtain ⟨ok, okr, L, h⟩ := h
  exact ⟨ok, okr, L, h.P.other (Chg.of_below hb (fun _ => False)) (fun _ _ h => h), h.hst, h.R.below hb, h.apart, h.I, h.J, h.X, h.low.trans (hb.mono h.low.size), Nat.le_trans h.grow hb.size, h.okP, h.okR, fun p hp => (hb.block _ (at_lt (h.at_ p hp))).trans (h.at_ p hp)⟩
theorem Both.drew (h : Both W0 sb rb c st rt F wr) : Both W0 sb rb c st rt F wr.drew := h.below (Below.refl _ _).drew
theorem Both.low (h : Both W0 sb rb c st rt F wr) : Below W0.1.heap.size W0.1 wr := by
  obtain ⟨ok, okr, L, h⟩ := h
  exact h.low
theorem Both.at_ (h : Both W0 sb rb c st rt F wr) : ∀ p ∈ F, wr.heap[p.1]? = some p.2 := by
  obtain ⟨ok, okr, L, h⟩ := h
  exact h.at_
theorem Both.mono (h : Both W0 sb rb c st rt F wr) (hcc : c ≤ c') : Both W0 sb rb c' st rt F wr := by
  obtain ⟨ok, okr, L, h⟩ := h
  exact ⟨ok, okr, L, h.P, h.hst, h.R, h.apart, h.I.mono hcc, h.J.mono hcc, h.X, h.low, h.grow, h.okP, h.okR, h.at_⟩
theorem Both.box (h : Both W0 sb rb c st rt F wr) (o : Obj) (h0 : (wr.alloc o).heap[wr.heap.size]? = some o) : Both W0 sb rb c st rt ((wr.heap.size, o) :: F) (wr.alloc o) := by
  have hb : Below wr.heap.size wr (wr.alloc o) := (Below.refl _ _).alloc (Nat.le_refl _) _
  obtain ⟨ok, okr, L, h⟩ := h
  have h1 := h.P.lt
  have h2 := h.R.lt
  refine ⟨ok, okr, L, h.P.other (Chg.of_below hb (fun _ => False)) (fun _ _ h => h), h.hst, h.R.below hb, h.apart, h.I, h.J, h.X, h.low.trans (hb.mono h.low.size), Nat.le_trans h.grow hb.size, fun q hq => ⟨(h.okP q hq).1, fun p hp => ?_⟩, fun q hq => ⟨(h.okR q hq).1, fun p hp => ?_⟩, fun p hp => ?_⟩
  · rcases List.mem_cons.1 hp with rfl | hp
    · exact Nat.ne_of_lt (h1 q hq)
    · exact (h.okP q hq).2 p hp
  · rcases List.mem_cons.1 hp with rfl | hp
    · exact Nat.ne_of_lt (h2 q hq)
    · exact (h.okR q hq).2 p hp
  · rcases List.mem_cons.1 hp with rfl | hp
    · exact h0
    · exact (hb.block _ (at_lt (h.at_ p hp))).trans (h.at_ p hp)
theorem Both.drop {p : Nat × Obj} (h : Both W0 sb rb c st rt (p :: F) wr) : Both W0 sb rb c st rt F wr := by
  obtain ⟨ok, okr, L, h⟩ := h
  exact ⟨ok, okr, L, h.P, h.hst, h.R, h.apart, h.I, h.J, h.X, h.low, h.grow, fun q hq => ⟨(h.okP q hq).1, fun p hp => (h.okP q hq).2 p (List.mem_cons_of_mem _ hp)⟩, fun q hq => ⟨(h.okR q hq).1, fun p hp => (h.okR q hq).2 p (List.mem_cons_of_mem _ hp)⟩, fun p hp => h.at_ p (List.mem_cons_of_mem _ hp)⟩
def Apart (W0 : World × Nat) (wr w' : World) (F : List (Nat × Obj)) : Prop := ∃ S : Nat → Prop, Chg wr w' S ∧ ∀ q, S q → W0.1.heap.size ≤ q ∧ q < wr.heap.size ∧ ∀ p ∈ F, q ≠ p.1
theorem Both.prog (h : Both W0 sb rb c st rt F wr) {f : Nat} {args : Array Value} {Q : Ending → World → Prop} (hcc : c ≤ c') (hI : TInv c st → TInv c' st')
    (hc : ∀ ok L, StoreRep wr ok sb L → L.map (·.2) = st → TInv c st → Calls Tryz.prog f args wr fun e w' => Q e w' ∧ ∃ v, SOut wr ok sb v st' e w') :
    Calls Tryz.prog f args wr fun e w' => Q e w' ∧ Both W0 sb rb c' st' rt F w' ∧ Apart W0 wr w' F := by
  obtain ⟨ok, okr, L, h⟩ := h
  refine (hc ok L h.P h.hst h.I).mono ?_
  rintro e w' ⟨hQ, v, _, ok', L', h1, h2, h3, h4⟩
  have hlt := h.P.lt
  refine ⟨hQ, ⟨ok', okr, L', h1, h2, h.R.other h3 (fun q hq hs => h.apart q hs hq), fun q hq hr => ?_, hI h.I, h.J.mono hcc, h.X, h.low.trans (h3.below h.low.size (fun q hq => (h.okP q hq).1)), Nat.le_trans h.grow h3.size, fun q hq => ?_, h.okR, fun p hp => (h3.block _ (at_lt (h.at_ p hp)) (fun hs => (h.okP _ hs).2 p hp rfl)).trans (h.at_ p hp)⟩, ok, h3, fun q hq => ⟨(h.okP q hq).1, hlt q hq, (h.okP q hq).2⟩⟩
  · rcases h4 q hq with h5 | h5
    · exact h.apart q h5 hr
    · exact absurd (h.R.lt q hr) (by omega)
  · rcases h4 q hq with h5 | h5
    · exact h.okP q h5
    · exact ⟨Nat.le_trans h.low.size h5, fun p hp e => by have := at_lt (h.at_ p hp); omega⟩
theorem Both.ref (h : Both W0 sb rb c st rt F wr) {f : Nat} {args : Array Value} {Q : Ending → World → Prop} (hcc : c ≤ c') (hc0 : c ≤ 1000) (hI : TInv c rt → TInv c' rt') (hX : XInv rt → XInv rt')
    (hc : ∀ ok A k, RParts wr ok rb rt A k → RInv rt → Calls Tryz.prog f args wr fun e w' => Q e w' ∧ ∃ v, ROut wr ok rb v rt' e w') :
    Calls Tryz.prog f args wr fun e w' => Q e w' ∧ Both W0 sb rb c' st rt' F w' ∧ Apart W0 wr w' F := by
  obtain ⟨ok, okr, L, h⟩ := h
  obtain ⟨A, k, hR⟩ := h.R
  have hlt := h.R.lt
  refine (hc okr A k hR (RInv.of h.J h.X hc0)).mono ?_
  rintro e w' ⟨hQ, v, _, ok', h1, h3, h4⟩
  refine ⟨hQ, ⟨ok, ok', L, h.P.other h3 (fun q hq hs => h.apart q hq hs), h.hst, h1, fun q hq hr => ?_, h.I.mono hcc, hI h.J, hX h.X, h.low.trans (h3.below h.low.size (fun q hq => (h.okR q hq).1)), Nat.le_trans h.grow h3.size, h.okP, fun q hq => ?_, fun p hp => (h3.block _ (at_lt (h.at_ p hp)) (fun hs => (h.okR _ hs).2 p hp rfl)).trans (h.at_ p hp)⟩, okr, h3, fun q hq => ⟨(h.okR q hq).1, hlt q hq, (h.okR q hq).2⟩⟩
  · rcases h4 q hr with h5 | h5
    · exact h.apart q hq h5
    · exact absurd (h.P.lt q hq) (by omega)
  · rcases h4 q hq with h5 | h5
    · exact h.okR q h5
    · exact ⟨Nat.le_trans h.low.size h5, fun p hp e => by have := at_lt (h.at_ p hp); omega⟩
theorem Both.reads (h : Both W0 sb rb c st rt F wr) {f : Nat} {args : Array Value} {Q : Ending → World → Prop} (hc : ∀ ok okr L A k, StoreRep wr ok sb L → L.map (·.2) = st → TInv c st → RParts wr okr rb rt A k → (c ≤ 1000 → RInv rt) → Calls Tryz.prog f args wr fun e w' => Q e w' ∧ Below wr.heap.size wr w') :
    Calls Tryz.prog f args wr fun e w' => Q e w' ∧ Both W0 sb rb c st rt F w' ∧ Below wr.heap.size wr w' := by
  have H := h
  obtain ⟨ok, okr, L, h⟩ := h
  obtain ⟨A, k, hR⟩ := h.R
  refine (hc ok okr L A k h.P h.hst h.I hR (RInv.of h.J h.X)).mono ?_
  rintro e w' ⟨hQ, hb⟩
  exact ⟨hQ, H.below hb, hb⟩
end
end Go.Proofs.YtehlmkgldcfciaaGreat.Files
/- The reference's store: Names, Users. -/
set_option linter.unusedVariables false
set_option linter.unusedSimpArgs false
namespace Go.Proofs.YtehlmkgldcfciaaGreat.Files
open Go.Proofs.YtehlmkgldcfciaaGreat.Common Go.Maps Go.ChangeMaps Go.WideMaps Go.Proofs.YtehlmkgldcfciaaGreat.F
open Go.RowKit Go.Proofs.YtehlmkgldcfciaaGreatW.PrintWords Go.Proofs.YtehlmkgldcfciaaGreatW.PrintLast Go.Proofs.YtehlmkgldcfciaaGreatW.PrintMore
def RWords (W : World) (l : List ByteArray) (e : Ending) (w' : World) : Prop := ∃ v : Value, e = .returned v ∧ Kd.R Kd.string 9 w' W.heap.size (fun _ => True) v (sortL l) ∧ Below W.heap.size W w'
end Go.Proofs.YtehlmkgldcfciaaGreat.Files
/- Each method, on two stores in one world. -/
set_option linter.unusedVariables false
set_option linter.unusedSimpArgs false
namespace Go.Proofs.YtehlmkgldcfciaaGreat.Files
open Go.Proofs.YtehlmkgldcfciaaGreat.Common Go.Maps Go.ChangeMaps Go.WideMaps Go.Proofs.YtehlmkgldcfciaaGreat.F
open Go.Sort Go.Shelf Go.RowKit Go.Proofs.YtehlmkgldcfciaaGreatW.PrintWords Go.Proofs.YtehlmkgldcfciaaGreatW.PrintLast Go.Proofs.YtehlmkgldcfciaaGreatW.PrintMore
theorem WordsEnd.rwords {W : World} {l : List ByteArray} {e : Ending} {w' : World} (h : WordsEnd W l e w') : RWords W l e w' ∧ Below W.heap.size W w' := by
  obtain ⟨v, rfl, hr, hb⟩ := h
  have hlen : (sortL l).length = l.length := (sortL_perm l).length_eq
  refine ⟨⟨v, rfl, Kd.R_of_own (enc := Value.string) ?_ (fun _ _ => trivial), hb⟩, hb⟩
  rw [hlen, sortL_names]
  have : encs Value.string ((sortedNames l).map (fun s : List UInt8 => (⟨s.toArray⟩ : ByteArray))) = (sortedNames l).map encStr := by
    unfold encs
    rw [List.map_map]
    all_goals rfl
  rw [this]
  exact hr
section
variable {W0 : World × Nat} {wr w' : World} {sb rb c : Nat} {st rt : Fs} {F : List (Nat × Obj)}
theorem Both.pCreate (h : Both W0 sb rb c st rt F wr) (u n : ByteArray) (kind perm : Int) : Calls Tryz.prog 16 #[.pointer (some ⟨sb, 0, none⟩), .string u, .string n, .int .i64 kind, .int .i64 perm] wr fun e w' => e = .returned (.int .i64 (mCreate st u n kind perm).1) ∧ Both W0 sb rb c (mCreate st u n kind perm).2 rt F w' ∧ Apart W0 wr w' F :=
  h.prog (Nat.le_refl c) (fun h => inv_Create h u n kind perm) (fun ok L hR hst hI => (S_Create hR hst hI.S u n kind perm).mono (fun e w' h => ⟨h.1, _, h⟩))
theorem Both.rCreate (h : Both W0 sb rb c st rt F wr) (hc : c ≤ 1000) (u n : ByteArray) (kind perm : Int) : Calls Tryz.prog 17 #[.pointer (some ⟨rb, 0, none⟩), .string u, .string n, .int .i64 kind, .int .i64 perm] wr fun e w' => e = .returned (.int .i64 (mCreate rt u n kind perm).1) ∧ Both W0 sb rb c st (mCreate rt u n kind perm).2 F w' ∧ Apart W0 wr w' F :=
  h.ref (Nat.le_refl c) hc (fun h => inv_Create h u n kind perm) (fun h => x_Create h u n kind perm) (fun ok A k hR hI => (rCreate_c rb k ok rt A u n kind perm wr hR hI).mono (fun e w' h => ⟨h.1, _, h⟩))
theorem Both.pDelete (h : Both W0 sb rb c st rt F wr) (u n : ByteArray)  : Calls Tryz.prog 18 #[.pointer (some ⟨sb, 0, none⟩), .string u, .string n] wr fun e w' => e = .returned (.int .i64 (mDelete st u n ).1) ∧ Both W0 sb rb c (mDelete st u n ).2 rt F w' ∧ Apart W0 wr w' F :=
  h.prog (Nat.le_refl c) (fun h => inv_Delete h u n ) (fun ok L hR hst hI => (S_Delete hR hst hI.S u n ).mono (fun e w' h => ⟨h.1, _, h⟩))
theorem Both.rDelete (h : Both W0 sb rb c st rt F wr) (hc : c ≤ 1000) (u n : ByteArray)  : Calls Tryz.prog 19 #[.pointer (some ⟨rb, 0, none⟩), .string u, .string n] wr fun e w' => e = .returned (.int .i64 (mDelete rt u n ).1) ∧ Both W0 sb rb c st (mDelete rt u n ).2 F w' ∧ Apart W0 wr w' F :=
  h.ref (Nat.le_refl c) hc (fun h => inv_Delete h u n ) (fun h => x_Delete h u n ) (fun ok A k hR hI => (rDelete_c rb k ok rt A u n  wr hR hI).mono (fun e w' h => ⟨h.1, _, h⟩))
theorem Both.pOpen (h : Both W0 sb rb c st rt F wr) (hc : c < 1000) (u n : ByteArray) (a x : Int) : Calls Tryz.prog 20 #[.pointer (some ⟨sb, 0, none⟩), .string u, .string n, .int .i64 a, .int .i64 x] wr fun e w' => e = .returned (.int .i64 (mOpen st u n a x).1) ∧ Both W0 sb rb (c + 1) (mOpen st u n a x).2 rt F w' ∧ Apart W0 wr w' F :=
  h.prog (Nat.le_succ c) (fun h => inv_Open h u n a x) (fun ok L hR hst hI => (S_Open_all hR hst hI.S (by omega) u n a x).mono (fun e w' h => ⟨h.1, _, h⟩))
theorem Both.rOpen (h : Both W0 sb rb c st rt F wr) (hc : c ≤ 1000) (u n : ByteArray) (a x : Int) : Calls Tryz.prog 21 #[.pointer (some ⟨rb, 0, none⟩), .string u, .string n, .int .i64 a, .int .i64 x] wr fun e w' => e = .returned (.int .i64 (mOpen rt u n a x).1) ∧ Both W0 sb rb (c + 1) st (mOpen rt u n a x).2 F w' ∧ Apart W0 wr w' F :=
  h.ref (Nat.le_succ c) hc (fun h => inv_Open h u n a x) (fun h => x_Open h u n a x) (fun ok A k hR hI => (rOpen_c rb k ok rt A u n a x wr hR hI).mono (fun e w' h => ⟨h.1, _, h⟩))
theorem Both.pClose (h : Both W0 sb rb c st rt F wr) (u n : ByteArray)  : Calls Tryz.prog 22 #[.pointer (some ⟨sb, 0, none⟩), .string u, .string n] wr fun e w' => e = .returned (.int .i64 (mClose st u n ).1) ∧ Both W0 sb rb c (mClose st u n ).2 rt F w' ∧ Apart W0 wr w' F :=
  h.prog (Nat.le_refl c) (fun h => inv_Close h u n ) (fun ok L hR hst hI => (S_Close hR hst hI.S u n ).mono (fun e w' h => ⟨h.1, _, h⟩))
theorem Both.rClose (h : Both W0 sb rb c st rt F wr) (hc : c ≤ 1000) (u n : ByteArray)  : Calls Tryz.prog 23 #[.pointer (some ⟨rb, 0, none⟩), .string u, .string n] wr fun e w' => e = .returned (.int .i64 (mClose rt u n ).1) ∧ Both W0 sb rb c st (mClose rt u n ).2 F w' ∧ Apart W0 wr w' F :=
  h.ref (Nat.le_refl c) hc (fun h => inv_Close h u n ) (fun h => x_Close h u n ) (fun ok A k hR hI => (rClose_c rb k ok rt A u n wr hR hI.users).mono (fun e w' h => ⟨h.1, _, h⟩))
theorem Both.pReplace (h : Both W0 sb rb c st rt F wr) (u n : ByteArray) (at_ : Int) (d : ByteArray) : Calls Tryz.prog 32 #[.pointer (some ⟨sb, 0, none⟩), .string u, .string n, .int .i64 at_, .string d] wr fun e w' => e = .returned (.int .i64 (mReplace st u n at_ d).1) ∧ Both W0 sb rb c (mReplace st u n at_ d).2 rt F w' ∧ Apart W0 wr w' F :=
  h.prog (Nat.le_refl c) (fun h => inv_Replace h u n at_ d) (fun ok L hR hst hI => (S_Replace hR hst hI.S u n at_ d).mono (fun e w' h => ⟨h.1, _, h⟩))
theorem Both.rReplace (h : Both W0 sb rb c st rt F wr) (hc : c ≤ 1000) (u n : ByteArray) (at_ : Int) (d : ByteArray) : Calls Tryz.prog 33 #[.pointer (some ⟨rb, 0, none⟩), .string u, .string n, .int .i64 at_, .string d] wr fun e w' => e = .returned (.int .i64 (mReplace rt u n at_ d).1) ∧ Both W0 sb rb c st (mReplace rt u n at_ d).2 F w' ∧ Apart W0 wr w' F :=
  h.ref (Nat.le_refl c) hc (fun h => inv_Replace h u n at_ d) (fun h => x_Replace h u n at_ d) (fun ok A k hR hI => (rReplace_c rb k ok rt A u n at_ d wr hR hI).mono (fun e w' h => ⟨h.1, _, h⟩))
theorem Both.pExtend (h : Both W0 sb rb c st rt F wr) (u n : ByteArray) (at_ : Int) (d : ByteArray) : Calls Tryz.prog 34 #[.pointer (some ⟨sb, 0, none⟩), .string u, .string n, .int .i64 at_, .string d] wr fun e w' => e = .returned (.int .i64 (mExtend st u n at_ d).1) ∧ Both W0 sb rb c (mExtend st u n at_ d).2 rt F w' ∧ Apart W0 wr w' F :=
  h.prog (Nat.le_refl c) (fun h => inv_Extend h u n at_ d) (fun ok L hR hst hI => (S_Extend hR hst hI.S u n at_ d).mono (fun e w' h => ⟨h.1, _, h⟩))
theorem Both.rExtend (h : Both W0 sb rb c st rt F wr) (hc : c ≤ 1000) (u n : ByteArray) (at_ : Int) (d : ByteArray) : Calls Tryz.prog 35 #[.pointer (some ⟨rb, 0, none⟩), .string u, .string n, .int .i64 at_, .string d] wr fun e w' => e = .returned (.int .i64 (mExtend rt u n at_ d).1) ∧ Both W0 sb rb c st (mExtend rt u n at_ d).2 F w' ∧ Apart W0 wr w' F :=
  h.ref (Nat.le_refl c) hc (fun h => inv_Extend h u n at_ d) (fun h => x_Extend h u n at_ d) (fun ok A k hR hI => (rExtend_c rb k ok rt A u n at_ d wr hR hI).mono (fun e w' h => ⟨h.1, _, h⟩))
theorem Both.pErase (h : Both W0 sb rb c st rt F wr) (u n : ByteArray) (at_ : Int) : Calls Tryz.prog 36 #[.pointer (some ⟨sb, 0, none⟩), .string u, .string n, .int .i64 at_] wr fun e w' => e = .returned (.int .i64 (mErase st u n at_).1) ∧ Both W0 sb rb c (mErase st u n at_).2 rt F w' ∧ Apart W0 wr w' F :=
  h.prog (Nat.le_refl c) (fun h => inv_Erase h u n at_) (fun ok L hR hst hI => (S_Erase hR hst hI.S u n at_).mono (fun e w' h => ⟨h.1, _, h⟩))
theorem Both.rErase (h : Both W0 sb rb c st rt F wr) (hc : c ≤ 1000) (u n : ByteArray) (at_ : Int) : Calls Tryz.prog 37 #[.pointer (some ⟨rb, 0, none⟩), .string u, .string n, .int .i64 at_] wr fun e w' => e = .returned (.int .i64 (mErase rt u n at_).1) ∧ Both W0 sb rb c st (mErase rt u n at_).2 F w' ∧ Apart W0 wr w' F :=
  h.ref (Nat.le_refl c) hc (fun h => inv_Erase h u n at_) (fun h => x_Erase h u n at_) (fun ok A k hR hI => (rErase_c rb k ok rt A u n at_ wr hR hI).mono (fun e w' h => ⟨h.1, _, h⟩))
theorem Both.pInsert (h : Both W0 sb rb c st rt F wr) (u n : ByteArray) (at_ : Int) (child : Bool) (a b : ByteArray) (lev0 : Int) : Calls Tryz.prog 30 #[.pointer (some ⟨sb, 0, none⟩), .string u, .string n, .int .i64 at_, .bool child, .agg #[.string a, .string b, .int .i64 lev0]] wr fun e w' => e = .returned (.int .i64 (mInsert st u n at_ child a b).1) ∧ Both W0 sb rb c (mInsert st u n at_ child a b).2 rt F w' ∧ Apart W0 wr w' F :=
  h.prog (Nat.le_refl c) (fun h => inv_Insert h u n at_ child a b) (fun ok L hR hst hI => (S_Insert hR hst hI.S u n at_ child a b lev0).mono (fun e w' h => ⟨h.1, _, h⟩))
theorem Both.pChange (h : Both W0 sb rb c st rt F wr) (u n : ByteArray) (perm : Int) (A : Option Addr) (cc : Nat) (rules : List S100) (hr : Kd.C k100 wr A rules.length rules) (hcc : rules.length ≤ cc) : Calls Tryz.prog 42 #[.pointer (some ⟨sb, 0, none⟩), .string u, .string n, .int .i64 perm, .slice A rules.length cc] wr fun e w' => e = .returned (.int .i64 (mChange st u n perm rules).1) ∧ Both W0 sb rb c (mChange st u n perm rules).2 rt F w' ∧ Apart W0 wr w' F :=
  h.prog (Nat.le_refl c) (fun h => inv_Change h u n perm rules) (fun ok L hR hst hI => (S_Change hR hst u n perm A cc rules hr hcc).mono (fun e w' h => ⟨h.1, _, h⟩))
theorem Both.rChange (h : Both W0 sb rb c st rt F wr) (hc : c ≤ 1000) (u n : ByteArray) (perm : Int) (A : Option Addr) (cc : Nat) (rules : List S100) (B : Nat) (hr : Kd.R k129 129 wr B (fun _ => True) (.slice A rules.length cc) (rules.map toRu)) (hB : ∃ w1, Both W0 sb rb c st rt F w1 ∧ Below w1.heap.size w1 wr ∧ B = w1.heap.size) :
    Calls Tryz.prog 43 #[.pointer (some ⟨rb, 0, none⟩), .string u, .string n, .int .i64 perm, .slice A rules.length cc] wr fun e w' => e = .returned (.int .i64 (mChange rt u n perm rules).1) ∧ Both W0 sb rb c st (mChange rt u n perm rules).2 F w' ∧ Apart W0 wr w' F := by
  obtain ⟨w1, h1, hb, rfl⟩ := hB
  obtain ⟨ok, okr, L, h2⟩ := h1
  have h3 : BothP W0 sb rb c st rt F wr ok okr L := ⟨h2.P.other (Chg.of_below hb (fun _ => False)) (fun _ _ h => h), h2.hst, h2.R.below hb, h2.apart, h2.I, h2.J, h2.X, h2.low.trans (hb.mono h2.low.size), Nat.le_trans h2.grow hb.size, h2.okP, h2.okR, fun p hp => (hb.block _ (at_lt (h2.at_ p hp))).trans (h2.at_ p hp)⟩
  obtain ⟨A', k, hR⟩ := h3.R
  have hlt := h2.R.lt
  refine (rChange_c rb k okr rt A' u n perm A cc rules wr hR w1.heap.size hr hlt).mono ?_
  rintro e w' ⟨rfl, ok', g1, g3, g4⟩
  refine ⟨rfl, ⟨ok, ok', L, h3.P.other g3 (fun q hq hs => h3.apart q hq hs), h3.hst, g1, fun q hq hr => ?_, h3.I, inv_Change h3.J u n perm rules, x_Change h3.X u n perm rules, h3.low.trans (g3.below h3.low.size (fun q hq => (h3.okR q hq).1)), Nat.le_trans h3.grow g3.size, h3.okP, fun q hq => ?_, fun p hp => (g3.block _ (at_lt (h3.at_ p hp)) (fun hs => (h3.okR _ hs).2 p hp rfl)).trans (h3.at_ p hp)⟩, okr, g3, fun q hq => ⟨(h3.okR q hq).1, Nat.lt_of_lt_of_le (hlt q hq) hb.size, (h3.okR q hq).2⟩⟩
  · rcases g4 q hr with h5 | h5
    · exact h3.apart q hq h5
    · exact absurd (h3.P.lt q hq) (by omega)
  · rcases g4 q hq with h5 | h5
    · exact h3.okR q h5
    · exact ⟨Nat.le_trans h3.low.size h5, fun p hp e => by have := at_lt (h3.at_ p hp); omega⟩
theorem Both.pLocate (h : Both W0 sb rb c st rt F wr) (u n : ByteArray) (Ap : Option Addr) (cp : Nat) (path : List ByteArray) (hp : Kd.C Kd.string wr Ap path.length path) (hcp : path.length ≤ cp) : Calls Tryz.prog 24 #[.pointer (some ⟨sb, 0, none⟩), .string u, .string n, .slice Ap path.length cp] wr fun e w' => e = .returned (.tuple #[.int .i64 (mLocate st u n path).1, .int .i64 (mLocate st u n path).2]) ∧ Both W0 sb rb c st rt F w' ∧ Below wr.heap.size wr w' :=
  h.reads (fun ok okr L A k hR hst hI _ _ => Locate_c sb c ok L st u n Ap cp path wr hR hst hI.S hp hcp)
theorem Both.rLocate (h : Both W0 sb rb c st rt F wr) (hc : c ≤ 1000) (u n : ByteArray) (Ap : Option Addr) (cp : Nat) (path : List ByteArray) (hp : Kd.C Kd.string wr Ap path.length path) (hcp : path.length ≤ cp) : Calls Tryz.prog 25 #[.pointer (some ⟨rb, 0, none⟩), .string u, .string n, .slice Ap path.length cp] wr fun e w' => e = .returned (.tuple #[.int .i64 (mLocate rt u n path).1, .int .i64 (mLocate rt u n path).2]) ∧ Both W0 sb rb c st rt F w' ∧ Below wr.heap.size wr w' :=
  h.reads (fun ok okr L A k _ _ _ hR hI => rLocate_c rb k okr rt A u n Ap cp path wr hR (hI hc) hp hcp)
theorem Both.pInfo (h : Both W0 sb rb c st rt F wr) (u n : ByteArray) (gr : Int) : Calls Tryz.prog 38 #[.pointer (some ⟨sb, 0, none⟩), .string u, .string n, .int .i64 gr] wr fun e w' => (∃ v, e = .returned (.tuple #[infoV (mInfo st u n gr).1.1 v, .int .i64 (mInfo st u n gr).2]) ∧ Kd.R k100 100 w' wr.heap.size (fun _ => True) v (mInfo st u n gr).1.2) ∧ Both W0 sb rb c st rt F w' ∧ Below wr.heap.size wr w' :=
  h.reads (fun ok okr L A k hR hst hI _ _ => (S_Info hR hst hI u n gr).mono (fun e w' h => by
    obtain ⟨v, h1, h2, h3⟩ := h
    exact ⟨⟨v, h1, h3⟩, h2⟩))
theorem Both.rInfo (h : Both W0 sb rb c st rt F wr) (hc : c ≤ 1000) (u n : ByteArray) (gr : Int) : Calls Tryz.prog 39 #[.pointer (some ⟨rb, 0, none⟩), .string u, .string n, .int .i64 gr] wr fun e w' => (∃ v, e = .returned (.tuple #[infoV (mInfo rt u n gr).1.1 v, .int .i64 (mInfo rt u n gr).2]) ∧ Kd.R k129 129 w' wr.heap.size (fun _ => True) v ((mInfo rt u n gr).1.2.map toRu)) ∧ Both W0 sb rb c st rt F w' ∧ Below wr.heap.size wr w' :=
  h.reads (fun ok okr L A k _ _ _ hR hI => (rInfo_c rb k okr rt A u n gr wr hR (hI hc)).mono (fun e w' h => by
    obtain ⟨v, h1, h2, h3⟩ := h
    exact ⟨⟨v, h1, h3⟩, h2⟩))
theorem Both.pNames (h : Both W0 sb rb c st rt F wr) : Calls Tryz.prog 9 #[.pointer (some ⟨sb, 0, none⟩)] wr fun e w' => RWords wr (st.map (·.F.name)) e w' ∧ Both W0 sb rb c st rt F w' ∧ Below wr.heap.size wr w' :=
  h.reads (fun ok okr L A k hR hst hI _ _ => (S_Names hR hst hI.S).mono (fun e w' h => h.rwords))
end
end Go.Proofs.YtehlmkgldcfciaaGreat.Files
/- The law's same: acts of one call each. -/
set_option linter.unusedVariables false
set_option linter.unusedSimpArgs false
namespace Go.Proofs.YtehlmkgldcfciaaGreat.Files
open Go.Proofs.YtehlmkgldcfciaaGreat.Common Go.Maps Go.ChangeMaps Go.WideMaps Go.Proofs.YtehlmkgldcfciaaGreat.F
open Go.RowKit Go.Proofs.YtehlmkgldcfciaaGreatW.PrintWords Go.Proofs.YtehlmkgldcfciaaGreatW.PrintLast Go.Proofs.YtehlmkgldcfciaaGreatW.PrintMore
def SameOut (W0 : World × Nat) (sb rb c : Nat) (eq : Prop) (st' rt' : Fs) (F : List (Nat × Obj)) (e : Ending) (w' : World) : Prop := ∃ b : Bool, e = .returned (.bool b) ∧ (eq → b = true) ∧ Both W0 sb rb c st' rt' F w'
theorem act_at {w : World} {ab : Nat} {d A B s2 : Int} {u n s0 s1 : ByteArray} {fl : Bool} {pv rv : Value} (hx : w.heap[ab]? = some (.cells #[.int .i64 d, .int .i64 A, .int .i64 B, .string u, .string n, .bool fl, .string s0, .string s1, .int .i64 s2, pv, rv] 33 (0, 0))) :
    w.cell? ⟨ab, 0, none⟩ = some (.int .i64 d) ∧ w.cell? ⟨ab, 1, none⟩ = some (.int .i64 A) ∧ w.cell? ⟨ab, 2, none⟩ = some (.int .i64 B) ∧ w.cell? ⟨ab, 3, none⟩ = some (.string u) ∧ w.cell? ⟨ab, 4, none⟩ = some (.string n) ∧ w.cell? ⟨ab, 5, none⟩ = some (.bool fl) ∧ w.cell? ⟨ab, 6, none⟩ = some (.string s0) ∧ w.cell? ⟨ab, 7, none⟩ = some (.string s1) ∧ w.cell? ⟨ab, 8, none⟩ = some (.int .i64 s2) ∧ w.cell? ⟨ab, 9, none⟩ = some (pv) ∧ w.cell? ⟨ab, 10, none⟩ = some (rv) := ⟨blk_cell hx 0, blk_cell hx 1, blk_cell hx 2, blk_cell hx 3, blk_cell hx 4, blk_cell hx 5, blk_cell hx 6, blk_cell hx 7, blk_cell hx 8, blk_cell hx 9, blk_cell hx 10⟩
theorem act_cells {W0 : World × Nat} {w : World} {sb rb c ab : Nat} {st rt : Fs} {F : List (Nat × Obj)} {d A B s2 : Int} {u n s0 s1 : ByteArray} {fl : Bool} {pv rv : Value} (h : Both W0 sb rb c st rt ((ab, .cells #[.int .i64 d, .int .i64 A, .int .i64 B, .string u, .string n, .bool fl, .string s0, .string s1, .int .i64 s2, pv, rv] 33) :: F) w) :
    w.cell? ⟨ab, 0, none⟩ = some (.int .i64 d) ∧ w.cell? ⟨ab, 1, none⟩ = some (.int .i64 A) ∧ w.cell? ⟨ab, 2, none⟩ = some (.int .i64 B) ∧ w.cell? ⟨ab, 3, none⟩ = some (.string u) ∧ w.cell? ⟨ab, 4, none⟩ = some (.string n) ∧ w.cell? ⟨ab, 5, none⟩ = some (.bool fl) ∧ w.cell? ⟨ab, 6, none⟩ = some (.string s0) ∧ w.cell? ⟨ab, 7, none⟩ = some (.string s1) ∧ w.cell? ⟨ab, 8, none⟩ = some (.int .i64 s2) ∧ w.cell? ⟨ab, 9, none⟩ = some (pv) ∧ w.cell? ⟨ab, 10, none⟩ = some (rv) := act_at (h.at_ _ List.mem_cons_self)
set_option maxRecDepth 100000 in
set_option maxHeartbeats 4000000 in
theorem same0 (W0 : World × Nat) (W : World) (sb rb c : Nat) (st rt : Fs) (F : List (Nat × Obj)) (A B : Int) (u n : ByteArray) (fl : Bool) (s0 s1 : ByteArray) (s2 : Int) (pv rv : Value) (h : Both W0 sb rb c st rt F W) (hc : c < 1000) :
    Calls Tryz.prog 7 #[.pointer (some ⟨sb, 0, none⟩), .pointer (some ⟨rb, 0, none⟩), .agg #[.int .i64 0, .int .i64 A, .int .i64 B, .string u, .string n, .bool fl, .string s0, .string s1, .int .i64 s2, pv, rv]] W (SameOut W0 sb rb (c + 2) (st = rt) (mCreate st u n A B).2 (mCreate rt u n A B).2 F) := by
  have HB := Aside0.mk (h.box (.cells #[.int .i64 0, .int .i64 A, .int .i64 B, .string u, .string n, .bool fl, .string s0, .string s1, .int .i64 s2, pv, rv] 33) (heap_alloc_new W _))
  clear h
  go_enter Tryz.func7, Tryz.ntmps7
  go_wp2_with fail
  generalize W.alloc (.cells #[.int .i64 0, .int .i64 A, .int .i64 B, .string u, .string n, .bool fl, .string s0, .string s1, .int .i64 s2, pv, rv] 33) = w1 at HB ⊢
  generalize W.heap.size = ab at HB ⊢
  obtain ⟨-, x1, x2, x3, x4, -, -, -, -, -, -⟩ := act_cells HB.out
  go_region_held3 (fun w' => w'.cell? ⟨ab, 1, none⟩ = some (.int .i64 A) ∧ w'.cell? ⟨ab, 2, none⟩ = some (.int .i64 B) ∧ w'.cell? ⟨ab, 3, none⟩ = some (.string u) ∧ w'.cell? ⟨ab, 4, none⟩ = some (.string n)) (go_keep)
    (first
      | (go_at_call 16; refine (HB.out.drew.pCreate u n A B).mono ?_; rintro e w5 ⟨rfl, h5, -⟩; have HB5 := Aside0.mk h5; obtain ⟨-, y1, y2, y3, y4, -, -, -, -, -, -⟩ := act_cells h5; clear h5)
      | (go_at_call 17; refine (HB5.out.rCreate (by omega) u n A B).mono ?_; rintro e w6 ⟨rfl, h6, -⟩; have HB6 := Aside0.mk h6; obtain ⟨-, z1, z2, z3, z4, -, -, -, -, -, -⟩ := act_cells h6; clear h6))
  go_wp2
  refine bodyPost_ret (v := .bool ((mCreate st u n A B).1 == (mCreate rt u n A B).1)) (by simp [results, Tryz.f7, go_sem]) rfl ?_
  exact ⟨_, rfl, fun e => by rw [e]; simp, HB6.out.drop.mono (by omega)⟩
set_option maxRecDepth 100000 in
set_option maxHeartbeats 4000000 in
theorem same1 (W0 : World × Nat) (W : World) (sb rb c : Nat) (st rt : Fs) (F : List (Nat × Obj)) (A B : Int) (u n : ByteArray) (fl : Bool) (s0 s1 : ByteArray) (s2 : Int) (pv rv : Value) (h : Both W0 sb rb c st rt F W) (hc : c < 1000) :
    Calls Tryz.prog 7 #[.pointer (some ⟨sb, 0, none⟩), .pointer (some ⟨rb, 0, none⟩), .agg #[.int .i64 1, .int .i64 A, .int .i64 B, .string u, .string n, .bool fl, .string s0, .string s1, .int .i64 s2, pv, rv]] W (SameOut W0 sb rb (c + 2) (st = rt) (mDelete st u n ).2 (mDelete rt u n ).2 F) := by
  have HB := Aside0.mk (h.box (.cells #[.int .i64 1, .int .i64 A, .int .i64 B, .string u, .string n, .bool fl, .string s0, .string s1, .int .i64 s2, pv, rv] 33) (heap_alloc_new W _))
  clear h
  go_enter Tryz.func7, Tryz.ntmps7
  go_wp2_with fail
  generalize W.alloc (.cells #[.int .i64 1, .int .i64 A, .int .i64 B, .string u, .string n, .bool fl, .string s0, .string s1, .int .i64 s2, pv, rv] 33) = w1 at HB ⊢
  generalize W.heap.size = ab at HB ⊢
  obtain ⟨-, -, -, x3, x4, -, -, -, -, -, -⟩ := act_cells HB.out
  go_region_held3 (fun w' => w'.cell? ⟨ab, 3, none⟩ = some (.string u) ∧ w'.cell? ⟨ab, 4, none⟩ = some (.string n)) (go_keep)
    (first
      | (go_at_call 18; refine (HB.out.drew.pDelete u n ).mono ?_; rintro e w5 ⟨rfl, h5, -⟩; have HB5 := Aside0.mk h5; obtain ⟨-, -, -, y3, y4, -, -, -, -, -, -⟩ := act_cells h5; clear h5)
      | (go_at_call 19; refine (HB5.out.rDelete (by omega) u n ).mono ?_; rintro e w6 ⟨rfl, h6, -⟩; have HB6 := Aside0.mk h6; obtain ⟨-, -, -, z3, z4, -, -, -, -, -, -⟩ := act_cells h6; clear h6))
  go_wp2
  refine bodyPost_ret (v := .bool ((mDelete st u n ).1 == (mDelete rt u n ).1)) (by simp [results, Tryz.f7, go_sem]) rfl ?_
  exact ⟨_, rfl, fun e => by rw [e]; simp, HB6.out.drop.mono (by omega)⟩
set_option maxRecDepth 100000 in
set_option maxHeartbeats 4000000 in
theorem same2 (W0 : World × Nat) (W : World) (sb rb c : Nat) (st rt : Fs) (F : List (Nat × Obj)) (A B : Int) (u n : ByteArray) (fl : Bool) (s0 s1 : ByteArray) (s2 : Int) (pv rv : Value) (h : Both W0 sb rb c st rt F W) (hc : c < 1000) :
    Calls Tryz.prog 7 #[.pointer (some ⟨sb, 0, none⟩), .pointer (some ⟨rb, 0, none⟩), .agg #[.int .i64 2, .int .i64 A, .int .i64 B, .string u, .string n, .bool fl, .string s0, .string s1, .int .i64 s2, pv, rv]] W (SameOut W0 sb rb (c + 2) (st = rt) (mOpen st u n A B).2 (mOpen rt u n A B).2 F) := by
  have HB := Aside0.mk (h.box (.cells #[.int .i64 2, .int .i64 A, .int .i64 B, .string u, .string n, .bool fl, .string s0, .string s1, .int .i64 s2, pv, rv] 33) (heap_alloc_new W _))
  clear h
  go_enter Tryz.func7, Tryz.ntmps7
  go_wp2_with fail
  generalize W.alloc (.cells #[.int .i64 2, .int .i64 A, .int .i64 B, .string u, .string n, .bool fl, .string s0, .string s1, .int .i64 s2, pv, rv] 33) = w1 at HB ⊢
  generalize W.heap.size = ab at HB ⊢
  obtain ⟨-, x1, x2, x3, x4, -, -, -, -, -, -⟩ := act_cells HB.out
  go_region_held3 (fun w' => w'.cell? ⟨ab, 1, none⟩ = some (.int .i64 A) ∧ w'.cell? ⟨ab, 2, none⟩ = some (.int .i64 B) ∧ w'.cell? ⟨ab, 3, none⟩ = some (.string u) ∧ w'.cell? ⟨ab, 4, none⟩ = some (.string n)) (go_keep)
    (first
      | (go_at_call 20; refine (HB.out.drew.pOpen (by omega) u n A B).mono ?_; rintro e w5 ⟨rfl, h5, -⟩; have HB5 := Aside0.mk h5; obtain ⟨-, y1, y2, y3, y4, -, -, -, -, -, -⟩ := act_cells h5; clear h5)
      | (go_at_call 21; refine (HB5.out.rOpen (by omega) u n A B).mono ?_; rintro e w6 ⟨rfl, h6, -⟩; have HB6 := Aside0.mk h6; obtain ⟨-, z1, z2, z3, z4, -, -, -, -, -, -⟩ := act_cells h6; clear h6))
  go_wp2
  refine bodyPost_ret (v := .bool ((mOpen st u n A B).1 == (mOpen rt u n A B).1)) (by simp [results, Tryz.f7, go_sem]) rfl ?_
  exact ⟨_, rfl, fun e => by rw [e]; simp, HB6.out.drop.mono (by omega)⟩
set_option maxRecDepth 100000 in
set_option maxHeartbeats 4000000 in
theorem same3 (W0 : World × Nat) (W : World) (sb rb c : Nat) (st rt : Fs) (F : List (Nat × Obj)) (A B : Int) (u n : ByteArray) (fl : Bool) (s0 s1 : ByteArray) (s2 : Int) (pv rv : Value) (h : Both W0 sb rb c st rt F W) (hc : c < 1000) :
    Calls Tryz.prog 7 #[.pointer (some ⟨sb, 0, none⟩), .pointer (some ⟨rb, 0, none⟩), .agg #[.int .i64 3, .int .i64 A, .int .i64 B, .string u, .string n, .bool fl, .string s0, .string s1, .int .i64 s2, pv, rv]] W (SameOut W0 sb rb (c + 2) (st = rt) (mClose st u n ).2 (mClose rt u n ).2 F) := by
  have HB := Aside0.mk (h.box (.cells #[.int .i64 3, .int .i64 A, .int .i64 B, .string u, .string n, .bool fl, .string s0, .string s1, .int .i64 s2, pv, rv] 33) (heap_alloc_new W _))
  clear h
  go_enter Tryz.func7, Tryz.ntmps7
  go_wp2_with fail
  generalize W.alloc (.cells #[.int .i64 3, .int .i64 A, .int .i64 B, .string u, .string n, .bool fl, .string s0, .string s1, .int .i64 s2, pv, rv] 33) = w1 at HB ⊢
  generalize W.heap.size = ab at HB ⊢
  obtain ⟨-, -, -, x3, x4, -, -, -, -, -, -⟩ := act_cells HB.out
  go_region_held3 (fun w' => w'.cell? ⟨ab, 3, none⟩ = some (.string u) ∧ w'.cell? ⟨ab, 4, none⟩ = some (.string n)) (go_keep)
    (first
      | (go_at_call 22; refine (HB.out.drew.pClose u n ).mono ?_; rintro e w5 ⟨rfl, h5, -⟩; have HB5 := Aside0.mk h5; obtain ⟨-, -, -, y3, y4, -, -, -, -, -, -⟩ := act_cells h5; clear h5)
      | (go_at_call 23; refine (HB5.out.rClose (by omega) u n ).mono ?_; rintro e w6 ⟨rfl, h6, -⟩; have HB6 := Aside0.mk h6; obtain ⟨-, -, -, z3, z4, -, -, -, -, -, -⟩ := act_cells h6; clear h6))
  go_wp2
  refine bodyPost_ret (v := .bool ((mClose st u n ).1 == (mClose rt u n ).1)) (by simp [results, Tryz.f7, go_sem]) rfl ?_
  exact ⟨_, rfl, fun e => by rw [e]; simp, HB6.out.drop.mono (by omega)⟩
set_option maxRecDepth 100000 in
set_option maxHeartbeats 4000000 in
theorem same7 (W0 : World × Nat) (W : World) (sb rb c : Nat) (st rt : Fs) (F : List (Nat × Obj)) (A B : Int) (u n : ByteArray) (fl : Bool) (s0 s1 : ByteArray) (s2 : Int) (pv rv : Value) (h : Both W0 sb rb c st rt F W) (hc : c < 1000) :
    Calls Tryz.prog 7 #[.pointer (some ⟨sb, 0, none⟩), .pointer (some ⟨rb, 0, none⟩), .agg #[.int .i64 7, .int .i64 A, .int .i64 B, .string u, .string n, .bool fl, .string s0, .string s1, .int .i64 s2, pv, rv]] W (SameOut W0 sb rb (c + 2) (st = rt) (mReplace st u n A s1).2 (mReplace rt u n A s1).2 F) := by
  have HB := Aside0.mk (h.box (.cells #[.int .i64 7, .int .i64 A, .int .i64 B, .string u, .string n, .bool fl, .string s0, .string s1, .int .i64 s2, pv, rv] 33) (heap_alloc_new W _))
  clear h
  go_enter Tryz.func7, Tryz.ntmps7
  go_wp2_with fail
  generalize W.alloc (.cells #[.int .i64 7, .int .i64 A, .int .i64 B, .string u, .string n, .bool fl, .string s0, .string s1, .int .i64 s2, pv, rv] 33) = w1 at HB ⊢
  generalize W.heap.size = ab at HB ⊢
  obtain ⟨-, x1, -, x3, x4, -, -, x7, -, -, -⟩ := act_cells HB.out
  go_region_held3 (fun w' => w'.cell? ⟨ab, 1, none⟩ = some (.int .i64 A) ∧ w'.cell? ⟨ab, 3, none⟩ = some (.string u) ∧ w'.cell? ⟨ab, 4, none⟩ = some (.string n) ∧ w'.cell? ⟨ab, 7, none⟩ = some (.string s1)) (go_keep)
    (first
      | (go_at_call 32; refine (HB.out.drew.pReplace u n A s1).mono ?_; rintro e w5 ⟨rfl, h5, -⟩; have HB5 := Aside0.mk h5; obtain ⟨-, y1, -, y3, y4, -, -, y7, -, -, -⟩ := act_cells h5; clear h5)
      | (go_at_call 33; refine (HB5.out.rReplace (by omega) u n A s1).mono ?_; rintro e w6 ⟨rfl, h6, -⟩; have HB6 := Aside0.mk h6; obtain ⟨-, z1, -, z3, z4, -, -, z7, -, -, -⟩ := act_cells h6; clear h6))
  go_wp2
  refine bodyPost_ret (v := .bool ((mReplace st u n A s1).1 == (mReplace rt u n A s1).1)) (by simp [results, Tryz.f7, go_sem]) rfl ?_
  exact ⟨_, rfl, fun e => by rw [e]; simp, HB6.out.drop.mono (by omega)⟩
set_option maxRecDepth 100000 in
set_option maxHeartbeats 4000000 in
theorem same8 (W0 : World × Nat) (W : World) (sb rb c : Nat) (st rt : Fs) (F : List (Nat × Obj)) (A B : Int) (u n : ByteArray) (fl : Bool) (s0 s1 : ByteArray) (s2 : Int) (pv rv : Value) (h : Both W0 sb rb c st rt F W) (hc : c < 1000) :
    Calls Tryz.prog 7 #[.pointer (some ⟨sb, 0, none⟩), .pointer (some ⟨rb, 0, none⟩), .agg #[.int .i64 8, .int .i64 A, .int .i64 B, .string u, .string n, .bool fl, .string s0, .string s1, .int .i64 s2, pv, rv]] W (SameOut W0 sb rb (c + 2) (st = rt) (mExtend st u n A s1).2 (mExtend rt u n A s1).2 F) := by
  have HB := Aside0.mk (h.box (.cells #[.int .i64 8, .int .i64 A, .int .i64 B, .string u, .string n, .bool fl, .string s0, .string s1, .int .i64 s2, pv, rv] 33) (heap_alloc_new W _))
  clear h
  go_enter Tryz.func7, Tryz.ntmps7
  go_wp2_with fail
  generalize W.alloc (.cells #[.int .i64 8, .int .i64 A, .int .i64 B, .string u, .string n, .bool fl, .string s0, .string s1, .int .i64 s2, pv, rv] 33) = w1 at HB ⊢
  generalize W.heap.size = ab at HB ⊢
  obtain ⟨-, x1, -, x3, x4, -, -, x7, -, -, -⟩ := act_cells HB.out
  go_region_held3 (fun w' => w'.cell? ⟨ab, 1, none⟩ = some (.int .i64 A) ∧ w'.cell? ⟨ab, 3, none⟩ = some (.string u) ∧ w'.cell? ⟨ab, 4, none⟩ = some (.string n) ∧ w'.cell? ⟨ab, 7, none⟩ = some (.string s1)) (go_keep)
    (first
      | (go_at_call 34; refine (HB.out.drew.pExtend u n A s1).mono ?_; rintro e w5 ⟨rfl, h5, -⟩; have HB5 := Aside0.mk h5; obtain ⟨-, y1, -, y3, y4, -, -, y7, -, -, -⟩ := act_cells h5; clear h5)
      | (go_at_call 35; refine (HB5.out.rExtend (by omega) u n A s1).mono ?_; rintro e w6 ⟨rfl, h6, -⟩; have HB6 := Aside0.mk h6; obtain ⟨-, z1, -, z3, z4, -, -, z7, -, -, -⟩ := act_cells h6; clear h6))
  go_wp2
  refine bodyPost_ret (v := .bool ((mExtend st u n A s1).1 == (mExtend rt u n A s1).1)) (by simp [results, Tryz.f7, go_sem]) rfl ?_
  exact ⟨_, rfl, fun e => by rw [e]; simp, HB6.out.drop.mono (by omega)⟩
set_option maxRecDepth 100000 in
set_option maxHeartbeats 4000000 in
theorem same9 (W0 : World × Nat) (W : World) (sb rb c : Nat) (st rt : Fs) (F : List (Nat × Obj)) (A B : Int) (u n : ByteArray) (fl : Bool) (s0 s1 : ByteArray) (s2 : Int) (pv rv : Value) (h : Both W0 sb rb c st rt F W) (hc : c < 1000) :
    Calls Tryz.prog 7 #[.pointer (some ⟨sb, 0, none⟩), .pointer (some ⟨rb, 0, none⟩), .agg #[.int .i64 9, .int .i64 A, .int .i64 B, .string u, .string n, .bool fl, .string s0, .string s1, .int .i64 s2, pv, rv]] W (SameOut W0 sb rb (c + 2) (st = rt) (mErase st u n A).2 (mErase rt u n A).2 F) := by
  have HB := Aside0.mk (h.box (.cells #[.int .i64 9, .int .i64 A, .int .i64 B, .string u, .string n, .bool fl, .string s0, .string s1, .int .i64 s2, pv, rv] 33) (heap_alloc_new W _))
  clear h
  go_enter Tryz.func7, Tryz.ntmps7
  go_wp2_with fail
  generalize W.alloc (.cells #[.int .i64 9, .int .i64 A, .int .i64 B, .string u, .string n, .bool fl, .string s0, .string s1, .int .i64 s2, pv, rv] 33) = w1 at HB ⊢
  generalize W.heap.size = ab at HB ⊢
  obtain ⟨-, x1, -, x3, x4, -, -, -, -, -, -⟩ := act_cells HB.out
  go_region_held3 (fun w' => w'.cell? ⟨ab, 1, none⟩ = some (.int .i64 A) ∧ w'.cell? ⟨ab, 3, none⟩ = some (.string u) ∧ w'.cell? ⟨ab, 4, none⟩ = some (.string n)) (go_keep)
    (first
      | (go_at_call 36; refine (HB.out.drew.pErase u n A).mono ?_; rintro e w5 ⟨rfl, h5, -⟩; have HB5 := Aside0.mk h5; obtain ⟨-, y1, -, y3, y4, -, -, -, -, -, -⟩ := act_cells h5; clear h5)
      | (go_at_call 37; refine (HB5.out.rErase (by omega) u n A).mono ?_; rintro e w6 ⟨rfl, h6, -⟩; have HB6 := Aside0.mk h6; obtain ⟨-, z1, -, z3, z4, -, -, -, -, -, -⟩ := act_cells h6; clear h6))
  go_wp2
  refine bodyPost_ret (v := .bool ((mErase st u n A).1 == (mErase rt u n A).1)) (by simp [results, Tryz.f7, go_sem]) rfl ?_
  exact ⟨_, rfl, fun e => by rw [e]; simp, HB6.out.drop.mono (by omega)⟩
end Go.Proofs.YtehlmkgldcfciaaGreat.Files
