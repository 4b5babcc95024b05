/- The parts of this proof that lie in one text. -/
import Derived.Test.YtehlmkgldcfciaaGreatGN13
import Derived.BigQuiet
import Derived.Test.YtehlmkgldcfciaaGreatGN1
/- The law's same: Locate, Read, Info. -/
set_option linter.unusedVariables false
set_option linter.unusedSimpArgs false
namespace Go.Proofs.YtehlmkgldcfciaaGreat.Files
open Go.Proofs.YtehlmkgldcfciaaGreat.Common Go.Maps Go.ChangeMaps Go.WideMaps Go.Proofs.YtehlmkgldcfciaaGreat.F
open Go.RowKit Go.Proofs.YtehlmkgldcfciaaGreatW.PrintWords Go.Proofs.YtehlmkgldcfciaaGreatW.PrintLast Go.Proofs.YtehlmkgldcfciaaGreatW.PrintMore
def BothB (W0 : World × Nat) (sb rb c : Nat) (st rt : Fs) (F : List (Nat × Obj)) (wr : World) (B : Nat) : Prop := ∃ ok okr L, BothP W0 sb rb c st rt F wr ok okr L ∧ ∀ q, okr q → q < B
section
variable {W0 : World × Nat} {wr w' : World} {sb rb c B : Nat} {st rt : Fs} {F : List (Nat × Obj)}
theorem mRead_len {c : Nat} {st : Fs} (hI : TInv c st) (u n : ByteArray) (at_ : Int) (whole : Bool) : (mRead st u n at_ whole).1.length ≤ 1000 := by
  unfold mRead
  cases hf : mUnit st u n at_ 1 with
  | error E => exact Nat.zero_le _
  | ok p =>
    obtain ⟨k, f, i, dn⟩ := p
    simp only
    have := (hI.at_ (unit_at hf).1).v.len
    split
    · show (readL f.units i whole).length ≤ 1000
      unfold readL
      rw [List.length_map, List.length_drop, List.length_take]
      omega
    · exact Nat.zero_le _
theorem mInfo_len {c : Nat} {st : Fs} (hI : TInv c st) (u n : ByteArray) (gr : Int) : (mInfo st u n gr).1.2.length ≤ 10 := by
  unfold mInfo
  split
  · exact Nat.zero_le _
  cases hf : mOpened st u n 32 with
  | error E => exact Nat.zero_le _
  | ok p =>
    obtain ⟨k, f, dn⟩ := p
    simp only
    have := (hI.at_ (opened_at hf)).rules
    split
    · show (infoOf f gr).2.length ≤ 10
      unfold infoOf
      split
      · exact Nat.zero_le _
      · split
        · exact Nat.zero_le _
        · exact this
    · exact Nat.zero_le _
theorem Both.readP (h : Both W0 sb rb c st rt F wr) (u n : ByteArray) (at_ : Int) (whole : Bool) : Calls Tryz.prog 26 #[.pointer (some ⟨sb, 0, none⟩), .string u, .string n, .int .i64 at_, .bool whole] wr fun e w' =>
    ∃ A1 c1, e = .returned (.tuple #[.slice A1 (mRead st u n at_ whole).1.length c1, .int .i64 (mRead st u n at_ whole).2.1]) ∧ Kd.R k29 29 w' wr.heap.size (fun _ => True) (.slice A1 (mRead st u n at_ whole).1.length c1) (mRead st u n at_ whole).1 ∧ BothB W0 sb rb c (mRead st u n at_ whole).2.2 rt F w' wr.heap.size ∧ wr.heap.size ≤ w'.heap.size := by
  obtain ⟨ok, okr, L, h⟩ := h
  refine (S_Read h.P h.hst h.I.S u n at_ whole).mono ?_
  rintro e w' ⟨v, ⟨rfl, ok', L', h1, h2, h3, h4⟩, h5⟩
  obtain ⟨A1, c1, hv⟩ := Kd.R_slice h5
  subst hv
  refine ⟨A1, c1, rfl, h5, ⟨ok', okr, L', ⟨h1, h2, h.R.other h3 (fun q hq hs => h.apart q hs hq), fun q hq hr => ?_, inv_Read h.I u n at_ whole, h.J, h.X, h.low.trans (h3.below h.low.size (fun q hq => (h.okP q hq).1)), Nat.le_trans h.grow h3.size, fun q hq => ?_, h.okR, fun p hp => (h3.block _ (at_lt (h.at_ p hp)) (fun hs => (h.okP _ hs).2 p hp rfl)).trans (h.at_ p hp)⟩, h.R.lt⟩, h3.size⟩
  · rcases h4 q hq with h5 | h5
    · exact h.apart q h5 hr
    · exact absurd (h.R.lt q hr) (by omega)
  · rcases h4 q hq with h5 | h5
    · exact h.okP q h5
    · exact ⟨Nat.le_trans h.low.size h5, fun p hp e => by have := at_lt (h.at_ p hp); omega⟩
theorem BothB.readR (h : BothB W0 sb rb c st rt F wr B) (hc : c ≤ 1000) (u n : ByteArray) (at_ : Int) (whole : Bool) : Calls Tryz.prog 27 #[.pointer (some ⟨rb, 0, none⟩), .string u, .string n, .int .i64 at_, .bool whole] wr fun e w' =>
    ∃ A1 c1, e = .returned (.tuple #[.slice A1 (mRead rt u n at_ whole).1.length c1, .int .i64 (mRead rt u n at_ whole).2.1]) ∧ Kd.R k62 62 w' wr.heap.size (fun _ => True) (.slice A1 (mRead rt u n at_ whole).1.length c1) ((mRead rt u n at_ whole).1.map toU) ∧ Both W0 sb rb c st (mRead rt u n at_ whole).2.2 F w' ∧ ∃ S : Nat → Prop, Chg wr w' S ∧ ∀ q, S q → q < B := by
  obtain ⟨ok, okr, L, h, hB⟩ := h
  obtain ⟨A, k, hR⟩ := h.R
  have hlt := h.R.lt
  refine (rRead_c rb k okr rt A u n at_ whole wr hR (RInv.of h.J h.X hc)).mono ?_
  rintro e w' ⟨v, ⟨rfl, ok', h1, h3, h4⟩, h5⟩
  obtain ⟨A1, c1, hv⟩ := Kd.R_slice h5
  rw [List.length_map] at hv
  subst hv
  refine ⟨A1, c1, rfl, h5, ⟨ok, ok', L, h.P.other h3 (fun q hq hs => h.apart q hq hs), h.hst, h1, fun q hq hr => ?_, h.I, inv_Read h.J u n at_ whole, x_Read h.X u n at_ whole, h.low.trans (h3.below h.low.size (fun q hq => (h.okR q hq).1)), Nat.le_trans h.grow h3.size, h.okP, fun q hq => ?_, fun p hp => (h3.block _ (at_lt (h.at_ p hp)) (fun hs => (h.okR _ hs).2 p hp rfl)).trans (h.at_ p hp)⟩, okr, h3, hB⟩
  · rcases h4 q hr with h5 | h5
    · exact h.apart q hq h5
    · exact absurd (h.P.lt q hq) (by omega)
  · rcases h4 q hq with h5 | h5
    · exact h.okR q h5
    · exact ⟨Nat.le_trans h.low.size h5, fun p hp e => by have := at_lt (h.at_ p hp); omega⟩
theorem BothB.both (h : BothB W0 sb rb c st rt F wr B) : Both W0 sb rb c st rt F wr := by
  obtain ⟨ok, okr, L, h, _⟩ := h
  exact ⟨ok, okr, L, h⟩
theorem Both.I (h : Both W0 sb rb c st rt F wr) : TInv c st ∧ TInv c rt := by
  obtain ⟨ok, okr, L, h⟩ := h
  exact ⟨h.I, h.J⟩
end
set_option maxRecDepth 100000 in
set_option maxHeartbeats 4000000 in
theorem same4 (W0 : World × Nat) (W : World) (sb rb c : Nat) (st rt : Fs) (F : List (Nat × Obj)) (A B : Int) (u n : ByteArray) (fl : Bool) (s0 s1 : ByteArray) (s2 : Int) (Ap : Option Addr) (cp : Nat) (pa : List ByteArray) (rv : Value) (hp : Kd.C Kd.string W Ap pa.length pa) (hcp : pa.length ≤ cp) (h : Both W0 sb rb c st rt F W) (hc : c < 1000) :
    Calls Tryz.prog 7 #[.pointer (some ⟨sb, 0, none⟩), .pointer (some ⟨rb, 0, none⟩), .agg #[.int .i64 4, .int .i64 A, .int .i64 B, .string u, .string n, .bool fl, .string s0, .string s1, .int .i64 s2, .slice Ap pa.length cp, rv]] W (SameOut W0 sb rb (c + 2) (st = rt) st rt F) := by
  have hb1 : Below W.heap.size W (W.alloc (.cells #[.int .i64 4, .int .i64 A, .int .i64 B, .string u, .string n, .bool fl, .string s0, .string s1, .int .i64 s2, .slice Ap pa.length cp, rv] 33)) := (Below.refl _ _).alloc (Nat.le_refl _) _
  have HP1 := Aside0.mk (Kd.C_below hp hb1)
  clear hp hb1
  have HB := Aside0.mk (h.box (.cells #[.int .i64 4, .int .i64 A, .int .i64 B, .string u, .string n, .bool fl, .string s0, .string s1, .int .i64 s2, .slice Ap pa.length cp, rv] 33) (heap_alloc_new W _))
  clear h
  go_enter Tryz.func7, Tryz.ntmps7
  go_wp2_with fail
  generalize W.alloc (.cells #[.int .i64 4, .int .i64 A, .int .i64 B, .string u, .string n, .bool fl, .string s0, .string s1, .int .i64 s2, .slice Ap pa.length cp, rv] 33) = w1 at HB HP1 ⊢
  generalize W.heap.size = ab at HB ⊢
  have HEQ := Aside0.mk (fun (e : st = rt) => (by rw [e] : mLocate st u n pa = mLocate rt u n pa))
  have CP := Aside0.mk (HB.out.pLocate u n Ap cp pa HP1.out hcp)
  have CR := Aside0.mk (fun X (h : Both W0 sb rb c st rt ((ab, .cells #[.int .i64 4, .int .i64 A, .int .i64 B, .string u, .string n, .bool fl, .string s0, .string s1, .int .i64 s2, .slice Ap pa.length cp, rv] 33) :: F) X) (hb : Below w1.heap.size w1 X) => h.rLocate (by omega) u n Ap cp pa (Kd.C_below HP1.out hb) hcp)
  obtain ⟨-, -, -, x3, x4, -, -, -, -, x9, -⟩ := act_cells HB.out
  generalize mLocate st u n pa = p1 at HEQ CP
  generalize mLocate rt u n pa = p2 at HEQ CR
  obtain ⟨n1, e1⟩ := p1
  obtain ⟨n2, e2⟩ := p2
  clear HP1 hcp
  go_wp2_with fail
  refine CP.out.mono ?_
  rintro e w5 ⟨rfl, h5, hb5⟩
  have HB5 := Aside0.mk h5
  have HBB5 := Aside0.mk hb5
  obtain ⟨-, -, -, y3, y4, -, -, -, -, y9, -⟩ := act_cells h5
  clear h5 hb5 CP
  go_wp2_with fail
  refine (CR.out w5 HB5.out HBB5.out).mono ?_
  rintro e w6 ⟨rfl, h6, hb6⟩
  have HB6 := Aside0.mk h6
  clear h6 hb6 CR
  by_cases hn : n1 = n2
  · have hn' : (n1 == n2) = true := by simpa using hn
    go_wp2
    refine bodyPost_ret (v := .bool (e1 == e2)) (by simp [results, Tryz.f7, go_sem]) rfl ?_
    exact ⟨_, rfl, fun e => by have := HEQ.out e; injection this with _ h2; rw [h2]; simp, HB6.out.drop.mono (by omega)⟩
  · have hn' : (n1 == n2) = false := by simpa using hn
    go_wp2
    refine bodyPost_ret (v := .bool false) (by simp [results, Tryz.f7, go_sem]) rfl ?_
    exact ⟨_, rfl, fun e => by have := HEQ.out e; injection this with h1 _; exact absurd h1 hn, HB6.out.drop.mono (by omega)⟩
set_option maxRecDepth 100000 in
set_option maxHeartbeats 4000000 in
theorem same5 (W0 : World × Nat) (W : World) (sb rb c : Nat) (st rt : Fs) (F : List (Nat × Obj)) (A B : Int) (u n : ByteArray) (fl : Bool) (s0 s1 : ByteArray) (s2 : Int) (pv rv : Value) (h : Both W0 sb rb c st rt F W) (hc : c < 1000) :
    Calls Tryz.prog 7 #[.pointer (some ⟨sb, 0, none⟩), .pointer (some ⟨rb, 0, none⟩), .agg #[.int .i64 5, .int .i64 A, .int .i64 B, .string u, .string n, .bool fl, .string s0, .string s1, .int .i64 s2, pv, rv]] W (SameOut W0 sb rb (c + 2) (st = rt) (mRead st u n A fl).2.2 (mRead rt u n A fl).2.2 F) := by
  have HB := Aside0.mk (h.box (.cells #[.int .i64 5, .int .i64 A, .int .i64 B, .string u, .string n, .bool fl, .string s0, .string s1, .int .i64 s2, pv, rv] 33) (heap_alloc_new W _))
  clear h
  go_enter Tryz.func7, Tryz.ntmps7
  go_wp2_with fail
  generalize W.alloc (.cells #[.int .i64 5, .int .i64 A, .int .i64 B, .string u, .string n, .bool fl, .string s0, .string s1, .int .i64 s2, pv, rv] 33) = w1 at HB ⊢
  generalize W.heap.size = ab at HB ⊢
  obtain ⟨-, x1, -, x3, x4, x5, -, -, -, -, -⟩ := act_cells HB.out
  have HL1 := Aside0.mk (mRead_len HB.out.I.1 u n A fl)
  have CP := Aside0.mk (HB.out.readP u n A fl)
  have CR := Aside0.mk (fun X K (h : BothB W0 sb rb c (mRead st u n A fl).2.2 rt ((ab, .cells #[.int .i64 5, .int .i64 A, .int .i64 B, .string u, .string n, .bool fl, .string s0, .string s1, .int .i64 s2, pv, rv] 33) :: F) X K) => h.readR (by omega) u n A fl)
  have HEQ := Aside0.mk (fun (e : st = rt) => (by rw [e]; exact ⟨rfl, rfl⟩ : (mRead st u n A fl).1 = (mRead rt u n A fl).1 ∧ (mRead st u n A fl).2.1 = (mRead rt u n A fl).2.1))
  generalize (mRead st u n A fl).2.1 = e1 at CP HEQ
  generalize (mRead rt u n A fl).2.1 = e2 at CR HEQ
  generalize (mRead st u n A fl).1 = l1 at CP HEQ HL1
  generalize (mRead rt u n A fl).1 = l2 at CR HEQ
  go_wp2_with fail
  refine CP.out.mono ?_
  rintro e w5 ⟨A1, c1, rfl, hr1, h5, hs5⟩
  have HB5 := Aside0.mk h5
  have HR1 := Aside0.mk hr1
  have HS5 := Aside0.mk hs5
  obtain ⟨-, y1, -, y3, y4, y5, -, -, -, -, -⟩ := act_cells h5.both
  clear h5 hr1 hs5 CP
  go_wp2_with fail
  refine (CR.out w5 _ HB5.out).mono ?_
  rintro e w6 ⟨A2, c2, rfl, hr2, h6, S, hc6, hS⟩
  have HB6 := Aside0.mk h6
  have HR2 := Aside0.mk hr2
  have HR1' := Aside0.mk (hc6.row (Kd.R_bound HR1.out) (fun q hq hs => by have h1 := hS q hs; have h2 := hq.2.1; omega))
  have hl2 := (Kd.R_reads' hr2).2.1
  clear h6 hr2 hc6 hS CR
  by_cases he : e1 = e2
  · have he' : (e1 == e2) = true := by simpa using he
    have CT := Aside0.mk (To_s HR1'.out HL1.out)
    go_wp2_with fail
    refine CT.out.mono ?_
    rintro e w7 ⟨A7, c7, rfl, hr7, hb7⟩
    obtain ⟨r, hrt, hcs⟩ := Same_s hr7 (Kd.R_below HR2.out hb7) HL1.out
    have CS := Aside0.mk hcs
    have HB7 := Aside0.mk (HB6.out.below hb7)
    have HRT := Aside0.mk hrt
    clear hr7 hb7 hcs hrt CT
    go_wp2_with fail
    refine CS.out.mono ?_
    rintro e w8 ⟨rfl, hb8⟩
    have HB8 := Aside0.mk (HB7.out.below hb8)
    clear hb8 CS
    go_wp2
    refine bodyPost_ret (v := .bool r) (by simp [results, Tryz.f7, go_sem]) rfl ?_
    exact ⟨_, rfl, fun e => HRT.out (HEQ.out e).1, HB8.out.drop.mono (by omega)⟩
  · have he' : (e1 == e2) = false := by simpa using he
    go_wp2
    refine bodyPost_ret (v := .bool false) (by simp [results, Tryz.f7, go_sem]) rfl ?_
    exact ⟨_, rfl, fun e => absurd (HEQ.out e).2 he, HB6.out.drop.mono (Nat.le_add_right c 2)⟩
set_option maxRecDepth 100000 in
set_option maxHeartbeats 4000000 in
theorem same10 (W0 : World × Nat) (W : World) (sb rb c : Nat) (st rt : Fs) (F : List (Nat × Obj)) (A B : Int) (u n : ByteArray) (fl : Bool) (s0 s1 : ByteArray) (s2 : Int) (pv rv : Value) (h : Both W0 sb rb c st rt F W) (hc : c < 1000) :
    Calls Tryz.prog 7 #[.pointer (some ⟨sb, 0, none⟩), .pointer (some ⟨rb, 0, none⟩), .agg #[.int .i64 10, .int .i64 A, .int .i64 B, .string u, .string n, .bool fl, .string s0, .string s1, .int .i64 s2, pv, rv]] W (SameOut W0 sb rb (c + 2) (st = rt) st rt F) := by
  have HB := Aside0.mk (h.box (.cells #[.int .i64 10, .int .i64 A, .int .i64 B, .string u, .string n, .bool fl, .string s0, .string s1, .int .i64 s2, pv, rv] 33) (heap_alloc_new W _))
  clear h
  go_enter Tryz.func7, Tryz.ntmps7
  go_wp2_with fail
  generalize W.alloc (.cells #[.int .i64 10, .int .i64 A, .int .i64 B, .string u, .string n, .bool fl, .string s0, .string s1, .int .i64 s2, pv, rv] 33) = w1 at HB ⊢
  generalize W.heap.size = ab at HB ⊢
  obtain ⟨-, x1, -, x3, x4, -, -, -, -, -, -⟩ := act_cells HB.out
  have HL1 := Aside0.mk (mInfo_len HB.out.I.1 u n A)
  have CP := Aside0.mk (HB.out.pInfo u n A)
  have CR := Aside0.mk (fun X F' (h : Both W0 sb rb c st rt F' X) => h.rInfo (by omega) u n A)
  have HEQ := Aside0.mk (fun (e : st = rt) => (by rw [e]; exact ⟨rfl, rfl, rfl⟩ : (mInfo st u n A).1.1 = (mInfo rt u n A).1.1 ∧ (mInfo st u n A).1.2 = (mInfo rt u n A).1.2 ∧ (mInfo st u n A).2 = (mInfo rt u n A).2))
  generalize (mInfo st u n A).1.1 = x1 at CP HEQ
  generalize (mInfo rt u n A).1.1 = x2 at CR HEQ
  generalize (mInfo st u n A).1.2 = l1 at CP HEQ HL1
  generalize (mInfo rt u n A).1.2 = l2 at CR HEQ
  generalize (mInfo st u n A).2 = e1 at CP HEQ
  generalize (mInfo rt u n A).2 = e2 at CR HEQ
  unfold infoV at CP CR
  go_wp2_with fail
  refine CP.out.mono ?_
  rintro e w5 ⟨⟨v1, rfl, hr1⟩, h5, hb5⟩
  obtain ⟨A1, c1, hv1⟩ := Kd.R_slice hr1
  subst hv1
  have HB5 := Aside0.mk (h5.box (.cells #[.string x1.name, .int .i64 x1.kind, .int .i64 x1.perm, .string x1.owner, .string x1.last, .int .i64 x1.ch, .int .i64 x1.rd, .slice A1 l1.length c1] 66) (heap_alloc_new w5 _))
  have HR1 := Aside0.mk (Kd.R_below hr1 (show Below w5.heap.size w5 (w5.alloc (.cells #[.string x1.name, .int .i64 x1.kind, .int .i64 x1.perm, .string x1.owner, .string x1.last, .int .i64 x1.ch, .int .i64 x1.rd, .slice A1 l1.length c1] 66)) from (Below.refl _ _).alloc (Nat.le_refl _) _))
  obtain ⟨-, y1, -, y3, y4, -, -, -, -, -, -⟩ := act_at (HB5.out.at_ _ (List.mem_cons_of_mem _ List.mem_cons_self))
  clear h5 hb5 hr1 CP
  go_wp2_with fail
  generalize w5.alloc (.cells #[.string x1.name, .int .i64 x1.kind, .int .i64 x1.perm, .string x1.owner, .string x1.last, .int .i64 x1.ch, .int .i64 x1.rd, .slice A1 l1.length c1] 66) = w6 at *
  generalize w5.heap.size = b1 at *
  refine (CR.out w6 _ HB5.out).mono ?_
  rintro e w7 ⟨⟨v2, rfl, hr2⟩, h7, hb7⟩
  obtain ⟨A2, c2, hv2⟩ := Kd.R_slice hr2
  rw [List.length_map] at hv2
  subst hv2
  have HB7 := Aside0.mk (h7.box (.cells #[.string x2.name, .int .i64 x2.kind, .int .i64 x2.perm, .string x2.owner, .string x2.last, .int .i64 x2.ch, .int .i64 x2.rd, .slice A2 l2.length c2] 71) (heap_alloc_new w7 _))
  have HR2 := Aside0.mk (Kd.R_below hr2 (show Below w7.heap.size w7 (w7.alloc (.cells #[.string x2.name, .int .i64 x2.kind, .int .i64 x2.perm, .string x2.owner, .string x2.last, .int .i64 x2.ch, .int .i64 x2.rd, .slice A2 l2.length c2] 71)) from (Below.refl _ _).alloc (Nat.le_refl _) _))
  have HR1' := Aside0.mk (Kd.R_below (Kd.R_below HR1.out hb7) (show Below w7.heap.size w7 (w7.alloc (.cells #[.string x2.name, .int .i64 x2.kind, .int .i64 x2.perm, .string x2.owner, .string x2.last, .int .i64 x2.ch, .int .i64 x2.rd, .slice A2 l2.length c2] 71)) from (Below.refl _ _).alloc (Nat.le_refl _) _))
  clear h7 hb7 hr2 CR y1 y3 y4
  go_wp2_with fail
  generalize w7.alloc (.cells #[.string x2.name, .int .i64 x2.kind, .int .i64 x2.perm, .string x2.owner, .string x2.last, .int .i64 x2.ch, .int .i64 x2.rd, .slice A2 l2.length c2] 71) = w8 at *
  generalize w7.heap.size = b2 at *
  have ha1 := HB7.out.at_ _ (List.mem_cons_of_mem _ List.mem_cons_self)
  have ha2 := HB7.out.at_ _ List.mem_cons_self
  have p0 := (blk_cell ha1 0).trans (show _ = some (Value.string x1.name) from rfl); have p1 := (blk_cell ha1 1).trans (show _ = some (Value.int .i64 x1.kind) from rfl); have p2 := (blk_cell ha1 2).trans (show _ = some (Value.int .i64 x1.perm) from rfl); have p3 := (blk_cell ha1 3).trans (show _ = some (Value.string x1.owner) from rfl); have p4 := (blk_cell ha1 4).trans (show _ = some (Value.string x1.last) from rfl); have p5 := (blk_cell ha1 5).trans (show _ = some (Value.int .i64 x1.ch) from rfl); have p6 := (blk_cell ha1 6).trans (show _ = some (Value.int .i64 x1.rd) from rfl); have p7 := (blk_cell ha1 7).trans (show _ = some (Value.slice A1 l1.length c1) from rfl)
  have q0 := (blk_cell ha2 0).trans (show _ = some (Value.string x2.name) from rfl); have q1 := (blk_cell ha2 1).trans (show _ = some (Value.int .i64 x2.kind) from rfl); have q2 := (blk_cell ha2 2).trans (show _ = some (Value.int .i64 x2.perm) from rfl); have q3 := (blk_cell ha2 3).trans (show _ = some (Value.string x2.owner) from rfl); have q4 := (blk_cell ha2 4).trans (show _ = some (Value.string x2.last) from rfl); have q5 := (blk_cell ha2 5).trans (show _ = some (Value.int .i64 x2.ch) from rfl); have q6 := (blk_cell ha2 6).trans (show _ = some (Value.int .i64 x2.rd) from rfl); have q7 := (blk_cell ha2 7).trans (show _ = some (Value.slice A2 l2.length c2) from rfl)
  clear ha1 ha2
  by_cases he : e1 = e2
  · have he' : (e1 == e2) = true := by simpa using he
    obtain ⟨r, hr⟩ : ∃ r, r = sameInfoB x1 x2 (l1.map toRu) (l2.map toRu) := ⟨_, rfl⟩
    have HRE := Aside0.mk hr
    have CT := Aside0.mk (info_s x1 (Kd.R_drew HR1'.out) (by have := HL1.out; omega))
    unfold infoV at CT
    clear hr
    go_region_held3 (fun w' => (w'.cell? ⟨b1, 0, none⟩ = some (.string x1.name) ∧ w'.cell? ⟨b1, 1, none⟩ = some (.int .i64 x1.kind) ∧ w'.cell? ⟨b1, 2, none⟩ = some (.int .i64 x1.perm) ∧ w'.cell? ⟨b1, 3, none⟩ = some (.string x1.owner) ∧ w'.cell? ⟨b1, 4, none⟩ = some (.string x1.last) ∧ w'.cell? ⟨b1, 5, none⟩ = some (.int .i64 x1.ch) ∧ w'.cell? ⟨b1, 6, none⟩ = some (.int .i64 x1.rd) ∧ w'.cell? ⟨b1, 7, none⟩ = some (.slice A1 l1.length c1)) ∧ w'.cell? ⟨b2, 0, none⟩ = some (.string x2.name) ∧ w'.cell? ⟨b2, 1, none⟩ = some (.int .i64 x2.kind) ∧ w'.cell? ⟨b2, 2, none⟩ = some (.int .i64 x2.perm) ∧ w'.cell? ⟨b2, 3, none⟩ = some (.string x2.owner) ∧ w'.cell? ⟨b2, 4, none⟩ = some (.string x2.last) ∧ w'.cell? ⟨b2, 5, none⟩ = some (.int .i64 x2.ch) ∧ w'.cell? ⟨b2, 6, none⟩ = some (.int .i64 x2.rd) ∧ w'.cell? ⟨b2, 7, none⟩ = some (.slice A2 l2.length c2)) (go_keep)
      (first
        | (go_at_call 41; refine CT.out.mono ?_; rintro e w9 ⟨A9, c9, rfl, hr9, hb9⟩; have HB9 := Aside0.mk (HB7.out.drew.below hb9); have HR9 := Aside0.mk hr9; have HR29 := Aside0.mk (Kd.R_below (Kd.R_drew HR2.out) hb9); have ha1 := HB9.out.at_ _ (List.mem_cons_of_mem _ List.mem_cons_self); have ha2 := HB9.out.at_ _ List.mem_cons_self; have s0 := (blk_cell ha1 0).trans (show _ = some (Value.string x1.name) from rfl); have s1 := (blk_cell ha1 1).trans (show _ = some (Value.int .i64 x1.kind) from rfl); have s2 := (blk_cell ha1 2).trans (show _ = some (Value.int .i64 x1.perm) from rfl); have s3 := (blk_cell ha1 3).trans (show _ = some (Value.string x1.owner) from rfl); have s4 := (blk_cell ha1 4).trans (show _ = some (Value.string x1.last) from rfl); have s5 := (blk_cell ha1 5).trans (show _ = some (Value.int .i64 x1.ch) from rfl); have s6 := (blk_cell ha1 6).trans (show _ = some (Value.int .i64 x1.rd) from rfl); have s7 := (blk_cell ha1 7).trans (show _ = some (Value.slice A1 l1.length c1) from rfl); have t0 := (blk_cell ha2 0).trans (show _ = some (Value.string x2.name) from rfl); have t1 := (blk_cell ha2 1).trans (show _ = some (Value.int .i64 x2.kind) from rfl); have t2 := (blk_cell ha2 2).trans (show _ = some (Value.int .i64 x2.perm) from rfl); have t3 := (blk_cell ha2 3).trans (show _ = some (Value.string x2.owner) from rfl); have t4 := (blk_cell ha2 4).trans (show _ = some (Value.string x2.last) from rfl); have t5 := (blk_cell ha2 5).trans (show _ = some (Value.int .i64 x2.ch) from rfl); have t6 := (blk_cell ha2 6).trans (show _ = some (Value.int .i64 x2.rd) from rfl); have t7 := (blk_cell ha2 7).trans (show _ = some (Value.slice A2 l2.length c2) from rfl); clear ha1 ha2 hr9 hb9)
        | (go_at_call 40; refine ((SameInfo_s x1 x2 HR9.out HR29.out HL1.out HRE.out : Calls Tryz.prog 40 #[.agg #[.string x1.name, .int .i64 x1.kind, .int .i64 x1.perm, .string x1.owner, .string x1.last, .int .i64 x1.ch, .int .i64 x1.rd, .slice A9 l1.length c9], .agg #[.string x2.name, .int .i64 x2.kind, .int .i64 x2.perm, .string x2.owner, .string x2.last, .int .i64 x2.ch, .int .i64 x2.rd, .slice A2 l2.length c2]] w9 fun e w' => e = .returned (.bool r) ∧ Below w9.heap.size w9 w')).mono ?_; rintro e w10 ⟨rfl, hb10⟩; have HB10 := Aside0.mk (HB9.out.below hb10); have ha1 := HB10.out.at_ _ (List.mem_cons_of_mem _ List.mem_cons_self); have ha2 := HB10.out.at_ _ List.mem_cons_self; have p0 := (blk_cell ha1 0).trans (show _ = some (Value.string x1.name) from rfl); have p1 := (blk_cell ha1 1).trans (show _ = some (Value.int .i64 x1.kind) from rfl); have p2 := (blk_cell ha1 2).trans (show _ = some (Value.int .i64 x1.perm) from rfl); have p3 := (blk_cell ha1 3).trans (show _ = some (Value.string x1.owner) from rfl); have p4 := (blk_cell ha1 4).trans (show _ = some (Value.string x1.last) from rfl); have p5 := (blk_cell ha1 5).trans (show _ = some (Value.int .i64 x1.ch) from rfl); have p6 := (blk_cell ha1 6).trans (show _ = some (Value.int .i64 x1.rd) from rfl); have p7 := (blk_cell ha1 7).trans (show _ = some (Value.slice A1 l1.length c1) from rfl); have q0 := (blk_cell ha2 0).trans (show _ = some (Value.string x2.name) from rfl); have q1 := (blk_cell ha2 1).trans (show _ = some (Value.int .i64 x2.kind) from rfl); have q2 := (blk_cell ha2 2).trans (show _ = some (Value.int .i64 x2.perm) from rfl); have q3 := (blk_cell ha2 3).trans (show _ = some (Value.string x2.owner) from rfl); have q4 := (blk_cell ha2 4).trans (show _ = some (Value.string x2.last) from rfl); have q5 := (blk_cell ha2 5).trans (show _ = some (Value.int .i64 x2.ch) from rfl); have q6 := (blk_cell ha2 6).trans (show _ = some (Value.int .i64 x2.rd) from rfl); have q7 := (blk_cell ha2 7).trans (show _ = some (Value.slice A2 l2.length c2) from rfl); clear ha1 ha2 hb10))
    all_goals
      go_wp2
      refine bodyPost_ret (v := .bool r) (by simp [results, Tryz.f7, go_sem]) rfl ?_
      exact ⟨_, rfl, fun e => by rw [HRE.out]; exact sameInfoB_yes ⟨(HEQ.out e).1, by rw [(HEQ.out e).2.1]⟩, HB10.out.drop.drop.drop.mono (by omega)⟩
  · have he' : (e1 == e2) = false := by simpa using he
    go_region
    go_wp2
    refine bodyPost_ret (v := .bool false) (by simp [results, Tryz.f7, go_sem]) rfl ?_
    exact ⟨_, rfl, fun e => absurd (HEQ.out e).2.2 he, HB7.out.drew.drop.drop.drop.mono (by omega)⟩
end Go.Proofs.YtehlmkgldcfciaaGreat.Files
