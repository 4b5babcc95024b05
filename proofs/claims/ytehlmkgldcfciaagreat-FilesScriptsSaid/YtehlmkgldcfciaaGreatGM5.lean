/- The parts of this proof that lie in one text. -/
import Derived.Test.YtehlmkgldcfciaaGreatGM2
import Derived.Test.YtehlmkgldcfciaaGreatWRepsOne
import Derived.Test.YtehlmkgldcfciaaGreatGM1
import Derived.Test.YtehlmkgldcfciaaGreatGM3
import Derived.BigQuiet
import Derived.Test.YtehlmkgldcfciaaGreatGM4
import Derived.Deep.RegionWith
import Derived.Deep.RegionHeld3
/- The reference's store: Read. -/
set_option linter.unusedVariables false
set_option linter.unusedSimpArgs false
namespace Go.Proofs.YtehlmkgldcfciaaGreat.Files
open Go.Proofs.YtehlmkgldcfciaaGreat.Common Go.Maps Go.ChangeMaps Go.WideMaps Go.Proofs.YtehlmkgldcfciaaGreat.F
open Go.RowKit Go.Proofs.YtehlmkgldcfciaaGreatW.PrintWords Go.Proofs.YtehlmkgldcfciaaGreatW.PrintLast Go.Proofs.YtehlmkgldcfciaaGreatW.PrintMore
def RRdOut (W : World) (ok : Nat → Prop) (rb : Nat) (r : List S29 × Int × Fs) (e : Ending) (w' : World) : Prop := ∃ v, ROut W ok rb (.tuple #[v, .int .i64 r.2.1]) r.2.2 e w' ∧ Kd.R k62 62 w' W.heap.size (fun _ => True) v (r.1.map toU)
theorem RRdOut.stay {W w' : World} {ok : Nat → Prop} {rb : Nat} {st : Fs} {E : Int} {r : List S29 × Int × Fs} (h : RRep W ok rb st) (hb : Below W.heap.size W w') (hr : r = ([], E, st)) : RRdOut W ok rb r (.returned (.tuple #[.slice none 0 0, .int .i64 E])) w' := by
  subst hr
  exact ⟨_, ROut.below h hb, Kd.R_nil _ _ _ _ _⟩
theorem RRdOut.end_ {W w2 wr : World} {ok : Nat → Prop} {rb c k g cr cu co : Nat} {st : Fs} {f : AF} {A Ar Au Ao : Option Addr} {r : List S29 × Int × Fs} {v : Value} {l : List S29} {xs : List S62} (hb0 : Below W.heap.size W w2) (h : RParts w2 ok rb st A c)
    (T : RowAt w2 ok rb A k g f Ar cr Au cu Ao co) (hk : st[k]? = some f) (hbw : Below w2.heap.size w2 wr) (hr : Kd.R k62 62 wr w2.heap.size (fun _ => True) v xs) (hM : r = (l, 0, st.set k f.read)) (hxs : xs = l.map toU) :
    RRdOut W ok rb r (.returned (.tuple #[v, .int .i64 0])) (wr.setCell ⟨g, k * 10 + 6, none⟩ (.int .i64 (wrap64 (f.F.rd + 1)))) := by
  subst hM hxs
  have hI := InR.old h T.In hbw
  have h1 := RParts.put (f' := f.read) h T hk hbw 6 (.int .i64 (wrap64 (f.F.rd + 1))) (by decide) rfl ⟨hI.r, hI.u, hI.o⟩ (.tuple #[v, .int .i64 0])
  refine ⟨v, ROut.from_ hb0 h1, ?_⟩
  have hg := h.glt T
  have h2 := (Chg.of_set wr ⟨g, k * 10 + 6, none⟩ (.int .i64 (wrap64 (f.F.rd + 1))) (S := fun q => q = g) rfl).row (Kd.R_bound hr) (fun q hq e => by have := hq.2.1; omega)
  exact Kd.R_lower (Kd.R_mono h2 (fun _ _ => trivial)) hb0.size
theorem grow_row (l : List S29) (i j : Nat) (hij : i ≤ j) (hj : j < l.length) (g : S29 → S62) : ((l.take j).drop i).map g ++ [g l[j]] = ((l.take (j + 1)).drop i).map g := by
  rw [List.take_succ_eq_append_getElem hj, List.drop_append_of_le_length (by simp; omega), List.map_append]
  all_goals rfl
set_option maxRecDepth 100000 in
set_option maxHeartbeats 4000000 in
theorem rRead_c (rb c : Nat) (ok : Nat → Prop) (st : Fs) (A : Option Addr) (u n : ByteArray) (at_ : Int) (whole : Bool) (W : World) (h : RParts W ok rb st A c) (hI : RInv st) :
    Calls Tryz.prog 27 #[.pointer (some ⟨rb, 0, none⟩), .string u, .string n, .int .i64 at_, .bool whole] W (RRdOut W ok rb (mRead st u n at_ whole)) := by
  have C56 := Aside0.mk (rbad_c rb u n W h.c0)
  have CB := Aside0.mk (begin_c rb c ok st A u n W h)
  have HRR := Aside0.mk (show RRep W ok rb st from ⟨A, c, h⟩)
  cases hbad : (userB u && nameB n) with
  | false =>
    rw [hbad] at C56
    have HM := Aside0.mk (show mRead st u n at_ whole = ([], 1, st) by unfold mRead; rw [mUnit_bad hbad])
    clear h hbad CB hI
    go_enter Tryz.func27, Tryz.ntmps27
    go_wp2_with first | (go_at_call 56; refine C56.out.mono ?_; rintro e w' ⟨rfl, rfl⟩)
    refine bodyPost_ret (v := .tuple #[.slice none 0 0, .int .i64 1]) (by simp [results, Tryz.f27, go_sem]) rfl ?_
    exact RRdOut.stay HRR.out (Below.refl _ _) HM.out
  | true =>
   rw [hbad] at C56
   by_cases hr : at_ < 0
   · have g1 : decide (at_ < 0) = true := decide_eq_true hr
     have HM := Aside0.mk (show mRead st u n at_ whole = ([], 1, st) by unfold mRead; rw [mUnit_neg hr])
     clear h hbad CB hr hI
     go_enter Tryz.func27, Tryz.ntmps27
     go_wp2_with first | (go_at_call 56; refine C56.out.mono ?_; rintro e w' ⟨rfl, rfl⟩)
     refine bodyPost_ret (v := .tuple #[.slice none 0 0, .int .i64 1]) (by simp [results, Tryz.f27, go_sem]) rfl ?_
     exact RRdOut.stay HRR.out (Below.refl _ _) HM.out
   have g1 : decide (at_ < 0) = false := decide_eq_false hr
   have HN0 := Aside0.mk hr
   clear hr
   cases hB : mBegin st u n with
   | error E =>
     rw [hB] at CB
     have hE := mBegin_E hB
     have HM := Aside0.mk (show mRead st u n at_ whole = ([], E, st) by unfold mRead; rw [mUnit_err HN0.out (mOpened_err hbad hB 1)])
     clear h hbad hB hI
     go_enter Tryz.func27, Tryz.ntmps27
     go_wp2_with first | (go_at_call 56; refine C56.out.mono ?_; rintro e w' ⟨rfl, rfl⟩) | (go_at_call 67; refine CB.out.mono ?_; rintro e w2 ⟨hb2, rfl⟩)
     refine bodyPost_ret (v := .tuple #[.slice none 0 0, .int .i64 E]) (by simp [results, Tryz.f27, go_sem]) rfl ?_
     exact RRdOut.stay HRR.out (hb2) HM.out
   | ok p =>
     obtain ⟨k, f, a⟩ := p
     rw [hB] at CB
     obtain ⟨hk, hnm⟩ := mBegin_at hB
     have HMU := Aside0.mk (mOpened_ok hbad hB 1)
     have HDD := Aside0.mk (denied_cases a 1)
     have HWI := Aside0.mk (within_den a 1 0 (by decide) rfl)
     have HU := Aside0.mk (hI.units f (List.mem_of_getElem? hk))
     have HR := Aside0.mk h
     have HHK := Aside0.mk hk
     clear hB hnm hk hI h
     by_cases hpl : (f.units.length : Int) ≤ at_
     · have g3 : decide ((f.units.length : Int) ≤ at_) = true := decide_eq_true hpl
       have HM := Aside0.mk (show mRead st u n at_ whole = ([], 3, st) by unfold mRead; rw [mUnit_none HN0.out HMU.out hpl])
       clear hpl
       go_enter Tryz.func27, Tryz.ntmps27
       go_wp2_with first | (go_at_call 56; refine C56.out.mono ?_; rintro e w' ⟨rfl, rfl⟩)
       refine CB.out.mono ?_
       rintro e w2 ⟨hb2, rfl⟩
       have h := HR.out
       have hk := HHK.out
       have R2 := h.below hb2
       obtain ⟨g, Ar, cr, Au, cu, Ao, co, T⟩ := R2.row hk
       have hil : k < st.length := (List.getElem?_eq_some_iff.1 hk).1
       have hlz : (k : Int) < (st.length : Int) := by omega
       have hk0 : decide ((k : Int) < 0) = false := decide_eq_false (by omega)
       have c1 := R2.c1
       have hA := T.hA
       subst hA
       obtain ⟨x0, x1, x2, x3, x4, x5, x6, x7, x8, x9⟩ := T.x
       have HH := Aside0.mk R2
       have HT := Aside0.mk T
       have HK := Aside0.mk hk
       have hrb := R2.lt rb R2.okr
       have hgl := R2.glt T
       have hne : g ≠ rb := T.okg.2
       have hne2 : rb ≠ g := Ne.symm hne
       have HB2 := Aside0.mk hb2
       clear R2 T h hk hb2
       go_wp2
       refine bodyPost_ret (v := .tuple #[.slice none 0 0, .int .i64 3]) (by simp [results, Tryz.f27, go_sem]) rfl ?_
       exact RRdOut.stay HRR.out HB2.out HM.out

     · have g3 : decide ((f.units.length : Int) ≤ at_) = false := decide_eq_false hpl
       have HMK := Aside0.mk (mUnit_ok HN0.out HMU.out hpl)
       obtain ⟨i, rfl⟩ : ∃ i : Nat, at_ = (i : Int) := ⟨at_.toNat, by have := HN0.out; omega⟩
       have hil2 : i < f.units.length := by omega
       rw [Int.toNat_natCast] at HMK
       clear hpl
       rcases HDD.out with hd0 | hd12
       · have gW : decide (bits .and .i64 1 a = 1) = true := by rw [HWI.out, hd0]; rfl
         have HM := Aside0.mk (show mRead st u n (i : Int) whole = (readL f.units i whole, 0, st.set k f.read) by unfold mRead; rw [HMK.out]; simp only [hd0, if_pos])
         clear hd0
         cases whole with
         | true =>
           go_enter Tryz.func27, Tryz.ntmps27
           go_wp2_with first | (go_at_call 56; refine C56.out.mono ?_; rintro e w' ⟨rfl, rfl⟩)
           refine CB.out.mono ?_
           rintro e w2 ⟨hb2, rfl⟩
           have h := HR.out
           have hk := HHK.out
           have R2 := h.below hb2
           obtain ⟨g, Ar, cr, Au, cu, Ao, co, T⟩ := R2.row hk
           have hil : k < st.length := (List.getElem?_eq_some_iff.1 hk).1
           have hlz : (k : Int) < (st.length : Int) := by omega
           have hk0 : decide ((k : Int) < 0) = false := decide_eq_false (by omega)
           have c1 := R2.c1
           have hA := T.hA
           subst hA
           obtain ⟨x0, x1, x2, x3, x4, x5, x6, x7, x8, x9⟩ := T.x
           have HH := Aside0.mk R2
           have HT := Aside0.mk T
           have HK := Aside0.mk hk
           have hrb := R2.lt rb R2.okr
           have hgl := R2.glt T
           have hne : g ≠ rb := T.okg.2
           have hne2 : rb ≠ g := Ne.symm hne
           have HB2 := Aside0.mk hb2
           have HTT := Aside0.mk T
           have HHH := Aside0.mk h
           have HCU := Aside0.mk (fun w (hb : Below w2.heap.size w2 w) => Kd.C_below T.In.uC.2 hb)
           have hul := HU.out.1.len
           have hcu := T.In.uC.1
           obtain ⟨E, hE⟩ : ∃ E, E = endOf f.units i := ⟨_, rfl⟩
           have HE := Aside0.mk hE
           have HEL := Aside0.mk (show E ≤ f.units.length by rw [hE]; exact (endOf_le hil2).2)
           have HEI := Aside0.mk (show i ≤ E by rw [hE]; have := (endOf_le hil2).1; omega)
           obtain ⟨L0, hL0⟩ : ∃ x, x = lv f.units i := ⟨_, rfl⟩
           have HL0 := Aside0.mk hL0
           obtain ⟨ad, hAd, _⟩ := at_units (HCU.out _ (Below.refl _ _)) i hil2
           subst hAd
           have hi0 : decide ((i : Int) < 0) = false := decide_eq_false (by omega)
           have hiz : (i : Int) < (f.units.length : Int) := by omega
           clear R2 T h hk hb2 hE hL0 x0 x1 x2 x3 x4 x5 x7 x9
           go_wp2_with fail
           refine (rwithin_c 1 a _).mono ?_
           rintro e w' ⟨rfl, rfl⟩
           go_wp2_with fail
           refine (under_c (some ad) cu i f.units _ (HCU.out _ (Below.refl _ _)) hcu hil2).mono ?_
           rintro e W4 ⟨rfl, ⟨mu, rfl⟩⟩
           rw [← HE.out]
           go_wp2_with fail
           go_loopw [17, 18] (fun v s wr => ∃ j : Nat, s = .int .i64 j ∧ i ≤ j ∧ j ≤ E ∧ Aside0 (Below w2.heap.size w2 wr) ∧ Aside0 (Kd.R k62 62 wr w2.heap.size (fun _ => True) v (((f.units.take j).drop i).map (fun x => toU (lower L0 x))))) (fun _ s _ => E - (intOf s).toNat)
           case atStart => exact ⟨i, rfl, Nat.le_refl _, HEI.out, ⟨pw_below_drewN (Below.refl _ _) mu⟩, ⟨by rw [List.drop_eq_nil_of_le (by rw [List.length_take]; omega)]; exact Kd.R_nil _ _ _ _ _⟩⟩
           case round =>
             obtain ⟨j, rfl, hij, hjE, HBW, HRW⟩ := hrel
             by_cases hlt : j < E
             · have hltz : (j : Int) < (E : Int) := by omega
               have hjl : j < f.units.length := by have := HEL.out; omega
               have hjz : (j : Int) < (f.units.length : Int) := by omega
               have hj0 : decide ((j : Int) < 0) = false := decide_eq_false (by omega)
               obtain ⟨ad1, he1, z0, z1, z2⟩ := at_units (HCU.out _ HBW.out) j hjl
               injection he1 with he1
               subst he1
               obtain ⟨U, hU⟩ : ∃ U, U = f.units[j] := ⟨_, rfl⟩
               rw [← hU] at z0 z1 z2
               obtain ⟨XS, hXS⟩ : ∃ XS, XS = ((f.units.take j).drop i).map (fun x => toU (lower L0 x)) := ⟨_, rfl⟩
               have HNX := Aside0.mk (show XS ++ [(⟨U.f0, U.f1, wrap64 (U.f2 - L0)⟩ : S62)] = ((f.units.take (j + 1)).drop i).map (fun x => toU (lower L0 x)) by rw [hXS, ← grow_row _ i j hij hjl, ← hU]; rfl)
               have hXL : XS.length ≤ 100 := by rw [hXS, List.length_map, List.length_drop, List.length_take]; omega
               rw [← hXS] at HRW
               clear hU hXS
               have HX1 := Aside0.mk (show Below wr.heap.size wr (wr.alloc (.cells #[.string U.f0, .string U.f1, .int .i64 U.f2] 62)) from (Below.refl _ _).alloc (Nat.le_refl _) _)
               have HK1 := Aside0.mk (show (wr.alloc (.cells #[.string U.f0, .string U.f1, .int .i64 U.f2] 62)).heap[wr.heap.size]? = some (.cells #[.string U.f0, .string U.f1, .int .i64 U.f2] 62 (0, 0)) by simpa using heap_alloc_new wr _)
               go_wp2_with fail
               have HX3 := Aside0.mk (show Below wr.heap.size wr (wr.alloc (.cells #[.string U.f0, .string U.f1, .int .i64 (wrap64 (U.f2 - L0))] 62)).drew from ((Below.refl _ _).alloc (Nat.le_refl _) _).drew)
               have HK3 := Aside0.mk (show (wr.alloc (.cells #[.string U.f0, .string U.f1, .int .i64 (wrap64 (U.f2 - L0))] 62)).drew.heap[wr.heap.size]? = some (.cells #[.string U.f0, .string U.f1, .int .i64 (wrap64 (U.f2 - L0))] 62 (0, 0)) from heap_alloc_new wr _)
               obtain ⟨ad2, he2, _, _, y2⟩ := at_units (HCU.out _ (HBW.out.trans (HX1.out.mono HBW.out.size))) i hil2
               injection he2 with he2
               subst he2
               rw [show f.units[i].f2 = L0 by rw [HL0.out]; unfold lv; rw [rd_get _ _ hil2]] at y2
               have b2 := (blk_cell HK1.out 2).trans rfl
               have bf := blk_frozen HK1.out 2
               go_region
               have HB3 := Aside0.mk (HBW.out.trans (HX3.out.mono HBW.out.size))
               have HR3 := Aside0.mk (Kd.R_below HRW.out HX3.out)
               clear y2 b2 bf z0 z1 z2
               generalize (wr.alloc (.cells #[.string U.f0, .string U.f1, .int .i64 (wrap64 (U.f2 - L0))] 62)).drew = X3 at HX3 HK3 HB3 HR3 ⊢
               have b0 := (blk_cell HK3.out 0).trans rfl
               have b1 := (blk_cell HK3.out 1).trans rfl
               have b2 := (blk_cell HK3.out 2).trans rfl
               go_wp2_with (first
                 | ((with_reducible refine gate_dst (N := 81) rfl ?_); refine Kd.R_lit k62 (w0 := w2) w2.heap.size 62 ?hg (N := 81) ?hd (xs := ([(⟨U.f0, U.f1, wrap64 (U.f2 - L0)⟩ : S62)] : List S62)) (inner := [.string U.f0, .string U.f1, .int .i64 (wrap64 (U.f2 - L0))]) (ok := fun _ => True) (okp := fun _ => True) ?hr ?hp (fun _ hk => hk) trivial HB3.out HB3.out.size (by simp) ?_; (case hd => rfl); (case hg => rfl); (case hr => first | (go_simp; done) | (go_simp; rfl)); (case hp => exact (Reps.c3 (k62_mkM _ _ _ (⟨U.f0, U.f1, wrap64 (U.f2 - L0)⟩ : S62)) (Reps.none _ _))); intro v4 x4 ho hb hgr hfr; have HB4 := Aside0.mk hb; have HR4 := Aside0.mk (Kd.R_grown HR3.out hgr (fun q _ e => by cases e)); obtain ⟨A4, c4, hv4⟩ := Kd.R_slice ho; have hv4 : v4 = .slice A4 1 c4 := hv4; subst hv4; have HO4 := Aside0.mk ho; clear ho hb hgr hfr)
                 | ((with_reducible refine gate_builtin (b := .append) (xs := #[.tmp 79, .tmp 81]) rfl ?_); at_builtin; refine Kd.R_append_rows k62 (Rr := k62.K x4) (w0 := w2) w2.heap.size rfl (.tmp 79) (.tmp 81) 55 62 (.agg #[.string ⟨#[]⟩, .string ⟨#[]⟩, .int .i64 0]) 40 rfl Tryz.underlying55 (by kernel_rfl) rfl (by decide) (by omega) u17 XS [(⟨U.f0, U.f1, wrap64 (U.f2 - L0)⟩ : S62)] A4 1 c4 (fun _ => True) (fun _ => False) rfl rfl HR4.out (Kd.R_reads' HO4.out).2.2 (fun x cs h => by rw [k62_open h]; exact k62_mkM _ _ _ _) (fun _ h => h.elim) (fun _ _ => trivial) HB4.out HB4.out.size (by first | omega | (simp only [List.length_cons, List.length_nil]; omega)) ?_; intro v5 x5 ho hb hgr hfr; rw [HNX.out] at ho; have HB5 := Aside0.mk hb; have HO5 := Aside0.mk ho; clear ho hb hgr hfr))
               go_roundw
               case rel => exact ⟨j + 1, by go_num, by omega, by omega, HB5, HO5⟩
               case measure => (simp [intOf]; try omega)
             · have hltz : ¬ (j : Int) < (E : Int) := by omega
               obtain rfl : E = j := by omega
               have d1 := (HBW.out.cell (p := ⟨rb, 1, none⟩) hrb).trans c1
               have d6 := (HBW.out.cell (p := ⟨g, k * 10 + 6, none⟩) hgl).trans x6
               have f6 : wr.frozen? ⟨g, k * 10 + 6, none⟩ = false := by rw [World.frozen?_of_block (HBW.out.block g hgl)]; exact HTT.out.fz _
               go_wp2_with fail
               go_region
               go_wp2
               refine bodyPost_ret (v := .tuple #[u17, .int .i64 0]) (by simp [results, Tryz.f27, go_sem]) rfl ?_
               exact RRdOut.end_ HB2.out HH.out HTT.out HK.out HBW.out.drew (Kd.R_drew HRW.out) HM.out (by unfold readL; rw [List.map_map, HE.out, ← HL0.out]; rfl)

         | false =>
           go_enter Tryz.func27, Tryz.ntmps27
           go_wp2_with first | (go_at_call 56; refine C56.out.mono ?_; rintro e w' ⟨rfl, rfl⟩)
           refine CB.out.mono ?_
           rintro e w2 ⟨hb2, rfl⟩
           have h := HR.out
           have hk := HHK.out
           have R2 := h.below hb2
           obtain ⟨g, Ar, cr, Au, cu, Ao, co, T⟩ := R2.row hk
           have hil : k < st.length := (List.getElem?_eq_some_iff.1 hk).1
           have hlz : (k : Int) < (st.length : Int) := by omega
           have hk0 : decide ((k : Int) < 0) = false := decide_eq_false (by omega)
           have c1 := R2.c1
           have hA := T.hA
           subst hA
           obtain ⟨x0, x1, x2, x3, x4, x5, x6, x7, x8, x9⟩ := T.x
           have HH := Aside0.mk R2
           have HT := Aside0.mk T
           have HK := Aside0.mk hk
           have hrb := R2.lt rb R2.okr
           have hgl := R2.glt T
           have hne : g ≠ rb := T.okg.2
           have hne2 : rb ≠ g := Ne.symm hne
           have HB2 := Aside0.mk hb2
           have HTT := Aside0.mk T
           have HHH := Aside0.mk h
           have HCU := Aside0.mk (fun w (hb : Below w2.heap.size w2 w) => Kd.C_below T.In.uC.2 hb)
           have hul := HU.out.1.len
           have hcu := T.In.uC.1
           obtain ⟨E, hE⟩ : ∃ E, E = i + 1 := ⟨_, rfl⟩
           have HE := Aside0.mk hE
           have HEL := Aside0.mk (show E ≤ f.units.length by rw [hE]; omega)
           have HEI := Aside0.mk (show i ≤ E by rw [hE]; omega)
           have hEz : wrap64 ((i : Int) + 1) = (E : Int) := by have := HE.out; unfold wrap64; omega
           obtain ⟨L0, hL0⟩ : ∃ x, x = lv f.units i := ⟨_, rfl⟩
           have HL0 := Aside0.mk hL0
           obtain ⟨ad, hAd, _⟩ := at_units (HCU.out _ (Below.refl _ _)) i hil2
           subst hAd
           have hi0 : decide ((i : Int) < 0) = false := decide_eq_false (by omega)
           have hiz : (i : Int) < (f.units.length : Int) := by omega
           clear R2 T h hk hb2 hE hL0 x0 x1 x2 x3 x4 x5 x7 x9
           go_wp2_with fail
           refine (rwithin_c 1 a _).mono ?_
           rintro e w' ⟨rfl, rfl⟩
           go_wp2_with fail
           rw [show ((i : Int) + 1) = (E : Int) by have := HE.out; omega]
           go_loopw [17, 18] (fun v s wr => ∃ j : Nat, s = .int .i64 j ∧ i ≤ j ∧ j ≤ E ∧ Aside0 (Below w2.heap.size w2 wr) ∧ Aside0 (Kd.R k62 62 wr w2.heap.size (fun _ => True) v (((f.units.take j).drop i).map (fun x => toU (lower L0 x))))) (fun _ s _ => E - (intOf s).toNat)
           case atStart => exact ⟨i, rfl, Nat.le_refl _, HEI.out, ⟨Below.refl _ _⟩, ⟨by rw [List.drop_eq_nil_of_le (by rw [List.length_take]; omega)]; exact Kd.R_nil _ _ _ _ _⟩⟩
           case round =>
             obtain ⟨j, rfl, hij, hjE, HBW, HRW⟩ := hrel
             by_cases hlt : j < E
             · have hltz : (j : Int) < (E : Int) := by omega
               have hjl : j < f.units.length := by have := HEL.out; omega
               have hjz : (j : Int) < (f.units.length : Int) := by omega
               have hj0 : decide ((j : Int) < 0) = false := decide_eq_false (by omega)
               obtain ⟨ad1, he1, z0, z1, z2⟩ := at_units (HCU.out _ HBW.out) j hjl
               injection he1 with he1
               subst he1
               obtain ⟨U, hU⟩ : ∃ U, U = f.units[j] := ⟨_, rfl⟩
               rw [← hU] at z0 z1 z2
               obtain ⟨XS, hXS⟩ : ∃ XS, XS = ((f.units.take j).drop i).map (fun x => toU (lower L0 x)) := ⟨_, rfl⟩
               have HNX := Aside0.mk (show XS ++ [(⟨U.f0, U.f1, wrap64 (U.f2 - L0)⟩ : S62)] = ((f.units.take (j + 1)).drop i).map (fun x => toU (lower L0 x)) by rw [hXS, ← grow_row _ i j hij hjl, ← hU]; rfl)
               have hXL : XS.length ≤ 100 := by rw [hXS, List.length_map, List.length_drop, List.length_take]; omega
               rw [← hXS] at HRW
               clear hU hXS
               have HX1 := Aside0.mk (show Below wr.heap.size wr (wr.alloc (.cells #[.string U.f0, .string U.f1, .int .i64 U.f2] 62)) from (Below.refl _ _).alloc (Nat.le_refl _) _)
               have HK1 := Aside0.mk (show (wr.alloc (.cells #[.string U.f0, .string U.f1, .int .i64 U.f2] 62)).heap[wr.heap.size]? = some (.cells #[.string U.f0, .string U.f1, .int .i64 U.f2] 62 (0, 0)) by simpa using heap_alloc_new wr _)
               go_wp2_with fail
               have HX3 := Aside0.mk (show Below wr.heap.size wr (wr.alloc (.cells #[.string U.f0, .string U.f1, .int .i64 (wrap64 (U.f2 - L0))] 62)).drew from ((Below.refl _ _).alloc (Nat.le_refl _) _).drew)
               have HK3 := Aside0.mk (show (wr.alloc (.cells #[.string U.f0, .string U.f1, .int .i64 (wrap64 (U.f2 - L0))] 62)).drew.heap[wr.heap.size]? = some (.cells #[.string U.f0, .string U.f1, .int .i64 (wrap64 (U.f2 - L0))] 62 (0, 0)) from heap_alloc_new wr _)
               obtain ⟨ad2, he2, _, _, y2⟩ := at_units (HCU.out _ (HBW.out.trans (HX1.out.mono HBW.out.size))) i hil2
               injection he2 with he2
               subst he2
               rw [show f.units[i].f2 = L0 by rw [HL0.out]; unfold lv; rw [rd_get _ _ hil2]] at y2
               have b2 := (blk_cell HK1.out 2).trans rfl
               have bf := blk_frozen HK1.out 2
               go_region
               have HB3 := Aside0.mk (HBW.out.trans (HX3.out.mono HBW.out.size))
               have HR3 := Aside0.mk (Kd.R_below HRW.out HX3.out)
               clear y2 b2 bf z0 z1 z2
               generalize (wr.alloc (.cells #[.string U.f0, .string U.f1, .int .i64 (wrap64 (U.f2 - L0))] 62)).drew = X3 at HX3 HK3 HB3 HR3 ⊢
               have b0 := (blk_cell HK3.out 0).trans rfl
               have b1 := (blk_cell HK3.out 1).trans rfl
               have b2 := (blk_cell HK3.out 2).trans rfl
               go_wp2_with (first
                 | ((with_reducible refine gate_dst (N := 81) rfl ?_); refine Kd.R_lit k62 (w0 := w2) w2.heap.size 62 ?hg (N := 81) ?hd (xs := ([(⟨U.f0, U.f1, wrap64 (U.f2 - L0)⟩ : S62)] : List S62)) (inner := [.string U.f0, .string U.f1, .int .i64 (wrap64 (U.f2 - L0))]) (ok := fun _ => True) (okp := fun _ => True) ?hr ?hp (fun _ hk => hk) trivial HB3.out HB3.out.size (by simp) ?_; (case hd => rfl); (case hg => rfl); (case hr => first | (go_simp; done) | (go_simp; rfl)); (case hp => exact (Reps.c3 (k62_mkM _ _ _ (⟨U.f0, U.f1, wrap64 (U.f2 - L0)⟩ : S62)) (Reps.none _ _))); intro v4 x4 ho hb hgr hfr; have HB4 := Aside0.mk hb; have HR4 := Aside0.mk (Kd.R_grown HR3.out hgr (fun q _ e => by cases e)); obtain ⟨A4, c4, hv4⟩ := Kd.R_slice ho; have hv4 : v4 = .slice A4 1 c4 := hv4; subst hv4; have HO4 := Aside0.mk ho; clear ho hb hgr hfr)
                 | ((with_reducible refine gate_builtin (b := .append) (xs := #[.tmp 79, .tmp 81]) rfl ?_); at_builtin; refine Kd.R_append_rows k62 (Rr := k62.K x4) (w0 := w2) w2.heap.size rfl (.tmp 79) (.tmp 81) 55 62 (.agg #[.string ⟨#[]⟩, .string ⟨#[]⟩, .int .i64 0]) 40 rfl Tryz.underlying55 (by kernel_rfl) rfl (by decide) (by omega) u17 XS [(⟨U.f0, U.f1, wrap64 (U.f2 - L0)⟩ : S62)] A4 1 c4 (fun _ => True) (fun _ => False) rfl rfl HR4.out (Kd.R_reads' HO4.out).2.2 (fun x cs h => by rw [k62_open h]; exact k62_mkM _ _ _ _) (fun _ h => h.elim) (fun _ _ => trivial) HB4.out HB4.out.size (by first | omega | (simp only [List.length_cons, List.length_nil]; omega)) ?_; intro v5 x5 ho hb hgr hfr; rw [HNX.out] at ho; have HB5 := Aside0.mk hb; have HO5 := Aside0.mk ho; clear ho hb hgr hfr))
               go_roundw
               case rel => exact ⟨j + 1, by go_num, by omega, by omega, HB5, HO5⟩
               case measure => (simp [intOf]; try omega)
             · have hltz : ¬ (j : Int) < (E : Int) := by omega
               obtain rfl : E = j := by omega
               have d1 := (HBW.out.cell (p := ⟨rb, 1, none⟩) hrb).trans c1
               have d6 := (HBW.out.cell (p := ⟨g, k * 10 + 6, none⟩) hgl).trans x6
               have f6 : wr.frozen? ⟨g, k * 10 + 6, none⟩ = false := by rw [World.frozen?_of_block (HBW.out.block g hgl)]; exact HTT.out.fz _
               go_wp2_with fail
               go_region
               go_wp2
               refine bodyPost_ret (v := .tuple #[u17, .int .i64 0]) (by simp [results, Tryz.f27, go_sem]) rfl ?_
               exact RRdOut.end_ HB2.out HH.out HTT.out HK.out HBW.out.drew (Kd.R_drew HRW.out) HM.out (by unfold readL; rw [List.map_map, HE.out, ← HL0.out]; rfl)

       · have gW : decide (bits .and .i64 1 a = 1) = false := by rw [HWI.out, hd12]; rfl
         have HM := Aside0.mk (show mRead st u n (i : Int) whole = ([], 12, st) by unfold mRead; rw [HMK.out]; simp only [hd12]; rfl)
         clear hd12
         go_enter Tryz.func27, Tryz.ntmps27
         go_wp2_with first | (go_at_call 56; refine C56.out.mono ?_; rintro e w' ⟨rfl, rfl⟩)
         refine CB.out.mono ?_
         rintro e w2 ⟨hb2, rfl⟩
         have h := HR.out
         have hk := HHK.out
         have R2 := h.below hb2
         obtain ⟨g, Ar, cr, Au, cu, Ao, co, T⟩ := R2.row hk
         have hil : k < st.length := (List.getElem?_eq_some_iff.1 hk).1
         have hlz : (k : Int) < (st.length : Int) := by omega
         have hk0 : decide ((k : Int) < 0) = false := decide_eq_false (by omega)
         have c1 := R2.c1
         have hA := T.hA
         subst hA
         obtain ⟨x0, x1, x2, x3, x4, x5, x6, x7, x8, x9⟩ := T.x
         have HH := Aside0.mk R2
         have HT := Aside0.mk T
         have HK := Aside0.mk hk
         have hrb := R2.lt rb R2.okr
         have hgl := R2.glt T
         have hne : g ≠ rb := T.okg.2
         have hne2 : rb ≠ g := Ne.symm hne
         have HB2 := Aside0.mk hb2
         clear R2 T h hk hb2
         go_wp2_with fail
         refine (rwithin_c 1 a _).mono ?_
         rintro e w' ⟨rfl, rfl⟩
         go_wp2
         refine bodyPost_ret (v := .tuple #[.slice none 0 0, .int .i64 12]) (by simp [results, Tryz.f27, go_sem]) rfl ?_
         exact RRdOut.stay HRR.out HB2.out HM.out
end Go.Proofs.YtehlmkgldcfciaaGreat.Files
/- The reference's store: Locate. -/
set_option linter.unusedVariables false
set_option linter.unusedSimpArgs false
namespace Go.Proofs.YtehlmkgldcfciaaGreat.Files
open Go.Proofs.YtehlmkgldcfciaaGreat.Common Go.Maps Go.ChangeMaps Go.WideMaps Go.Proofs.YtehlmkgldcfciaaGreat.F
open Go.RowKit Go.Proofs.YtehlmkgldcfciaaGreatW.PrintWords Go.Proofs.YtehlmkgldcfciaaGreatW.PrintLast Go.Proofs.YtehlmkgldcfciaaGreatW.PrintMore
def isKid (l : List S29) (h : Nat) (p : ByteArray) (q : Nat) : Bool := decide (lv l q = lv l h + 1) && decide (nm l q = p)
def LocAt (l : List S29) (h : Nat) (p : ByteArray) (E t : Nat) (F : Int) : Prop := (F = -1 ∧ ∀ q, t ≤ q → q < E → isKid l h p q = false) ∨ ∃ q0 : Nat, F = q0 ∧ t ≤ q0 ∧ q0 < E ∧ isKid l h p q0 = true ∧ ∀ q, t ≤ q → q < q0 → isKid l h p q = false
theorem LocAt.hit {l : List S29} {h : Nat} {p : ByteArray} {E t : Nat} {F : Int} (hL : LocAt l h p E (t + 1) F) (ht : t < E) (hk : isKid l h p t = true) : LocAt l h p E t (t : Int) :=
  .inr ⟨t, rfl, Nat.le_refl _, ht, hk, fun q h1 h2 => by omega⟩
theorem LocAt.miss {l : List S29} {h : Nat} {p : ByteArray} {E t : Nat} {F : Int} (hL : LocAt l h p E (t + 1) F) (hk : isKid l h p t = false) : LocAt l h p E t F := by
  rcases hL with ⟨h1, h2⟩ | ⟨q0, h1, h2, h3, h4, h5⟩
  · exact .inl ⟨h1, fun q h6 h7 => by
      by_cases e : q = t
      · rw [e]; exact hk
      · exact h2 q (by omega) h7⟩
  · exact .inr ⟨q0, h1, by omega, h3, h4, fun q h6 h7 => by
      by_cases e : q = t
      · rw [e]; exact hk
      · exact h5 q (by omega) h7⟩
theorem LocAt.end_ {l : List S29} {h : Nat} {p : ByteArray} {E : Nat} {F : Int} (hh : h < l.length) (hE : E = endOf l h) (hL : LocAt l h p E (h + 1) F) : (F = -1 ∧ locKid l h p = none) ∨ ∃ t : Nat, F = t ∧ t < l.length ∧ locKid l h p = some t := by
  have hle := endOf_le hh
  rcases hL with ⟨h1, h2⟩ | ⟨q0, h1, h2, h3, h4, h5⟩
  · refine .inl ⟨h1, locKid_none fun s hs hn => ?_⟩
    obtain ⟨c1, c2, c3⟩ := (child_span hh).1 hs
    have := h2 s (by omega) (by omega)
    unfold isKid at this
    rw [decide_eq_true c3, decide_eq_true hn] at this
    cases this
  · refine .inr ⟨q0, h1, by omega, ?_⟩
    unfold isKid at h4
    rw [Bool.and_eq_true, decide_eq_true_eq, decide_eq_true_eq] at h4
    refine locKid_some ((child_span hh).2 ⟨by omega, by omega, h4.1⟩) h4.2 fun s hs hlt hn => ?_
    obtain ⟨c1, c2, c3⟩ := (child_span hh).1 hs
    have := h5 s (by omega) hlt
    unfold isKid at this
    rw [decide_eq_true c3, decide_eq_true hn] at this
    cases this
theorem isKid_eq (l : List S29) (h q : Nat) (p : ByteArray) (hh : h < l.length) (hq : q < l.length) (hlev : 0 ≤ lv l h ∧ lv l h ≤ 1000) : isKid l h p q = (decide (l[q].f2 = wrap64 (l[h].f2 + 1)) && decide (l[q].f0 = p)) := by
  have e1 : lv l q = l[q].f2 := by unfold lv; rw [rd_get l q hq]
  have e2 : lv l h = l[h].f2 := by unfold lv; rw [rd_get l h hh]
  have e3 : nm l q = l[q].f0 := by unfold nm; rw [rd_get l q hq]
  have e4 : wrap64 (l[h].f2 + 1) = l[h].f2 + 1 := by rw [← e2]; unfold wrap64; omega
  unfold isKid
  rw [e1, e2, e3, e4]
set_option maxRecDepth 100000 in
set_option maxHeartbeats 4000000 in
theorem rLocate_c (rb c : Nat) (ok : Nat → Prop) (st : Fs) (A : Option Addr) (u n : ByteArray) (Ap : Option Addr) (cp : Nat) (path : List ByteArray) (W : World) (h : RParts W ok rb st A c) (hI : RInv st) (hpath : Kd.C Kd.string W Ap path.length path) (hcp : path.length ≤ cp) :
    Calls Tryz.prog 25 #[.pointer (some ⟨rb, 0, none⟩), .string u, .string n, .slice Ap path.length cp] W (RLocOut W (mLocate st u n path)) := by
  have C56 := Aside0.mk (rbad_c rb u n W h.c0)
  have CB := Aside0.mk (begin_c rb c ok st A u n W h)
  have HRR := Aside0.mk (show RRep W ok rb st from ⟨A, c, h⟩)
  cases hbad : (userB u && nameB n) with
  | false =>
    rw [hbad] at C56
    have HM := Aside0.mk (show mLocate st u n path = (0, 1) by unfold mLocate; rw [mOpened_bad hbad])
    clear h hbad CB hI hpath
    go_enter Tryz.func25, Tryz.ntmps25
    go_wp2_with first | (go_at_call 56; refine C56.out.mono ?_; rintro e w' ⟨rfl, rfl⟩)
    refine bodyPost_ret (v := .tuple #[.int .i64 0, .int .i64 1]) (by simp [results, Tryz.f25, go_sem]) rfl ?_
    exact RLocOut.stay (Below.refl _ _) HM.out
  | true =>
   rw [hbad] at C56
   cases hB : mBegin st u n with
   | error E =>
     rw [hB] at CB
     have hE := mBegin_E hB
     have HM := Aside0.mk (show mLocate st u n path = (0, E) by unfold mLocate; rw [mOpened_err hbad hB 1])
     clear h hbad hB hI hpath
     go_enter Tryz.func25, Tryz.ntmps25
     go_wp2_with first | (go_at_call 56; refine C56.out.mono ?_; rintro e w' ⟨rfl, rfl⟩) | (go_at_call 67; refine CB.out.mono ?_; rintro e w2 ⟨hb2, rfl⟩)
     refine bodyPost_ret (v := .tuple #[.int .i64 0, .int .i64 E]) (by simp [results, Tryz.f25, go_sem]) rfl ?_
     exact RLocOut.stay (hb2) HM.out
   | ok p =>
     obtain ⟨k, f, a⟩ := p
     rw [hB] at CB
     obtain ⟨hk, hnm⟩ := mBegin_at hB
     have HMO := Aside0.mk (mOpened_ok hbad hB 1)
     have HDD := Aside0.mk (denied_cases a 1)
     have HWI := Aside0.mk (within_den a 1 0 (by decide) rfl)
     have HU := Aside0.mk (hI.units f (List.mem_of_getElem? hk))
     have HR := Aside0.mk h
     have HHK := Aside0.mk hk
     have HPR := Aside0.mk (fun X (hb : Below W.heap.size W X) => Kd.C_below hpath hb)
     clear hB hnm hk hI h hpath
     go_enter Tryz.func25, Tryz.ntmps25
     go_wp2_with first | (go_at_call 56; refine C56.out.mono ?_; rintro e w' ⟨rfl, rfl⟩)
     refine CB.out.mono ?_
     rintro e w2 ⟨hb2, rfl⟩
     have h := HR.out
     have hk := HHK.out
     have R2 := h.below hb2
     obtain ⟨g, Ar, cr, Au, cu, Ao, co, T⟩ := R2.row hk
     have hil : k < st.length := (List.getElem?_eq_some_iff.1 hk).1
     have hlz : (k : Int) < (st.length : Int) := by omega
     have hk0 : decide ((k : Int) < 0) = false := decide_eq_false (by omega)
     have c1 := R2.c1
     have hA := T.hA
     subst hA
     obtain ⟨x0, x1, x2, x3, x4, x5, x6, x7, x8, x9⟩ := T.x
     have HH := Aside0.mk R2
     have HT := Aside0.mk T
     have HK := Aside0.mk hk
     have hrb := R2.lt rb R2.okr
     have hgl := R2.glt T
     have hne : g ≠ rb := T.okg.2
     have hne2 : rb ≠ g := Ne.symm hne
     have HB2 := Aside0.mk hb2
     have HCU := Aside0.mk (fun w (hb : Below w2.heap.size w2 w) => Kd.C_below T.In.uC.2 hb)
     have hul := HU.out.1.len
     have hpos := HU.out.1.pos
     have hcu := T.In.uC.1
     obtain ⟨ad, hAd, _⟩ := at_units (HCU.out _ (Below.refl _ _)) 0 hpos
     subst hAd
     clear R2 T h hk hb2 x0 x1 x2 x3 x4 x5 x6 x7 x9
     go_wp2_with fail
     go_loopw [14, 15] (fun s k wr => ∃ (hN j : Nat), s = .int .i64 hN ∧ k = .int .i64 j ∧ j ≤ path.length ∧ hN < f.units.length ∧ Aside0 (Below w2.heap.size w2 wr) ∧ Aside0 (locGo f.units 0 path = locGo f.units hN (path.drop j))) (fun _ k _ => path.length - (intOf k).toNat)
     case atStart => exact ⟨0, 0, rfl, rfl, Nat.zero_le _, hpos, ⟨Below.refl _ _⟩, ⟨rfl⟩⟩
     case round =>
       obtain ⟨hN, j, rfl, rfl, hj, hh, HBW, HLG⟩ := hrel
       by_cases hlt : j < path.length
       · have hltz : (j : Int) < (path.length : Int) := by omega
         have HJW := Aside0.mk (show wrap64 ((j : Int) + 1) = ((j + 1 : Nat) : Int) by have hpl := (HPR.out _ (HB2.out)).2.1; unfold wrap64; omega)
         have hjz : decide ((j : Int) < 0) = false := decide_eq_false (by omega)
         obtain ⟨pw, hpw⟩ : ∃ x, x = path[j] := ⟨_, rfl⟩
         have HPW := Aside0.mk hpw
         obtain ⟨E, hE⟩ : ∃ E, E = endOf f.units hN := ⟨_, rfl⟩
         have HE := Aside0.mk hE
         have HE1 := Aside0.mk (show hN < E by rw [hE]; have := (endOf_le hh).1; omega)
         have HEL := Aside0.mk (show E ≤ f.units.length by rw [hE]; exact (endOf_le hh).2)
         have hEw : wrap64 ((E : Int) - 1) = (E : Int) - 1 := by have := HEL.out; unfold wrap64; omega
         clear hpw hE
         go_wp2_with fail
         refine (under_c (some ad) cu hN f.units _ (HCU.out _ HBW.out) hcu hh).mono ?_
         rintro e w3 ⟨rfl, ⟨mu, rfl⟩⟩
         have HBW3 := Aside0.mk (pw_below_drewN HBW.out mu)
         rw [← HE.out]
         generalize wr.drewN mu = w3 at HBW3 ⊢
         go_wp2_with fail
         go_loopw [16, 17] (fun F s wr => ∃ (t : Nat) (Fi : Int), F = .int .i64 Fi ∧ s = .int .i64 ((t : Int) - 1) ∧ hN < t ∧ t ≤ E ∧ Aside0 (Below w2.heap.size w2 wr) ∧ Aside0 (LocAt f.units hN pw E t Fi)) (fun _ s _ => (intOf s).toNat)
         case atStart => exact ⟨E, -1, by rfl, by go_num, HE1.out, Nat.le_refl _, HBW3, ⟨.inl ⟨rfl, fun q h1 h2 => by omega⟩⟩⟩
         case round =>
           obtain ⟨t, Fi, rfl, rfl, ht1, ht2, HBI, HL⟩ := hrel
           by_cases hgt : hN + 1 < t
           · obtain ⟨q, rfl⟩ : ∃ q, t = q + 1 := ⟨t - 1, by omega⟩
             have hq1 : (((q + 1 : Nat) : Int) - 1) = (q : Int) := by omega
             rw [hq1]
             have hgtz : (hN : Int) < (q : Int) := by omega
             have hql : q < f.units.length := by have := HEL.out; omega
             have hqz : (q : Int) < (f.units.length : Int) := by omega
             have hq0 : decide ((q : Int) < 0) = false := decide_eq_false (by omega)
             have hhz : (hN : Int) < (f.units.length : Int) := by omega
             have hh0 : decide ((hN : Int) < 0) = false := decide_eq_false (by omega)
             obtain ⟨ad1, he1, z0, _, z2⟩ := at_units (HCU.out _ HBI.out) q hql
             injection he1 with he1
             subst he1
             obtain ⟨ad2, he2, _, _, y2⟩ := at_units (HCU.out _ HBI.out) hN hh
             injection he2 with he2
             subst he2
             obtain ⟨adp, hap, p0⟩ := Kd.at_string (HPR.out _ (HB2.out.trans (HBI.out.mono HB2.out.size))) (j : Int) (by omega) (by omega)
             subst hap
             rw [Int.toNat_natCast, show rdOf ByteArray.empty path (j : Int) = pw by rw [HPW.out]; simp [rdOf, List.getD_eq_getElem?_getD, List.getElem?_eq_getElem hlt]] at p0
             have HISK := Aside0.mk (isKid_eq (f.units) hN q pw hh hql (HU.out.1.lev hN))
             generalize f.units[q].f0 = nq at *
             generalize f.units[q].f2 = lq at *
             generalize f.units[hN].f2 = lh at *
             by_cases hg : lq = wrap64 (lh + 1)
             · have g1 : (lq == wrap64 (lh + 1)) = true := by simpa using hg
               by_cases hn : nq = pw
               · have g2 : (nq.toList == pw.toList) = true := by rw [hn]; exact beq_yes _
                 have HL2 := Aside0.mk (HL.out.hit (by omega) (by rw [HISK.out, decide_eq_true hg, decide_eq_true hn]; rfl))
                 clear hg hn
                 go_wp2_with fail
                 go_quiet (fail)
                 go_wp2_with fail
                 go_roundw
                 case rel => exact ⟨q, _, rfl, rfl, by omega, by omega, ⟨pw_below_drewN HBI.out _⟩, HL2⟩
                 case measure => (simp [intOf]; omega)
               · have g2 := beq_no hn
                 have HL2 := Aside0.mk (HL.out.miss (by rw [HISK.out, decide_eq_false hn, Bool.and_false]))
                 clear hg hn
                 go_wp2_with fail
                 go_quiet (fail)
                 go_wp2_with fail
                 go_roundw
                 case rel => exact ⟨q, _, rfl, rfl, by omega, by omega, ⟨pw_below_drewN HBI.out _⟩, HL2⟩
                 case measure => (simp [intOf]; omega)
             · have g1 : (lq == wrap64 (lh + 1)) = false := by simpa using hg
               have HL2 := Aside0.mk (HL.out.miss (by rw [HISK.out, decide_eq_false hg, Bool.false_and]))
               clear hg
               go_wp2_with fail
               go_quiet (fail)
               go_wp2_with fail
               go_roundw
               case rel => exact ⟨q, _, rfl, rfl, by omega, by omega, ⟨pw_below_drewN HBI.out _⟩, HL2⟩
               case measure => (simp [intOf]; omega)
           · obtain rfl : t = hN + 1 := by omega
             have hq1 : (((hN + 1 : Nat) : Int) - 1) = (hN : Int) := by omega
             rw [hq1]
             have hgtz : ¬ (hN : Int) < (hN : Int) := by omega
             rcases LocAt.end_ hh HE.out HL.out with ⟨rfl, hN_⟩ | ⟨t', rfl, ht', hN_⟩
             · have HM := Aside0.mk (mLocate_none HMO.out (show locGo f.units 0 path = none by rw [HLG.out, List.drop_eq_getElem_cons hlt, ← HPW.out]; exact locGo_no hN_))
               clear hN_
               go_wp2
               refine bodyPost_ret (v := .tuple #[.int .i64 0, .int .i64 6]) (by simp [results, Tryz.f25, go_sem]) rfl ?_
               exact RLocOut.stay (HB2.out.trans (HBI.out.mono HB2.out.size)) HM.out
             · have HLG2 := Aside0.mk (show locGo f.units 0 path = locGo f.units t' (path.drop (j + 1)) by
                 rw [HLG.out, List.drop_eq_getElem_cons hlt, ← HPW.out]; exact locGo_yes hN_)
               have ht0 : decide ((t' : Int) < 0) = false := decide_eq_false (by omega)
               clear hN_
               go_wp2_with fail
               go_roundw
               case rel => exact ⟨t', j + 1, rfl, by rw [HJW.out], by omega, ht', HBI, HLG2⟩
               case measure => (rw [HJW.out]; simp [intOf]; omega)
       · have hltz : ¬ (j : Int) < (path.length : Int) := by omega
         obtain rfl : path.length = j := by omega
         have HLG2 := Aside0.mk (show locGo f.units 0 path = some hN by rw [HLG.out, List.drop_length]; rfl)
         rcases HDD.out with hd0 | hd12
         · have gW : decide (bits .and .i64 1 a = 1) = true := by rw [HWI.out, hd0]; rfl
           have HM := Aside0.mk (show mLocate st u n path = ((hN : Int), 0) by unfold mLocate; rw [HMO.out]; simp only [HLG2.out, hd0, if_pos])
           clear hd0
           go_wp2_with fail
           refine (rwithin_c 1 a _).mono ?_
           rintro e w' ⟨rfl, rfl⟩
           go_wp2
           refine bodyPost_ret (v := .tuple #[.int .i64 (hN : Int), .int .i64 0]) (by simp [results, Tryz.f25, go_sem]) rfl ?_
           exact RLocOut.stay (HB2.out.trans (HBW.out.mono HB2.out.size)) HM.out

         · have gW : decide (bits .and .i64 1 a = 1) = false := by rw [HWI.out, hd12]; rfl
           have HM := Aside0.mk (show mLocate st u n path = (0, 12) by unfold mLocate; rw [HMO.out]; simp only [HLG2.out, hd12]; rfl)
           clear hd12
           go_wp2_with fail
           refine (rwithin_c 1 a _).mono ?_
           rintro e w' ⟨rfl, rfl⟩
           go_wp2
           refine bodyPost_ret (v := .tuple #[.int .i64 0, .int .i64 12]) (by simp [results, Tryz.f25, go_sem]) rfl ?_
           exact RLocOut.stay (HB2.out.trans (HBW.out.mono HB2.out.size)) HM.out
end Go.Proofs.YtehlmkgldcfciaaGreat.Files
/- Two stores in one world: the program's and the reference's; an act as data. -/
set_option linter.unusedVariables false
set_option linter.unusedSimpArgs false
namespace Go.Proofs.YtehlmkgldcfciaaGreat.Files
open Go.Proofs.YtehlmkgldcfciaaGreat.Common Go.Maps Go.ChangeMaps Go.WideMaps Go.Proofs.YtehlmkgldcfciaaGreat.F
open Go.RowKit Go.Proofs.YtehlmkgldcfciaaGreatW.PrintWords Go.Proofs.YtehlmkgldcfciaaGreatW.PrintLast Go.Proofs.YtehlmkgldcfciaaGreatW.PrintMore
structure S33 where
  f0 : Int
  f1 : Int
  f2 : Int
  f3 : ByteArray
  f4 : ByteArray
  f5 : Bool
  f6 : S29
  f7 : List ByteArray
  f8 : List S100
def z33 : S33 := ⟨0, 0, 0, ⟨#[]⟩, ⟨#[]⟩, false, z29, [], []⟩
def k33 : Kd S33 := Kd.iso (Kd.pair (Kd.int .i64) (Kd.pair (Kd.int .i64) (Kd.pair (Kd.int .i64) (Kd.pair Kd.string (Kd.pair Kd.string (Kd.pair Kd.bool (Kd.pair k29 (Kd.pair (Kd.slice 9 Kd.string) (Kd.slice 100 k100))))))))) (fun x : S33 => (x.f0, x.f1, x.f2, x.f3, x.f4, x.f5, x.f6, x.f7, x.f8))
def actCells (x : S33) (Ap : Option Addr) (cp : Nat) (Ar : Option Addr) (cr : Nat) : List Value := [.int .i64 x.f0, .int .i64 x.f1, .int .i64 x.f2, .string x.f3, .string x.f4, .bool x.f5, .string x.f6.f0, .string x.f6.f1, .int .i64 x.f6.f2, .slice Ap x.f7.length cp, .slice Ar x.f8.length cr]
theorem k33_open {w : World} {x : S33} {cs : List Value} (h : k33.K w x cs) : ∃ Ap cp Ar cr, cs = actCells x Ap cp Ar cr ∧ x.f7.length ≤ cp ∧ Kd.C Kd.string w Ap x.f7.length x.f7 ∧ x.f8.length ≤ cr ∧ Kd.C k100 w Ar x.f8.length x.f8 := by
  obtain ⟨_, _, rfl, rfl, _, _, rfl, rfl, _, _, rfl, rfl, _, _, rfl, rfl, _, _, rfl, rfl, _, _, rfl, rfl, _, _, rfl, h6, _, _, rfl, ⟨Ap, cp, rfl, hl1, hr1⟩, ⟨Ar, cr, rfl, hl, hr⟩⟩ := h
  obtain rfl := k29_open h6
  exact ⟨Ap, cp, Ar, cr, rfl, hl1, hr1, hl, hr⟩
def rd_T33 (xs : List S33) (i : Int) : S33 := xs.getD i.toNat z33
theorem at_T33 {w : World} {A : Option Addr} {n : Nat} {xs : List S33} (h : Kd.C k33 w A n xs) (i : Nat) (h1 : i < n) : ∃ ad Ap cp Ar cr, A = some ad ∧ (rd_T33 xs i).f7.length ≤ cp ∧ Kd.C Kd.string w Ap (rd_T33 xs i).f7.length (rd_T33 xs i).f7 ∧ (rd_T33 xs i).f8.length ≤ cr ∧ Kd.C k100 w Ar (rd_T33 xs i).f8.length (rd_T33 xs i).f8 ∧
    ∀ j u, (actCells (rd_T33 xs i) Ap cp Ar cr)[j]? = some u → w.cell? (ad.add (i * 11 + j)) = some u := by
  obtain ⟨ad, c, e, _, hK, hc0⟩ := Kd.C_get h z33 (i : Int) (by omega) (by omega)
  rw [Int.toNat_natCast] at hK hc0
  have hc : ∀ j u, c[j]? = some u → w.cell? (ad.add (i * 11 + j)) = some u := hc0
  have hx : rd_T33 xs i = xs.getD i z33 := by unfold rd_T33; rw [Int.toNat_natCast]
  rw [← hx] at hK
  obtain ⟨Ap, cp, Ar, cr, rfl, hl1, hr1, hl, hr⟩ := k33_open hK
  exact ⟨ad, Ap, cp, Ar, cr, e, hl1, hr1, hl, hr, hc⟩
def mStep (st : Fs) (x : S33) : Fs := mDo st x.f0 x.f1 x.f2 x.f3 x.f4 x.f5 x.f6 x.f8
structure BothP (W0 : World) (sb rb c : Nat) (st rt : Fs) (F : List (Nat × Obj)) (wr : World) (ok okr : Nat → Prop) (L : List (Nat × AF)) : Prop where
  P : StoreRep wr ok sb L
  hst : L.map (·.2) = st
  R : RRep wr okr rb rt
  apart : ∀ q, ok q → ¬ okr q
  I : TInv c st
  J : TInv c rt
  X : XInv rt
  low : Below W0.heap.size W0 wr
  okP : ∀ q, ok q → W0.heap.size ≤ q ∧ ∀ p ∈ F, q ≠ p.1
  okR : ∀ q, okr q → W0.heap.size ≤ q ∧ ∀ p ∈ F, q ≠ p.1
  at_ : ∀ p ∈ F, wr.heap[p.1]? = some p.2
def Both (W0 : World) (sb rb c : Nat) (st rt : Fs) (F : List (Nat × Obj)) (wr : World) : Prop := ∃ ok okr L, BothP W0 sb rb c st rt F wr ok okr L
section
variable {W0 wr w' : World} {sb rb c c' : Nat} {st rt st' rt' : Fs} {F : List (Nat × Obj)}
theorem StoreRep.lt {ok : Nat → Prop} {L : List (Nat × AF)} (h : StoreRep wr ok sb L) : ∀ q, ok q → q < wr.heap.size := by
  obtain ⟨_, _, _, h⟩ := h
  exact h.lt
theorem RRep.lt {ok : Nat → Prop} (h : RRep wr ok rb rt) : ∀ q, ok q → q < wr.heap.size := by
  obtain ⟨_, _, h⟩ := h
  exact h.lt
theorem at_lt {b : Nat} {o : Obj} (h : wr.heap[b]? = some o) : b < wr.heap.size := (Array.getElem?_eq_some_iff.1 h).1
theorem Both.below (h : Both W0 sb rb c st rt F wr) (hb : Below wr.heap.size wr w') : Both W0 sb rb c st rt F w' := by
  obtain ⟨ok, okr, L, h⟩ := h
  exact ⟨ok, okr, L, h.P.other (Chg.of_below hb (fun _ => False)) (fun _ _ h => h), h.hst, h.R.below hb, h.apart, h.I, h.J, h.X, h.low.trans (hb.mono h.low.size), h.okP, h.okR, fun p hp => (hb.block _ (at_lt (h.at_ p hp))).trans (h.at_ p hp)⟩
theorem Both.drew (h : Both W0 sb rb c st rt F wr) : Both W0 sb rb c st rt F wr.drew := h.below (Below.refl _ _).drew
theorem Both.low (h : Both W0 sb rb c st rt F wr) : Below W0.heap.size W0 wr := by
  obtain ⟨ok, okr, L, h⟩ := h
  exact h.low
theorem Both.at_ (h : Both W0 sb rb c st rt F wr) : ∀ p ∈ F, wr.heap[p.1]? = some p.2 := by
  obtain ⟨ok, okr, L, h⟩ := h
  exact h.at_
theorem Both.mono (h : Both W0 sb rb c st rt F wr) (hcc : c ≤ c') : Both W0 sb rb c' st rt F wr := by
  obtain ⟨ok, okr, L, h⟩ := h
  exact ⟨ok, okr, L, h.P, h.hst, h.R, h.apart, h.I.mono hcc, h.J.mono hcc, h.X, h.low, h.okP, h.okR, h.at_⟩
theorem Both.box (h : Both W0 sb rb c st rt F wr) (o : Obj) (h0 : (wr.alloc o).heap[wr.heap.size]? = some o) : Both W0 sb rb c st rt ((wr.heap.size, o) :: F) (wr.alloc o) := by
  have hb : Below wr.heap.size wr (wr.alloc o) := (Below.refl _ _).alloc (Nat.le_refl _) _
  obtain ⟨ok, okr, L, h⟩ := h
  have h1 := h.P.lt
  have h2 := h.R.lt
  refine ⟨ok, okr, L, h.P.other (Chg.of_below hb (fun _ => False)) (fun _ _ h => h), h.hst, h.R.below hb, h.apart, h.I, h.J, h.X, h.low.trans (hb.mono h.low.size), fun q hq => ⟨(h.okP q hq).1, fun p hp => ?_⟩, fun q hq => ⟨(h.okR q hq).1, fun p hp => ?_⟩, fun p hp => ?_⟩
  · rcases List.mem_cons.1 hp with rfl | hp
    · exact Nat.ne_of_lt (h1 q hq)
    · exact (h.okP q hq).2 p hp
  · rcases List.mem_cons.1 hp with rfl | hp
    · exact Nat.ne_of_lt (h2 q hq)
    · exact (h.okR q hq).2 p hp
  · rcases List.mem_cons.1 hp with rfl | hp
    · exact h0
    · exact (hb.block _ (at_lt (h.at_ p hp))).trans (h.at_ p hp)
theorem Both.drop {p : Nat × Obj} (h : Both W0 sb rb c st rt (p :: F) wr) : Both W0 sb rb c st rt F wr := by
  obtain ⟨ok, okr, L, h⟩ := h
  exact ⟨ok, okr, L, h.P, h.hst, h.R, h.apart, h.I, h.J, h.X, h.low, fun q hq => ⟨(h.okP q hq).1, fun p hp => (h.okP q hq).2 p (List.mem_cons_of_mem _ hp)⟩, fun q hq => ⟨(h.okR q hq).1, fun p hp => (h.okR q hq).2 p (List.mem_cons_of_mem _ hp)⟩, fun p hp => h.at_ p (List.mem_cons_of_mem _ hp)⟩
def Apart (W0 wr w' : World) (F : List (Nat × Obj)) : Prop := ∃ S : Nat → Prop, Chg wr w' S ∧ ∀ q, S q → W0.heap.size ≤ q ∧ q < wr.heap.size ∧ ∀ p ∈ F, q ≠ p.1
theorem Both.prog (h : Both W0 sb rb c st rt F wr) {f : Nat} {args : Array Value} {Q : Ending → World → Prop} (hcc : c ≤ c') (hI : TInv c st → TInv c' st')
    (hc : ∀ ok L, StoreRep wr ok sb L → L.map (·.2) = st → TInv c st → Calls Tryz.prog f args wr fun e w' => Q e w' ∧ ∃ v, SOut wr ok sb v st' e w') :
    Calls Tryz.prog f args wr fun e w' => Q e w' ∧ Both W0 sb rb c' st' rt F w' ∧ Apart W0 wr w' F := by
  obtain ⟨ok, okr, L, h⟩ := h
  refine (hc ok L h.P h.hst h.I).mono ?_
  rintro e w' ⟨hQ, v, _, ok', L', h1, h2, h3, h4⟩
  have hlt := h.P.lt
  refine ⟨hQ, ⟨ok', okr, L', h1, h2, h.R.other h3 (fun q hq hs => h.apart q hs hq), fun q hq hr => ?_, hI h.I, h.J.mono hcc, h.X, h.low.trans (h3.below h.low.size (fun q hq => (h.okP q hq).1)), fun q hq => ?_, h.okR, fun p hp => (h3.block _ (at_lt (h.at_ p hp)) (fun hs => (h.okP _ hs).2 p hp rfl)).trans (h.at_ p hp)⟩, ok, h3, fun q hq => ⟨(h.okP q hq).1, hlt q hq, (h.okP q hq).2⟩⟩
  · rcases h4 q hq with h5 | h5
    · exact h.apart q h5 hr
    · exact absurd (h.R.lt q hr) (by omega)
  · rcases h4 q hq with h5 | h5
    · exact h.okP q h5
    · exact ⟨Nat.le_trans h.low.size h5, fun p hp e => by have := at_lt (h.at_ p hp); omega⟩
theorem Both.ref (h : Both W0 sb rb c st rt F wr) {f : Nat} {args : Array Value} {Q : Ending → World → Prop} (hcc : c ≤ c') (hc0 : c ≤ 1000) (hI : TInv c rt → TInv c' rt') (hX : XInv rt → XInv rt')
    (hc : ∀ ok A k, RParts wr ok rb rt A k → RInv rt → Calls Tryz.prog f args wr fun e w' => Q e w' ∧ ∃ v, ROut wr ok rb v rt' e w') :
    Calls Tryz.prog f args wr fun e w' => Q e w' ∧ Both W0 sb rb c' st rt' F w' ∧ Apart W0 wr w' F := by
  obtain ⟨ok, okr, L, h⟩ := h
  obtain ⟨A, k, hR⟩ := h.R
  have hlt := h.R.lt
  refine (hc okr A k hR (RInv.of h.J h.X hc0)).mono ?_
  rintro e w' ⟨hQ, v, _, ok', h1, h3, h4⟩
  refine ⟨hQ, ⟨ok, ok', L, h.P.other h3 (fun q hq hs => h.apart q hq hs), h.hst, h1, fun q hq hr => ?_, h.I.mono hcc, hI h.J, hX h.X, h.low.trans (h3.below h.low.size (fun q hq => (h.okR q hq).1)), h.okP, fun q hq => ?_, fun p hp => (h3.block _ (at_lt (h.at_ p hp)) (fun hs => (h.okR _ hs).2 p hp rfl)).trans (h.at_ p hp)⟩, okr, h3, fun q hq => ⟨(h.okR q hq).1, hlt q hq, (h.okR q hq).2⟩⟩
  · rcases h4 q hr with h5 | h5
    · exact h.apart q hq h5
    · exact absurd (h.P.lt q hq) (by omega)
  · rcases h4 q hq with h5 | h5
    · exact h.okR q h5
    · exact ⟨Nat.le_trans h.low.size h5, fun p hp e => by have := at_lt (h.at_ p hp); omega⟩
theorem Both.reads (h : Both W0 sb rb c st rt F wr) {f : Nat} {args : Array Value} {Q : Ending → World → Prop} (hc : ∀ ok okr L A k, StoreRep wr ok sb L → L.map (·.2) = st → TInv c st → RParts wr okr rb rt A k → (c ≤ 1000 → RInv rt) → Calls Tryz.prog f args wr fun e w' => Q e w' ∧ Below wr.heap.size wr w') :
    Calls Tryz.prog f args wr fun e w' => Q e w' ∧ Both W0 sb rb c st rt F w' ∧ Below wr.heap.size wr w' := by
  have H := h
  obtain ⟨ok, okr, L, h⟩ := h
  obtain ⟨A, k, hR⟩ := h.R
  refine (hc ok okr L A k h.P h.hst h.I hR (RInv.of h.J h.X)).mono ?_
  rintro e w' ⟨hQ, hb⟩
  exact ⟨hQ, H.below hb, hb⟩
end
end Go.Proofs.YtehlmkgldcfciaaGreat.Files
/- The reference's store: Names, Users. -/
set_option linter.unusedVariables false
set_option linter.unusedSimpArgs false
namespace Go.Proofs.YtehlmkgldcfciaaGreat.Files
open Go.Proofs.YtehlmkgldcfciaaGreat.Common Go.Maps Go.ChangeMaps Go.WideMaps Go.Proofs.YtehlmkgldcfciaaGreat.F
open Go.RowKit Go.Proofs.YtehlmkgldcfciaaGreatW.PrintWords Go.Proofs.YtehlmkgldcfciaaGreatW.PrintLast Go.Proofs.YtehlmkgldcfciaaGreatW.PrintMore
def RWords (W : World) (l : List ByteArray) (e : Ending) (w' : World) : Prop := ∃ v : Value, e = .returned v ∧ Kd.R Kd.string 9 w' W.heap.size (fun _ => True) v (sortL l) ∧ Below W.heap.size W w'
set_option maxRecDepth 100000 in
set_option maxHeartbeats 4000000 in
theorem rNames_c (rb c : Nat) (ok : Nat → Prop) (st : Fs) (A : Option Addr) (W : World) (h : RParts W ok rb st A c) (hl : st.length ≤ 30) :
    Calls Tryz.prog 10 #[.pointer (some ⟨rb, 0, none⟩)] W (RWords W (st.map (·.F.name))) := by
  have HR := Aside0.mk h
  have HL := Aside0.mk hl
  have hrb := h.lt rb h.okr
  have c1 := h.c1
  clear h
  go_enter Tryz.func10, Tryz.ntmps10
  go_wp2_with fail
  go_loopw [3, 4] (fun v s wr => ∃ j : Nat, s = .int .i64 j ∧ j ≤ st.length ∧ Aside0 (Below W.heap.size W wr) ∧ Aside0 (Kd.R Kd.string 9 wr W.heap.size (fun _ => True) v ((st.take j).map (·.F.name)))) (fun _ s _ => st.length - (intOf s).toNat)
  case atStart => exact ⟨0, rfl, Nat.zero_le _, ⟨Below.refl _ _⟩, ⟨Kd.R_nil _ _ _ _ _⟩⟩
  case round =>
    obtain ⟨j, rfl, hj, HBW, HRW⟩ := hrel
    have d1 := (HBW.out.cell (p := ⟨rb, 1, none⟩) hrb).trans c1
    by_cases hlt : j < st.length
    · have hltz : (j : Int) < (st.length : Int) := by omega
      have hj0 : decide ((j : Int) < 0) = false := decide_eq_false (by omega)
      obtain ⟨f, hf⟩ : ∃ f, st[j]? = some f := ⟨_, List.getElem?_eq_getElem hlt⟩
      obtain ⟨g, Ar, cr, Au, cu, Ao, co, T⟩ := (HR.out.below HBW.out).row hf
      have hA := T.hA
      subst hA
      obtain ⟨x0, _⟩ := T.x
      obtain ⟨XS, hXS⟩ : ∃ XS, XS = (st.take j).map (·.F.name) := ⟨_, rfl⟩
      have HNX := Aside0.mk (show XS ++ [f.F.name] = (st.take (j + 1)).map (·.F.name) by rw [hXS, List.take_succ_eq_append_getElem hlt, List.map_append]; rw [List.getElem?_eq_getElem hlt] at hf; injection hf with hf; rw [hf]; rfl)
      have hXL : XS.length ≤ 30 := by rw [hXS, List.length_map, List.length_take]; have := HL.out; omega
      rw [← hXS] at HRW
      clear hXS T
      go_wp2_with (first
        | ((with_reducible refine gate_dst (N := 26) rfl ?_); refine Kd.R_lit Kd.string (w0 := W) W.heap.size 9 ?hg (N := 26) ?hd (xs := ([f.F.name] : List ByteArray)) (inner := [.string f.F.name]) (ok := fun _ => True) (okp := fun _ => True) ?hr ?hp (fun _ hk => hk) trivial HBW.out HBW.out.size (by simp) ?_; (case hd => rfl); (case hg => rfl); (case hr => first | (go_simp; done) | (go_simp; rfl)); (case hp => exact (Reps.one (show Kd.M Kd.string _ _ _ f.F.name [.string f.F.name] from rfl) (Reps.none _ _))); intro v4 x4 ho hb hgr hfr; have HB4 := Aside0.mk hb; have HR4 := Aside0.mk (Kd.R_grown HRW.out hgr (fun q _ e => by cases e)); obtain ⟨A4, c4, hv4⟩ := Kd.R_slice ho; have hv4 : v4 = .slice A4 1 c4 := hv4; subst hv4; have HO4 := Aside0.mk ho; clear ho hb hgr hfr)
        | ((with_reducible refine gate_builtin (b := .append) (xs := #[.tmp 16, .tmp 26]) rfl ?_); at_builtin; refine Kd.R_append_rows Kd.string (Rr := Kd.string.K x4) (w0 := W) W.heap.size rfl (.tmp 16) (.tmp 26) 30 9 (.string ⟨#[]⟩) 16 rfl Tryz.underlying30 info9 rfl (by decide) (by omega) u3 XS [f.F.name] A4 1 c4 (fun _ => True) (fun _ => False) rfl rfl HR4.out (Kd.R_reads' HO4.out).2.2 (fun x cs h => h) (fun _ h => h.elim) (fun _ _ => trivial) HB4.out HB4.out.size (by first | omega | (simp only [List.length_cons, List.length_nil]; omega)) ?_; intro v5 x5 ho hb hgr hfr; rw [HNX.out] at ho; have HB5 := Aside0.mk hb; have HO5 := Aside0.mk ho; clear ho hb hgr hfr))
      go_roundw
      case rel => exact ⟨j + 1, by go_num, by omega, HB5, HO5⟩
      case measure => (simp [intOf]; try omega)
    · have hltz : ¬ (j : Int) < (st.length : Int) := by omega
      obtain rfl : st.length = j := by omega
      rw [List.take_length] at HRW
      obtain ⟨A3, c3, hv3⟩ := Kd.R_slice HRW.out
      subst hv3
      have HLN := Aside0.mk (show (st.map (·.F.name)).length = st.length from List.length_map _)
      have CS := Aside0.mk (sorted_c A3 c3 (st.map (·.F.name)) wr (Kd.R_reads' HRW.out).2.2 (Kd.R_reads' HRW.out).2.1 (by rw [HLN.out]; have := HL.out; omega))
      rw [HLN.out] at CS ⊢
      go_wp2_with fail
      refine CS.out.mono ?_
      rintro e w5 ⟨v5, rfl, hr5, hb5⟩
      have HR5 := Aside0.mk hr5
      have HB5 := Aside0.mk hb5
      clear hr5 hb5 CS
      go_wp2
      refine bodyPost_ret (v := v5) (by simp [results, Tryz.f10, go_sem]) rfl ?_
      exact ⟨v5, rfl, Kd.R_lower HR5.out HBW.out.size, HBW.out.trans (HB5.out.mono HBW.out.size)⟩
set_option maxRecDepth 100000 in
set_option maxHeartbeats 4000000 in
theorem rUsers_none (rb c : Nat) (ok : Nat → Prop) (st : Fs) (A : Option Addr) (n : ByteArray) (W : World) (h : RParts W ok rb st A c) (hp : posI st n = -1) :
    Calls Tryz.prog 12 #[.pointer (some ⟨rb, 0, none⟩), .string n] W (RWords W []) := by
  have CF := find_c rb c ok st A n W h
  rw [hp] at CF
  have CF := Aside0.mk CF
  clear h hp
  go_enter Tryz.func12, Tryz.ntmps12
  go_wp2_with (go_at_call 49; refine CF.out.mono ?_; rintro e w' ⟨rfl, rfl⟩)
  refine bodyPost_ret (v := .slice none 0 0) (by simp [results, Tryz.f12, go_sem]) rfl ?_
  exact ⟨_, rfl, Kd.R_nil _ _ _ _ _, Below.refl _ _⟩
set_option maxRecDepth 100000 in
set_option maxHeartbeats 4000000 in
theorem rUsers_some (rb c : Nat) (ok : Nat → Prop) (st : Fs) (A : Option Addr) (n : ByteArray) (W : World) (k : Nat) (f : AF) (h : RParts W ok rb st A c) (hp : posI st n = k) (hk : st[k]? = some f) (hul : f.users.length ≤ 1000) :
    Calls Tryz.prog 12 #[.pointer (some ⟨rb, 0, none⟩), .string n] W (RWords W (f.users.map (·.1))) := by
  have CF := Aside0.mk (fun X (hb : Below W.heap.size W X) => (by have := find_c rb c ok st A n X (h.below hb); rwa [hp] at this : Calls Tryz.prog 49 #[.pointer (some ⟨rb, 0, none⟩), .string n] X fun e w' => e = .returned (.int .i64 (k : Int)) ∧ X = w'))
  have hrb := h.lt rb h.okr
  have c1 := h.c1
  have hil : k < st.length := (List.getElem?_eq_some_iff.1 hk).1
  have hlz : (k : Int) < (st.length : Int) := by omega
  have hk0 : decide ((k : Int) < 0) = false := decide_eq_false (by omega)
  obtain ⟨g, Ar, cr, Au, cu, Ao, co, T⟩ := h.row hk
  have hA := T.hA
  subst hA
  obtain ⟨x0, x1, x2, x3, x4, x5, x6, x7, x8, x9⟩ := T.x
  have HOC := Aside0.mk T.In.oC.2
  have hgl := h.glt T
  have HUL := Aside0.mk hul
  clear T h hp hk hul
  go_enter Tryz.func12, Tryz.ntmps12
  go_wp2_with (go_at_call 49; refine (CF.out _ (Below.refl _ _)).mono ?_; rintro e w' ⟨rfl, rfl⟩)
  have HX3 := Aside0.mk (show Below W.heap.size W (W.alloc (.cells #[.string f.F.name, .int .i64 f.F.kind, .int .i64 f.F.perm, .string f.F.owner, .string f.F.last, .int .i64 f.F.ch, .int .i64 f.F.rd, .slice Ar f.rules.length cr, .slice Au f.units.length cu, .slice Ao f.users.length co] 85)).drew from ((Below.refl _ _).alloc (Nat.le_refl _) _).drew)
  have HI3 := Aside0.mk (show (W.alloc (.cells #[.string f.F.name, .int .i64 f.F.kind, .int .i64 f.F.perm, .string f.F.owner, .string f.F.last, .int .i64 f.F.ch, .int .i64 f.F.rd, .slice Ar f.rules.length cr, .slice Au f.units.length cu, .slice Ao f.users.length co] 85)).drew.heap[W.heap.size]? = some (.cells #[.string f.F.name, .int .i64 f.F.kind, .int .i64 f.F.perm, .string f.F.owner, .string f.F.last, .int .i64 f.F.ch, .int .i64 f.F.rd, .slice Ar f.rules.length cr, .slice Au f.units.length cu, .slice Ao f.users.length co] 85 (0, 0)) from heap_alloc_new W _)
  go_region_with (go_at_call 49; refine (CF.out _ (by first | exact (Below.refl _ _).drew | exact ((Below.refl _ _).drew.alloc (Nat.le_refl _) _))).mono ?_; rintro e w' ⟨rfl, rfl⟩)
  all_goals
    generalize (W.alloc (.cells #[.string f.F.name, .int .i64 f.F.kind, .int .i64 f.F.perm, .string f.F.owner, .string f.F.last, .int .i64 f.F.ch, .int .i64 f.F.rd, .slice Ar f.rules.length cr, .slice Au f.units.length cu, .slice Ao f.users.length co] 85)).drew = w3 at HX3 HI3 ⊢
    clear x0 x1 x2 x3 x4 x5 x6 x7 x8 x9 c1 CF
    go_wp2_with fail
    go_loopw [5, 7] (fun v s wr => ∃ j : Nat, s = .int .i64 j ∧ j ≤ f.users.length ∧ Aside0 (Below w3.heap.size w3 wr) ∧ Aside0 (Kd.R Kd.string 9 wr w3.heap.size (fun _ => True) v ((f.users.take j).map (·.1)))) (fun _ s _ => f.users.length - (intOf s).toNat)
    case atStart => exact ⟨0, rfl, Nat.zero_le _, ⟨Below.refl _ _⟩, ⟨Kd.R_nil _ _ _ _ _⟩⟩
    case round =>
      obtain ⟨j, rfl, hj, HBW, HRW⟩ := hrel
      have d9 := (blk_cell ((HBW.out.block _ (blk_lt HI3.out)).trans HI3.out) 9).trans (show _ = some (Value.slice Ao f.users.length co) from rfl)
      by_cases hlt : j < f.users.length
      · have hltz : (j : Int) < (f.users.length : Int) := by omega
        have hul := HUL.out
        have hj0 : decide ((j : Int) < 0) = false := decide_eq_false (by omega)
        obtain ⟨ad, hAd, x0, _, _⟩ := at_users (Kd.C_below HOC.out (HX3.out.trans (HBW.out.mono HX3.out.size))) j hlt
        subst hAd
        obtain ⟨XS, hXS⟩ : ∃ XS, XS = (f.users.take j).map (·.1) := ⟨_, rfl⟩
        have HNX := Aside0.mk (show XS ++ [f.users[j].1] = (f.users.take (j + 1)).map (·.1) by rw [hXS, List.take_succ_eq_append_getElem hlt, List.map_append]; rfl)
        have hXL : XS.length ≤ 1000 := by rw [hXS, List.length_map, List.length_take]; have := HUL.out; omega
        rw [← hXS] at HRW
        generalize f.users[j].1 = U at x0 HNX
        clear hXS
        go_wp2_with (first
          | ((with_reducible refine gate_dst (N := 39) rfl ?_); refine Kd.R_lit Kd.string (w0 := w3) w3.heap.size 9 ?hg (N := 39) ?hd (xs := ([U] : List ByteArray)) (inner := [.string U]) (ok := fun _ => True) (okp := fun _ => True) ?hr ?hp (fun _ hk => hk) trivial HBW.out HBW.out.size (by simp) ?_; (case hd => rfl); (case hg => rfl); (case hr => first | (go_simp; done) | (go_simp; rfl)); (case hp => exact (Reps.one (show Kd.M Kd.string _ _ _ U [.string U] from rfl) (Reps.none _ _))); intro v4 x4 ho hb hgr hfr; have HB4 := Aside0.mk hb; have HR4 := Aside0.mk (Kd.R_grown HRW.out hgr (fun q _ e => by cases e)); obtain ⟨A4, c4, hv4⟩ := Kd.R_slice ho; have hv4 : v4 = .slice A4 1 c4 := hv4; subst hv4; have HO4 := Aside0.mk ho; clear ho hb hgr hfr)
          | ((with_reducible refine gate_builtin (b := .append) (xs := #[.tmp 32, .tmp 39]) rfl ?_); at_builtin; refine Kd.R_append_rows Kd.string (Rr := Kd.string.K x4) (w0 := w3) w3.heap.size rfl (.tmp 32) (.tmp 39) 30 9 (.string ⟨#[]⟩) 16 rfl Tryz.underlying30 info9 rfl (by decide) (by omega) u5 XS [U] A4 1 c4 (fun _ => True) (fun _ => False) rfl rfl HR4.out (Kd.R_reads' HO4.out).2.2 (fun x cs h => h) (fun _ h => h.elim) (fun _ _ => trivial) HB4.out HB4.out.size (by first | omega | (simp only [List.length_cons, List.length_nil]; omega)) ?_; intro v5 x5 ho hb hgr hfr; rw [HNX.out] at ho; have HB5 := Aside0.mk hb; have HO5 := Aside0.mk ho; clear ho hb hgr hfr))
        go_roundw
        case rel => exact ⟨j + 1, by go_num, by omega, HB5, HO5⟩
        case measure => (simp [intOf]; try omega)
      · have hltz : ¬ (j : Int) < (f.users.length : Int) := by omega
        obtain rfl : f.users.length = j := by omega
        rw [List.take_length] at HRW
        obtain ⟨A3, c3, hv3⟩ := Kd.R_slice HRW.out
        subst hv3
        have HLN := Aside0.mk (show (f.users.map (·.1)).length = f.users.length from List.length_map _)
        have CS := Aside0.mk (sorted_c A3 c3 (f.users.map (·.1)) wr (Kd.R_reads' HRW.out).2.2 (Kd.R_reads' HRW.out).2.1 (by rw [HLN.out]; exact HUL.out))
        rw [HLN.out] at CS ⊢
        go_wp2_with fail
        refine CS.out.mono ?_
        rintro e w5 ⟨v5, rfl, hr5, hb5⟩
        have HR5 := Aside0.mk hr5
        have HB5 := Aside0.mk hb5
        clear hr5 hb5 CS
        go_wp2
        refine bodyPost_ret (v := v5) (by simp [results, Tryz.f12, go_sem]) rfl ?_
        exact ⟨v5, rfl, Kd.R_lower HR5.out (Nat.le_trans HX3.out.size HBW.out.size), (HX3.out.trans (HBW.out.mono HX3.out.size)).trans (HB5.out.mono (Nat.le_trans HX3.out.size HBW.out.size))⟩
theorem rUsers_c (rb c : Nat) (ok : Nat → Prop) (st : Fs) (A : Option Addr) (n : ByteArray) (W : World) (h : RParts W ok rb st A c) (hul : ∀ f ∈ st, f.users.length ≤ 1000) :
    Calls Tryz.prog 12 #[.pointer (some ⟨rb, 0, none⟩), .string n] W (RWords W (match posF st n with | none => [] | some p => p.2.users.map (·.1))) := by
  rcases posI_range st n with ⟨h1, h2⟩ | ⟨k, f, h1, h2, h3, _⟩
  · rw [h2]
    exact rUsers_none rb c ok st A n W h h1
  · rw [h2]
    exact rUsers_some rb c ok st A n W k f h h1 h3 (hul f (List.mem_of_getElem? h3))
end Go.Proofs.YtehlmkgldcfciaaGreat.Files
/- Each method, on two stores in one world. -/
set_option linter.unusedVariables false
set_option linter.unusedSimpArgs false
namespace Go.Proofs.YtehlmkgldcfciaaGreat.Files
open Go.Proofs.YtehlmkgldcfciaaGreat.Common Go.Maps Go.ChangeMaps Go.WideMaps Go.Proofs.YtehlmkgldcfciaaGreat.F
open Go.Sort Go.Shelf Go.RowKit Go.Proofs.YtehlmkgldcfciaaGreatW.PrintWords Go.Proofs.YtehlmkgldcfciaaGreatW.PrintLast Go.Proofs.YtehlmkgldcfciaaGreatW.PrintMore
theorem WordsEnd.rwords {W : World} {l : List ByteArray} {e : Ending} {w' : World} (h : WordsEnd W l e w') : RWords W l e w' ∧ Below W.heap.size W w' := by
  obtain ⟨v, rfl, hr, hb⟩ := h
  have hlen : (sortL l).length = l.length := (sortL_perm l).length_eq
  refine ⟨⟨v, rfl, Kd.R_of_own (enc := Value.string) ?_ (fun _ _ => trivial), hb⟩, hb⟩
  rw [hlen, sortL_names]
  have : encs Value.string ((sortedNames l).map (fun s : List UInt8 => (⟨s.toArray⟩ : ByteArray))) = (sortedNames l).map encStr := by
    unfold encs
    rw [List.map_map]
    all_goals rfl
  rw [this]
  exact hr
section
variable {W0 wr w' : World} {sb rb c : Nat} {st rt : Fs} {F : List (Nat × Obj)}
theorem Both.pCreate (h : Both W0 sb rb c st rt F wr) (u n : ByteArray) (kind perm : Int) : Calls Tryz.prog 16 #[.pointer (some ⟨sb, 0, none⟩), .string u, .string n, .int .i64 kind, .int .i64 perm] wr fun e w' => e = .returned (.int .i64 (mCreate st u n kind perm).1) ∧ Both W0 sb rb c (mCreate st u n kind perm).2 rt F w' ∧ Apart W0 wr w' F :=
  h.prog (Nat.le_refl c) (fun h => inv_Create h u n kind perm) (fun ok L hR hst hI => (S_Create hR hst hI.S u n kind perm).mono (fun e w' h => ⟨h.1, _, h⟩))
theorem Both.rCreate (h : Both W0 sb rb c st rt F wr) (hc : c ≤ 1000) (u n : ByteArray) (kind perm : Int) : Calls Tryz.prog 17 #[.pointer (some ⟨rb, 0, none⟩), .string u, .string n, .int .i64 kind, .int .i64 perm] wr fun e w' => e = .returned (.int .i64 (mCreate rt u n kind perm).1) ∧ Both W0 sb rb c st (mCreate rt u n kind perm).2 F w' ∧ Apart W0 wr w' F :=
  h.ref (Nat.le_refl c) hc (fun h => inv_Create h u n kind perm) (fun h => x_Create h u n kind perm) (fun ok A k hR hI => (rCreate_c rb k ok rt A u n kind perm wr hR hI).mono (fun e w' h => ⟨h.1, _, h⟩))
theorem Both.pDelete (h : Both W0 sb rb c st rt F wr) (u n : ByteArray)  : Calls Tryz.prog 18 #[.pointer (some ⟨sb, 0, none⟩), .string u, .string n] wr fun e w' => e = .returned (.int .i64 (mDelete st u n ).1) ∧ Both W0 sb rb c (mDelete st u n ).2 rt F w' ∧ Apart W0 wr w' F :=
  h.prog (Nat.le_refl c) (fun h => inv_Delete h u n ) (fun ok L hR hst hI => (S_Delete hR hst hI.S u n ).mono (fun e w' h => ⟨h.1, _, h⟩))
theorem Both.rDelete (h : Both W0 sb rb c st rt F wr) (hc : c ≤ 1000) (u n : ByteArray)  : Calls Tryz.prog 19 #[.pointer (some ⟨rb, 0, none⟩), .string u, .string n] wr fun e w' => e = .returned (.int .i64 (mDelete rt u n ).1) ∧ Both W0 sb rb c st (mDelete rt u n ).2 F w' ∧ Apart W0 wr w' F :=
  h.ref (Nat.le_refl c) hc (fun h => inv_Delete h u n ) (fun h => x_Delete h u n ) (fun ok A k hR hI => (rDelete_c rb k ok rt A u n  wr hR hI).mono (fun e w' h => ⟨h.1, _, h⟩))
theorem Both.pOpen (h : Both W0 sb rb c st rt F wr) (hc : c < 1000) (u n : ByteArray) (a x : Int) : Calls Tryz.prog 20 #[.pointer (some ⟨sb, 0, none⟩), .string u, .string n, .int .i64 a, .int .i64 x] wr fun e w' => e = .returned (.int .i64 (mOpen st u n a x).1) ∧ Both W0 sb rb (c + 1) (mOpen st u n a x).2 rt F w' ∧ Apart W0 wr w' F :=
  h.prog (Nat.le_succ c) (fun h => inv_Open h u n a x) (fun ok L hR hst hI => (S_Open_all hR hst hI.S (by omega) u n a x).mono (fun e w' h => ⟨h.1, _, h⟩))
theorem Both.rOpen (h : Both W0 sb rb c st rt F wr) (hc : c ≤ 1000) (u n : ByteArray) (a x : Int) : Calls Tryz.prog 21 #[.pointer (some ⟨rb, 0, none⟩), .string u, .string n, .int .i64 a, .int .i64 x] wr fun e w' => e = .returned (.int .i64 (mOpen rt u n a x).1) ∧ Both W0 sb rb (c + 1) st (mOpen rt u n a x).2 F w' ∧ Apart W0 wr w' F :=
  h.ref (Nat.le_succ c) hc (fun h => inv_Open h u n a x) (fun h => x_Open h u n a x) (fun ok A k hR hI => (rOpen_c rb k ok rt A u n a x wr hR hI).mono (fun e w' h => ⟨h.1, _, h⟩))
theorem Both.pClose (h : Both W0 sb rb c st rt F wr) (u n : ByteArray)  : Calls Tryz.prog 22 #[.pointer (some ⟨sb, 0, none⟩), .string u, .string n] wr fun e w' => e = .returned (.int .i64 (mClose st u n ).1) ∧ Both W0 sb rb c (mClose st u n ).2 rt F w' ∧ Apart W0 wr w' F :=
  h.prog (Nat.le_refl c) (fun h => inv_Close h u n ) (fun ok L hR hst hI => (S_Close hR hst hI.S u n ).mono (fun e w' h => ⟨h.1, _, h⟩))
theorem Both.rClose (h : Both W0 sb rb c st rt F wr) (hc : c ≤ 1000) (u n : ByteArray)  : Calls Tryz.prog 23 #[.pointer (some ⟨rb, 0, none⟩), .string u, .string n] wr fun e w' => e = .returned (.int .i64 (mClose rt u n ).1) ∧ Both W0 sb rb c st (mClose rt u n ).2 F w' ∧ Apart W0 wr w' F :=
  h.ref (Nat.le_refl c) hc (fun h => inv_Close h u n ) (fun h => x_Close h u n ) (fun ok A k hR hI => (rClose_c rb k ok rt A u n wr hR hI.users).mono (fun e w' h => ⟨h.1, _, h⟩))
theorem Both.pReplace (h : Both W0 sb rb c st rt F wr) (u n : ByteArray) (at_ : Int) (d : ByteArray) : Calls Tryz.prog 32 #[.pointer (some ⟨sb, 0, none⟩), .string u, .string n, .int .i64 at_, .string d] wr fun e w' => e = .returned (.int .i64 (mReplace st u n at_ d).1) ∧ Both W0 sb rb c (mReplace st u n at_ d).2 rt F w' ∧ Apart W0 wr w' F :=
  h.prog (Nat.le_refl c) (fun h => inv_Replace h u n at_ d) (fun ok L hR hst hI => (S_Replace hR hst hI.S u n at_ d).mono (fun e w' h => ⟨h.1, _, h⟩))
theorem Both.rReplace (h : Both W0 sb rb c st rt F wr) (hc : c ≤ 1000) (u n : ByteArray) (at_ : Int) (d : ByteArray) : Calls Tryz.prog 33 #[.pointer (some ⟨rb, 0, none⟩), .string u, .string n, .int .i64 at_, .string d] wr fun e w' => e = .returned (.int .i64 (mReplace rt u n at_ d).1) ∧ Both W0 sb rb c st (mReplace rt u n at_ d).2 F w' ∧ Apart W0 wr w' F :=
  h.ref (Nat.le_refl c) hc (fun h => inv_Replace h u n at_ d) (fun h => x_Replace h u n at_ d) (fun ok A k hR hI => (rReplace_c rb k ok rt A u n at_ d wr hR hI).mono (fun e w' h => ⟨h.1, _, h⟩))
theorem Both.pExtend (h : Both W0 sb rb c st rt F wr) (u n : ByteArray) (at_ : Int) (d : ByteArray) : Calls Tryz.prog 34 #[.pointer (some ⟨sb, 0, none⟩), .string u, .string n, .int .i64 at_, .string d] wr fun e w' => e = .returned (.int .i64 (mExtend st u n at_ d).1) ∧ Both W0 sb rb c (mExtend st u n at_ d).2 rt F w' ∧ Apart W0 wr w' F :=
  h.prog (Nat.le_refl c) (fun h => inv_Extend h u n at_ d) (fun ok L hR hst hI => (S_Extend hR hst hI.S u n at_ d).mono (fun e w' h => ⟨h.1, _, h⟩))
theorem Both.rExtend (h : Both W0 sb rb c st rt F wr) (hc : c ≤ 1000) (u n : ByteArray) (at_ : Int) (d : ByteArray) : Calls Tryz.prog 35 #[.pointer (some ⟨rb, 0, none⟩), .string u, .string n, .int .i64 at_, .string d] wr fun e w' => e = .returned (.int .i64 (mExtend rt u n at_ d).1) ∧ Both W0 sb rb c st (mExtend rt u n at_ d).2 F w' ∧ Apart W0 wr w' F :=
  h.ref (Nat.le_refl c) hc (fun h => inv_Extend h u n at_ d) (fun h => x_Extend h u n at_ d) (fun ok A k hR hI => (rExtend_c rb k ok rt A u n at_ d wr hR hI).mono (fun e w' h => ⟨h.1, _, h⟩))
theorem Both.pErase (h : Both W0 sb rb c st rt F wr) (u n : ByteArray) (at_ : Int) : Calls Tryz.prog 36 #[.pointer (some ⟨sb, 0, none⟩), .string u, .string n, .int .i64 at_] wr fun e w' => e = .returned (.int .i64 (mErase st u n at_).1) ∧ Both W0 sb rb c (mErase st u n at_).2 rt F w' ∧ Apart W0 wr w' F :=
  h.prog (Nat.le_refl c) (fun h => inv_Erase h u n at_) (fun ok L hR hst hI => (S_Erase hR hst hI.S u n at_).mono (fun e w' h => ⟨h.1, _, h⟩))
theorem Both.rErase (h : Both W0 sb rb c st rt F wr) (hc : c ≤ 1000) (u n : ByteArray) (at_ : Int) : Calls Tryz.prog 37 #[.pointer (some ⟨rb, 0, none⟩), .string u, .string n, .int .i64 at_] wr fun e w' => e = .returned (.int .i64 (mErase rt u n at_).1) ∧ Both W0 sb rb c st (mErase rt u n at_).2 F w' ∧ Apart W0 wr w' F :=
  h.ref (Nat.le_refl c) hc (fun h => inv_Erase h u n at_) (fun h => x_Erase h u n at_) (fun ok A k hR hI => (rErase_c rb k ok rt A u n at_ wr hR hI).mono (fun e w' h => ⟨h.1, _, h⟩))
theorem Both.pInsert (h : Both W0 sb rb c st rt F wr) (u n : ByteArray) (at_ : Int) (child : Bool) (a b : ByteArray) (lev0 : Int) : Calls Tryz.prog 30 #[.pointer (some ⟨sb, 0, none⟩), .string u, .string n, .int .i64 at_, .bool child, .agg #[.string a, .string b, .int .i64 lev0]] wr fun e w' => e = .returned (.int .i64 (mInsert st u n at_ child a b).1) ∧ Both W0 sb rb c (mInsert st u n at_ child a b).2 rt F w' ∧ Apart W0 wr w' F :=
  h.prog (Nat.le_refl c) (fun h => inv_Insert h u n at_ child a b) (fun ok L hR hst hI => (S_Insert hR hst hI.S u n at_ child a b lev0).mono (fun e w' h => ⟨h.1, _, h⟩))
theorem Both.rInsert (h : Both W0 sb rb c st rt F wr) (hc : c ≤ 1000) (u n : ByteArray) (at_ : Int) (child : Bool) (a b : ByteArray) (lev0 : Int) : Calls Tryz.prog 31 #[.pointer (some ⟨rb, 0, none⟩), .string u, .string n, .int .i64 at_, .bool child, .agg #[.string a, .string b, .int .i64 lev0]] wr fun e w' => e = .returned (.int .i64 (mInsert rt u n at_ child a b).1) ∧ Both W0 sb rb c st (mInsert rt u n at_ child a b).2 F w' ∧ Apart W0 wr w' F :=
  h.ref (Nat.le_refl c) hc (fun h => inv_Insert h u n at_ child a b) (fun h => x_Insert h u n at_ child a b) (fun ok A k hR hI => (rInsert_c rb k ok rt A u n at_ child a b lev0 wr hR hI).mono (fun e w' h => ⟨h.1, _, h⟩))
theorem Both.pChange (h : Both W0 sb rb c st rt F wr) (u n : ByteArray) (perm : Int) (A : Option Addr) (cc : Nat) (rules : List S100) (hr : Kd.C k100 wr A rules.length rules) (hcc : rules.length ≤ cc) : Calls Tryz.prog 42 #[.pointer (some ⟨sb, 0, none⟩), .string u, .string n, .int .i64 perm, .slice A rules.length cc] wr fun e w' => e = .returned (.int .i64 (mChange st u n perm rules).1) ∧ Both W0 sb rb c (mChange st u n perm rules).2 rt F w' ∧ Apart W0 wr w' F :=
  h.prog (Nat.le_refl c) (fun h => inv_Change h u n perm rules) (fun ok L hR hst hI => (S_Change hR hst u n perm A cc rules hr hcc).mono (fun e w' h => ⟨h.1, _, h⟩))
theorem Both.rChange (h : Both W0 sb rb c st rt F wr) (hc : c ≤ 1000) (u n : ByteArray) (perm : Int) (A : Option Addr) (cc : Nat) (rules : List S100) (B : Nat) (hr : Kd.R k129 129 wr B (fun _ => True) (.slice A rules.length cc) (rules.map toRu)) (hB : ∃ w1, Both W0 sb rb c st rt F w1 ∧ Below w1.heap.size w1 wr ∧ B = w1.heap.size) :
    Calls Tryz.prog 43 #[.pointer (some ⟨rb, 0, none⟩), .string u, .string n, .int .i64 perm, .slice A rules.length cc] wr fun e w' => e = .returned (.int .i64 (mChange rt u n perm rules).1) ∧ Both W0 sb rb c st (mChange rt u n perm rules).2 F w' ∧ Apart W0 wr w' F := by
  obtain ⟨w1, h1, hb, rfl⟩ := hB
  obtain ⟨ok, okr, L, h2⟩ := h1
  have h3 : BothP W0 sb rb c st rt F wr ok okr L := ⟨h2.P.other (Chg.of_below hb (fun _ => False)) (fun _ _ h => h), h2.hst, h2.R.below hb, h2.apart, h2.I, h2.J, h2.X, h2.low.trans (hb.mono h2.low.size), h2.okP, h2.okR, fun p hp => (hb.block _ (at_lt (h2.at_ p hp))).trans (h2.at_ p hp)⟩
  obtain ⟨A', k, hR⟩ := h3.R
  have hlt := h2.R.lt
  refine (rChange_c rb k okr rt A' u n perm A cc rules wr hR w1.heap.size hr hlt).mono ?_
  rintro e w' ⟨rfl, ok', g1, g3, g4⟩
  refine ⟨rfl, ⟨ok, ok', L, h3.P.other g3 (fun q hq hs => h3.apart q hq hs), h3.hst, g1, fun q hq hr => ?_, h3.I, inv_Change h3.J u n perm rules, x_Change h3.X u n perm rules, h3.low.trans (g3.below h3.low.size (fun q hq => (h3.okR q hq).1)), h3.okP, fun q hq => ?_, fun p hp => (g3.block _ (at_lt (h3.at_ p hp)) (fun hs => (h3.okR _ hs).2 p hp rfl)).trans (h3.at_ p hp)⟩, okr, g3, fun q hq => ⟨(h3.okR q hq).1, Nat.lt_of_lt_of_le (hlt q hq) hb.size, (h3.okR q hq).2⟩⟩
  · rcases g4 q hr with h5 | h5
    · exact h3.apart q hq h5
    · exact absurd (h3.P.lt q hq) (by omega)
  · rcases g4 q hq with h5 | h5
    · exact h3.okR q h5
    · exact ⟨Nat.le_trans h3.low.size h5, fun p hp e => by have := at_lt (h3.at_ p hp); omega⟩
theorem Both.pLocate (h : Both W0 sb rb c st rt F wr) (u n : ByteArray) (Ap : Option Addr) (cp : Nat) (path : List ByteArray) (hp : Kd.C Kd.string wr Ap path.length path) (hcp : path.length ≤ cp) : Calls Tryz.prog 24 #[.pointer (some ⟨sb, 0, none⟩), .string u, .string n, .slice Ap path.length cp] wr fun e w' => e = .returned (.tuple #[.int .i64 (mLocate st u n path).1, .int .i64 (mLocate st u n path).2]) ∧ Both W0 sb rb c st rt F w' ∧ Below wr.heap.size wr w' :=
  h.reads (fun ok okr L A k hR hst hI _ _ => Locate_c sb c ok L st u n Ap cp path wr hR hst hI.S hp hcp)
theorem Both.rLocate (h : Both W0 sb rb c st rt F wr) (hc : c ≤ 1000) (u n : ByteArray) (Ap : Option Addr) (cp : Nat) (path : List ByteArray) (hp : Kd.C Kd.string wr Ap path.length path) (hcp : path.length ≤ cp) : Calls Tryz.prog 25 #[.pointer (some ⟨rb, 0, none⟩), .string u, .string n, .slice Ap path.length cp] wr fun e w' => e = .returned (.tuple #[.int .i64 (mLocate rt u n path).1, .int .i64 (mLocate rt u n path).2]) ∧ Both W0 sb rb c st rt F w' ∧ Below wr.heap.size wr w' :=
  h.reads (fun ok okr L A k _ _ _ hR hI => rLocate_c rb k okr rt A u n Ap cp path wr hR (hI hc) hp hcp)
theorem Both.pInfo (h : Both W0 sb rb c st rt F wr) (u n : ByteArray) (gr : Int) : Calls Tryz.prog 38 #[.pointer (some ⟨sb, 0, none⟩), .string u, .string n, .int .i64 gr] wr fun e w' => (∃ v, e = .returned (.tuple #[infoV (mInfo st u n gr).1.1 v, .int .i64 (mInfo st u n gr).2]) ∧ Kd.R k100 100 w' wr.heap.size (fun _ => True) v (mInfo st u n gr).1.2) ∧ Both W0 sb rb c st rt F w' ∧ Below wr.heap.size wr w' :=
  h.reads (fun ok okr L A k hR hst hI _ _ => (S_Info hR hst hI u n gr).mono (fun e w' h => by
    obtain ⟨v, h1, h2, h3⟩ := h
    exact ⟨⟨v, h1, h3⟩, h2⟩))
theorem Both.rInfo (h : Both W0 sb rb c st rt F wr) (hc : c ≤ 1000) (u n : ByteArray) (gr : Int) : Calls Tryz.prog 39 #[.pointer (some ⟨rb, 0, none⟩), .string u, .string n, .int .i64 gr] wr fun e w' => (∃ v, e = .returned (.tuple #[infoV (mInfo rt u n gr).1.1 v, .int .i64 (mInfo rt u n gr).2]) ∧ Kd.R k129 129 w' wr.heap.size (fun _ => True) v ((mInfo rt u n gr).1.2.map toRu)) ∧ Both W0 sb rb c st rt F w' ∧ Below wr.heap.size wr w' :=
  h.reads (fun ok okr L A k _ _ _ hR hI => (rInfo_c rb k okr rt A u n gr wr hR (hI hc)).mono (fun e w' h => by
    obtain ⟨v, h1, h2, h3⟩ := h
    exact ⟨⟨v, h1, h3⟩, h2⟩))
theorem Both.pNames (h : Both W0 sb rb c st rt F wr) : Calls Tryz.prog 9 #[.pointer (some ⟨sb, 0, none⟩)] wr fun e w' => RWords wr (st.map (·.F.name)) e w' ∧ Both W0 sb rb c st rt F w' ∧ Below wr.heap.size wr w' :=
  h.reads (fun ok okr L A k hR hst hI _ _ => (S_Names hR hst hI.S).mono (fun e w' h => h.rwords))
theorem Both.rNames (h : Both W0 sb rb c st rt F wr) : Calls Tryz.prog 10 #[.pointer (some ⟨rb, 0, none⟩)] wr fun e w' => RWords wr (rt.map (·.F.name)) e w' ∧ Both W0 sb rb c st rt F w' ∧ Below wr.heap.size wr w' := by
  have H := h
  obtain ⟨ok, okr, L, h⟩ := h
  obtain ⟨A, k, hR⟩ := h.R
  refine (rNames_c rb k okr rt A wr hR h.J.count).mono ?_
  rintro e w' hQ
  have hQ' := hQ
  obtain ⟨v, h1, h2, hb⟩ := hQ
  exact ⟨hQ', H.below hb, hb⟩
def usersL_ (st : Fs) (n : ByteArray) : List ByteArray := match posF st n with | none => [] | some p => p.2.users.map (·.1)
theorem Both.pUsers (h : Both W0 sb rb c st rt F wr) (hc : c < 1000) (n : ByteArray) (hn : n.size ≤ 140737488355328) : Calls Tryz.prog 11 #[.pointer (some ⟨sb, 0, none⟩), .string n] wr fun e w' => RWords wr (usersL_ st n) e w' ∧ Both W0 sb rb c st rt F w' ∧ Below wr.heap.size wr w' :=
  h.reads (fun ok okr L A k hR hst hI _ _ => (S_Users hR hst hI.S hc n hn).mono (fun e w' h => h.rwords))
theorem Both.rUsers (h : Both W0 sb rb c st rt F wr) (hc : c ≤ 1000) (n : ByteArray) : Calls Tryz.prog 12 #[.pointer (some ⟨rb, 0, none⟩), .string n] wr fun e w' => RWords wr (usersL_ rt n) e w' ∧ Both W0 sb rb c st rt F w' ∧ Below wr.heap.size wr w' :=
  h.reads (fun ok okr L A k _ _ _ hR hI => (rUsers_c rb k okr rt A n wr hR (fun f hf => ((hI hc).users f hf).1)).mono (fun e w' h => ⟨h, by obtain ⟨_, _, _, hb⟩ := h; exact hb⟩))
end
end Go.Proofs.YtehlmkgldcfciaaGreat.Files
/- The law's same: acts of one call each. -/
set_option linter.unusedVariables false
set_option linter.unusedSimpArgs false
namespace Go.Proofs.YtehlmkgldcfciaaGreat.Files
open Go.Proofs.YtehlmkgldcfciaaGreat.Common Go.Maps Go.ChangeMaps Go.WideMaps Go.Proofs.YtehlmkgldcfciaaGreat.F
open Go.RowKit Go.Proofs.YtehlmkgldcfciaaGreatW.PrintWords Go.Proofs.YtehlmkgldcfciaaGreatW.PrintLast Go.Proofs.YtehlmkgldcfciaaGreatW.PrintMore
def SameOut (W0 : World) (sb rb c : Nat) (eq : Prop) (st' rt' : Fs) (e : Ending) (w' : World) : Prop := ∃ b : Bool, e = .returned (.bool b) ∧ (eq → b = true) ∧ Both W0 sb rb c st' rt' [] w'
theorem act_at {w : World} {ab : Nat} {d A B s2 : Int} {u n s0 s1 : ByteArray} {fl : Bool} {pv rv : Value} (hx : w.heap[ab]? = some (.cells #[.int .i64 d, .int .i64 A, .int .i64 B, .string u, .string n, .bool fl, .string s0, .string s1, .int .i64 s2, pv, rv] 33 (0, 0))) :
    w.cell? ⟨ab, 0, none⟩ = some (.int .i64 d) ∧ w.cell? ⟨ab, 1, none⟩ = some (.int .i64 A) ∧ w.cell? ⟨ab, 2, none⟩ = some (.int .i64 B) ∧ w.cell? ⟨ab, 3, none⟩ = some (.string u) ∧ w.cell? ⟨ab, 4, none⟩ = some (.string n) ∧ w.cell? ⟨ab, 5, none⟩ = some (.bool fl) ∧ w.cell? ⟨ab, 6, none⟩ = some (.string s0) ∧ w.cell? ⟨ab, 7, none⟩ = some (.string s1) ∧ w.cell? ⟨ab, 8, none⟩ = some (.int .i64 s2) ∧ w.cell? ⟨ab, 9, none⟩ = some (pv) ∧ w.cell? ⟨ab, 10, none⟩ = some (rv) := ⟨blk_cell hx 0, blk_cell hx 1, blk_cell hx 2, blk_cell hx 3, blk_cell hx 4, blk_cell hx 5, blk_cell hx 6, blk_cell hx 7, blk_cell hx 8, blk_cell hx 9, blk_cell hx 10⟩
theorem act_cells {W0 w : World} {sb rb c ab : Nat} {st rt : Fs} {F : List (Nat × Obj)} {d A B s2 : Int} {u n s0 s1 : ByteArray} {fl : Bool} {pv rv : Value} (h : Both W0 sb rb c st rt ((ab, .cells #[.int .i64 d, .int .i64 A, .int .i64 B, .string u, .string n, .bool fl, .string s0, .string s1, .int .i64 s2, pv, rv] 33) :: F) w) :
    w.cell? ⟨ab, 0, none⟩ = some (.int .i64 d) ∧ w.cell? ⟨ab, 1, none⟩ = some (.int .i64 A) ∧ w.cell? ⟨ab, 2, none⟩ = some (.int .i64 B) ∧ w.cell? ⟨ab, 3, none⟩ = some (.string u) ∧ w.cell? ⟨ab, 4, none⟩ = some (.string n) ∧ w.cell? ⟨ab, 5, none⟩ = some (.bool fl) ∧ w.cell? ⟨ab, 6, none⟩ = some (.string s0) ∧ w.cell? ⟨ab, 7, none⟩ = some (.string s1) ∧ w.cell? ⟨ab, 8, none⟩ = some (.int .i64 s2) ∧ w.cell? ⟨ab, 9, none⟩ = some (pv) ∧ w.cell? ⟨ab, 10, none⟩ = some (rv) := act_at (h.at_ _ List.mem_cons_self)
set_option maxRecDepth 100000 in
set_option maxHeartbeats 4000000 in
theorem same0 (W0 W : World) (sb rb c : Nat) (st rt : Fs) (A B : Int) (u n : ByteArray) (fl : Bool) (s0 s1 : ByteArray) (s2 : Int) (pv rv : Value) (h : Both W0 sb rb c st rt [] W) (hc : c < 1000) :
    Calls Tryz.prog 7 #[.pointer (some ⟨sb, 0, none⟩), .pointer (some ⟨rb, 0, none⟩), .agg #[.int .i64 0, .int .i64 A, .int .i64 B, .string u, .string n, .bool fl, .string s0, .string s1, .int .i64 s2, pv, rv]] W (SameOut W0 sb rb (c + 2) (st = rt) (mCreate st u n A B).2 (mCreate rt u n A B).2) := by
  have HB := Aside0.mk (h.box (.cells #[.int .i64 0, .int .i64 A, .int .i64 B, .string u, .string n, .bool fl, .string s0, .string s1, .int .i64 s2, pv, rv] 33) (heap_alloc_new W _))
  clear h
  go_enter Tryz.func7, Tryz.ntmps7
  go_wp2_with fail
  generalize W.alloc (.cells #[.int .i64 0, .int .i64 A, .int .i64 B, .string u, .string n, .bool fl, .string s0, .string s1, .int .i64 s2, pv, rv] 33) = w1 at HB ⊢
  generalize W.heap.size = ab at HB ⊢
  obtain ⟨-, x1, x2, x3, x4, -, -, -, -, -, -⟩ := act_cells HB.out
  go_region_held3 (fun w' => w'.cell? ⟨ab, 1, none⟩ = some (.int .i64 A) ∧ w'.cell? ⟨ab, 2, none⟩ = some (.int .i64 B) ∧ w'.cell? ⟨ab, 3, none⟩ = some (.string u) ∧ w'.cell? ⟨ab, 4, none⟩ = some (.string n)) (go_keep)
    (first
      | (go_at_call 16; refine (HB.out.drew.pCreate u n A B).mono ?_; rintro e w5 ⟨rfl, h5, -⟩; have HB5 := Aside0.mk h5; obtain ⟨-, y1, y2, y3, y4, -, -, -, -, -, -⟩ := act_cells h5; clear h5)
      | (go_at_call 17; refine (HB5.out.rCreate (by omega) u n A B).mono ?_; rintro e w6 ⟨rfl, h6, -⟩; have HB6 := Aside0.mk h6; obtain ⟨-, z1, z2, z3, z4, -, -, -, -, -, -⟩ := act_cells h6; clear h6))
  go_wp2
  refine bodyPost_ret (v := .bool ((mCreate st u n A B).1 == (mCreate rt u n A B).1)) (by simp [results, Tryz.f7, go_sem]) rfl ?_
  exact ⟨_, rfl, fun e => by rw [e]; simp, HB6.out.drop.mono (by omega)⟩
set_option maxRecDepth 100000 in
set_option maxHeartbeats 4000000 in
theorem same1 (W0 W : World) (sb rb c : Nat) (st rt : Fs) (A B : Int) (u n : ByteArray) (fl : Bool) (s0 s1 : ByteArray) (s2 : Int) (pv rv : Value) (h : Both W0 sb rb c st rt [] W) (hc : c < 1000) :
    Calls Tryz.prog 7 #[.pointer (some ⟨sb, 0, none⟩), .pointer (some ⟨rb, 0, none⟩), .agg #[.int .i64 1, .int .i64 A, .int .i64 B, .string u, .string n, .bool fl, .string s0, .string s1, .int .i64 s2, pv, rv]] W (SameOut W0 sb rb (c + 2) (st = rt) (mDelete st u n ).2 (mDelete rt u n ).2) := by
  have HB := Aside0.mk (h.box (.cells #[.int .i64 1, .int .i64 A, .int .i64 B, .string u, .string n, .bool fl, .string s0, .string s1, .int .i64 s2, pv, rv] 33) (heap_alloc_new W _))
  clear h
  go_enter Tryz.func7, Tryz.ntmps7
  go_wp2_with fail
  generalize W.alloc (.cells #[.int .i64 1, .int .i64 A, .int .i64 B, .string u, .string n, .bool fl, .string s0, .string s1, .int .i64 s2, pv, rv] 33) = w1 at HB ⊢
  generalize W.heap.size = ab at HB ⊢
  obtain ⟨-, -, -, x3, x4, -, -, -, -, -, -⟩ := act_cells HB.out
  go_region_held3 (fun w' => w'.cell? ⟨ab, 3, none⟩ = some (.string u) ∧ w'.cell? ⟨ab, 4, none⟩ = some (.string n)) (go_keep)
    (first
      | (go_at_call 18; refine (HB.out.drew.pDelete u n ).mono ?_; rintro e w5 ⟨rfl, h5, -⟩; have HB5 := Aside0.mk h5; obtain ⟨-, -, -, y3, y4, -, -, -, -, -, -⟩ := act_cells h5; clear h5)
      | (go_at_call 19; refine (HB5.out.rDelete (by omega) u n ).mono ?_; rintro e w6 ⟨rfl, h6, -⟩; have HB6 := Aside0.mk h6; obtain ⟨-, -, -, z3, z4, -, -, -, -, -, -⟩ := act_cells h6; clear h6))
  go_wp2
  refine bodyPost_ret (v := .bool ((mDelete st u n ).1 == (mDelete rt u n ).1)) (by simp [results, Tryz.f7, go_sem]) rfl ?_
  exact ⟨_, rfl, fun e => by rw [e]; simp, HB6.out.drop.mono (by omega)⟩
set_option maxRecDepth 100000 in
set_option maxHeartbeats 4000000 in
theorem same2 (W0 W : World) (sb rb c : Nat) (st rt : Fs) (A B : Int) (u n : ByteArray) (fl : Bool) (s0 s1 : ByteArray) (s2 : Int) (pv rv : Value) (h : Both W0 sb rb c st rt [] W) (hc : c < 1000) :
    Calls Tryz.prog 7 #[.pointer (some ⟨sb, 0, none⟩), .pointer (some ⟨rb, 0, none⟩), .agg #[.int .i64 2, .int .i64 A, .int .i64 B, .string u, .string n, .bool fl, .string s0, .string s1, .int .i64 s2, pv, rv]] W (SameOut W0 sb rb (c + 2) (st = rt) (mOpen st u n A B).2 (mOpen rt u n A B).2) := by
  have HB := Aside0.mk (h.box (.cells #[.int .i64 2, .int .i64 A, .int .i64 B, .string u, .string n, .bool fl, .string s0, .string s1, .int .i64 s2, pv, rv] 33) (heap_alloc_new W _))
  clear h
  go_enter Tryz.func7, Tryz.ntmps7
  go_wp2_with fail
  generalize W.alloc (.cells #[.int .i64 2, .int .i64 A, .int .i64 B, .string u, .string n, .bool fl, .string s0, .string s1, .int .i64 s2, pv, rv] 33) = w1 at HB ⊢
  generalize W.heap.size = ab at HB ⊢
  obtain ⟨-, x1, x2, x3, x4, -, -, -, -, -, -⟩ := act_cells HB.out
  go_region_held3 (fun w' => w'.cell? ⟨ab, 1, none⟩ = some (.int .i64 A) ∧ w'.cell? ⟨ab, 2, none⟩ = some (.int .i64 B) ∧ w'.cell? ⟨ab, 3, none⟩ = some (.string u) ∧ w'.cell? ⟨ab, 4, none⟩ = some (.string n)) (go_keep)
    (first
      | (go_at_call 20; refine (HB.out.drew.pOpen (by omega) u n A B).mono ?_; rintro e w5 ⟨rfl, h5, -⟩; have HB5 := Aside0.mk h5; obtain ⟨-, y1, y2, y3, y4, -, -, -, -, -, -⟩ := act_cells h5; clear h5)
      | (go_at_call 21; refine (HB5.out.rOpen (by omega) u n A B).mono ?_; rintro e w6 ⟨rfl, h6, -⟩; have HB6 := Aside0.mk h6; obtain ⟨-, z1, z2, z3, z4, -, -, -, -, -, -⟩ := act_cells h6; clear h6))
  go_wp2
  refine bodyPost_ret (v := .bool ((mOpen st u n A B).1 == (mOpen rt u n A B).1)) (by simp [results, Tryz.f7, go_sem]) rfl ?_
  exact ⟨_, rfl, fun e => by rw [e]; simp, HB6.out.drop.mono (by omega)⟩
set_option maxRecDepth 100000 in
set_option maxHeartbeats 4000000 in
theorem same3 (W0 W : World) (sb rb c : Nat) (st rt : Fs) (A B : Int) (u n : ByteArray) (fl : Bool) (s0 s1 : ByteArray) (s2 : Int) (pv rv : Value) (h : Both W0 sb rb c st rt [] W) (hc : c < 1000) :
    Calls Tryz.prog 7 #[.pointer (some ⟨sb, 0, none⟩), .pointer (some ⟨rb, 0, none⟩), .agg #[.int .i64 3, .int .i64 A, .int .i64 B, .string u, .string n, .bool fl, .string s0, .string s1, .int .i64 s2, pv, rv]] W (SameOut W0 sb rb (c + 2) (st = rt) (mClose st u n ).2 (mClose rt u n ).2) := by
  have HB := Aside0.mk (h.box (.cells #[.int .i64 3, .int .i64 A, .int .i64 B, .string u, .string n, .bool fl, .string s0, .string s1, .int .i64 s2, pv, rv] 33) (heap_alloc_new W _))
  clear h
  go_enter Tryz.func7, Tryz.ntmps7
  go_wp2_with fail
  generalize W.alloc (.cells #[.int .i64 3, .int .i64 A, .int .i64 B, .string u, .string n, .bool fl, .string s0, .string s1, .int .i64 s2, pv, rv] 33) = w1 at HB ⊢
  generalize W.heap.size = ab at HB ⊢
  obtain ⟨-, -, -, x3, x4, -, -, -, -, -, -⟩ := act_cells HB.out
  go_region_held3 (fun w' => w'.cell? ⟨ab, 3, none⟩ = some (.string u) ∧ w'.cell? ⟨ab, 4, none⟩ = some (.string n)) (go_keep)
    (first
      | (go_at_call 22; refine (HB.out.drew.pClose u n ).mono ?_; rintro e w5 ⟨rfl, h5, -⟩; have HB5 := Aside0.mk h5; obtain ⟨-, -, -, y3, y4, -, -, -, -, -, -⟩ := act_cells h5; clear h5)
      | (go_at_call 23; refine (HB5.out.rClose (by omega) u n ).mono ?_; rintro e w6 ⟨rfl, h6, -⟩; have HB6 := Aside0.mk h6; obtain ⟨-, -, -, z3, z4, -, -, -, -, -, -⟩ := act_cells h6; clear h6))
  go_wp2
  refine bodyPost_ret (v := .bool ((mClose st u n ).1 == (mClose rt u n ).1)) (by simp [results, Tryz.f7, go_sem]) rfl ?_
  exact ⟨_, rfl, fun e => by rw [e]; simp, HB6.out.drop.mono (by omega)⟩
set_option maxRecDepth 100000 in
set_option maxHeartbeats 4000000 in
theorem same7 (W0 W : World) (sb rb c : Nat) (st rt : Fs) (A B : Int) (u n : ByteArray) (fl : Bool) (s0 s1 : ByteArray) (s2 : Int) (pv rv : Value) (h : Both W0 sb rb c st rt [] W) (hc : c < 1000) :
    Calls Tryz.prog 7 #[.pointer (some ⟨sb, 0, none⟩), .pointer (some ⟨rb, 0, none⟩), .agg #[.int .i64 7, .int .i64 A, .int .i64 B, .string u, .string n, .bool fl, .string s0, .string s1, .int .i64 s2, pv, rv]] W (SameOut W0 sb rb (c + 2) (st = rt) (mReplace st u n A s1).2 (mReplace rt u n A s1).2) := by
  have HB := Aside0.mk (h.box (.cells #[.int .i64 7, .int .i64 A, .int .i64 B, .string u, .string n, .bool fl, .string s0, .string s1, .int .i64 s2, pv, rv] 33) (heap_alloc_new W _))
  clear h
  go_enter Tryz.func7, Tryz.ntmps7
  go_wp2_with fail
  generalize W.alloc (.cells #[.int .i64 7, .int .i64 A, .int .i64 B, .string u, .string n, .bool fl, .string s0, .string s1, .int .i64 s2, pv, rv] 33) = w1 at HB ⊢
  generalize W.heap.size = ab at HB ⊢
  obtain ⟨-, x1, -, x3, x4, -, -, x7, -, -, -⟩ := act_cells HB.out
  go_region_held3 (fun w' => w'.cell? ⟨ab, 1, none⟩ = some (.int .i64 A) ∧ w'.cell? ⟨ab, 3, none⟩ = some (.string u) ∧ w'.cell? ⟨ab, 4, none⟩ = some (.string n) ∧ w'.cell? ⟨ab, 7, none⟩ = some (.string s1)) (go_keep)
    (first
      | (go_at_call 32; refine (HB.out.drew.pReplace u n A s1).mono ?_; rintro e w5 ⟨rfl, h5, -⟩; have HB5 := Aside0.mk h5; obtain ⟨-, y1, -, y3, y4, -, -, y7, -, -, -⟩ := act_cells h5; clear h5)
      | (go_at_call 33; refine (HB5.out.rReplace (by omega) u n A s1).mono ?_; rintro e w6 ⟨rfl, h6, -⟩; have HB6 := Aside0.mk h6; obtain ⟨-, z1, -, z3, z4, -, -, z7, -, -, -⟩ := act_cells h6; clear h6))
  go_wp2
  refine bodyPost_ret (v := .bool ((mReplace st u n A s1).1 == (mReplace rt u n A s1).1)) (by simp [results, Tryz.f7, go_sem]) rfl ?_
  exact ⟨_, rfl, fun e => by rw [e]; simp, HB6.out.drop.mono (by omega)⟩
set_option maxRecDepth 100000 in
set_option maxHeartbeats 4000000 in
theorem same8 (W0 W : World) (sb rb c : Nat) (st rt : Fs) (A B : Int) (u n : ByteArray) (fl : Bool) (s0 s1 : ByteArray) (s2 : Int) (pv rv : Value) (h : Both W0 sb rb c st rt [] W) (hc : c < 1000) :
    Calls Tryz.prog 7 #[.pointer (some ⟨sb, 0, none⟩), .pointer (some ⟨rb, 0, none⟩), .agg #[.int .i64 8, .int .i64 A, .int .i64 B, .string u, .string n, .bool fl, .string s0, .string s1, .int .i64 s2, pv, rv]] W (SameOut W0 sb rb (c + 2) (st = rt) (mExtend st u n A s1).2 (mExtend rt u n A s1).2) := by
  have HB := Aside0.mk (h.box (.cells #[.int .i64 8, .int .i64 A, .int .i64 B, .string u, .string n, .bool fl, .string s0, .string s1, .int .i64 s2, pv, rv] 33) (heap_alloc_new W _))
  clear h
  go_enter Tryz.func7, Tryz.ntmps7
  go_wp2_with fail
  generalize W.alloc (.cells #[.int .i64 8, .int .i64 A, .int .i64 B, .string u, .string n, .bool fl, .string s0, .string s1, .int .i64 s2, pv, rv] 33) = w1 at HB ⊢
  generalize W.heap.size = ab at HB ⊢
  obtain ⟨-, x1, -, x3, x4, -, -, x7, -, -, -⟩ := act_cells HB.out
  go_region_held3 (fun w' => w'.cell? ⟨ab, 1, none⟩ = some (.int .i64 A) ∧ w'.cell? ⟨ab, 3, none⟩ = some (.string u) ∧ w'.cell? ⟨ab, 4, none⟩ = some (.string n) ∧ w'.cell? ⟨ab, 7, none⟩ = some (.string s1)) (go_keep)
    (first
      | (go_at_call 34; refine (HB.out.drew.pExtend u n A s1).mono ?_; rintro e w5 ⟨rfl, h5, -⟩; have HB5 := Aside0.mk h5; obtain ⟨-, y1, -, y3, y4, -, -, y7, -, -, -⟩ := act_cells h5; clear h5)
      | (go_at_call 35; refine (HB5.out.rExtend (by omega) u n A s1).mono ?_; rintro e w6 ⟨rfl, h6, -⟩; have HB6 := Aside0.mk h6; obtain ⟨-, z1, -, z3, z4, -, -, z7, -, -, -⟩ := act_cells h6; clear h6))
  go_wp2
  refine bodyPost_ret (v := .bool ((mExtend st u n A s1).1 == (mExtend rt u n A s1).1)) (by simp [results, Tryz.f7, go_sem]) rfl ?_
  exact ⟨_, rfl, fun e => by rw [e]; simp, HB6.out.drop.mono (by omega)⟩
set_option maxRecDepth 100000 in
set_option maxHeartbeats 4000000 in
theorem same9 (W0 W : World) (sb rb c : Nat) (st rt : Fs) (A B : Int) (u n : ByteArray) (fl : Bool) (s0 s1 : ByteArray) (s2 : Int) (pv rv : Value) (h : Both W0 sb rb c st rt [] W) (hc : c < 1000) :
    Calls Tryz.prog 7 #[.pointer (some ⟨sb, 0, none⟩), .pointer (some ⟨rb, 0, none⟩), .agg #[.int .i64 9, .int .i64 A, .int .i64 B, .string u, .string n, .bool fl, .string s0, .string s1, .int .i64 s2, pv, rv]] W (SameOut W0 sb rb (c + 2) (st = rt) (mErase st u n A).2 (mErase rt u n A).2) := by
  have HB := Aside0.mk (h.box (.cells #[.int .i64 9, .int .i64 A, .int .i64 B, .string u, .string n, .bool fl, .string s0, .string s1, .int .i64 s2, pv, rv] 33) (heap_alloc_new W _))
  clear h
  go_enter Tryz.func7, Tryz.ntmps7
  go_wp2_with fail
  generalize W.alloc (.cells #[.int .i64 9, .int .i64 A, .int .i64 B, .string u, .string n, .bool fl, .string s0, .string s1, .int .i64 s2, pv, rv] 33) = w1 at HB ⊢
  generalize W.heap.size = ab at HB ⊢
  obtain ⟨-, x1, -, x3, x4, -, -, -, -, -, -⟩ := act_cells HB.out
  go_region_held3 (fun w' => w'.cell? ⟨ab, 1, none⟩ = some (.int .i64 A) ∧ w'.cell? ⟨ab, 3, none⟩ = some (.string u) ∧ w'.cell? ⟨ab, 4, none⟩ = some (.string n)) (go_keep)
    (first
      | (go_at_call 36; refine (HB.out.drew.pErase u n A).mono ?_; rintro e w5 ⟨rfl, h5, -⟩; have HB5 := Aside0.mk h5; obtain ⟨-, y1, -, y3, y4, -, -, -, -, -, -⟩ := act_cells h5; clear h5)
      | (go_at_call 37; refine (HB5.out.rErase (by omega) u n A).mono ?_; rintro e w6 ⟨rfl, h6, -⟩; have HB6 := Aside0.mk h6; obtain ⟨-, z1, -, z3, z4, -, -, -, -, -, -⟩ := act_cells h6; clear h6))
  go_wp2
  refine bodyPost_ret (v := .bool ((mErase st u n A).1 == (mErase rt u n A).1)) (by simp [results, Tryz.f7, go_sem]) rfl ?_
  exact ⟨_, rfl, fun e => by rw [e]; simp, HB6.out.drop.mono (by omega)⟩
end Go.Proofs.YtehlmkgldcfciaaGreat.Files
/- The law's same: Locate, Read, Info. -/
set_option linter.unusedVariables false
set_option linter.unusedSimpArgs false
namespace Go.Proofs.YtehlmkgldcfciaaGreat.Files
open Go.Proofs.YtehlmkgldcfciaaGreat.Common Go.Maps Go.ChangeMaps Go.WideMaps Go.Proofs.YtehlmkgldcfciaaGreat.F
open Go.RowKit Go.Proofs.YtehlmkgldcfciaaGreatW.PrintWords Go.Proofs.YtehlmkgldcfciaaGreatW.PrintLast Go.Proofs.YtehlmkgldcfciaaGreatW.PrintMore
def BothB (W0 : World) (sb rb c : Nat) (st rt : Fs) (F : List (Nat × Obj)) (wr : World) (B : Nat) : Prop := ∃ ok okr L, BothP W0 sb rb c st rt F wr ok okr L ∧ ∀ q, okr q → q < B
section
variable {W0 wr w' : World} {sb rb c B : Nat} {st rt : Fs} {F : List (Nat × Obj)}
theorem mRead_len {c : Nat} {st : Fs} (hI : TInv c st) (u n : ByteArray) (at_ : Int) (whole : Bool) : (mRead st u n at_ whole).1.length ≤ 1000 := by
  unfold mRead
  cases hf : mUnit st u n at_ 1 with
  | error E => exact Nat.zero_le _
  | ok p =>
    obtain ⟨k, f, i, dn⟩ := p
    simp only
    have := (hI.at_ (unit_at hf).1).v.len
    split
    · show (readL f.units i whole).length ≤ 1000
      unfold readL
      rw [List.length_map, List.length_drop, List.length_take]
      omega
    · exact Nat.zero_le _
theorem mInfo_len {c : Nat} {st : Fs} (hI : TInv c st) (u n : ByteArray) (gr : Int) : (mInfo st u n gr).1.2.length ≤ 10 := by
  unfold mInfo
  split
  · exact Nat.zero_le _
  cases hf : mOpened st u n 32 with
  | error E => exact Nat.zero_le _
  | ok p =>
    obtain ⟨k, f, dn⟩ := p
    simp only
    have := (hI.at_ (opened_at hf)).rules
    split
    · show (infoOf f gr).2.length ≤ 10
      unfold infoOf
      split
      · exact Nat.zero_le _
      · split
        · exact Nat.zero_le _
        · exact this
    · exact Nat.zero_le _
theorem Both.readP (h : Both W0 sb rb c st rt F wr) (u n : ByteArray) (at_ : Int) (whole : Bool) : Calls Tryz.prog 26 #[.pointer (some ⟨sb, 0, none⟩), .string u, .string n, .int .i64 at_, .bool whole] wr fun e w' =>
    ∃ A1 c1, e = .returned (.tuple #[.slice A1 (mRead st u n at_ whole).1.length c1, .int .i64 (mRead st u n at_ whole).2.1]) ∧ Kd.R k29 29 w' wr.heap.size (fun _ => True) (.slice A1 (mRead st u n at_ whole).1.length c1) (mRead st u n at_ whole).1 ∧ BothB W0 sb rb c (mRead st u n at_ whole).2.2 rt F w' wr.heap.size ∧ wr.heap.size ≤ w'.heap.size := by
  obtain ⟨ok, okr, L, h⟩ := h
  refine (S_Read h.P h.hst h.I.S u n at_ whole).mono ?_
  rintro e w' ⟨v, ⟨rfl, ok', L', h1, h2, h3, h4⟩, h5⟩
  obtain ⟨A1, c1, hv⟩ := Kd.R_slice h5
  subst hv
  refine ⟨A1, c1, rfl, h5, ⟨ok', okr, L', ⟨h1, h2, h.R.other h3 (fun q hq hs => h.apart q hs hq), fun q hq hr => ?_, inv_Read h.I u n at_ whole, h.J, h.X, h.low.trans (h3.below h.low.size (fun q hq => (h.okP q hq).1)), fun q hq => ?_, h.okR, fun p hp => (h3.block _ (at_lt (h.at_ p hp)) (fun hs => (h.okP _ hs).2 p hp rfl)).trans (h.at_ p hp)⟩, h.R.lt⟩, h3.size⟩
  · rcases h4 q hq with h5 | h5
    · exact h.apart q h5 hr
    · exact absurd (h.R.lt q hr) (by omega)
  · rcases h4 q hq with h5 | h5
    · exact h.okP q h5
    · exact ⟨Nat.le_trans h.low.size h5, fun p hp e => by have := at_lt (h.at_ p hp); omega⟩
theorem BothB.readR (h : BothB W0 sb rb c st rt F wr B) (hc : c ≤ 1000) (u n : ByteArray) (at_ : Int) (whole : Bool) : Calls Tryz.prog 27 #[.pointer (some ⟨rb, 0, none⟩), .string u, .string n, .int .i64 at_, .bool whole] wr fun e w' =>
    ∃ A1 c1, e = .returned (.tuple #[.slice A1 (mRead rt u n at_ whole).1.length c1, .int .i64 (mRead rt u n at_ whole).2.1]) ∧ Kd.R k62 62 w' wr.heap.size (fun _ => True) (.slice A1 (mRead rt u n at_ whole).1.length c1) ((mRead rt u n at_ whole).1.map toU) ∧ Both W0 sb rb c st (mRead rt u n at_ whole).2.2 F w' ∧ ∃ S : Nat → Prop, Chg wr w' S ∧ ∀ q, S q → q < B := by
  obtain ⟨ok, okr, L, h, hB⟩ := h
  obtain ⟨A, k, hR⟩ := h.R
  have hlt := h.R.lt
  refine (rRead_c rb k okr rt A u n at_ whole wr hR (RInv.of h.J h.X hc)).mono ?_
  rintro e w' ⟨v, ⟨rfl, ok', h1, h3, h4⟩, h5⟩
  obtain ⟨A1, c1, hv⟩ := Kd.R_slice h5
  rw [List.length_map] at hv
  subst hv
  refine ⟨A1, c1, rfl, h5, ⟨ok, ok', L, h.P.other h3 (fun q hq hs => h.apart q hq hs), h.hst, h1, fun q hq hr => ?_, h.I, inv_Read h.J u n at_ whole, x_Read h.X u n at_ whole, h.low.trans (h3.below h.low.size (fun q hq => (h.okR q hq).1)), h.okP, fun q hq => ?_, fun p hp => (h3.block _ (at_lt (h.at_ p hp)) (fun hs => (h.okR _ hs).2 p hp rfl)).trans (h.at_ p hp)⟩, okr, h3, hB⟩
  · rcases h4 q hr with h5 | h5
    · exact h.apart q hq h5
    · exact absurd (h.P.lt q hq) (by omega)
  · rcases h4 q hq with h5 | h5
    · exact h.okR q h5
    · exact ⟨Nat.le_trans h.low.size h5, fun p hp e => by have := at_lt (h.at_ p hp); omega⟩
theorem BothB.both (h : BothB W0 sb rb c st rt F wr B) : Both W0 sb rb c st rt F wr := by
  obtain ⟨ok, okr, L, h, _⟩ := h
  exact ⟨ok, okr, L, h⟩
theorem Both.I (h : Both W0 sb rb c st rt F wr) : TInv c st ∧ TInv c rt := by
  obtain ⟨ok, okr, L, h⟩ := h
  exact ⟨h.I, h.J⟩
end
set_option maxRecDepth 100000 in
set_option maxHeartbeats 4000000 in
theorem same4 (W0 W : World) (sb rb c : Nat) (st rt : Fs) (A B : Int) (u n : ByteArray) (fl : Bool) (s0 s1 : ByteArray) (s2 : Int) (Ap : Option Addr) (cp : Nat) (pa : List ByteArray) (rv : Value) (hp : Kd.C Kd.string W Ap pa.length pa) (hcp : pa.length ≤ cp) (h : Both W0 sb rb c st rt [] W) (hc : c < 1000) :
    Calls Tryz.prog 7 #[.pointer (some ⟨sb, 0, none⟩), .pointer (some ⟨rb, 0, none⟩), .agg #[.int .i64 4, .int .i64 A, .int .i64 B, .string u, .string n, .bool fl, .string s0, .string s1, .int .i64 s2, .slice Ap pa.length cp, rv]] W (SameOut W0 sb rb (c + 2) (st = rt) st rt) := by
  have hb1 : Below W.heap.size W (W.alloc (.cells #[.int .i64 4, .int .i64 A, .int .i64 B, .string u, .string n, .bool fl, .string s0, .string s1, .int .i64 s2, .slice Ap pa.length cp, rv] 33)) := (Below.refl _ _).alloc (Nat.le_refl _) _
  have HP1 := Aside0.mk (Kd.C_below hp hb1)
  clear hp hb1
  have HB := Aside0.mk (h.box (.cells #[.int .i64 4, .int .i64 A, .int .i64 B, .string u, .string n, .bool fl, .string s0, .string s1, .int .i64 s2, .slice Ap pa.length cp, rv] 33) (heap_alloc_new W _))
  clear h
  go_enter Tryz.func7, Tryz.ntmps7
  go_wp2_with fail
  generalize W.alloc (.cells #[.int .i64 4, .int .i64 A, .int .i64 B, .string u, .string n, .bool fl, .string s0, .string s1, .int .i64 s2, .slice Ap pa.length cp, rv] 33) = w1 at HB HP1 ⊢
  generalize W.heap.size = ab at HB ⊢
  have HEQ := Aside0.mk (fun (e : st = rt) => (by rw [e] : mLocate st u n pa = mLocate rt u n pa))
  have CP := Aside0.mk (HB.out.pLocate u n Ap cp pa HP1.out hcp)
  have CR := Aside0.mk (fun X (h : Both W0 sb rb c st rt [(ab, .cells #[.int .i64 4, .int .i64 A, .int .i64 B, .string u, .string n, .bool fl, .string s0, .string s1, .int .i64 s2, .slice Ap pa.length cp, rv] 33)] X) (hb : Below w1.heap.size w1 X) => h.rLocate (by omega) u n Ap cp pa (Kd.C_below HP1.out hb) hcp)
  obtain ⟨-, -, -, x3, x4, -, -, -, -, x9, -⟩ := act_cells HB.out
  generalize mLocate st u n pa = p1 at HEQ CP
  generalize mLocate rt u n pa = p2 at HEQ CR
  obtain ⟨n1, e1⟩ := p1
  obtain ⟨n2, e2⟩ := p2
  clear HP1 hcp
  go_wp2_with fail
  refine CP.out.mono ?_
  rintro e w5 ⟨rfl, h5, hb5⟩
  have HB5 := Aside0.mk h5
  have HBB5 := Aside0.mk hb5
  obtain ⟨-, -, -, y3, y4, -, -, -, -, y9, -⟩ := act_cells h5
  clear h5 hb5 CP
  go_wp2_with fail
  refine (CR.out w5 HB5.out HBB5.out).mono ?_
  rintro e w6 ⟨rfl, h6, hb6⟩
  have HB6 := Aside0.mk h6
  clear h6 hb6 CR
  by_cases hn : n1 = n2
  · have hn' : (n1 == n2) = true := by simpa using hn
    go_wp2
    refine bodyPost_ret (v := .bool (e1 == e2)) (by simp [results, Tryz.f7, go_sem]) rfl ?_
    exact ⟨_, rfl, fun e => by have := HEQ.out e; injection this with _ h2; rw [h2]; simp, HB6.out.drop.mono (by omega)⟩
  · have hn' : (n1 == n2) = false := by simpa using hn
    go_wp2
    refine bodyPost_ret (v := .bool false) (by simp [results, Tryz.f7, go_sem]) rfl ?_
    exact ⟨_, rfl, fun e => by have := HEQ.out e; injection this with h1 _; exact absurd h1 hn, HB6.out.drop.mono (by omega)⟩
set_option maxRecDepth 100000 in
set_option maxHeartbeats 4000000 in
theorem same5 (W0 W : World) (sb rb c : Nat) (st rt : Fs) (A B : Int) (u n : ByteArray) (fl : Bool) (s0 s1 : ByteArray) (s2 : Int) (pv rv : Value) (h : Both W0 sb rb c st rt [] W) (hc : c < 1000) :
    Calls Tryz.prog 7 #[.pointer (some ⟨sb, 0, none⟩), .pointer (some ⟨rb, 0, none⟩), .agg #[.int .i64 5, .int .i64 A, .int .i64 B, .string u, .string n, .bool fl, .string s0, .string s1, .int .i64 s2, pv, rv]] W (SameOut W0 sb rb (c + 2) (st = rt) (mRead st u n A fl).2.2 (mRead rt u n A fl).2.2) := by
  have HB := Aside0.mk (h.box (.cells #[.int .i64 5, .int .i64 A, .int .i64 B, .string u, .string n, .bool fl, .string s0, .string s1, .int .i64 s2, pv, rv] 33) (heap_alloc_new W _))
  clear h
  go_enter Tryz.func7, Tryz.ntmps7
  go_wp2_with fail
  generalize W.alloc (.cells #[.int .i64 5, .int .i64 A, .int .i64 B, .string u, .string n, .bool fl, .string s0, .string s1, .int .i64 s2, pv, rv] 33) = w1 at HB ⊢
  generalize W.heap.size = ab at HB ⊢
  obtain ⟨-, x1, -, x3, x4, x5, -, -, -, -, -⟩ := act_cells HB.out
  have HL1 := Aside0.mk (mRead_len HB.out.I.1 u n A fl)
  have CP := Aside0.mk (HB.out.readP u n A fl)
  have CR := Aside0.mk (fun X K (h : BothB W0 sb rb c (mRead st u n A fl).2.2 rt [(ab, .cells #[.int .i64 5, .int .i64 A, .int .i64 B, .string u, .string n, .bool fl, .string s0, .string s1, .int .i64 s2, pv, rv] 33)] X K) => h.readR (by omega) u n A fl)
  have HEQ := Aside0.mk (fun (e : st = rt) => (by rw [e]; exact ⟨rfl, rfl⟩ : (mRead st u n A fl).1 = (mRead rt u n A fl).1 ∧ (mRead st u n A fl).2.1 = (mRead rt u n A fl).2.1))
  generalize (mRead st u n A fl).2.1 = e1 at CP HEQ
  generalize (mRead rt u n A fl).2.1 = e2 at CR HEQ
  generalize (mRead st u n A fl).1 = l1 at CP HEQ HL1
  generalize (mRead rt u n A fl).1 = l2 at CR HEQ
  go_wp2_with fail
  refine CP.out.mono ?_
  rintro e w5 ⟨A1, c1, rfl, hr1, h5, hs5⟩
  have HB5 := Aside0.mk h5
  have HR1 := Aside0.mk hr1
  have HS5 := Aside0.mk hs5
  obtain ⟨-, y1, -, y3, y4, y5, -, -, -, -, -⟩ := act_cells h5.both
  clear h5 hr1 hs5 CP
  go_wp2_with fail
  refine (CR.out w5 _ HB5.out).mono ?_
  rintro e w6 ⟨A2, c2, rfl, hr2, h6, S, hc6, hS⟩
  have HB6 := Aside0.mk h6
  have HR2 := Aside0.mk hr2
  have HR1' := Aside0.mk (hc6.row (Kd.R_bound HR1.out) (fun q hq hs => by have h1 := hS q hs; have h2 := hq.2.1; omega))
  have hl2 := (Kd.R_reads' hr2).2.1
  clear h6 hr2 hc6 hS CR
  by_cases he : e1 = e2
  · have he' : (e1 == e2) = true := by simpa using he
    have CT := Aside0.mk (To_s HR1'.out HL1.out)
    go_wp2_with fail
    refine CT.out.mono ?_
    rintro e w7 ⟨A7, c7, rfl, hr7, hb7⟩
    obtain ⟨r, hrt, hcs⟩ := Same_s hr7 (Kd.R_below HR2.out hb7) HL1.out
    have CS := Aside0.mk hcs
    have HB7 := Aside0.mk (HB6.out.below hb7)
    have HRT := Aside0.mk hrt
    clear hr7 hb7 hcs hrt CT
    go_wp2_with fail
    refine CS.out.mono ?_
    rintro e w8 ⟨rfl, hb8⟩
    have HB8 := Aside0.mk (HB7.out.below hb8)
    clear hb8 CS
    go_wp2
    refine bodyPost_ret (v := .bool r) (by simp [results, Tryz.f7, go_sem]) rfl ?_
    exact ⟨_, rfl, fun e => HRT.out (HEQ.out e).1, HB8.out.drop.mono (by omega)⟩
  · have he' : (e1 == e2) = false := by simpa using he
    go_wp2
    refine bodyPost_ret (v := .bool false) (by simp [results, Tryz.f7, go_sem]) rfl ?_
    exact ⟨_, rfl, fun e => absurd (HEQ.out e).2 he, HB6.out.drop.mono (Nat.le_add_right c 2)⟩
set_option maxRecDepth 100000 in
set_option maxHeartbeats 4000000 in
theorem same10 (W0 W : World) (sb rb c : Nat) (st rt : Fs) (A B : Int) (u n : ByteArray) (fl : Bool) (s0 s1 : ByteArray) (s2 : Int) (pv rv : Value) (h : Both W0 sb rb c st rt [] W) (hc : c < 1000) :
    Calls Tryz.prog 7 #[.pointer (some ⟨sb, 0, none⟩), .pointer (some ⟨rb, 0, none⟩), .agg #[.int .i64 10, .int .i64 A, .int .i64 B, .string u, .string n, .bool fl, .string s0, .string s1, .int .i64 s2, pv, rv]] W (SameOut W0 sb rb (c + 2) (st = rt) st rt) := by
  have HB := Aside0.mk (h.box (.cells #[.int .i64 10, .int .i64 A, .int .i64 B, .string u, .string n, .bool fl, .string s0, .string s1, .int .i64 s2, pv, rv] 33) (heap_alloc_new W _))
  clear h
  go_enter Tryz.func7, Tryz.ntmps7
  go_wp2_with fail
  generalize W.alloc (.cells #[.int .i64 10, .int .i64 A, .int .i64 B, .string u, .string n, .bool fl, .string s0, .string s1, .int .i64 s2, pv, rv] 33) = w1 at HB ⊢
  generalize W.heap.size = ab at HB ⊢
  obtain ⟨-, x1, -, x3, x4, -, -, -, -, -, -⟩ := act_cells HB.out
  have HL1 := Aside0.mk (mInfo_len HB.out.I.1 u n A)
  have CP := Aside0.mk (HB.out.pInfo u n A)
  have CR := Aside0.mk (fun X F (h : Both W0 sb rb c st rt F X) => h.rInfo (by omega) u n A)
  have HEQ := Aside0.mk (fun (e : st = rt) => (by rw [e]; exact ⟨rfl, rfl, rfl⟩ : (mInfo st u n A).1.1 = (mInfo rt u n A).1.1 ∧ (mInfo st u n A).1.2 = (mInfo rt u n A).1.2 ∧ (mInfo st u n A).2 = (mInfo rt u n A).2))
  generalize (mInfo st u n A).1.1 = x1 at CP HEQ
  generalize (mInfo rt u n A).1.1 = x2 at CR HEQ
  generalize (mInfo st u n A).1.2 = l1 at CP HEQ HL1
  generalize (mInfo rt u n A).1.2 = l2 at CR HEQ
  generalize (mInfo st u n A).2 = e1 at CP HEQ
  generalize (mInfo rt u n A).2 = e2 at CR HEQ
  unfold infoV at CP CR
  go_wp2_with fail
  refine CP.out.mono ?_
  rintro e w5 ⟨⟨v1, rfl, hr1⟩, h5, hb5⟩
  obtain ⟨A1, c1, hv1⟩ := Kd.R_slice hr1
  subst hv1
  have HB5 := Aside0.mk (h5.box (.cells #[.string x1.name, .int .i64 x1.kind, .int .i64 x1.perm, .string x1.owner, .string x1.last, .int .i64 x1.ch, .int .i64 x1.rd, .slice A1 l1.length c1] 66) (heap_alloc_new w5 _))
  have HR1 := Aside0.mk (Kd.R_below hr1 (show Below w5.heap.size w5 (w5.alloc (.cells #[.string x1.name, .int .i64 x1.kind, .int .i64 x1.perm, .string x1.owner, .string x1.last, .int .i64 x1.ch, .int .i64 x1.rd, .slice A1 l1.length c1] 66)) from (Below.refl _ _).alloc (Nat.le_refl _) _))
  obtain ⟨-, y1, -, y3, y4, -, -, -, -, -, -⟩ := act_at (HB5.out.at_ _ (List.mem_cons_of_mem _ List.mem_cons_self))
  clear h5 hb5 hr1 CP
  go_wp2_with fail
  generalize w5.alloc (.cells #[.string x1.name, .int .i64 x1.kind, .int .i64 x1.perm, .string x1.owner, .string x1.last, .int .i64 x1.ch, .int .i64 x1.rd, .slice A1 l1.length c1] 66) = w6 at *
  generalize w5.heap.size = b1 at *
  refine (CR.out w6 _ HB5.out).mono ?_
  rintro e w7 ⟨⟨v2, rfl, hr2⟩, h7, hb7⟩
  obtain ⟨A2, c2, hv2⟩ := Kd.R_slice hr2
  rw [List.length_map] at hv2
  subst hv2
  have HB7 := Aside0.mk (h7.box (.cells #[.string x2.name, .int .i64 x2.kind, .int .i64 x2.perm, .string x2.owner, .string x2.last, .int .i64 x2.ch, .int .i64 x2.rd, .slice A2 l2.length c2] 71) (heap_alloc_new w7 _))
  have HR2 := Aside0.mk (Kd.R_below hr2 (show Below w7.heap.size w7 (w7.alloc (.cells #[.string x2.name, .int .i64 x2.kind, .int .i64 x2.perm, .string x2.owner, .string x2.last, .int .i64 x2.ch, .int .i64 x2.rd, .slice A2 l2.length c2] 71)) from (Below.refl _ _).alloc (Nat.le_refl _) _))
  have HR1' := Aside0.mk (Kd.R_below (Kd.R_below HR1.out hb7) (show Below w7.heap.size w7 (w7.alloc (.cells #[.string x2.name, .int .i64 x2.kind, .int .i64 x2.perm, .string x2.owner, .string x2.last, .int .i64 x2.ch, .int .i64 x2.rd, .slice A2 l2.length c2] 71)) from (Below.refl _ _).alloc (Nat.le_refl _) _))
  clear h7 hb7 hr2 CR y1 y3 y4
  go_wp2_with fail
  generalize w7.alloc (.cells #[.string x2.name, .int .i64 x2.kind, .int .i64 x2.perm, .string x2.owner, .string x2.last, .int .i64 x2.ch, .int .i64 x2.rd, .slice A2 l2.length c2] 71) = w8 at *
  generalize w7.heap.size = b2 at *
  have ha1 := HB7.out.at_ _ (List.mem_cons_of_mem _ List.mem_cons_self)
  have ha2 := HB7.out.at_ _ List.mem_cons_self
  have p0 := (blk_cell ha1 0).trans (show _ = some (Value.string x1.name) from rfl); have p1 := (blk_cell ha1 1).trans (show _ = some (Value.int .i64 x1.kind) from rfl); have p2 := (blk_cell ha1 2).trans (show _ = some (Value.int .i64 x1.perm) from rfl); have p3 := (blk_cell ha1 3).trans (show _ = some (Value.string x1.owner) from rfl); have p4 := (blk_cell ha1 4).trans (show _ = some (Value.string x1.last) from rfl); have p5 := (blk_cell ha1 5).trans (show _ = some (Value.int .i64 x1.ch) from rfl); have p6 := (blk_cell ha1 6).trans (show _ = some (Value.int .i64 x1.rd) from rfl); have p7 := (blk_cell ha1 7).trans (show _ = some (Value.slice A1 l1.length c1) from rfl)
  have q0 := (blk_cell ha2 0).trans (show _ = some (Value.string x2.name) from rfl); have q1 := (blk_cell ha2 1).trans (show _ = some (Value.int .i64 x2.kind) from rfl); have q2 := (blk_cell ha2 2).trans (show _ = some (Value.int .i64 x2.perm) from rfl); have q3 := (blk_cell ha2 3).trans (show _ = some (Value.string x2.owner) from rfl); have q4 := (blk_cell ha2 4).trans (show _ = some (Value.string x2.last) from rfl); have q5 := (blk_cell ha2 5).trans (show _ = some (Value.int .i64 x2.ch) from rfl); have q6 := (blk_cell ha2 6).trans (show _ = some (Value.int .i64 x2.rd) from rfl); have q7 := (blk_cell ha2 7).trans (show _ = some (Value.slice A2 l2.length c2) from rfl)
  clear ha1 ha2
  by_cases he : e1 = e2
  · have he' : (e1 == e2) = true := by simpa using he
    obtain ⟨r, hr⟩ : ∃ r, r = sameInfoB x1 x2 (l1.map toRu) (l2.map toRu) := ⟨_, rfl⟩
    have HRE := Aside0.mk hr
    have CT := Aside0.mk (info_s x1 (Kd.R_drew HR1'.out) (by have := HL1.out; omega))
    unfold infoV at CT
    clear hr
    go_region_held3 (fun w' => (w'.cell? ⟨b1, 0, none⟩ = some (.string x1.name) ∧ w'.cell? ⟨b1, 1, none⟩ = some (.int .i64 x1.kind) ∧ w'.cell? ⟨b1, 2, none⟩ = some (.int .i64 x1.perm) ∧ w'.cell? ⟨b1, 3, none⟩ = some (.string x1.owner) ∧ w'.cell? ⟨b1, 4, none⟩ = some (.string x1.last) ∧ w'.cell? ⟨b1, 5, none⟩ = some (.int .i64 x1.ch) ∧ w'.cell? ⟨b1, 6, none⟩ = some (.int .i64 x1.rd) ∧ w'.cell? ⟨b1, 7, none⟩ = some (.slice A1 l1.length c1)) ∧ w'.cell? ⟨b2, 0, none⟩ = some (.string x2.name) ∧ w'.cell? ⟨b2, 1, none⟩ = some (.int .i64 x2.kind) ∧ w'.cell? ⟨b2, 2, none⟩ = some (.int .i64 x2.perm) ∧ w'.cell? ⟨b2, 3, none⟩ = some (.string x2.owner) ∧ w'.cell? ⟨b2, 4, none⟩ = some (.string x2.last) ∧ w'.cell? ⟨b2, 5, none⟩ = some (.int .i64 x2.ch) ∧ w'.cell? ⟨b2, 6, none⟩ = some (.int .i64 x2.rd) ∧ w'.cell? ⟨b2, 7, none⟩ = some (.slice A2 l2.length c2)) (go_keep)
      (first
        | (go_at_call 41; refine CT.out.mono ?_; rintro e w9 ⟨A9, c9, rfl, hr9, hb9⟩; have HB9 := Aside0.mk (HB7.out.drew.below hb9); have HR9 := Aside0.mk hr9; have HR29 := Aside0.mk (Kd.R_below (Kd.R_drew HR2.out) hb9); have ha1 := HB9.out.at_ _ (List.mem_cons_of_mem _ List.mem_cons_self); have ha2 := HB9.out.at_ _ List.mem_cons_self; have s0 := (blk_cell ha1 0).trans (show _ = some (Value.string x1.name) from rfl); have s1 := (blk_cell ha1 1).trans (show _ = some (Value.int .i64 x1.kind) from rfl); have s2 := (blk_cell ha1 2).trans (show _ = some (Value.int .i64 x1.perm) from rfl); have s3 := (blk_cell ha1 3).trans (show _ = some (Value.string x1.owner) from rfl); have s4 := (blk_cell ha1 4).trans (show _ = some (Value.string x1.last) from rfl); have s5 := (blk_cell ha1 5).trans (show _ = some (Value.int .i64 x1.ch) from rfl); have s6 := (blk_cell ha1 6).trans (show _ = some (Value.int .i64 x1.rd) from rfl); have s7 := (blk_cell ha1 7).trans (show _ = some (Value.slice A1 l1.length c1) from rfl); have t0 := (blk_cell ha2 0).trans (show _ = some (Value.string x2.name) from rfl); have t1 := (blk_cell ha2 1).trans (show _ = some (Value.int .i64 x2.kind) from rfl); have t2 := (blk_cell ha2 2).trans (show _ = some (Value.int .i64 x2.perm) from rfl); have t3 := (blk_cell ha2 3).trans (show _ = some (Value.string x2.owner) from rfl); have t4 := (blk_cell ha2 4).trans (show _ = some (Value.string x2.last) from rfl); have t5 := (blk_cell ha2 5).trans (show _ = some (Value.int .i64 x2.ch) from rfl); have t6 := (blk_cell ha2 6).trans (show _ = some (Value.int .i64 x2.rd) from rfl); have t7 := (blk_cell ha2 7).trans (show _ = some (Value.slice A2 l2.length c2) from rfl); clear ha1 ha2 hr9 hb9)
        | (go_at_call 40; refine ((SameInfo_s x1 x2 HR9.out HR29.out HL1.out HRE.out : Calls Tryz.prog 40 #[.agg #[.string x1.name, .int .i64 x1.kind, .int .i64 x1.perm, .string x1.owner, .string x1.last, .int .i64 x1.ch, .int .i64 x1.rd, .slice A9 l1.length c9], .agg #[.string x2.name, .int .i64 x2.kind, .int .i64 x2.perm, .string x2.owner, .string x2.last, .int .i64 x2.ch, .int .i64 x2.rd, .slice A2 l2.length c2]] w9 fun e w' => e = .returned (.bool r) ∧ Below w9.heap.size w9 w')).mono ?_; rintro e w10 ⟨rfl, hb10⟩; have HB10 := Aside0.mk (HB9.out.below hb10); have ha1 := HB10.out.at_ _ (List.mem_cons_of_mem _ List.mem_cons_self); have ha2 := HB10.out.at_ _ List.mem_cons_self; have p0 := (blk_cell ha1 0).trans (show _ = some (Value.string x1.name) from rfl); have p1 := (blk_cell ha1 1).trans (show _ = some (Value.int .i64 x1.kind) from rfl); have p2 := (blk_cell ha1 2).trans (show _ = some (Value.int .i64 x1.perm) from rfl); have p3 := (blk_cell ha1 3).trans (show _ = some (Value.string x1.owner) from rfl); have p4 := (blk_cell ha1 4).trans (show _ = some (Value.string x1.last) from rfl); have p5 := (blk_cell ha1 5).trans (show _ = some (Value.int .i64 x1.ch) from rfl); have p6 := (blk_cell ha1 6).trans (show _ = some (Value.int .i64 x1.rd) from rfl); have p7 := (blk_cell ha1 7).trans (show _ = some (Value.slice A1 l1.length c1) from rfl); have q0 := (blk_cell ha2 0).trans (show _ = some (Value.string x2.name) from rfl); have q1 := (blk_cell ha2 1).trans (show _ = some (Value.int .i64 x2.kind) from rfl); have q2 := (blk_cell ha2 2).trans (show _ = some (Value.int .i64 x2.perm) from rfl); have q3 := (blk_cell ha2 3).trans (show _ = some (Value.string x2.owner) from rfl); have q4 := (blk_cell ha2 4).trans (show _ = some (Value.string x2.last) from rfl); have q5 := (blk_cell ha2 5).trans (show _ = some (Value.int .i64 x2.ch) from rfl); have q6 := (blk_cell ha2 6).trans (show _ = some (Value.int .i64 x2.rd) from rfl); have q7 := (blk_cell ha2 7).trans (show _ = some (Value.slice A2 l2.length c2) from rfl); clear ha1 ha2 hb10))
    all_goals
      go_wp2
      refine bodyPost_ret (v := .bool r) (by simp [results, Tryz.f7, go_sem]) rfl ?_
      exact ⟨_, rfl, fun e => by rw [HRE.out]; exact sameInfoB_yes ⟨(HEQ.out e).1, by rw [(HEQ.out e).2.1]⟩, HB10.out.drop.drop.drop.mono (by omega)⟩
  · have he' : (e1 == e2) = false := by simpa using he
    go_region
    go_wp2
    refine bodyPost_ret (v := .bool false) (by simp [results, Tryz.f7, go_sem]) rfl ?_
    exact ⟨_, rfl, fun e => absurd (HEQ.out e).2.2 he, HB7.out.drew.drop.drop.drop.mono (by omega)⟩
end Go.Proofs.YtehlmkgldcfciaaGreat.Files
/- The law's same: Insert, Change, other numbers; all of it. -/
set_option linter.unusedVariables false
set_option linter.unusedSimpArgs false
namespace Go.Proofs.YtehlmkgldcfciaaGreat.Files
open Go.Proofs.YtehlmkgldcfciaaGreat.Common Go.Maps Go.ChangeMaps Go.WideMaps Go.Proofs.YtehlmkgldcfciaaGreat.F
open Go.RowKit Go.Proofs.YtehlmkgldcfciaaGreatW.PrintWords Go.Proofs.YtehlmkgldcfciaaGreatW.PrintLast Go.Proofs.YtehlmkgldcfciaaGreatW.PrintMore
theorem one_unit {w : World} {b : Nat} {s0 s1 : ByteArray} {s2 : Int} (hx : w.heap[b]? = some (.cells #[.string s0, .string s1, .int .i64 s2] 29 (0, 0))) : Kd.C k29 w (some ⟨b, 0, none⟩) 1 [(⟨s0, s1, s2⟩ : S29)] := by
  refine ⟨rfl, by omega, fun _ => ⟨_, rfl, fun j p hj => ?_⟩⟩
  cases j with
  | succ j => simp at hj
  | zero =>
    injection hj with hj
    subst hj
    refine ⟨[.string s0, .string s1, .int .i64 s2], rfl, k29_mk w ⟨s0, s1, s2⟩, fun t u ht => ?_⟩
    rw [add_plain]
    refine (blk_cell hx _).trans ?_
    rw [show 0 * k29.sz + t = t by omega]
    simpa using ht
theorem To_one {W : World} {b c : Nat} {s0 s1 : ByteArray} {s2 : Int} (hx : W.heap[b]? = some (.cells #[.string s0, .string s1, .int .i64 s2] 29 (0, 0))) (hc : 1 ≤ c) :
    Calls Tryz.prog 29 #[.slice (some ⟨b, 0, none⟩) 1 c] W fun e w' => ∃ ad c', e = .returned (.slice (some ad) 1 c') ∧ w'.cell? ad = some (.string s0) ∧ w'.cell? ⟨ad.block, ad.off + 1, none⟩ = some (.string s1) ∧ w'.cell? ⟨ad.block, ad.off + 2, none⟩ = some (.int .i64 s2) ∧ Below W.heap.size W w' := by
  refine (To_c (some ⟨b, 0, none⟩) c [(⟨s0, s1, s2⟩ : S29)] W (one_unit hx) hc (by simp)).mono ?_
  rintro e w' ⟨v, rfl, h1, h2⟩
  obtain ⟨A', c', hv⟩ := Kd.R_slice h1
  have hv : v = .slice A' 1 c' := hv
  subst hv
  obtain ⟨ad, e, g0, g1, g2⟩ := at_T62 (Kd.R_reads' h1).2.2 0 (by omega) (by simp)
  subst e
  have e0 : ad.add ((0 : Int).toNat * 3) = ad := by cases ad; simp [Addr.add]
  rw [e0] at g0 g1 g2
  exact ⟨ad, c', rfl, g0, g1, g2, h2⟩
def Sam.T19 : Bool × List (List Nat × List Nat) := (true, [([], []), ([], []), ([1], [1]), ([], []), ([3], [3]), ([], []), ([5], [5]), ([], []), ([7], [7]), ([], []), ([9], [9]), ([0, 2, 4, 6, 8, 10], [0, 2, 4, 6, 8, 10]), ([], []), ([], []), ([13], [13]), ([], []), ([15], [15]), ([], []), ([17], [17]), ([], []), ([19], [19]), ([], []), ([21], [21]), ([22], [22]), ([23, 11], [23]), ([24], [24]), ([25], [25]), ([12, 14, 16, 18, 20, 26, 24], [12, 14, 16, 18, 20, 26]), ([11, 27], [11, 27]), ([28, 27, 0, 1, 2, 3, 4, 5, 6, 7, 8, 9, 10, 11, 12, 13, 14, 15, 16, 17, 18, 19, 20, 21, 22, 23, 24, 25, 26, 27, 28], [28])])
def Sam.B19 : List Nat := [0, 0, 2, 0, 8, 0, 32, 0, 128, 0, 512, 2047, 0, 0, 8192, 0, 32768, 0, 131072, 0, 524288, 0, 2097152, 6291456, 14684159, 31461375, 65015807, 134217727, 268435455, 536870911]
theorem Sam.tab19 : rtab .any (opsOf Tryz.f7 19) = Sam.T19 := by kernel_rfl
theorem Sam.bits19 : waitsOk Sam.T19.2 Sam.B19 = true := by kernel_rfl
set_option maxRecDepth 100000 in
set_option maxHeartbeats 4000000 in
theorem same6 (W0 W : World) (sb rb c : Nat) (st rt : Fs) (A B : Int) (u n : ByteArray) (fl : Bool) (s0 s1 : ByteArray) (s2 : Int) (pv rv : Value) (h : Both W0 sb rb c st rt [] W) (hc : c < 1000) :
    Calls Tryz.prog 7 #[.pointer (some ⟨sb, 0, none⟩), .pointer (some ⟨rb, 0, none⟩), .agg #[.int .i64 6, .int .i64 A, .int .i64 B, .string u, .string n, .bool fl, .string s0, .string s1, .int .i64 s2, pv, rv]] W (SameOut W0 sb rb (c + 2) (st = rt) (mInsert st u n A fl s0 s1).2 (mInsert rt u n A fl s0 s1).2) := by
  have HB := Aside0.mk (h.box (.cells #[.int .i64 6, .int .i64 A, .int .i64 B, .string u, .string n, .bool fl, .string s0, .string s1, .int .i64 s2, pv, rv] 33) (heap_alloc_new W _))
  clear h
  go_enter Tryz.func7, Tryz.ntmps7
  go_wp2_with fail
  generalize W.alloc (.cells #[.int .i64 6, .int .i64 A, .int .i64 B, .string u, .string n, .bool fl, .string s0, .string s1, .int .i64 s2, pv, rv] 33) = w1 at HB ⊢
  generalize W.heap.size = ab at HB ⊢
  obtain ⟨-, x1, -, x3, x4, x5, x6, x7, x8, -, -⟩ := act_cells HB.out
  refine start_ (n := 30) (S := fun w' => w'.cell? ⟨ab, 1, none⟩ = some (.int .i64 A) ∧ w'.cell? ⟨ab, 3, none⟩ = some (.string u) ∧ w'.cell? ⟨ab, 4, none⟩ = some (.string n) ∧ w'.cell? ⟨ab, 5, none⟩ = some (.bool fl) ∧ w'.cell? ⟨ab, 6, none⟩ = some (.string s0) ∧ w'.cell? ⟨ab, 7, none⟩ = some (.string s1) ∧ w'.cell? ⟨ab, 8, none⟩ = some (.int .i64 s2)) (ds := []) #[false, false, false, false, false, false, false, false, false, false, false, false, false, false, false, false, false, false, false, false, false, false, false, false, false, false, false, false, false, false] (by kernel_rfl) rfl rfl ⟨x1, x3, x4, x5, x6, x7, x8⟩ (fun hHeld => ?_)
  refine with_tabW Sam.tab19 Sam.bits19 (fun HT_ HW_ => ?_)
  have HBD := Aside0.mk HB.out.drew
  generalize w1.drew = wd at HBD hHeld ⊢
  refine pure_ (i := 0) (N := some 169) (v := ?_) (a' := ?_) #[true, false, false, false, false, false, false, false, false, false, false, false, false, false, false, false, false, false, false, false, false, false, false, false, false, false, false, false, false, false] rfl rfl (any_of HT_.out (by kernel_rfl)) (fun _ _ _ h => h) (Or.inl ⟨by rfl, ?_⟩) ?_ ?_
  rotate_left
  · intro w'
    go_simp
    with_reducible rfl
  rotate_left
  · simp only [Act.put, List.setIfInBounds_toArray, List.set_cons_zero, List.set_cons_succ, i64_w, i32_w]
    rfl
  refine pure_ (i := 1) (N := some 170) (v := ?_) (a' := ?_) #[true, true, false, false, false, false, false, false, false, false, false, false, false, false, false, false, false, false, false, false, false, false, false, false, false, false, false, false, false, false] rfl rfl (any_of HT_.out (by kernel_rfl)) (fun _ _ _ h => h) (Or.inl ⟨by rfl, ?_⟩) ?_ ?_
  rotate_left
  · intro w'
    go_simp
    with_reducible rfl
  rotate_left
  · simp only [Act.put, List.setIfInBounds_toArray, List.set_cons_zero, List.set_cons_succ, i64_w, i32_w]
    rfl
  refine pure_ (i := 3) (N := some 172) (v := ?_) (a' := ?_) #[true, true, false, true, false, false, false, false, false, false, false, false, false, false, false, false, false, false, false, false, false, false, false, false, false, false, false, false, false, false] rfl rfl (any_of HT_.out (by kernel_rfl)) (fun _ _ _ h => h) (Or.inl ⟨by rfl, ?_⟩) ?_ ?_
  rotate_left
  · intro w'
    go_simp
    with_reducible rfl
  rotate_left
  · simp only [Act.put, List.setIfInBounds_toArray, List.set_cons_zero, List.set_cons_succ, i64_w, i32_w]
    rfl
  refine pure_ (i := 5) (N := some 174) (v := ?_) (a' := ?_) #[true, true, false, true, false, true, false, false, false, false, false, false, false, false, false, false, false, false, false, false, false, false, false, false, false, false, false, false, false, false] rfl rfl (any_of HT_.out (by kernel_rfl)) (fun _ _ _ h => h) (Or.inl ⟨by rfl, ?_⟩) ?_ ?_
  rotate_left
  · intro w'
    go_simp
    with_reducible rfl
  rotate_left
  · simp only [Act.put, List.setIfInBounds_toArray, List.set_cons_zero, List.set_cons_succ, i64_w, i32_w]
    rfl
  refine pure_ (i := 7) (N := some 176) (v := ?_) (a' := ?_) #[true, true, false, true, false, true, false, true, false, false, false, false, false, false, false, false, false, false, false, false, false, false, false, false, false, false, false, false, false, false] rfl rfl (any_of HT_.out (by kernel_rfl)) (fun _ _ _ h => h) (Or.inl ⟨by rfl, ?_⟩) ?_ ?_
  rotate_left
  · intro w'
    go_simp
    with_reducible rfl
  rotate_left
  · simp only [Act.put, List.setIfInBounds_toArray, List.set_cons_zero, List.set_cons_succ, i64_w, i32_w]
    rfl
  refine pure_ (i := 9) (N := some 178) (v := ?_) (a' := ?_) #[true, true, false, true, false, true, false, true, false, true, false, false, false, false, false, false, false, false, false, false, false, false, false, false, false, false, false, false, false, false] rfl rfl (any_of HT_.out (by kernel_rfl)) (fun _ _ _ h => h) (Or.inl ⟨by rfl, ?_⟩) ?_ ?_
  rotate_left
  · intro w'
    go_simp
    with_reducible rfl
  rotate_left
  · simp only [Act.put, List.setIfInBounds_toArray, List.set_cons_zero, List.set_cons_succ, i64_w, i32_w]
    rfl
  refine pure_ (i := 12) (N := some 181) (v := ?_) (a' := ?_) #[true, true, false, true, false, true, false, true, false, true, false, false, true, false, false, false, false, false, false, false, false, false, false, false, false, false, false, false, false, false] rfl rfl (any_of HT_.out (by kernel_rfl)) (fun _ _ _ h => h) (Or.inl ⟨by rfl, ?_⟩) ?_ ?_
  rotate_left
  · intro w'
    go_simp
    with_reducible rfl
  rotate_left
  · simp only [Act.put, List.setIfInBounds_toArray, List.set_cons_zero, List.set_cons_succ, i64_w, i32_w]
    rfl
  refine pure_ (i := 13) (N := some 182) (v := ?_) (a' := ?_) #[true, true, false, true, false, true, false, true, false, true, false, false, true, true, false, false, false, false, false, false, false, false, false, false, false, false, false, false, false, false] rfl rfl (any_of HT_.out (by kernel_rfl)) (fun _ _ _ h => h) (Or.inl ⟨by rfl, ?_⟩) ?_ ?_
  rotate_left
  · intro w'
    go_simp
    with_reducible rfl
  rotate_left
  · simp only [Act.put, List.setIfInBounds_toArray, List.set_cons_zero, List.set_cons_succ, i64_w, i32_w]
    rfl
  refine pure_ (i := 15) (N := some 184) (v := ?_) (a' := ?_) #[true, true, false, true, false, true, false, true, false, true, false, false, true, true, false, true, false, false, false, false, false, false, false, false, false, false, false, false, false, false] rfl rfl (any_of HT_.out (by kernel_rfl)) (fun _ _ _ h => h) (Or.inl ⟨by rfl, ?_⟩) ?_ ?_
  rotate_left
  · intro w'
    go_simp
    with_reducible rfl
  rotate_left
  · simp only [Act.put, List.setIfInBounds_toArray, List.set_cons_zero, List.set_cons_succ, i64_w, i32_w]
    rfl
  refine pure_ (i := 17) (N := some 186) (v := ?_) (a' := ?_) #[true, true, false, true, false, true, false, true, false, true, false, false, true, true, false, true, false, true, false, false, false, false, false, false, false, false, false, false, false, false] rfl rfl (any_of HT_.out (by kernel_rfl)) (fun _ _ _ h => h) (Or.inl ⟨by rfl, ?_⟩) ?_ ?_
  rotate_left
  · intro w'
    go_simp
    with_reducible rfl
  rotate_left
  · simp only [Act.put, List.setIfInBounds_toArray, List.set_cons_zero, List.set_cons_succ, i64_w, i32_w]
    rfl
  refine pure_ (i := 19) (N := some 188) (v := ?_) (a' := ?_) #[true, true, false, true, false, true, false, true, false, true, false, false, true, true, false, true, false, true, false, true, false, false, false, false, false, false, false, false, false, false] rfl rfl (any_of HT_.out (by kernel_rfl)) (fun _ _ _ h => h) (Or.inl ⟨by rfl, ?_⟩) ?_ ?_
  rotate_left
  · intro w'
    go_simp
    with_reducible rfl
  rotate_left
  · simp only [Act.put, List.setIfInBounds_toArray, List.set_cons_zero, List.set_cons_succ, i64_w, i32_w]
    rfl
  refine pure_ (i := 21) (N := some 190) (v := ?_) (a' := ?_) #[true, true, false, true, false, true, false, true, false, true, false, false, true, true, false, true, false, true, false, true, false, true, false, false, false, false, false, false, false, false] rfl rfl (any_of HT_.out (by kernel_rfl)) (fun _ _ _ h => h) (Or.inl ⟨by rfl, ?_⟩) ?_ ?_
  rotate_left
  · intro w'
    go_simp
    with_reducible rfl
  rotate_left
  · simp only [Act.put, List.setIfInBounds_toArray, List.set_cons_zero, List.set_cons_succ, i64_w, i32_w]
    rfl
  refine take_ (i := 2) (N := some 171) (v := ?_) (a' := ?_) #[true, true, true, true, false, true, false, true, false, true, false, false, true, true, false, true, false, true, false, true, false, true, false, false, false, false, false, false, false, false] rfl rfl (take_ofW HT_.out HW_.out (by kernel_rfl)) (fun _ _ _ h => h) (Or.inl ⟨by rfl, ?_⟩) hHeld ?_ ?_
  rotate_left
  · rintro w' ⟨s0, s1, s2, s3, s4, s5, s6⟩
    go_simp
    with_reducible rfl
  rotate_left
  · simp only [Act.put, List.setIfInBounds_toArray, List.set_cons_zero, List.set_cons_succ, i64_w, i32_w]
    rfl
  refine take_ (i := 4) (N := some 173) (v := ?_) (a' := ?_) #[true, true, true, true, true, true, false, true, false, true, false, false, true, true, false, true, false, true, false, true, false, true, false, false, false, false, false, false, false, false] rfl rfl (take_ofW HT_.out HW_.out (by kernel_rfl)) (fun _ _ _ h => h) (Or.inl ⟨by rfl, ?_⟩) hHeld ?_ ?_
  rotate_left
  · rintro w' ⟨s0, s1, s2, s3, s4, s5, s6⟩
    go_simp
    with_reducible rfl
  rotate_left
  · simp only [Act.put, List.setIfInBounds_toArray, List.set_cons_zero, List.set_cons_succ, i64_w, i32_w]
    rfl
  refine take_ (i := 6) (N := some 175) (v := ?_) (a' := ?_) #[true, true, true, true, true, true, true, true, false, true, false, false, true, true, false, true, false, true, false, true, false, true, false, false, false, false, false, false, false, false] rfl rfl (take_ofW HT_.out HW_.out (by kernel_rfl)) (fun _ _ _ h => h) (Or.inl ⟨by rfl, ?_⟩) hHeld ?_ ?_
  rotate_left
  · rintro w' ⟨s0, s1, s2, s3, s4, s5, s6⟩
    go_simp
    with_reducible rfl
  rotate_left
  · simp only [Act.put, List.setIfInBounds_toArray, List.set_cons_zero, List.set_cons_succ, i64_w, i32_w]
    rfl
  refine take_ (i := 8) (N := some 177) (v := ?_) (a' := ?_) #[true, true, true, true, true, true, true, true, true, true, false, false, true, true, false, true, false, true, false, true, false, true, false, false, false, false, false, false, false, false] rfl rfl (take_ofW HT_.out HW_.out (by kernel_rfl)) (fun _ _ _ h => h) (Or.inl ⟨by rfl, ?_⟩) hHeld ?_ ?_
  rotate_left
  · rintro w' ⟨s0, s1, s2, s3, s4, s5, s6⟩
    go_simp
    with_reducible rfl
  rotate_left
  · simp only [Act.put, List.setIfInBounds_toArray, List.set_cons_zero, List.set_cons_succ, i64_w, i32_w]
    rfl
  refine take_ (i := 10) (N := some 179) (v := ?_) (a' := ?_) #[true, true, true, true, true, true, true, true, true, true, true, false, true, true, false, true, false, true, false, true, false, true, false, false, false, false, false, false, false, false] rfl rfl (take_ofW HT_.out HW_.out (by kernel_rfl)) (fun _ _ _ h => h) (Or.inl ⟨by rfl, ?_⟩) hHeld ?_ ?_
  rotate_left
  · rintro w' ⟨s0, s1, s2, s3, s4, s5, s6⟩
    go_simp
    with_reducible rfl
  rotate_left
  · simp only [Act.put, List.setIfInBounds_toArray, List.set_cons_zero, List.set_cons_succ, i64_w, i32_w]
    rfl
  refine take_ (i := 14) (N := some 183) (v := ?_) (a' := ?_) #[true, true, true, true, true, true, true, true, true, true, true, false, true, true, true, true, false, true, false, true, false, true, false, false, false, false, false, false, false, false] rfl rfl (take_ofW HT_.out HW_.out (by kernel_rfl)) (fun _ _ _ h => h) (Or.inl ⟨by rfl, ?_⟩) hHeld ?_ ?_
  rotate_left
  · rintro w' ⟨s0, s1, s2, s3, s4, s5, s6⟩
    go_simp
    with_reducible rfl
  rotate_left
  · simp only [Act.put, List.setIfInBounds_toArray, List.set_cons_zero, List.set_cons_succ, i64_w, i32_w]
    rfl
  refine take_ (i := 16) (N := some 185) (v := ?_) (a' := ?_) #[true, true, true, true, true, true, true, true, true, true, true, false, true, true, true, true, true, true, false, true, false, true, false, false, false, false, false, false, false, false] rfl rfl (take_ofW HT_.out HW_.out (by kernel_rfl)) (fun _ _ _ h => h) (Or.inl ⟨by rfl, ?_⟩) hHeld ?_ ?_
  rotate_left
  · rintro w' ⟨s0, s1, s2, s3, s4, s5, s6⟩
    go_simp
    with_reducible rfl
  rotate_left
  · simp only [Act.put, List.setIfInBounds_toArray, List.set_cons_zero, List.set_cons_succ, i64_w, i32_w]
    rfl
  refine take_ (i := 18) (N := some 187) (v := ?_) (a' := ?_) #[true, true, true, true, true, true, true, true, true, true, true, false, true, true, true, true, true, true, true, true, false, true, false, false, false, false, false, false, false, false] rfl rfl (take_ofW HT_.out HW_.out (by kernel_rfl)) (fun _ _ _ h => h) (Or.inl ⟨by rfl, ?_⟩) hHeld ?_ ?_
  rotate_left
  · rintro w' ⟨s0, s1, s2, s3, s4, s5, s6⟩
    go_simp
    with_reducible rfl
  rotate_left
  · simp only [Act.put, List.setIfInBounds_toArray, List.set_cons_zero, List.set_cons_succ, i64_w, i32_w]
    rfl
  refine take_ (i := 20) (N := some 189) (v := ?_) (a' := ?_) #[true, true, true, true, true, true, true, true, true, true, true, false, true, true, true, true, true, true, true, true, true, true, false, false, false, false, false, false, false, false] rfl rfl (take_ofW HT_.out HW_.out (by kernel_rfl)) (fun _ _ _ h => h) (Or.inl ⟨by rfl, ?_⟩) hHeld ?_ ?_
  rotate_left
  · rintro w' ⟨s0, s1, s2, s3, s4, s5, s6⟩
    go_simp
    with_reducible rfl
  rotate_left
  · simp only [Act.put, List.setIfInBounds_toArray, List.set_cons_zero, List.set_cons_succ, i64_w, i32_w]
    rfl
  refine take_ (i := 22) (N := some 191) (v := ?_) (a' := ?_) #[true, true, true, true, true, true, true, true, true, true, true, false, true, true, true, true, true, true, true, true, true, true, true, false, false, false, false, false, false, false] rfl rfl (take_ofW HT_.out HW_.out (by kernel_rfl)) (fun _ _ _ h => h) (Or.inl ⟨by rfl, ?_⟩) hHeld ?_ ?_
  rotate_left
  · rintro w' ⟨s0, s1, s2, s3, s4, s5, s6⟩
    go_simp
    with_reducible rfl
  rotate_left
  · simp only [Act.put, List.setIfInBounds_toArray, List.set_cons_zero, List.set_cons_succ, i64_w, i32_w]
    rfl
  refine join_ (σ := Nat) 6 #[true, true, true, true, true, true, true, true, true, true, true, true, true, true, true, true, true, true, true, true, true, true, true, true, false, false, false, false, false, false] (fun s => [(180, .int .i64 (mInsert st u n A fl s0 s1).1), (192, .slice (some ⟨s, 0, none⟩) 1 1)]) (fun s w' => Both W0 sb rb c (mInsert st u n A fl s0 s1).2 rt [(ab, .cells #[.int .i64 6, .int .i64 A, .int .i64 B, .string u, .string n, .bool fl, .string s0, .string s1, .int .i64 s2, pv, rv] 33)] w' ∧ w'.heap[s]? = some (.cells #[.string s0, .string s1, .int .i64 s2] 29)) ?_ ?_
  rotate_left
  · intro hCont
    refine two_ (i := 11) (j := 23) (Ni := some 180) (Nj := some 192) #[true, true, true, true, true, true, true, true, true, true, true, true, true, true, true, true, true, true, true, true, true, true, true, false, false, false, false, false, false, false] #[true, true, true, true, true, true, true, true, true, true, true, false, true, true, true, true, true, true, true, true, true, true, true, true, false, false, false, false, false, false] rfl rfl rfl rfl (two_of HT_.out (by kernel_rfl)) (by decide) (by decide) (fun K hK => ?_) (fun K hK => ?_)
    · skip
      refine goes_ Tryz.func30 (by kernel_rfl) rfl #[.pointer (some ⟨sb, 0, none⟩), .string u, .string n, .int .i64 A, .bool fl, .agg #[.string s0, .string s1, .int .i64 s2]] (by rfl) rfl rfl (by (try simp only [List.map_toArray, List.map_cons, List.map_nil]); first | done | rfl | (simp only []; rfl)) ?_
      with_reducible refine (HBD.out.pInsert u n A fl s0 s1 s2).mono ?_
      rintro e w5 ⟨rfl, h5, -⟩
      have HB5 := Aside0.mk h5
      clear h5
      refine ⟨_, rfl, ?_⟩
      refine hK.out _ _ ⟨(act_cells HB5.out).2.1, (act_cells HB5.out).2.2.2.1, (act_cells HB5.out).2.2.2.2.1, (act_cells HB5.out).2.2.2.2.2.1, (act_cells HB5.out).2.2.2.2.2.2.1, (act_cells HB5.out).2.2.2.2.2.2.2.1, (act_cells HB5.out).2.2.2.2.2.2.2.2.1⟩ (fun hHeld => ?_)
      clear hK K
      refine norm_ (a' := ?_) ?_ ?_
      rotate_left
      · show Act.put _ (some 180) _ = _
        simp only [Act.put, List.setIfInBounds_toArray, List.set_cons_zero, List.set_cons_succ, i64_w, i32_w]
        rfl
      refine one_ (i := 23) (N := some 192) #[true, true, true, true, true, true, true, true, true, true, true, true, true, true, true, true, true, true, true, true, true, true, true, true, false, false, false, false, false, false] rfl rfl (one_of HT_.out (by kernel_rfl)) (by decide) (fun K hK => ?_)
      refine value_ (w1 := w5.alloc (.cells #[.string s0, .string s1, .int .i64 s2] 29)) (v := .slice (some ⟨w5.heap.size, 0, none⟩) 1 1) (by rfl) rfl ?_ ?_
      · go_simp
      have HV6 := Aside0.mk (heap_alloc_new w5 (.cells #[.string s0, .string s1, .int .i64 s2] 29))
      have HB6 := Aside0.mk (HB5.out.below ((Below.refl w5.heap.size w5).alloc (Nat.le_refl _) (.cells #[.string s0, .string s1, .int .i64 s2] 29)))
      generalize w5.alloc (.cells #[.string s0, .string s1, .int .i64 s2] 29) = w6 at HV6 HB6 ⊢
      refine hK.out _ _ ⟨(act_cells HB6.out).2.1, (act_cells HB6.out).2.2.2.1, (act_cells HB6.out).2.2.2.2.1, (act_cells HB6.out).2.2.2.2.2.1, (act_cells HB6.out).2.2.2.2.2.2.1, (act_cells HB6.out).2.2.2.2.2.2.2.1, (act_cells HB6.out).2.2.2.2.2.2.2.2.1⟩ (fun hHeld => ?_)
      clear hK K
      refine norm_ (a' := ?_) ?_ ?_
      rotate_left
      · show Act.put _ (some 192) _ = _
        simp only [Act.put, List.setIfInBounds_toArray, List.set_cons_zero, List.set_cons_succ, i64_w, i32_w]
        rfl
      exact norm_ (by simp only [putAll, Act.put, List.setIfInBounds_toArray, List.set_cons_zero, List.set_cons_succ]) (hCont w5.heap.size _ ⟨HB6.out, HV6.out⟩)
    · skip
      refine value_ (w1 := wd.alloc (.cells #[.string s0, .string s1, .int .i64 s2] 29)) (v := .slice (some ⟨wd.heap.size, 0, none⟩) 1 1) (by rfl) rfl ?_ ?_
      · go_simp
      have HBX := Aside0.mk (HBD.out.box (.cells #[.string s0, .string s1, .int .i64 s2] 29) (heap_alloc_new wd _))
      generalize wd.alloc (.cells #[.string s0, .string s1, .int .i64 s2] 29) = w4 at HBX ⊢
      refine hK.out _ _ ⟨(act_cells HBX.out.drop).2.1, (act_cells HBX.out.drop).2.2.2.1, (act_cells HBX.out.drop).2.2.2.2.1, (act_cells HBX.out.drop).2.2.2.2.2.1, (act_cells HBX.out.drop).2.2.2.2.2.2.1, (act_cells HBX.out.drop).2.2.2.2.2.2.2.1, (act_cells HBX.out.drop).2.2.2.2.2.2.2.2.1⟩ (fun hHeld => ?_)
      clear hK K
      refine norm_ (a' := ?_) ?_ ?_
      rotate_left
      · show Act.put _ (some 192) _ = _
        simp only [Act.put, List.setIfInBounds_toArray, List.set_cons_zero, List.set_cons_succ, i64_w, i32_w]
        rfl
      refine one_ (i := 11) (N := some 180) #[true, true, true, true, true, true, true, true, true, true, true, true, true, true, true, true, true, true, true, true, true, true, true, true, false, false, false, false, false, false] rfl rfl (one_of HT_.out (by kernel_rfl)) (by decide) (fun K hK => ?_)
      refine goes_ Tryz.func30 (by kernel_rfl) rfl #[.pointer (some ⟨sb, 0, none⟩), .string u, .string n, .int .i64 A, .bool fl, .agg #[.string s0, .string s1, .int .i64 s2]] (by rfl) rfl rfl (by (try simp only [List.map_toArray, List.map_cons, List.map_nil]); first | done | rfl | (simp only []; rfl)) ?_
      with_reducible refine (HBX.out.pInsert u n A fl s0 s1 s2).mono ?_
      rintro e w5 ⟨rfl, h5, -⟩
      have HB5 := Aside0.mk h5.drop
      have HV5 := Aside0.mk (h5.at_ _ List.mem_cons_self)
      clear h5
      refine ⟨_, rfl, ?_⟩
      refine hK.out _ _ ⟨(act_cells HB5.out).2.1, (act_cells HB5.out).2.2.2.1, (act_cells HB5.out).2.2.2.2.1, (act_cells HB5.out).2.2.2.2.2.1, (act_cells HB5.out).2.2.2.2.2.2.1, (act_cells HB5.out).2.2.2.2.2.2.2.1, (act_cells HB5.out).2.2.2.2.2.2.2.2.1⟩ (fun hHeld => ?_)
      clear hK K
      refine norm_ (a' := ?_) ?_ ?_
      rotate_left
      · show Act.put _ (some 180) _ = _
        simp only [Act.put, List.setIfInBounds_toArray, List.set_cons_zero, List.set_cons_succ, i64_w, i32_w]
        rfl
      exact norm_ (by simp only [putAll, Act.put, List.setIfInBounds_toArray, List.set_cons_zero, List.set_cons_succ]) (hCont wd.heap.size _ ⟨HB5.out, HV5.out⟩)
  rintro s w5 ⟨h5, hv5⟩
  have HB5 := Aside0.mk h5
  have HV5 := Aside0.mk hv5
  have hHeld : w5.cell? ⟨ab, 1, none⟩ = some (.int .i64 A) ∧ w5.cell? ⟨ab, 3, none⟩ = some (.string u) ∧ w5.cell? ⟨ab, 4, none⟩ = some (.string n) ∧ w5.cell? ⟨ab, 5, none⟩ = some (.bool fl) ∧ w5.cell? ⟨ab, 6, none⟩ = some (.string s0) ∧ w5.cell? ⟨ab, 7, none⟩ = some (.string s1) ∧ w5.cell? ⟨ab, 8, none⟩ = some (.int .i64 s2) := ⟨(act_cells h5).2.1, (act_cells h5).2.2.2.1, (act_cells h5).2.2.2.2.1, (act_cells h5).2.2.2.2.2.1, (act_cells h5).2.2.2.2.2.2.1, (act_cells h5).2.2.2.2.2.2.2.1, (act_cells h5).2.2.2.2.2.2.2.2.1⟩
  clear h5 hv5
  refine norm_ (a' := ?_) ?_ ?_
  rotate_left
  · simp only [putAll, Act.put, List.setIfInBounds_toArray, List.set_cons_zero, List.set_cons_succ]
    rfl
  refine one_ (i := 24) (N := some 193) #[true, true, true, true, true, true, true, true, true, true, true, true, true, true, true, true, true, true, true, true, true, true, true, true, true, false, false, false, false, false] rfl rfl (one_of HT_.out (by kernel_rfl)) (by decide) (fun K hK => ?_)
  refine goes_ Tryz.func29 (by kernel_rfl) rfl #[.slice (some ⟨s, 0, none⟩) 1 1] (by rfl) rfl rfl (by (try simp only [List.map_toArray, List.map_cons, List.map_nil]); first | done | rfl | (simp only []; rfl)) ?_
  with_reducible refine (To_one HV5.out (Nat.le_refl 1)).mono ?_
  rintro e w7 ⟨ad, c7, rfl, q0, q1, q2, hb7⟩
  have HB7 := Aside0.mk (HB5.out.below hb7)
  clear hb7
  refine ⟨_, rfl, ?_⟩
  refine hK.out _ _ ⟨(act_cells HB7.out).2.1, (act_cells HB7.out).2.2.2.1, (act_cells HB7.out).2.2.2.2.1, (act_cells HB7.out).2.2.2.2.2.1, (act_cells HB7.out).2.2.2.2.2.2.1, (act_cells HB7.out).2.2.2.2.2.2.2.1, (act_cells HB7.out).2.2.2.2.2.2.2.2.1⟩ (fun hHeld => ?_)
  clear hK K
  refine norm_ (a' := ?_) ?_ ?_
  rotate_left
  · show Act.put _ (some 193) _ = _
    simp only [Act.put, List.setIfInBounds_toArray, List.set_cons_zero, List.set_cons_succ, i64_w, i32_w]
    rfl
  refine pure_ (i := 25) (N := some 194) (v := ?_) (a' := ?_) #[true, true, true, true, true, true, true, true, true, true, true, true, true, true, true, true, true, true, true, true, true, true, true, true, true, true, false, false, false, false] rfl rfl (any_of HT_.out (by kernel_rfl)) (fun _ _ _ h => h) (Or.inl ⟨by rfl, ?_⟩) ?_ ?_
  rotate_left
  · intro w'
    go_simp
    with_reducible rfl
  rotate_left
  · simp only [Act.put, List.setIfInBounds_toArray, List.set_cons_zero, List.set_cons_succ, i64_w, i32_w]
    rfl
  refine one_ (i := 26) (N := some 195) #[true, true, true, true, true, true, true, true, true, true, true, true, true, true, true, true, true, true, true, true, true, true, true, true, true, true, true, false, false, false] rfl rfl (one_of HT_.out (by kernel_rfl)) (by decide) (fun K hK => ?_)
  refine value_ (w1 := ?_) (v := ?_) (by rfl) rfl ?_ ?_
  rotate_left 2
  · go_simp
    constructor
    · rfl
    · rfl
  refine hK.out _ _ ⟨hHeld.1, hHeld.2.1, hHeld.2.2.1, hHeld.2.2.2.1, hHeld.2.2.2.2.1, hHeld.2.2.2.2.2.1, hHeld.2.2.2.2.2.2⟩ (fun hHeld => ?_)
  clear hK K
  refine norm_ (a' := ?_) ?_ ?_
  rotate_left
  · show Act.put _ (some 195) _ = _
    simp only [Act.put, List.setIfInBounds_toArray, List.set_cons_zero, List.set_cons_succ, i64_w, i32_w]
    rfl
  refine one_ (i := 27) (N := some 196) #[true, true, true, true, true, true, true, true, true, true, true, true, true, true, true, true, true, true, true, true, true, true, true, true, true, true, true, true, false, false] rfl rfl (one_of HT_.out (by kernel_rfl)) (by decide) (fun K hK => ?_)
  refine goes_ Tryz.func31 (by kernel_rfl) rfl #[.pointer (some ⟨rb, 0, none⟩), .string u, .string n, .int .i64 A, .bool fl, .agg #[.string s0, .string s1, .int .i64 s2]] (by rfl) rfl rfl (by (try simp only [List.map_toArray, List.map_cons, List.map_nil]); first | done | rfl | (simp only []; rfl)) ?_
  with_reducible refine (HB7.out.rInsert (by omega) u n A fl s0 s1 s2).mono ?_
  rintro e w8 ⟨rfl, h8, -⟩
  have HB8 := Aside0.mk h8
  clear h8
  refine ⟨_, rfl, ?_⟩
  refine hK.out _ _ ⟨(act_cells HB8.out).2.1, (act_cells HB8.out).2.2.2.1, (act_cells HB8.out).2.2.2.2.1, (act_cells HB8.out).2.2.2.2.2.1, (act_cells HB8.out).2.2.2.2.2.2.1, (act_cells HB8.out).2.2.2.2.2.2.2.1, (act_cells HB8.out).2.2.2.2.2.2.2.2.1⟩ (fun hHeld => ?_)
  clear hK K
  refine norm_ (a' := ?_) ?_ ?_
  rotate_left
  · show Act.put _ (some 196) _ = _
    simp only [Act.put, List.setIfInBounds_toArray, List.set_cons_zero, List.set_cons_succ, i64_w, i32_w]
    rfl
  refine pure_ (i := 28) (N := some 197) (v := ?_) (a' := ?_) #[true, true, true, true, true, true, true, true, true, true, true, true, true, true, true, true, true, true, true, true, true, true, true, true, true, true, true, true, true, false] rfl rfl (any_of HT_.out (by kernel_rfl)) (fun _ _ _ h => h) (Or.inl ⟨by rfl, ?_⟩) ?_ ?_
  rotate_left
  · intro w'
    go_simp
    with_reducible rfl
  rotate_left
  · simp only [Act.put, List.setIfInBounds_toArray, List.set_cons_zero, List.set_cons_succ, i64_w, i32_w]
    rfl
  refine pure_ (i := 29) (N := some 6) (v := ?_) (a' := ?_) #[true, true, true, true, true, true, true, true, true, true, true, true, true, true, true, true, true, true, true, true, true, true, true, true, true, true, true, true, true, true] rfl rfl (any_of HT_.out (by kernel_rfl)) (fun _ _ _ h => h) (Or.inl ⟨by rfl, ?_⟩) ?_ ?_
  rotate_left
  · intro w'
    go_simp
    with_reducible rfl
  rotate_left
  · simp only [Act.put, List.setIfInBounds_toArray, List.set_cons_zero, List.set_cons_succ, i64_w, i32_w]
    rfl
  refine done_ (done_of HT_.out (by kernel_rfl)) ?_
  go_wp2
  refine bodyPost_ret (v := .bool ((mInsert st u n A fl s0 s1).1 == (mInsert rt u n A fl s0 s1).1)) (by simp [results, Tryz.f7, go_sem]) rfl ?_
  exact ⟨_, rfl, fun e => by rw [e]; simp, HB8.out.drop.mono (by omega)⟩
theorem field71 (s0 s3 s4 : ByteArray) (n1 n2 n5 n6 : Int) (A : Option Addr) (l c : Nat) (w : World) : Sem.run Tryz.prog (Instr.field 71 (.agg #[.string s0, .int .i64 n1, .int .i64 n2, .string s3, .string s4, .int .i64 n5, .int .i64 n6, .slice A l c]) 7) w = .ok (.slice A l c) w := by
  simp [Instr.field, asAgg, go_sem]
attribute [local go_sem] field71
theorem info_e (A : Option Addr) (c : Nat) (l : List S100) (W : World) (hr : Kd.C k100 W A l.length l) (hc : l.length ≤ c) (hl : l.length ≤ 5864062014805) :
    Calls Tryz.prog 41 #[.agg #[.string ⟨#[]⟩, .int .i64 0, .int .i64 0, .string ⟨#[]⟩, .string ⟨#[]⟩, .int .i64 0, .int .i64 0, .slice A l.length c]] W fun e w' => ∃ A' c', e = .returned (.agg #[.string ⟨#[]⟩, .int .i64 0, .int .i64 0, .string ⟨#[]⟩, .string ⟨#[]⟩, .int .i64 0, .int .i64 0, .slice A' l.length c']) ∧ Kd.R k129 129 w' W.heap.size (fun _ => True) (.slice A' l.length c') (l.map toRu) ∧ Below W.heap.size W w' := by
  refine (info_c noFS A c l W hr hc hl).mono ?_
  rintro e w' ⟨v, rfl, h1, h2⟩
  obtain ⟨A', c', hv⟩ := Kd.R_slice h1
  rw [List.length_map] at hv
  subst hv
  exact ⟨A', c', rfl, h1, h2⟩
theorem cells8 {w : World} {b t : Nat} {c0 c1 c2 c3 c4 c5 c6 c7 : Value} (h : w.heap[b]? = some (.cells #[c0, c1, c2, c3, c4, c5, c6, c7] t (0, 0))) : w.cell? ⟨b, 0, none⟩ = some c0 ∧ w.cell? ⟨b, 1, none⟩ = some c1 ∧ w.cell? ⟨b, 2, none⟩ = some c2 ∧ w.cell? ⟨b, 3, none⟩ = some c3 ∧ w.cell? ⟨b, 4, none⟩ = some c4 ∧ w.cell? ⟨b, 5, none⟩ = some c5 ∧ w.cell? ⟨b, 6, none⟩ = some c6 ∧ w.cell? ⟨b, 7, none⟩ = some c7 := ⟨blk_cell h 0, blk_cell h 1, blk_cell h 2, blk_cell h 3, blk_cell h 4, blk_cell h 5, blk_cell h 6, blk_cell h 7⟩
set_option maxRecDepth 100000 in
set_option maxHeartbeats 4000000 in
theorem same11 (W0 W : World) (sb rb c : Nat) (st rt : Fs) (A B : Int) (u n : ByteArray) (fl : Bool) (s0 s1 : ByteArray) (s2 : Int) (pv : Value) (Ar : Option Addr) (cr : Nat) (ru : List S100) (hr : Kd.C k100 W0 Ar ru.length ru) (hcr : ru.length ≤ cr) (hru : ru.length ≤ 5864062014805) (h : Both W0 sb rb c st rt [] W) (hc : c < 1000) :
    Calls Tryz.prog 7 #[.pointer (some ⟨sb, 0, none⟩), .pointer (some ⟨rb, 0, none⟩), .agg #[.int .i64 11, .int .i64 A, .int .i64 B, .string u, .string n, .bool fl, .string s0, .string s1, .int .i64 s2, pv, .slice Ar ru.length cr]] W (SameOut W0 sb rb (c + 2) (st = rt) (mChange st u n B ru).2 (mChange rt u n B ru).2) := by
  have HRU := Aside0.mk (fun X (hb : Below W0.heap.size W0 X) => Kd.C_below hr hb)
  clear hr
  have hu71 := Tryz.underlying71
  have hu129 := Tryz.underlying129
  have HCR := Aside0.mk hcr
  have HLR := Aside0.mk hru
  have HB := Aside0.mk (h.box (.cells #[.int .i64 11, .int .i64 A, .int .i64 B, .string u, .string n, .bool fl, .string s0, .string s1, .int .i64 s2, pv, .slice Ar ru.length cr] 33) (heap_alloc_new W _))
  have HB2 := Aside0.mk (HB.out.box (.cells #[.string ⟨#[]⟩, .int .i64 0, .int .i64 0, .string ⟨#[]⟩, .string ⟨#[]⟩, .int .i64 0, .int .i64 0, .slice Ar ru.length cr] 66) (heap_alloc_new _ _))
  simp only [World.size_alloc] at HB2
  clear h HB hcr hru
  go_enter Tryz.func7, Tryz.ntmps7
  go_wp2_with fail
  generalize (W.alloc (.cells #[.int .i64 11, .int .i64 A, .int .i64 B, .string u, .string n, .bool fl, .string s0, .string s1, .int .i64 s2, pv, .slice Ar ru.length cr] 33)).alloc (.cells #[.string ⟨#[]⟩, .int .i64 0, .int .i64 0, .string ⟨#[]⟩, .string ⟨#[]⟩, .int .i64 0, .int .i64 0, .slice Ar ru.length cr] 66) = w2 at HB2 ⊢
  generalize W.heap.size = ab at HB2 ⊢
  obtain ⟨-, -, y2, y3, y4, -, -, -, -, -, y10⟩ := act_at (HB2.out.at_ _ (List.mem_cons_of_mem _ List.mem_cons_self))
  obtain ⟨z0, z1, z2, z3, z4, z5, z6, z7⟩ := cells8 (HB2.out.at_ _ List.mem_cons_self)
  go_region_held3 (fun w' => (w'.cell? ⟨ab, 2, none⟩ = some (.int .i64 B) ∧ w'.cell? ⟨ab, 3, none⟩ = some (.string u) ∧ w'.cell? ⟨ab, 4, none⟩ = some (.string n) ∧ w'.cell? ⟨ab, 10, none⟩ = some (.slice Ar ru.length cr)) ∧ w'.cell? ⟨ab + 1, 0, none⟩ = some (.string ⟨#[]⟩) ∧ w'.cell? ⟨ab + 1, 1, none⟩ = some (.int .i64 0) ∧ w'.cell? ⟨ab + 1, 2, none⟩ = some (.int .i64 0) ∧ w'.cell? ⟨ab + 1, 3, none⟩ = some (.string ⟨#[]⟩) ∧ w'.cell? ⟨ab + 1, 4, none⟩ = some (.string ⟨#[]⟩) ∧ w'.cell? ⟨ab + 1, 5, none⟩ = some (.int .i64 0) ∧ w'.cell? ⟨ab + 1, 6, none⟩ = some (.int .i64 0) ∧ w'.cell? ⟨ab + 1, 7, none⟩ = some (.slice Ar ru.length cr)) (go_keep)
    (first
      | (go_at_call 42; (with_reducible refine (HB2.out.drew.pChange u n B Ar cr ru (HRU.out _ HB2.out.drew.low) HCR.out).mono ?_); rintro e w5 ⟨rfl, h5, -⟩; have HB5 := Aside0.mk h5; obtain ⟨-, -, p2, p3, p4, -, -, -, -, -, p10⟩ := act_at (h5.at_ _ (List.mem_cons_of_mem _ List.mem_cons_self)); obtain ⟨q0, q1, q2, q3, q4, q5, q6, q7⟩ := cells8 (h5.at_ _ List.mem_cons_self); clear h5)
      | (go_at_call 41; (with_reducible refine (info_e Ar cr ru w5 (HRU.out _ HB5.out.low) HCR.out HLR.out).mono ?_); rintro e w6 ⟨A6, c6, rfl, hr6, hb6⟩; have HB6 := Aside0.mk (HB5.out.below hb6); have HR6 := Aside0.mk hr6; have HBB6 := Aside0.mk hb6; obtain ⟨-, -, r2, r3, r4, -, -, -, -, -, r10⟩ := act_at (HB6.out.at_ _ (List.mem_cons_of_mem _ List.mem_cons_self)); obtain ⟨s0, s1, s2, s3, s4, s5, s6, s7⟩ := cells8 (HB6.out.at_ _ List.mem_cons_self); clear hr6 hb6)
      | (go_at_call 43; (with_reducible refine (HB6.out.rChange (by omega) u n B A6 c6 ru _ HR6.out ⟨w5, HB5.out, HBB6.out, rfl⟩).mono ?_); rintro e w7 ⟨rfl, h7, -⟩; have HB7 := Aside0.mk h7; obtain ⟨-, -, t2, t3, t4, -, -, -, -, -, t10⟩ := act_at (h7.at_ _ (List.mem_cons_of_mem _ List.mem_cons_self)); obtain ⟨v0, v1, v2, v3, v4, v5, v6, v7⟩ := cells8 (h7.at_ _ List.mem_cons_self); clear h7))
  all_goals
    go_wp2
    refine bodyPost_ret (v := .bool ((mChange st u n B ru).1 == (mChange rt u n B ru).1)) (by simp [results, Tryz.f7, go_sem]) rfl ?_
    exact ⟨_, rfl, fun e => by rw [e]; simp, HB7.out.drop.drop.mono (by omega)⟩
set_option maxRecDepth 100000 in
set_option maxHeartbeats 4000000 in
theorem same_else (W0 W : World) (sb rb c : Nat) (st rt : Fs) (A B : Int) (u n : ByteArray) (fl : Bool) (s0 s1 : ByteArray) (s2 : Int) (pv rv : Value) (d : Int) (hd : ∀ i : Nat, i < 12 → d ≠ (i : Int)) (h : Both W0 sb rb c st rt [] W) (hc : c < 1000) :
    Calls Tryz.prog 7 #[.pointer (some ⟨sb, 0, none⟩), .pointer (some ⟨rb, 0, none⟩), .agg #[.int .i64 d, .int .i64 A, .int .i64 B, .string u, .string n, .bool fl, .string s0, .string s1, .int .i64 s2, pv, rv]] W (SameOut W0 sb rb (c + 2) (st = rt) st rt) := by
  have HB := Aside0.mk (h.box (.cells #[.int .i64 d, .int .i64 A, .int .i64 B, .string u, .string n, .bool fl, .string s0, .string s1, .int .i64 s2, pv, rv] 33) (heap_alloc_new W _))
  have t0 : (d == 0) = false := by have := hd 0 (by omega); simpa using this
  have t1 : (d == 1) = false := by have := hd 1 (by omega); simpa using this
  have t2 : (d == 2) = false := by have := hd 2 (by omega); simpa using this
  have t3 : (d == 3) = false := by have := hd 3 (by omega); simpa using this
  have t4 : (d == 4) = false := by have := hd 4 (by omega); simpa using this
  have t5 : (d == 5) = false := by have := hd 5 (by omega); simpa using this
  have t6 : (d == 6) = false := by have := hd 6 (by omega); simpa using this
  have t7 : (d == 7) = false := by have := hd 7 (by omega); simpa using this
  have t8 : (d == 8) = false := by have := hd 8 (by omega); simpa using this
  have t9 : (d == 9) = false := by have := hd 9 (by omega); simpa using this
  have t10 : (d == 10) = false := by have := hd 10 (by omega); simpa using this
  have t11 : (d == 11) = false := by have := hd 11 (by omega); simpa using this
  clear h hd
  go_enter Tryz.func7, Tryz.ntmps7
  go_wp2
  refine bodyPost_ret (v := .bool true) (by simp [results, Tryz.f7, go_sem]) rfl ?_
  exact ⟨_, rfl, fun _ => rfl, HB.out.drop.mono (by omega)⟩
theorem same_c (W0 W : World) (sb rb c : Nat) (st rt : Fs) (x : S33) (Ap Ar : Option Addr) (cp cr : Nat) (h : Both W0 sb rb c st rt [] W) (hc : c < 1000) (hp : Kd.C Kd.string W0 Ap x.f7.length x.f7) (hcp : x.f7.length ≤ cp) (hr : Kd.C k100 W0 Ar x.f8.length x.f8) (hcr : x.f8.length ≤ cr) (hru : x.f8.length ≤ 5864062014805) :
    Calls Tryz.prog 7 #[.pointer (some ⟨sb, 0, none⟩), .pointer (some ⟨rb, 0, none⟩), .agg (actCells x Ap cp Ar cr).toArray] W (SameOut W0 sb rb (c + 2) (st = rt) (mStep st x) (mStep rt x)) := by
  obtain ⟨d, A, B, u, n, fl, ⟨s0, s1, s2⟩, pa, ru⟩ := x
  by_cases h0 : d = 0
  · subst h0
    have e1 : ∀ s, mStep s (⟨0, A, B, u, n, fl, ⟨s0, s1, s2⟩, pa, ru⟩ : S33) = (mCreate s u n A B).2 := fun s => by simp [mStep, mDo]
    rw [e1, e1]
    exact same0 W0 W sb rb c st rt A B u n fl s0 s1 s2 _ _ h hc
  by_cases h1 : d = 1
  · subst h1
    have e1 : ∀ s, mStep s (⟨1, A, B, u, n, fl, ⟨s0, s1, s2⟩, pa, ru⟩ : S33) = (mDelete s u n ).2 := fun s => by simp [mStep, mDo]
    rw [e1, e1]
    exact same1 W0 W sb rb c st rt A B u n fl s0 s1 s2 _ _ h hc
  by_cases h2 : d = 2
  · subst h2
    have e1 : ∀ s, mStep s (⟨2, A, B, u, n, fl, ⟨s0, s1, s2⟩, pa, ru⟩ : S33) = (mOpen s u n A B).2 := fun s => by simp [mStep, mDo]
    rw [e1, e1]
    exact same2 W0 W sb rb c st rt A B u n fl s0 s1 s2 _ _ h hc
  by_cases h3 : d = 3
  · subst h3
    have e1 : ∀ s, mStep s (⟨3, A, B, u, n, fl, ⟨s0, s1, s2⟩, pa, ru⟩ : S33) = (mClose s u n ).2 := fun s => by simp [mStep, mDo]
    rw [e1, e1]
    exact same3 W0 W sb rb c st rt A B u n fl s0 s1 s2 _ _ h hc
  by_cases h4 : d = 4
  · subst h4
    have e1 : ∀ s, mStep s (⟨4, A, B, u, n, fl, ⟨s0, s1, s2⟩, pa, ru⟩ : S33) = s := fun s => by simp [mStep, mDo]
    rw [e1, e1]
    exact same4 W0 W sb rb c st rt A B u n fl s0 s1 s2 Ap cp pa _ (Kd.C_below hp h.low) hcp h hc
  by_cases h5 : d = 5
  · subst h5
    have e1 : ∀ s, mStep s (⟨5, A, B, u, n, fl, ⟨s0, s1, s2⟩, pa, ru⟩ : S33) = (mRead s u n A fl).2.2 := fun s => by simp [mStep, mDo]
    rw [e1, e1]
    exact same5 W0 W sb rb c st rt A B u n fl s0 s1 s2 _ _ h hc
  by_cases h6 : d = 6
  · subst h6
    have e1 : ∀ s, mStep s (⟨6, A, B, u, n, fl, ⟨s0, s1, s2⟩, pa, ru⟩ : S33) = (mInsert s u n A fl s0 s1).2 := fun s => by simp [mStep, mDo]
    rw [e1, e1]
    exact same6 W0 W sb rb c st rt A B u n fl s0 s1 s2 _ _ h hc
  by_cases h7 : d = 7
  · subst h7
    have e1 : ∀ s, mStep s (⟨7, A, B, u, n, fl, ⟨s0, s1, s2⟩, pa, ru⟩ : S33) = (mReplace s u n A s1).2 := fun s => by simp [mStep, mDo]
    rw [e1, e1]
    exact same7 W0 W sb rb c st rt A B u n fl s0 s1 s2 _ _ h hc
  by_cases h8 : d = 8
  · subst h8
    have e1 : ∀ s, mStep s (⟨8, A, B, u, n, fl, ⟨s0, s1, s2⟩, pa, ru⟩ : S33) = (mExtend s u n A s1).2 := fun s => by simp [mStep, mDo]
    rw [e1, e1]
    exact same8 W0 W sb rb c st rt A B u n fl s0 s1 s2 _ _ h hc
  by_cases h9 : d = 9
  · subst h9
    have e1 : ∀ s, mStep s (⟨9, A, B, u, n, fl, ⟨s0, s1, s2⟩, pa, ru⟩ : S33) = (mErase s u n A).2 := fun s => by simp [mStep, mDo]
    rw [e1, e1]
    exact same9 W0 W sb rb c st rt A B u n fl s0 s1 s2 _ _ h hc
  by_cases h10 : d = 10
  · subst h10
    have e1 : ∀ s, mStep s (⟨10, A, B, u, n, fl, ⟨s0, s1, s2⟩, pa, ru⟩ : S33) = s := fun s => by simp [mStep, mDo]
    rw [e1, e1]
    exact same10 W0 W sb rb c st rt A B u n fl s0 s1 s2 _ _ h hc
  by_cases h11 : d = 11
  · subst h11
    have e1 : ∀ s, mStep s (⟨11, A, B, u, n, fl, ⟨s0, s1, s2⟩, pa, ru⟩ : S33) = (mChange s u n B ru).2 := fun s => by simp [mStep, mDo]
    rw [e1, e1]
    exact same11 W0 W sb rb c st rt A B u n fl s0 s1 s2 _ Ar cr ru hr hcr hru h hc
  have e1 : ∀ s, mStep s (⟨d, A, B, u, n, fl, ⟨s0, s1, s2⟩, pa, ru⟩ : S33) = s := fun s => by simp [mStep, mDo, h0, h1, h2, h3, h5, h6, h7, h8, h9, h11]
  rw [e1, e1]
  exact same_else W0 W sb rb c st rt A B u n fl s0 s1 s2 _ _ d (fun i hi => by
    have : i = 0 ∨ i = 1 ∨ i = 2 ∨ i = 3 ∨ i = 4 ∨ i = 5 ∨ i = 6 ∨ i = 7 ∨ i = 8 ∨ i = 9 ∨ i = 10 ∨ i = 11 := by omega
    rcases this with rfl | rfl | rfl | rfl | rfl | rfl | rfl | rfl | rfl | rfl | rfl | rfl <;> assumption) h hc
end Go.Proofs.YtehlmkgldcfciaaGreat.Files
/- The file store: the example of the chapter is right. -/
set_option linter.unusedVariables false
set_option linter.unusedSimpArgs false
namespace Go.Proofs.YtehlmkgldcfciaaGreat.Files
open Go.Proofs.YtehlmkgldcfciaaGreat.Common Go.Maps Go.ChangeMaps Go.WideMaps Go.Proofs.YtehlmkgldcfciaaGreat.F
open Go.RowKit Go.Proofs.YtehlmkgldcfciaaGreatW.PrintWords Go.Proofs.YtehlmkgldcfciaaGreatW.PrintLast Go.Proofs.YtehlmkgldcfciaaGreatW.PrintMore
theorem SOut.one {W : World} {ok : Nat → Prop} {sb : Nat} {v : Value} {f : AF} {e : Ending} {w' : World} {base : Nat} (h : SOut W ok sb v [f] e w') (hB : base ≤ W.heap.size) (hok : ∀ q, ok q → base ≤ q) :
    e = .returned v ∧ ∃ ok' fb, StoreRep w' ok' sb [(fb, f)] ∧ Below base W w' ∧ (∀ q, ok' q → base ≤ q) ∧ base ≤ w'.heap.size := by
  obtain ⟨rfl, ok', L', hR, hL, hc, hq⟩ := h
  match L', hL with
  | [(fb, g)], hL =>
    have hg : g = f := by simpa using hL
    subst hg
    exact ⟨rfl, ok', fb, hR, hc.below hB hok, fun q h => (hq q h).elim (hok q) (fun h => by omega), by have := hc.size; omega⟩
theorem uok1 : UOk F1.units := uok_of (by decide) (by decide) (by rw [F1_units]; intro x hx; obtain rfl := List.mem_singleton.1 hx; decide) rfl
theorem uok2 : UOk F2.units := uok_of (by decide) (by decide) (by
  rw [F2_units]
  intro x hx
  rcases List.mem_cons.1 hx with rfl | hx
  · decide
  · obtain rfl := List.mem_singleton.1 hx
    decide) rfl
theorem uok3 : UOk F3.units := uok_of (by decide) (by decide) (by
  rw [F3_units]
  intro x hx
  rcases List.mem_cons.1 hx with rfl | hx
  · decide
  · rcases List.mem_cons.1 hx with rfl | hx
    · decide
    · obtain rfl := List.mem_singleton.1 hx
      decide) rfl
theorem read3 : readL F3.units 0 true = [⟨ByteArray.empty, ByteArray.empty, 0⟩, ⟨sa, s1, 1⟩, ⟨sb_, s2, 1⟩] := by
  rw [F3_units]
  simp [readL, endOf, runLen, lower, lv, rd_T29, wrap64]
set_option maxRecDepth 100000 in
set_option maxHeartbeats 1000000 in
theorem sane_c (w : World) : Calls Tryz.prog 13 #[] w fun e w' => e = .returned (.bool true) ∧ Below w.heap.size w w' := by
  go_enter Tryz.func13, Tryz.ntmps13
  go_wp2_with fail
  refine (S_New w).mono ?_
  rintro e w1 ⟨sb, ok1, rfl, hR1, hb1, hok1⟩
  have hz1 := hb1.size
  have HB1 := Aside0.mk hb1
  have CC := Aside0.mk (S_Create_ok sb ok1 [] su sf 2 255 w1 hR1 (by decide) (by decide) (by decide) (by decide) (fun p hp => by cases hp) (by decide))
  clear hb1 hR1
  go_wp2_with fail
  refine CC.out.mono ?_
  intro e w2 ho2
  obtain ⟨rfl, ok2, fb2, hR2, hb2, hok2, hz2⟩ := SOut.one (f := F0) ho2 hz1 hok1
  have HB2 := Aside0.mk (HB1.out.trans hb2)
  have CO := S_Open sb fb2 0 ok2 [(fb2, F0)] F0 su sf 255 0 w2 hR2 rfl rfl (by decide) (by decide) (by decide) (by decide) (by decide) rfl rfl (by decide) (by decide)
  rw [if_pos (show freeB F0.users 255 0 = true from rfl), if_pos (show freeB F0.users 255 0 = true from rfl)] at CO
  have CO' := Aside0.mk CO
  clear CC CO hb2 hR2 ho2 hok1 hz1
  go_wp2_with fail
  refine CO'.out.mono ?_
  intro e w3 ho3
  obtain ⟨rfl, ok3, fb3, hR3, hb3, hok3, hz3⟩ := SOut.one (f := F1) ho3 hz2 hok2
  have HB3 := Aside0.mk (HB2.out.trans hb3)
  have C1 := S_Insert_ok sb fb3 0 0 ok3 [(fb3, F1)] F1 su sf true sa s1 0 255 0 w3 hR3 rfl rfl (by decide) (by decide) rfl uok1 (by decide) (by decide) (by decide) rfl rfl rfl (by decide)
  have C1' := Aside0.mk C1
  clear CO' C1 hb3 hR3 ho3 hok2 hz2
  go_wp2_with fail
  refine C1'.out.mono ?_
  intro e w4 ho4
  obtain ⟨rfl, ok4, fb4, hR4, hb4, hok4, hz4⟩ := SOut.one (f := F2) ho4 hz3 hok3
  have HB4 := Aside0.mk (HB3.out.trans hb4)
  have C2 := Aside0.mk (S_Insert_ok sb fb4 0 1 ok4 [(fb4, F2)] F2 su sf false sb_ s2 0 255 0 w4 hR4 rfl rfl (by decide) (by decide) rfl uok2 (by decide) (by decide) (by decide) rfl rfl rfl (by decide))
  clear C1' hb4 hR4 ho4 hok3 hz3
  go_wp2_with fail
  refine C2.out.mono ?_
  intro e w5 ho5
  obtain ⟨rfl, ok5, fb5, hR5, hb5, hok5, hz5⟩ := SOut.one (f := F3) ho5 hz4 hok4
  have HB5 := Aside0.mk (HB4.out.trans hb5)
  have C3 := Aside0.mk (S_Read_ok sb fb5 0 0 ok5 [(fb5, F3)] F3 su sf true 255 0 w5 hR5 rfl rfl (by decide) (by decide) rfl uok3 (by decide) rfl)
  clear C2 hb5 hR5 ho5 hok4 hz4
  go_wp2_with fail
  refine C3.out.mono ?_
  rintro e w6 ⟨v, ho6, hr6⟩
  obtain ⟨rfl, ok6, fb6, hR6, hb6, hok6, hz6⟩ := SOut.one (f := F3.read) ho6 hz5 hok5
  have HB6 := Aside0.mk (HB5.out.trans hb6)
  have hr6' : Kd.R k29 29 w6 w5.heap.size (fun _ => True) v [⟨ByteArray.empty, ByteArray.empty, 0⟩, ⟨sa, s1, 1⟩, ⟨sb_, s2, 1⟩] := by rw [← read3]; exact hr6
  obtain ⟨g, c, rfl, hc, _⟩ := units_slice hr6' (by decide)
  obtain ⟨_, _, hC⟩ := Kd.R_reads' hr6'
  have x4 : w6.cell? ⟨g, 4, none⟩ = some (.string ⟨#[49]⟩) := by
    obtain ⟨ad, he, _, h2, _⟩ := at_T29 hC 1 (by decide) (by decide)
    cases he
    exact h2
  have x7 : w6.cell? ⟨g, 7, none⟩ = some (.string ⟨#[50]⟩) := by
    obtain ⟨ad, he, _, h2, _⟩ := at_T29 hC 2 (by decide) (by decide)
    cases he
    exact h2
  have x8 : w6.cell? ⟨g, 8, none⟩ = some (.int .i64 1) := by
    obtain ⟨ad, he, _, _, h2⟩ := at_T29 hC 2 (by decide) (by decide)
    cases he
    exact h2
  clear C3 hb6 hR6 ho6 hok5 hz5 hr6 hr6' hC
  go_wp2
  go_ret
  exact ⟨rfl, HB6.out⟩
end Go.Proofs.YtehlmkgldcfciaaGreat.Files
/- The law FilesScripts, walked. -/
set_option linter.unusedVariables false
set_option linter.unusedSimpArgs false
namespace Go.Proofs.YtehlmkgldcfciaaGreat.Files
open Go.Proofs.YtehlmkgldcfciaaGreat.Common Go.Maps Go.ChangeMaps Go.WideMaps Go.Proofs.YtehlmkgldcfciaaGreat.F
open Go.RowKit Go.Proofs.YtehlmkgldcfciaaGreatW.PrintWords Go.Proofs.YtehlmkgldcfciaaGreatW.PrintLast Go.Proofs.YtehlmkgldcfciaaGreatW.PrintMore
theorem strings_s {W : World} {A0 A1 : Option Addr} {n0 n1 c0 c1 B0 B1 : Nat} {ok0 ok1 : Nat → Prop} {xs : List ByteArray} (h0 : Kd.R Kd.string 9 W B0 ok0 (.slice A0 n0 c0) xs) (h1 : Kd.R Kd.string 9 W B1 ok1 (.slice A1 n1 c1) xs) (hl : xs.length ≤ 1000) :
    Calls Tryz.prog 8 #[.slice A0 n0 c0, .slice A1 n1 c1] W fun e w' => e = .returned (.bool true) ∧ Below W.heap.size W w' := by
  have e0 := (Kd.R_reads' h0).1
  have e1 := (Kd.R_reads' h1).1
  subst e0
  subst e1
  obtain ⟨r, hr, hrt⟩ := Strings_ex xs xs hl
  obtain rfl := hrt rfl
  refine (heptadref01_Strings.calls _ A0 c0 xs A1 c1 xs true W (same_s h0).1 (same_s h0).2 (same_s h1).1 (same_s h1).2 hr).mono ?_
  rintro e w' ⟨rfl, hd⟩
  exact ⟨rfl, hd.below⟩
theorem RWords.slice {W w' : World} {l : List ByteArray} {e : Ending} (h : RWords W l e w') : ∃ A n c, e = .returned (.slice A n c) ∧ Kd.R Kd.string 9 w' W.heap.size (fun _ => True) (.slice A n c) (sortL l) := by
  obtain ⟨v, rfl, hr, _⟩ := h
  obtain ⟨A, c, rfl⟩ := Kd.R_slice hr
  exact ⟨A, _, c, rfl, hr⟩
theorem users_len {c : Nat} {st : Fs} (hI : TInv c st) (hc : c ≤ 1000) (n : ByteArray) : (sortL (usersL_ st n)).length ≤ 1000 := by
  rw [(sortL_perm _).length_eq]
  unfold usersL_
  cases hp : posF st n with
  | none => exact Nat.zero_le _
  | some p =>
    have := (hI.at_ (posF_some (k := p.1) (f := p.2) hp).1).count
    simp only [List.length_map]
    omega
theorem names_len {c : Nat} {st : Fs} (hI : TInv c st) : (sortL (st.map (·.F.name))).length ≤ 1000 := by
  rw [(sortL_perm _).length_eq, List.length_map]
  have := hI.count
  omega
theorem act_row {w : World} {ad : Addr} {k : Nat} {x : S33} {Ap Ar : Option Addr} {cp cr : Nat} (h : ∀ j u, (actCells x Ap cp Ar cr)[j]? = some u → w.cell? (ad.add (k * 11 + j)) = some u) : w.cell? (ad.add (k * 11)) = some (.int .i64 x.f0) ∧ w.cell? ⟨(ad.add (k * 11)).block, (ad.add (k * 11)).off + 1, none⟩ = some (.int .i64 x.f1) ∧ w.cell? ⟨(ad.add (k * 11)).block, (ad.add (k * 11)).off + 2, none⟩ = some (.int .i64 x.f2) ∧ w.cell? ⟨(ad.add (k * 11)).block, (ad.add (k * 11)).off + 3, none⟩ = some (.string x.f3) ∧ w.cell? ⟨(ad.add (k * 11)).block, (ad.add (k * 11)).off + 4, none⟩ = some (.string x.f4) ∧ w.cell? ⟨(ad.add (k * 11)).block, (ad.add (k * 11)).off + 5, none⟩ = some (.bool x.f5) ∧ w.cell? ⟨(ad.add (k * 11)).block, (ad.add (k * 11)).off + 6, none⟩ = some (.string x.f6.f0) ∧ w.cell? ⟨(ad.add (k * 11)).block, (ad.add (k * 11)).off + 7, none⟩ = some (.string x.f6.f1) ∧ w.cell? ⟨(ad.add (k * 11)).block, (ad.add (k * 11)).off + 8, none⟩ = some (.int .i64 x.f6.f2) ∧ w.cell? ⟨(ad.add (k * 11)).block, (ad.add (k * 11)).off + 9, none⟩ = some (.slice Ap x.f7.length cp) ∧ w.cell? ⟨(ad.add (k * 11)).block, (ad.add (k * 11)).off + 10, none⟩ = some (.slice Ar x.f8.length cr) :=
  ⟨h 0 _ rfl, (by rw [← add_field _ _ 1 (by omega)]; exact h 1 _ rfl), (by rw [← add_field _ _ 2 (by omega)]; exact h 2 _ rfl), (by rw [← add_field _ _ 3 (by omega)]; exact h 3 _ rfl), (by rw [← add_field _ _ 4 (by omega)]; exact h 4 _ rfl), (by rw [← add_field _ _ 5 (by omega)]; exact h 5 _ rfl), (by rw [← add_field _ _ 6 (by omega)]; exact h 6 _ rfl), (by rw [← add_field _ _ 7 (by omega)]; exact h 7 _ rfl), (by rw [← add_field _ _ 8 (by omega)]; exact h 8 _ rfl), (by rw [← add_field _ _ 9 (by omega)]; exact h 9 _ rfl), (by rw [← add_field _ _ 10 (by omega)]; exact h 10 _ rfl)⟩
set_option maxRecDepth 100000 in
set_option maxHeartbeats 8000000 in
theorem FilesScripts_c (A : Option Addr) (c : Nat) (l : List S33) (W : World) (hr : Kd.C k33 W A l.length l) (hc : l.length ≤ c) (hb : ∀ x ∈ l, x.f4.size ≤ 140737488355328 ∧ x.f8.length ≤ 5864062014805) :
    Calls Tryz.prog 3 #[.slice A l.length c] W fun e w' => e = .returned (.bool true) ∧ Below W.heap.size W w' := by
  have HR := Aside0.mk hr
  have HSZ := Aside0.mk hb
  have CN := Aside0.mk (S_New W)
  have hll : (l.length : Int) ≤ 9223372036854775807 := by have := hr.2.1; omega
  clear hr hb
  go_enter Tryz.func3, Tryz.ntmps3
  go_wp2_with fail
  refine CN.out.mono ?_
  rintro e w1 ⟨sb, okk, rfl, hR1, hb1, hok1⟩
  have HR1 := Aside0.mk hR1
  have HB1 := Aside0.mk hb1
  have HOK := Aside0.mk hok1
  clear hR1 hb1 hok1 CN
  go_wp2_with fail
  refine (rNew_c w1).mono ?_
  rintro e w2 ⟨rb, rfl, hR2, hb2, hrb⟩
  have HH := Aside0.mk (show Both W sb rb 0 [] [] [] w2 from ⟨okk, fun q => q = rb, [], HR1.out.other (Chg.of_below hb2 (fun _ => False)) (fun _ _ h => h), rfl, hR2, fun q hq e => by have h1 := HR1.out.lt q hq; subst e; omega, TInv.nil 0, TInv.nil 0, XInv.nil, HB1.out.trans (hb2.mono HB1.out.size), fun q hq => ⟨HOK.out q hq, fun p hp => by cases hp⟩, fun q hq => ⟨by have h1 := HB1.out.size; subst hq; omega, fun p hp => by cases hp⟩, fun p hp => by cases hp⟩)
  clear hR2 hb2 hrb HR1 HB1 HOK
  go_wp2_with fail
  go_loopw [5] (fun s wr => ∃ (k : Nat) (st : Fs), s = .int .i64 k ∧ k ≤ 200 ∧ k ≤ l.length ∧ Aside0 (Both W sb rb (2 * k) st st [] wr)) (fun s _ => 200 - (intOf s).toNat)
  case atStart => exact ⟨0, [], rfl, by omega, by omega, HH⟩
  case round =>
    clear HH
    obtain ⟨k, st, rfl, hk2, hkl, HH⟩ := hrel
    by_cases hlt : k < l.length ∧ k < 200
    · have h1z : (k : Int) < (l.length : Int) := by omega
      have h2z : (k : Int) < 200 := by omega
      have hk0 : decide ((k : Int) < 0) = false := decide_eq_false (by omega)
      have hkp : (0 : Int) ≤ (k : Int) := by omega
      obtain ⟨ad, Ap, cp, Ar, cr, rfl, hlp, hpp, hlr, hrr, hcs⟩ := at_T33 HR.out k hlt.1
      have HX := Aside0.mk (fun X (hb : Below W.heap.size W X) => (fun j u hj => pw_cell_below hb (hcs j u hj) : ∀ j u, (actCells (rd_T33 l (k : Int)) Ap cp Ar cr)[j]? = some u → X.cell? (ad.add (k * 11 + j)) = some u))
      obtain ⟨hn4, hn8⟩ := HSZ.out (rd_T33 l (k : Int)) (by unfold rd_T33; rw [Int.toNat_natCast, List.getD_eq_getElem?_getD, List.getElem?_eq_getElem hlt.1]; exact List.getElem_mem hlt.1)
      clear hcs
      generalize rd_T33 l (k : Int) = x at *
      have HN4 := Aside0.mk hn4
      have CS := Aside0.mk (same_c W wr.drew sb rb (2 * k) st st x Ap Ar cp cr HH.out.drew (by omega) hpp hlp hrr hlr hn8)
      unfold actCells at CS
      obtain ⟨x0, x1, x2, x3, x4, x5, x6, x7, x8, x9, x10⟩ := act_row (HX.out wr HH.out.low)
      clear hpp hrr hn4 hn8
      have HK := Aside0.mk hk2
      go_wp2_with fail
      go_region_held3 (fun w' => w'.cell? (ad.add (k * 11)) = some (.int .i64 x.f0) ∧ w'.cell? ⟨(ad.add (k * 11)).block, (ad.add (k * 11)).off + 1, none⟩ = some (.int .i64 x.f1) ∧ w'.cell? ⟨(ad.add (k * 11)).block, (ad.add (k * 11)).off + 2, none⟩ = some (.int .i64 x.f2) ∧ w'.cell? ⟨(ad.add (k * 11)).block, (ad.add (k * 11)).off + 3, none⟩ = some (.string x.f3) ∧ w'.cell? ⟨(ad.add (k * 11)).block, (ad.add (k * 11)).off + 4, none⟩ = some (.string x.f4) ∧ w'.cell? ⟨(ad.add (k * 11)).block, (ad.add (k * 11)).off + 5, none⟩ = some (.bool x.f5) ∧ w'.cell? ⟨(ad.add (k * 11)).block, (ad.add (k * 11)).off + 6, none⟩ = some (.string x.f6.f0) ∧ w'.cell? ⟨(ad.add (k * 11)).block, (ad.add (k * 11)).off + 7, none⟩ = some (.string x.f6.f1) ∧ w'.cell? ⟨(ad.add (k * 11)).block, (ad.add (k * 11)).off + 8, none⟩ = some (.int .i64 x.f6.f2) ∧ w'.cell? ⟨(ad.add (k * 11)).block, (ad.add (k * 11)).off + 9, none⟩ = some (.slice Ap x.f7.length cp) ∧ w'.cell? ⟨(ad.add (k * 11)).block, (ad.add (k * 11)).off + 10, none⟩ = some (.slice Ar x.f8.length cr)) (go_keep)
        (first
          | (go_at_call 7; (with_reducible refine CS.out.mono ?_); rintro e w5 ⟨b, rfl, hb, h5⟩; obtain rfl : b = true := hb (by trivial); have HB5 := Aside0.mk h5; obtain ⟨y0, y1, y2, y3, y4, y5, y6, y7, y8, y9, y10⟩ := act_row (HX.out _ h5.low))
          | (go_at_call 9; (with_reducible refine HB5.out.pNames.mono ?_); rintro e w6 ⟨hw, h6, -⟩; obtain ⟨A6, n6, c6, rfl, hr6⟩ := hw.slice; have HB6 := Aside0.mk h6; have HR6 := Aside0.mk hr6; clear hr6; obtain ⟨z0, z1, z2, z3, z4, z5, z6, z7, z8, z9, z10⟩ := act_row (HX.out _ h6.low))
          | (go_at_call 10; (with_reducible refine HB6.out.rNames.mono ?_); rintro e w7 ⟨hw, h7, hb7⟩; obtain ⟨A7, n7, c7, rfl, hr7⟩ := hw.slice; have HB7 := Aside0.mk h7; have HR7 := Aside0.mk hr7; have HR67 := Aside0.mk (Kd.R_below HR6.out hb7); clear hr7 hb7; obtain ⟨a0, a1, a2, a3, a4, a5, a6, a7, a8, a9, a10⟩ := act_row (HX.out _ h7.low))
          | (go_at_call 8; (with_reducible refine (strings_s HR67.out HR7.out (names_len HB7.out.I.1)).mono ?_); rintro e w8 ⟨rfl, hb8⟩; have h8 := HB7.out.below hb8; have HB8 := Aside0.mk h8; clear hb8; obtain ⟨b0, b1, b2, b3, b4, b5, b6, b7, b8, b9, b10⟩ := act_row (HX.out _ h8.low))
          | (go_at_call 11; (with_reducible refine (HB8.out.pUsers (by have := HK.out; omega) x.f4 HN4.out).mono ?_); rintro e w9 ⟨hw, h9, -⟩; obtain ⟨A9, n9, c9, rfl, hr9⟩ := hw.slice; have HB9 := Aside0.mk h9; have HR9 := Aside0.mk hr9; clear hr9; obtain ⟨d0, d1, d2, d3, d4, d5, d6, d7, d8, d9, d10⟩ := act_row (HX.out _ h9.low))
          | (go_at_call 12; (with_reducible refine (HB9.out.rUsers (by have := HK.out; omega) x.f4).mono ?_); rintro e w10 ⟨hw, h10, hb10⟩; obtain ⟨A10, n10, c10, rfl, hr10⟩ := hw.slice; have HB10 := Aside0.mk h10; have HR10 := Aside0.mk hr10; have HR910 := Aside0.mk (Kd.R_below HR9.out hb10); clear hr10 hb10; obtain ⟨g0, g1, g2, g3, g4, g5, g6, g7, g8, g9, g10⟩ := act_row (HX.out _ h10.low))
          | (go_at_call 8; (with_reducible refine (strings_s HR910.out HR10.out (users_len HB10.out.I.1 (by have := HK.out; omega) x.f4)).mono ?_); rintro e w11 ⟨rfl, hb11⟩; have h11 := HB10.out.below hb11; have HB11 := Aside0.mk h11; clear hb11; obtain ⟨m0, m1, m2, m3, m4, m5, m6, m7, m8, m9, m10⟩ := act_row (HX.out _ h11.low)))
      all_goals
        go_wp2_with fail
        go_roundw
        case rel => exact ⟨k + 1, mStep st x, by go_num, by omega, by omega, ⟨by rw [show 2 * (k + 1) = 2 * k + 2 by omega]; exact HB11.out⟩⟩
        case measure => (simp [intOf]; omega)
    · have hcase : ¬ (k : Int) < (l.length : Int) ∨ ((k : Int) < (l.length : Int) ∧ ¬ (k : Int) < 200) := by omega
      clear hlt
      have CSN := Aside0.mk (sane_c wr)
      have HL := Aside0.mk HH.out.low
      rcases hcase with h1z | ⟨h1z, h2z⟩
      all_goals
        go_wp2_with fail
        refine CSN.out.mono ?_
        rintro e w9 ⟨rfl, hb9⟩
        have HB9 := Aside0.mk (HL.out.trans (hb9.mono HL.out.size))
        clear hb9
        go_wp2
        refine bodyPost_ret (v := .bool true) (by simp [results, Tryz.f3, go_sem]) rfl ?_
        exact ⟨rfl, HB9.out⟩
end Go.Proofs.YtehlmkgldcfciaaGreat.Files
