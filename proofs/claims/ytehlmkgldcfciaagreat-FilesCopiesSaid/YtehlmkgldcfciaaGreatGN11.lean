/- The parts of this proof that lie in one text. -/
import Derived.Test.YtehlmkgldcfciaaGreatGN7
import Derived.Test.YtehlmkgldcfciaaGreatWRepsOne
import Derived.Test.YtehlmkgldcfciaaGreatGN1
/- The reference's store: Erase. -/
set_option linter.unusedVariables false
set_option linter.unusedSimpArgs false
namespace Go.Proofs.YtehlmkgldcfciaaGreat.Files
open Go.Proofs.YtehlmkgldcfciaaGreat.Common Go.Maps Go.ChangeMaps Go.WideMaps Go.Proofs.YtehlmkgldcfciaaGreat.F
open Go.RowKit Go.Proofs.YtehlmkgldcfciaaGreatW.PrintWords Go.Proofs.YtehlmkgldcfciaaGreatW.PrintLast Go.Proofs.YtehlmkgldcfciaaGreatW.PrintMore
set_option maxRecDepth 100000 in
set_option maxHeartbeats 4000000 in
theorem rErase_c (rb c : Nat) (ok : Nat → Prop) (st : Fs) (A : Option Addr) (u n : ByteArray) (at_ : Int) (W : World) (h : RParts W ok rb st A c) (hI : RInv st) :
    Calls Tryz.prog 37 #[.pointer (some ⟨rb, 0, none⟩), .string u, .string n, .int .i64 at_] W (ROut W ok rb (.int .i64 (mErase st u n at_).1) (mErase st u n at_).2) := by
  have C56 := Aside0.mk (rbad_c rb u n W h.c0)
  have CB := Aside0.mk (begin_c rb c ok st A u n W h)
  have HRR := Aside0.mk (show RRep W ok rb st from ⟨A, c, h⟩)
  cases hbad : (userB u && nameB n) with
  | false =>
    rw [hbad] at C56
    have HM := Aside0.mk (show mErase st u n at_ = (1, st) by unfold mErase; rw [mUnit_bad hbad])
    clear h hbad CB hI
    go_enter Tryz.func37, Tryz.ntmps37
    go_wp2_with first | (go_at_call 56; refine C56.out.mono ?_; rintro e w' ⟨rfl, rfl⟩)
    refine bodyPost_ret (v := .int .i64 1) (by simp [results, Tryz.f37, go_sem]) rfl ?_
    exact ROut.stay HRR.out (Below.refl _ _) (by rw [HM.out]) (by rw [HM.out])
  | true =>
   rw [hbad] at C56
   by_cases hr : at_ < 0
   · have g1 : decide (at_ < 0) = true := decide_eq_true hr
     have HM := Aside0.mk (show mErase st u n at_ = (1, st) by unfold mErase; rw [mUnit_neg hr])
     clear h hbad CB hr hI
     go_enter Tryz.func37, Tryz.ntmps37
     go_wp2_with first | (go_at_call 56; refine C56.out.mono ?_; rintro e w' ⟨rfl, rfl⟩)
     refine bodyPost_ret (v := .int .i64 1) (by simp [results, Tryz.f37, go_sem]) rfl ?_
     exact ROut.stay HRR.out (Below.refl _ _) (by rw [HM.out]) (by rw [HM.out])
   have g1 : decide (at_ < 0) = false := decide_eq_false hr
   have HN0 := Aside0.mk hr
   clear hr
   cases hB : mBegin st u n with
   | error E =>
     rw [hB] at CB
     have hE := mBegin_E hB
     have HM := Aside0.mk (show mErase st u n at_ = (E, st) by unfold mErase; rw [mUnit_err HN0.out (mOpened_err hbad hB 16)])
     clear h hbad hB hI
     go_enter Tryz.func37, Tryz.ntmps37
     go_wp2_with first | (go_at_call 56; refine C56.out.mono ?_; rintro e w' ⟨rfl, rfl⟩) | (go_at_call 67; refine CB.out.mono ?_; rintro e w2 ⟨hb2, rfl⟩)
     refine bodyPost_ret (v := .int .i64 E) (by simp [results, Tryz.f37, go_sem]) rfl ?_
     exact ROut.stay HRR.out (hb2) (by rw [HM.out]) (by rw [HM.out])
   | ok p =>
     obtain ⟨k, f, a⟩ := p
     rw [hB] at CB
     obtain ⟨hk, hnm⟩ := mBegin_at hB
     have HMU := Aside0.mk (mOpened_ok hbad hB 16)
     have HDD := Aside0.mk (denied_cases a 16)
     have HWI := Aside0.mk (within_den a 16 4 (by decide) rfl)
     have HU := Aside0.mk (hI.units f (List.mem_of_getElem? hk))
     have HR := Aside0.mk h
     have HHK := Aside0.mk hk
     clear hB hnm hk hI h
     by_cases hpl : (f.units.length : Int) ≤ at_
     · have g3 : decide ((f.units.length : Int) ≤ at_) = true := decide_eq_true hpl
       have HM := Aside0.mk (show mErase st u n at_ = (3, st) by unfold mErase; rw [mUnit_none HN0.out HMU.out hpl])
       clear hpl
       go_enter Tryz.func37, Tryz.ntmps37
       go_wp2_with first | (go_at_call 56; refine C56.out.mono ?_; rintro e w' ⟨rfl, rfl⟩)
       refine CB.out.mono ?_
       rintro e w2 ⟨hb2, rfl⟩
       have h := HR.out
       have hk := HHK.out
       have R2 := h.below hb2
       obtain ⟨g, Ar, cr, Au, cu, Ao, co, T⟩ := R2.row hk
       have hil : k < st.length := (List.getElem?_eq_some_iff.1 hk).1
       have hlz : (k : Int) < (st.length : Int) := by omega
       have hk0 : decide ((k : Int) < 0) = false := decide_eq_false (by omega)
       have c1 := R2.c1
       have hA := T.hA
       subst hA
       obtain ⟨x0, x1, x2, x3, x4, x5, x6, x7, x8, x9⟩ := T.x
       have HH := Aside0.mk R2
       have HT := Aside0.mk T
       have HK := Aside0.mk hk
       have hrb := R2.lt rb R2.okr
       have hgl := R2.glt T
       have hne : g ≠ rb := T.okg.2
       have hne2 : rb ≠ g := Ne.symm hne
       have HB2 := Aside0.mk hb2
       clear R2 T h hk hb2
       go_wp2
       refine bodyPost_ret (v := .int .i64 3) (by simp [results, Tryz.f37, go_sem]) rfl ?_
       exact ROut.stay HRR.out HB2.out (by rw [HM.out]) (by rw [HM.out])
     · have g3 : decide ((f.units.length : Int) ≤ at_) = false := decide_eq_false hpl
       have HMK := Aside0.mk (mUnit_ok HN0.out HMU.out hpl)
       obtain ⟨i, rfl⟩ : ∃ i : Nat, at_ = (i : Int) := ⟨at_.toNat, by have := HN0.out; omega⟩
       have hil2 : i < f.units.length := by omega
       rw [Int.toNat_natCast] at HMK
       clear hpl
       rcases HDD.out with hd0 | hd12
       · have gW : decide (bits .and .i64 16 a = 16) = true := by rw [HWI.out, hd0]; rfl
         have HM := Aside0.mk (show mErase st u n (i : Int) = (0, st.set k (f.erased u i)) by unfold mErase; rw [HMK.out]; simp only [hd0, if_pos])
         clear hd0
         rcases Nat.eq_zero_or_pos i with rfl | hpos
         · go_enter Tryz.func37, Tryz.ntmps37
           go_wp2_with first | (go_at_call 56; refine C56.out.mono ?_; rintro e w' ⟨rfl, rfl⟩)
           refine CB.out.mono ?_
           rintro e w2 ⟨hb2, rfl⟩
           have h := HR.out
           have hk := HHK.out
           have R2 := h.below hb2
           obtain ⟨g, Ar, cr, Au, cu, Ao, co, T⟩ := R2.row hk
           have hil : k < st.length := (List.getElem?_eq_some_iff.1 hk).1
           have hlz : (k : Int) < (st.length : Int) := by omega
           have hk0 : decide ((k : Int) < 0) = false := decide_eq_false (by omega)
           have c1 := R2.c1
           have hA := T.hA
           subst hA
           obtain ⟨x0, x1, x2, x3, x4, x5, x6, x7, x8, x9⟩ := T.x
           have HH := Aside0.mk R2
           have HT := Aside0.mk T
           have HK := Aside0.mk hk
           have hrb := R2.lt rb R2.okr
           have hgl := R2.glt T
           have hne : g ≠ rb := T.okg.2
           have hne2 : rb ≠ g := Ne.symm hne
           have HB2 := Aside0.mk hb2
           have HTK := Aside0.mk (fun (m : Nat) w (hb : Below w2.heap.size w2 w) (hm : m < f.units.length) => take_row (m := m) (Kd.C_below T.In.uC.2 hb) (n := f.units.length) (by simp) (Nat.le_of_lt hm))
           have HDR := Aside0.mk (fun (m : Nat) w (hb : Below w2.heap.size w2 w) (hm : m ≤ f.units.length) => drop_row (m := m) (c := cu) (Kd.C_below T.In.uC.2 hb) (n := f.units.length) (by simp) hm T.In.uC.1)
           have HCU := Aside0.mk (fun (i : Nat) w (hb : Below w2.heap.size w2 w) (hi : i < f.units.length) => under_c Au cu i f.units w (Kd.C_below T.In.uC.2 hb) T.In.uC.1 hi)
           have hul := HU.out.1.len
           have hcu := T.In.uC.1
           have hicu : 0 ≤ cu := by omega
           obtain ⟨E, hE⟩ : ∃ E, E = endOf f.units 0 := ⟨_, rfl⟩
           have HE := Aside0.mk hE
           have HEL := Aside0.mk (show E ≤ f.units.length by rw [hE]; exact (endOf_le hil2).2)
           have hEz : (E : Int) ≤ (f.units.length : Int) := by have := HEL.out; omega
           have hE0 : (0 : Int) ≤ (E : Int) := by omega
           have HRT := Aside0.mk (show (f.units[0]'hil2).f0 = ⟨#[]⟩ by have := HU.out.2.2.1; unfold nm at this; rwa [rd_get _ _ hil2] at this)
           have g30 : decide ((f.units.length : Int) ≤ 0) = false := decide_eq_false (by omega)
           have g31 : ¬ (f.units.length : Int) ≤ 0 := by omega
           have hlen0 : (0 : Int) < (f.units.length : Int) := by omega
           have g32 : ¬ f.units.length = 0 := by omega
           have g33 : ¬ f.units = [] := fun e => by rw [e] at hil2; simp at hil2
           obtain ⟨N, hN⟩ : ∃ N, N = (f.erased u 0).units.length := ⟨_, rfl⟩
           have HN := Aside0.mk hN
           have HEQ := Aside0.mk (show (f.erased u 0).units.map toU = ([⟨⟨#[]⟩, ⟨#[]⟩, 0⟩] : List S62) ++ (f.units.map toU).drop E by
             have h1 : E = f.units.length := by rw [hE]; exact endOf_root HU.out.2.2.2 HU.out.1.pos
             rw [h1, List.drop_eq_nil_of_le (by simp)]
             rfl)
           have HLEN := Aside0.mk (show (([⟨⟨#[]⟩, ⟨#[]⟩, 0⟩] : List S62) ++ (f.units.map toU).drop E).length = N by rw [hN, ← List.length_map (f := toU), HEQ.out])
           clear R2 T h hk hb2 hE hN x0 x1 x2 x3 x4 x5 x6 x7 x9 hcu
           go_wp2_with fail
           refine (rwithin_c 16 a _).mono ?_
           rintro e w' ⟨rfl, rfl⟩
           obtain ⟨adu, hAu, y0, _, _⟩ := at_units HT.out.In.uC.2 0 hil2
           have HAU := Aside0.mk hAu
           have y0 : w2.cell? (adu.add 0) = some (.string f.units[0].f0) := y0
           subst hAu
           rw [HRT.out] at y0
           have HY0 := Aside0.mk y0
           clear y0
           go_wp2_with (first
             | ((with_reducible refine gate_dst (N := 48) rfl ?_); refine Kd.R_lit k62 (w0 := w2) w2.heap.size 62 ?hg (N := 48) ?hd (xs := ([] : List S62)) (inner := []) (ok := fun _ => True) (okp := fun _ => True) ?hr ?hp (fun _ hk => hk) trivial (Below.refl _ _) (Nat.le_refl _) (by simp) ?_; (case hd => rfl); (case hg => rfl); (case hr => first | (go_simp; done) | (go_simp; rfl)); (case hp => exact (Reps.none _ _)); intro v1 x1 ho hb _ _; have HO1 := Aside0.mk ho; have HB1 := Aside0.mk hb; clear ho hb)
             | ((with_reducible refine gate_builtin (b := .append) (xs := #[.tmp 48, .tmp 51]) rfl ?_); at_builtin; refine Kd.R_append_rows k62 (Rr := k62.K x1) (w0 := w2) w2.heap.size rfl (.tmp 48) (.tmp 51) 55 62 (.agg #[.string ⟨#[]⟩, .string ⟨#[]⟩, .int .i64 0]) 40 rfl Tryz.underlying55 (by kernel_rfl) rfl (by decide) (by omega) v1 [] ((f.units.map toU).take 0) _ 0 _ (fun _ => True) (fun _ => False) rfl rfl HO1.out (HTK.out 0 _ HB1.out hil2) (fun x cs h => by rw [k62_open h]; exact k62_mkM _ _ _ _) (fun _ h => h.elim) (fun _ _ => trivial) HB1.out HB1.out.size (by simp only [List.length_nil]; omega) ?_; intro v3 x3 ho hb _ _; rw [List.nil_append] at ho; have HB3 := Aside0.mk hb; have HO3 := Aside0.mk ho; clear ho hb; have y3 := pw_cell_below HB3.out HY0.out; have y3b := add_zero' y3)
             | ((with_reducible refine gate_dst (N := 60) rfl ?_); refine Kd.R_lit k62 (w0 := w2) w2.heap.size 62 ?hg (N := 60) ?hd (xs := ([⟨⟨#[]⟩, ⟨#[]⟩, 0⟩] : List S62)) (inner := [.string ⟨#[]⟩, .string ⟨#[]⟩, .int .i64 0]) (ok := fun _ => True) (okp := fun _ => True) ?hr ?hp (fun _ hk => hk) trivial HB3.out HB3.out.size (by simp) ?_; (case hd => rfl); (case hg => rfl); (case hr => first | (go_simp; done) | (go_simp; rfl)); (case hp => exact (Reps.c3 (k62_mkM _ _ _ _) (Reps.none _ _))); intro v4 x4 ho hb _ _; have HO4 := Aside0.mk ho; have HB4 := Aside0.mk hb; clear ho hb))
           refine (HCU.out 0 _ HB4.out hil2).mono ?_
           rintro e xu ⟨rfl, ⟨mu, rfl⟩⟩
           have HBU := Aside0.mk (pw_below_drewN HB4.out mu)
           rw [← HE.out]
           go_wp2_with (first
             | ((with_reducible refine gate_builtin (b := .append) (xs := #[.tmp 64, .tmp 69]) rfl ?_); at_builtin; refine Kd.R_append_rows k62 (Rr := k62.K (x4.drewN mu)) (w0 := w2) w2.heap.size rfl (.tmp 64) (.tmp 69) 55 62 (.agg #[.string ⟨#[]⟩, .string ⟨#[]⟩, .int .i64 0]) 40 rfl Tryz.underlying55 (by kernel_rfl) rfl (by decide) (by omega) v4 [⟨⟨#[]⟩, ⟨#[]⟩, 0⟩] ((f.units.map toU).drop E) _ (f.units.length - E) _ (fun _ => True) (fun _ => False) rfl rfl (Kd.R_drewN HO4.out mu) (HDR.out E _ HBU.out HEL.out) (fun x cs h => by rw [k62_open h]; exact k62_mkM _ _ _ _) (fun _ h => h.elim) (fun _ _ => trivial) HBU.out HBU.out.size (by simp only [List.length_cons, List.length_nil]; omega) ?_; intro v5 x5 ho hb _ _; have HB5 := Aside0.mk hb; obtain ⟨A5, c5, hv5⟩ := Kd.R_slice ho; rw [HLEN.out] at hv5; subst hv5; have HO5 := Aside0.mk ho; clear ho hb))
           all_goals
             have CC := rchanged_out (who := u) (l := (f.erased u 0).units) (Al := A5) (cl := c5) HH.out HK.out HT.out HB5.out (by rw [HEQ.out, ← HN.out]; exact HO5.out)
             rw [← HN.out] at CC
             refine CC.mono ?_
             rintro e w7 ⟨rfl, hR'⟩
             have HR7 := Aside0.mk hR'
             clear hR' CC
             go_wp2
             refine bodyPost_ret (v := .int .i64 0) (by simp [results, Tryz.f37, go_sem]) rfl ?_
             rw [HM.out]
             exact ROut.from_ HB2.out ⟨rfl, HR7.out⟩

         · go_enter Tryz.func37, Tryz.ntmps37
           go_wp2_with first | (go_at_call 56; refine C56.out.mono ?_; rintro e w' ⟨rfl, rfl⟩)
           refine CB.out.mono ?_
           rintro e w2 ⟨hb2, rfl⟩
           have h := HR.out
           have hk := HHK.out
           have R2 := h.below hb2
           obtain ⟨g, Ar, cr, Au, cu, Ao, co, T⟩ := R2.row hk
           have hil : k < st.length := (List.getElem?_eq_some_iff.1 hk).1
           have hlz : (k : Int) < (st.length : Int) := by omega
           have hk0 : decide ((k : Int) < 0) = false := decide_eq_false (by omega)
           have c1 := R2.c1
           have hA := T.hA
           subst hA
           obtain ⟨x0, x1, x2, x3, x4, x5, x6, x7, x8, x9⟩ := T.x
           have HH := Aside0.mk R2
           have HT := Aside0.mk T
           have HK := Aside0.mk hk
           have hrb := R2.lt rb R2.okr
           have hgl := R2.glt T
           have hne : g ≠ rb := T.okg.2
           have hne2 : rb ≠ g := Ne.symm hne
           have HB2 := Aside0.mk hb2
           have HTK := Aside0.mk (fun (m : Nat) w (hb : Below w2.heap.size w2 w) (hm : m < f.units.length) => take_row (m := m) (Kd.C_below T.In.uC.2 hb) (n := f.units.length) (by simp) (Nat.le_of_lt hm))
           have HDR := Aside0.mk (fun (m : Nat) w (hb : Below w2.heap.size w2 w) (hm : m ≤ f.units.length) => drop_row (m := m) (c := cu) (Kd.C_below T.In.uC.2 hb) (n := f.units.length) (by simp) hm T.In.uC.1)
           have HCU := Aside0.mk (fun (i : Nat) w (hb : Below w2.heap.size w2 w) (hi : i < f.units.length) => under_c Au cu i f.units w (Kd.C_below T.In.uC.2 hb) T.In.uC.1 hi)
           have hul := HU.out.1.len
           have hcu := T.In.uC.1
           have hicu : i ≤ cu := by omega
           obtain ⟨E, hE⟩ : ∃ E, E = endOf f.units i := ⟨_, rfl⟩
           have HE := Aside0.mk hE
           have HEL := Aside0.mk (show E ≤ f.units.length by rw [hE]; exact (endOf_le hil2).2)
           have hEz : (E : Int) ≤ (f.units.length : Int) := by have := HEL.out; omega
           have hE0 : (0 : Int) ≤ (E : Int) := by omega
           obtain ⟨N, hN⟩ : ∃ N, N = (f.erased u i).units.length := ⟨_, rfl⟩
           have HN := Aside0.mk hN
           have HEQ := Aside0.mk (show (f.erased u i).units.map toU = (f.units.map toU).take i ++ (f.units.map toU).drop E by
             unfold AF.erased
             simp only [if_neg (show ¬ i = 0 by omega)]
             rw [List.map_append, List.map_take, List.map_drop, hE])
           have gz : ((i : Int) == 0) = false := by simp; omega
           have HLEN := Aside0.mk (show ((f.units.map toU).take i ++ (f.units.map toU).drop E).length = N by rw [hN, ← List.length_map (f := toU), HEQ.out])
           clear R2 T h hk hb2 hE hN x0 x1 x2 x3 x4 x5 x6 x7 x9 hcu
           go_wp2_with fail
           refine (rwithin_c 16 a _).mono ?_
           rintro e w' ⟨rfl, rfl⟩
           go_wp2_with (first
             | ((with_reducible refine gate_dst (N := 48) rfl ?_); refine Kd.R_lit k62 (w0 := w2) w2.heap.size 62 ?hg (N := 48) ?hd (xs := ([] : List S62)) (inner := []) (ok := fun _ => True) (okp := fun _ => True) ?hr ?hp (fun _ hk => hk) trivial (Below.refl _ _) (Nat.le_refl _) (by simp) ?_; (case hd => rfl); (case hg => rfl); (case hr => first | (go_simp; done) | (go_simp; rfl)); (case hp => exact (Reps.none _ _)); intro v1 x1 ho hb _ _; have HO1 := Aside0.mk ho; have HB1 := Aside0.mk hb; clear ho hb)
             | ((with_reducible refine gate_builtin (b := .append) (xs := #[.tmp 48, .tmp 51]) rfl ?_); at_builtin; refine Kd.R_append_rows k62 (Rr := k62.K x1) (w0 := w2) w2.heap.size rfl (.tmp 48) (.tmp 51) 55 62 (.agg #[.string ⟨#[]⟩, .string ⟨#[]⟩, .int .i64 0]) 40 rfl Tryz.underlying55 (by kernel_rfl) rfl (by decide) (by omega) v1 [] ((f.units.map toU).take i) _ i _ (fun _ => True) (fun _ => False) rfl rfl HO1.out (HTK.out i _ HB1.out hil2) (fun x cs h => by rw [k62_open h]; exact k62_mkM _ _ _ _) (fun _ h => h.elim) (fun _ _ => trivial) HB1.out HB1.out.size (by simp only [List.length_nil]; omega) ?_; intro v3 x3 ho hb _ _; rw [List.nil_append] at ho; have HB3 := Aside0.mk hb; have HO3 := Aside0.mk ho; clear ho hb))
           refine (HCU.out i _ HB3.out hil2).mono ?_
           rintro e xu ⟨rfl, ⟨mu, rfl⟩⟩
           have HBU := Aside0.mk (pw_below_drewN HB3.out mu)
           rw [← HE.out]
           go_wp2_with (first
             | ((with_reducible refine gate_builtin (b := .append) (xs := #[.tmp 64, .tmp 69]) rfl ?_); at_builtin; refine Kd.R_append_rows k62 (Rr := k62.K (x3.drewN mu)) (w0 := w2) w2.heap.size rfl (.tmp 64) (.tmp 69) 55 62 (.agg #[.string ⟨#[]⟩, .string ⟨#[]⟩, .int .i64 0]) 40 rfl Tryz.underlying55 (by kernel_rfl) rfl (by decide) (by omega) v3 ((f.units.map toU).take i) ((f.units.map toU).drop E) _ (f.units.length - E) _ (fun _ => True) (fun _ => False) rfl rfl (Kd.R_drewN HO3.out mu) (HDR.out E _ HBU.out HEL.out) (fun x cs h => by rw [k62_open h]; exact k62_mkM _ _ _ _) (fun _ h => h.elim) (fun _ _ => trivial) HBU.out HBU.out.size (by rw [List.length_take, List.length_map]; omega) ?_; intro v5 x5 ho hb _ _; have HB5 := Aside0.mk hb; obtain ⟨A5, c5, hv5⟩ := Kd.R_slice ho; rw [HLEN.out] at hv5; subst hv5; have HO5 := Aside0.mk ho; clear ho hb))
           all_goals
             have CC := rchanged_out (who := u) (l := (f.erased u i).units) (Al := A5) (cl := c5) HH.out HK.out HT.out HB5.out (by rw [HEQ.out, ← HN.out]; exact HO5.out)
             rw [← HN.out] at CC
             refine CC.mono ?_
             rintro e w7 ⟨rfl, hR'⟩
             have HR7 := Aside0.mk hR'
             clear hR' CC
             go_wp2
             refine bodyPost_ret (v := .int .i64 0) (by simp [results, Tryz.f37, go_sem]) rfl ?_
             rw [HM.out]
             exact ROut.from_ HB2.out ⟨rfl, HR7.out⟩

       · have gW : decide (bits .and .i64 16 a = 16) = false := by rw [HWI.out, hd12]; rfl
         have HM := Aside0.mk (show mErase st u n (i : Int) = (12, st) by unfold mErase; rw [HMK.out]; simp only [hd12]; rfl)
         clear hd12
         go_enter Tryz.func37, Tryz.ntmps37
         go_wp2_with first | (go_at_call 56; refine C56.out.mono ?_; rintro e w' ⟨rfl, rfl⟩)
         refine CB.out.mono ?_
         rintro e w2 ⟨hb2, rfl⟩
         have h := HR.out
         have hk := HHK.out
         have R2 := h.below hb2
         obtain ⟨g, Ar, cr, Au, cu, Ao, co, T⟩ := R2.row hk
         have hil : k < st.length := (List.getElem?_eq_some_iff.1 hk).1
         have hlz : (k : Int) < (st.length : Int) := by omega
         have hk0 : decide ((k : Int) < 0) = false := decide_eq_false (by omega)
         have c1 := R2.c1
         have hA := T.hA
         subst hA
         obtain ⟨x0, x1, x2, x3, x4, x5, x6, x7, x8, x9⟩ := T.x
         have HH := Aside0.mk R2
         have HT := Aside0.mk T
         have HK := Aside0.mk hk
         have hrb := R2.lt rb R2.okr
         have hgl := R2.glt T
         have hne : g ≠ rb := T.okg.2
         have hne2 : rb ≠ g := Ne.symm hne
         have HB2 := Aside0.mk hb2
         clear R2 T h hk hb2
         go_wp2_with fail
         refine (rwithin_c 16 a _).mono ?_
         rintro e w' ⟨rfl, rfl⟩
         go_wp2
         refine bodyPost_ret (v := .int .i64 12) (by simp [results, Tryz.f37, go_sem]) rfl ?_
         exact ROut.stay HRR.out HB2.out (by rw [HM.out]) (by rw [HM.out])
end Go.Proofs.YtehlmkgldcfciaaGreat.Files
/- The reference's store: Change. -/
set_option linter.unusedVariables false
set_option linter.unusedSimpArgs false
namespace Go.Proofs.YtehlmkgldcfciaaGreat.Files
open Go.Proofs.YtehlmkgldcfciaaGreat.Common Go.Maps Go.ChangeMaps Go.WideMaps Go.Proofs.YtehlmkgldcfciaaGreat.F
open Go.RowKit Go.Proofs.YtehlmkgldcfciaaGreatW.PrintWords Go.Proofs.YtehlmkgldcfciaaGreatW.PrintLast Go.Proofs.YtehlmkgldcfciaaGreatW.PrintMore
def RChange.T14 : Bool × List (List Nat × List Nat) := (true, [([], []), ([0], [0]), ([1], [1]), ([2], [2]), ([], []), ([], []), ([], []), ([5, 6], [5, 6]), ([3, 4, 0, 1, 2, 3, 4, 5, 6, 7], [3, 4]), ([8, 0, 1, 2, 3, 4, 5, 6, 7], [8]), ([9, 0, 1, 2, 3, 4, 5, 6, 7], [9]), ([10, 7, 7, 0, 1, 2, 3, 4, 5, 6, 7], [7, 10])])
def RChange.B14 : List Nat := [0, 1, 3, 7, 0, 0, 0, 96, 255, 511, 1023, 2047]
theorem RChange.tab14 : rtab .any (opsOf Tryz.f43 14) = RChange.T14 := by kernel_rfl
theorem RChange.bits14 : waitsOk RChange.T14.2 RChange.B14 = true := by kernel_rfl
set_option maxRecDepth 100000 in
set_option maxHeartbeats 4000000 in
theorem rChange_c (rb c : Nat) (ok : Nat → Prop) (st : Fs) (A : Option Addr) (u n : ByteArray) (perm : Int) (Aq : Option Addr) (cq : Nat) (rules : List S100) (W : World) (h : RParts W ok rb st A c) (B : Nat) (hrules : k129.R 129 W B (fun _ => True) (.slice Aq rules.length cq) (rules.map toRu)) (hBo : ∀ k, ok k → k < B) :
    Calls Tryz.prog 43 #[.pointer (some ⟨rb, 0, none⟩), .string u, .string n, .int .i64 perm, .slice Aq rules.length cq] W (ROut W ok rb (.int .i64 (mChange st u n perm rules).1) (mChange st u n perm rules).2) := by
  have C56 := Aside0.mk (rbad_c rb u n W h.c0)
  have CB := Aside0.mk (begin_c rb c ok st A u n W h)
  have HRR := Aside0.mk (show RRep W ok rb st from ⟨A, c, h⟩)
  have CS := Aside0.mk (rset_c perm W)
  have HRR2 := Aside0.mk (Kd.R_reads' hrules).2.2
  have HRU := Aside0.mk hrules
  have HBO := Aside0.mk hBo
  have hcq : rules.length ≤ cq := (Kd.R_reads' hrules).2.1
  clear hBo
  cases hbad : (userB u && nameB n) with
  | false =>
    rw [hbad] at C56
    have HM := Aside0.mk (show mChange st u n perm rules = (1, st) by unfold mChange; split <;> first | rfl | rw [mOpened_bad hbad])
    clear h hbad CB hrules
    go_enter Tryz.func43, Tryz.ntmps43
    go_wp2_with first | (go_at_call 56; refine C56.out.mono ?_; rintro e w' ⟨rfl, rfl⟩)
    refine bodyPost_ret (v := .int .i64 1) (by simp [results, Tryz.f43, go_sem]) rfl ?_
    exact ROut.stay HRR.out (Below.refl _ _) (by rw [HM.out]) (by rw [HM.out])
  | true =>
   rw [hbad] at C56
   by_cases hr : setB perm = false
   · rw [hr] at CS
     have HM := Aside0.mk (show mChange st u n perm rules = (1, st) by unfold mChange changeOk; rw [hr]; rfl)
     clear h hbad CB hr hrules
     go_enter Tryz.func43, Tryz.ntmps43
     go_wp2_with first | (go_at_call 56; refine C56.out.mono ?_; rintro e w' ⟨rfl, rfl⟩) | (go_at_call 57; refine CS.out.mono ?_; rintro e w' ⟨rfl, rfl⟩)
     refine bodyPost_ret (v := .int .i64 1) (by simp [results, Tryz.f43, go_sem]) rfl ?_
     exact ROut.stay HRR.out (Below.refl _ _) (by rw [HM.out]) (by rw [HM.out])
   simp only [Bool.not_eq_false] at hr
   rw [hr] at CS
   have HSB := Aside0.mk hr
   clear hr
   by_cases hr : 10 < rules.length
   · have g2 : decide ((10 : Int) < (rules.length : Int)) = true := decide_eq_true (by omega)
     have HM := Aside0.mk (show mChange st u n perm rules = (1, st) by unfold mChange changeOk; rw [decide_eq_false (show ¬ rules.length ≤ 10 by omega)]; simp)
     clear h hbad CB hr hrules
     go_enter Tryz.func43, Tryz.ntmps43
     go_wp2_with first | (go_at_call 56; refine C56.out.mono ?_; rintro e w' ⟨rfl, rfl⟩) | (go_at_call 57; refine CS.out.mono ?_; rintro e w' ⟨rfl, rfl⟩)
     refine bodyPost_ret (v := .int .i64 1) (by simp [results, Tryz.f43, go_sem]) rfl ?_
     exact ROut.stay HRR.out (Below.refl _ _) (by rw [HM.out]) (by rw [HM.out])
   have g2 : decide ((10 : Int) < (rules.length : Int)) = false := decide_eq_false (by omega)
   have HL0 := Aside0.mk hr
   clear hr
   have HR := Aside0.mk h
   clear h hrules
   go_enter Tryz.func43, Tryz.ntmps43
   have hl10 : rules.length ≤ 10 := by have := HL0.out; omega
   go_wp2_with first | (go_at_call 56; refine C56.out.mono ?_; rintro e w' ⟨rfl, rfl⟩) | (go_at_call 57; refine CS.out.mono ?_; rintro e w' ⟨rfl, rfl⟩)
   go_loopw [11] (fun s wr => ∃ j : Nat, s = .int .i64 j ∧ j ≤ rules.length ∧ W = wr ∧ Aside0 (∀ q, q < j → badRule (rules.getD q z100) = false)) (fun s _ => rules.length - (intOf s).toNat)
   case atStart => exact ⟨0, rfl, by omega, rfl, ⟨fun q hq => absurd hq (by omega)⟩⟩
   case round =>
     obtain ⟨j, rfl, hj, rfl, HF⟩ := hrel
     by_cases hlt : j < rules.length
     · have hltz : (j : Int) < (rules.length : Int) := by omega
       have hj0 : decide ((j : Int) < 0) = false := decide_eq_false (by omega)
       obtain ⟨ad, rfl, y0, y1⟩ := at_rules HRR2.out j hlt
       have HG := Aside0.mk (show rules.getD j z100 = rules[j] by rw [List.getD_eq_getElem?_getD, List.getElem?_eq_getElem hlt]; rfl)
       have HME := Aside0.mk (List.getElem_mem hlt)
       generalize rules[j] = p at y0 y1 HG HME
       have CU := Aside0.mk (ruser_c p.f0 W)
       have CV := Aside0.mk (rset_c p.f1 W)
       cases hbr : badRule p with
       | true =>
         have HM := Aside0.mk (show mChange st u n perm rules = (1, st) by unfold mChange changeOk; rw [List.any_eq_true.2 ⟨p, HME.out, hbr⟩]; simp)
         unfold badRule at hbr
         by_cases hu : userB p.f0 = true
         · have hs : setB p.f1 = false := by rw [hu] at hbr; simpa using hbr
           rw [hu] at CU
           rw [hs] at CV
           clear hbr hu hs
           go_wp2_with first | (go_at_call 80; refine CU.out.mono ?_; rintro e w' ⟨rfl, rfl⟩) | (go_at_call 57; refine CV.out.mono ?_; rintro e w' ⟨rfl, rfl⟩)
           refine bodyPost_ret (v := .int .i64 1) (by simp [results, Tryz.f43, go_sem]) rfl ?_
           exact ROut.stay HRR.out (Below.refl _ _) (by rw [HM.out]) (by rw [HM.out])
         · have hu2 : userB p.f0 = false := by simpa using hu
           rw [hu2] at CU
           clear hbr hu hu2
           go_wp2_with first | (go_at_call 80; refine CU.out.mono ?_; rintro e w' ⟨rfl, rfl⟩)
           refine bodyPost_ret (v := .int .i64 1) (by simp [results, Tryz.f43, go_sem]) rfl ?_
           exact ROut.stay HRR.out (Below.refl _ _) (by rw [HM.out]) (by rw [HM.out])
       | false =>
         have HF2 := Aside0.mk (show ∀ q, q < j + 1 → badRule (rules.getD q z100) = false from fun q hq => by
           by_cases hqj : q = j
           · subst hqj
             rw [HG.out]; exact hbr
           · exact HF.out q (by omega))
         unfold badRule at hbr
         have hu : userB p.f0 = true := by cases h1 : userB p.f0 <;> simp_all
         have hs : setB p.f1 = true := by cases h1 : setB p.f1 <;> simp_all
         rw [hu] at CU
         rw [hs] at CV
         clear hbr hu hs
         go_wp2_with first | (go_at_call 80; refine CU.out.mono ?_; rintro e w' ⟨rfl, rfl⟩) | (go_at_call 57; refine CV.out.mono ?_; rintro e w' ⟨rfl, rfl⟩)
         go_roundw
         case rel => exact ⟨j + 1, by go_num, by omega, by trivial, HF2⟩
         case measure => (simp [intOf]; try omega)
     · have hltz : ¬ (j : Int) < (rules.length : Int) := by omega
       have HCO := Aside0.mk (show changeOk perm rules = true by
         unfold changeOk
         rw [HSB.out, decide_eq_true (show rules.length ≤ 10 by have := HL0.out; omega)]
         have : rules.any badRule = false := by
           rw [List.any_eq_false]
           intro x hx
           obtain ⟨q, hq, rfl⟩ := List.getElem_of_mem hx
           have := HF.out q (by omega)
           rw [List.getD_eq_getElem?_getD, List.getElem?_eq_getElem hq] at this
           simpa using this
         rw [this]; rfl)
       cases hB : mBegin st u n with
       | error E =>
         rw [hB] at CB
         have hE := mBegin_E hB
         have HM := Aside0.mk (show mChange st u n perm rules = (E, st) by unfold mChange; rw [if_neg (by rw [HCO.out]; simp), mOpened_err hbad hB 64])
         clear hB
         go_wp2_with first | (go_at_call 67; refine CB.out.mono ?_; rintro e w2 ⟨hb2, rfl⟩)
         refine bodyPost_ret (v := .int .i64 E) (by simp [results, Tryz.f43, go_sem]) rfl ?_
         exact ROut.stay HRR.out hb2 (by rw [HM.out]) (by rw [HM.out])
       | ok p =>
         obtain ⟨k, f, a⟩ := p
         rw [hB] at CB
         obtain ⟨hk, hnm⟩ := mBegin_at hB
         have HMO := Aside0.mk (mOpened_ok hbad hB 64)
         have HWI := Aside0.mk (within_den a 64 6 (by decide) rfl)
         have HHK := Aside0.mk hk
         clear hnm hB hk
         go_wp2_with fail
         refine CB.out.mono ?_
         rintro e w2 ⟨hb2, rfl⟩
         have h := HR.out
         have hk := HHK.out
         have R2 := h.below hb2
         obtain ⟨g, Ar, cr, Au, cu, Ao, co, T⟩ := R2.row hk
         have hil : k < st.length := (List.getElem?_eq_some_iff.1 hk).1
         have hlz : (k : Int) < (st.length : Int) := by omega
         have hk0 : decide ((k : Int) < 0) = false := decide_eq_false (by omega)
         have c1 := R2.c1
         have hA := T.hA
         subst hA
         obtain ⟨x0, x1, x2, x3, x4, x5, x6, x7, x8, x9⟩ := T.x
         have HH := Aside0.mk R2
         have HT := Aside0.mk T
         have HK := Aside0.mk hk
         have hrb := R2.lt rb R2.okr
         have hgl := R2.glt T
         have hne : g ≠ rb := T.okg.2
         have hne2 : rb ≠ g := Ne.symm hne
         have HB2 := Aside0.mk hb2
         have f2 := T.fz (k * 10 + 2)
         have HX7 := Aside0.mk x7
         rcases denied_cases a 64 with hd0 | hd12
         · have gW : decide (bits .and .i64 64 a = 64) = true := by rw [HWI.out, hd0]; rfl
           have HM := Aside0.mk (show mChange st u n perm rules = (0, st.set k (f.change perm rules)) by unfold mChange; rw [if_neg (by rw [HCO.out]; simp), HMO.out]; simp only [hd0, if_pos])
           -- THE FIRST STORE
           have h1 := R2.set T hk 2 (.int .i64 perm) (f' := { f with F := { f.F with perm := perm } }) (by decide) rfl ⟨T.In.r, T.In.u, T.In.o⟩
           obtain ⟨R3, hc3⟩ := h1
           obtain ⟨g3, Ar3, cr3, Au3, cu3, Ao3, co3, T3⟩ := R3.row (set_at hk)
           obtain rfl : g = g3 := by have := T.hA.symm.trans T3.hA; injection this with this; injection this
           have HR3 := Aside0.mk R3
           have HT3 := Aside0.mk T3
           have HK3 := Aside0.mk (set_at (y := { f with F := { f.F with perm := perm } }) hk)
           have HC3 := Aside0.mk hc3
           have HRC3 := Aside0.mk (fun w (hb : Below (w2.setCell ⟨g, k * 10 + 2, none⟩ (.int .i64 perm)).heap.size (w2.setCell ⟨g, k * 10 + 2, none⟩ (.int .i64 perm)) w) => (show Kd.C k129 w Aq rules.length (rules.map toRu) by
             have h1 := Kd.R_step (Kd.R_bound (Kd.R_below HRU.out hb2)) (fun k hk hlt => hc3.block k hlt (fun e => by have := HBO.out g T.okg.1; have := hk.2.1; omega))
             have := (Kd.R_reads' (Kd.R_below h1 hb)).2.2
             rwa [List.length_map] at this))
           have HOK := Aside0.mk T.okg.1
           have d1 := R3.c1
           rw [List.length_set] at d1
           have HY7 := Aside0.mk T3.x.2.2.2.2.2.2.2.1
           have HZ7 := Aside0.mk T3.fz
           have HGS := Aside0.mk (R3.glt T3)
           clear hd0 R2 T h hk x0 x1 x3 x4 x5 x6 x7 x8 x9 R3 T3 hc3 hb2
           go_wp2_with fail
           refine (rwithin_c 64 a _).mono ?_
           rintro e w' ⟨rfl, rfl⟩
           go_wp2_with fail
           generalize hW3 : w2.setCell ⟨g, k * 10 + 2, none⟩ (.int .i64 perm) = W3 at *
           refine start_ (n := 12) (S := fun w' => w'.cell? ⟨rb, 1, none⟩ = some (.slice (some ⟨g, 0, none⟩) st.length c)) (ds := [11]) #[false, false, false, false, false, false, false, false, false, false, false, false] (by kernel_rfl) rfl rfl (d1) (fun hHeld => ?_)
           refine with_tabW RChange.tab14 RChange.bits14 (fun HT_ HW_ => ?_)
           have HWD := Aside0.mk (show Below W3.heap.size W3 W3.drew from (Below.refl _ _).drew)
           generalize W3.drew = wd at HWD hHeld ⊢
           have HF0 := Aside0.mk hHeld
           refine pure_ (i := 0) (N := some 74) (v := ?_) (a' := ?_) #[true, false, false, false, false, false, false, false, false, false, false, false] rfl rfl (any_of HT_.out (by kernel_rfl)) (fun _ _ _ h => h) (Or.inl ⟨by rfl, ?_⟩) ?_ ?_
           rotate_left
           · intro w'
             go_simp
             with_reducible rfl
           rotate_left
           · simp only [Act.put, List.setIfInBounds_toArray, List.set_cons_zero, List.set_cons_succ, i64_w, i32_w]
             rfl
           refine pure_ (i := 1) (N := some 75) (v := ?_) (a' := ?_) #[true, true, false, false, false, false, false, false, false, false, false, false] rfl rfl (any_of HT_.out (by kernel_rfl)) (fun _ _ _ h => h) (Or.inl ⟨by rfl, ?_⟩) ?_ ?_
           rotate_left
           · intro w'
             go_simp
             with_reducible rfl
           rotate_left
           · simp only [Act.put, List.setIfInBounds_toArray, List.set_cons_zero, List.set_cons_succ, i64_w, i32_w]
             rfl
           refine pure_ (i := 2) (N := some 76) (v := ?_) (a' := ?_) #[true, true, true, false, false, false, false, false, false, false, false, false] rfl rfl (any_of HT_.out (by kernel_rfl)) (fun _ _ _ h => h) (Or.inl ⟨by rfl, ?_⟩) ?_ ?_
           rotate_left
           · intro w'
             go_simp
             with_reducible rfl
           rotate_left
           · simp only [Act.put, List.setIfInBounds_toArray, List.set_cons_zero, List.set_cons_succ, i64_w, i32_w]
             rfl
           refine pure_ (i := 4) (N := some 78) (v := ?_) (a' := ?_) #[true, true, true, false, true, false, false, false, false, false, false, false] rfl rfl (any_of HT_.out (by kernel_rfl)) (fun _ _ _ h => h) (Or.inl ⟨by rfl, ?_⟩) ?_ ?_
           rotate_left
           · intro w'
             go_simp
             with_reducible rfl
           rotate_left
           · simp only [Act.put, List.setIfInBounds_toArray, List.set_cons_zero, List.set_cons_succ, i64_w, i32_w]
             rfl
           refine pure_ (i := 6) (N := some 80) (v := ?_) (a' := ?_) #[true, true, true, false, true, false, true, false, false, false, false, false] rfl rfl (any_of HT_.out (by kernel_rfl)) (fun _ _ _ h => h) (Or.inl ⟨by rfl, ?_⟩) ?_ ?_
           rotate_left
           · intro w'
             go_simp
             with_reducible rfl
           rotate_left
           · simp only [Act.put, List.setIfInBounds_toArray, List.set_cons_zero, List.set_cons_succ, i64_w, i32_w]
             rfl
           refine take_ (i := 3) (N := some 77) (v := ?_) (a' := ?_) #[true, true, true, true, true, false, true, false, false, false, false, false] rfl rfl (take_ofW HT_.out HW_.out (by kernel_rfl)) (fun _ _ _ h => h) (Or.inl ⟨by rfl, ?_⟩) hHeld ?_ ?_
           rotate_left
           · intro w' s0
             go_simp
             with_reducible rfl
           rotate_left
           · simp only [Act.put, List.setIfInBounds_toArray, List.set_cons_zero, List.set_cons_succ, i64_w, i32_w]
             rfl
           refine one_ (i := 5) (N := some 79) #[true, true, true, true, true, true, true, false, false, false, false, false] rfl rfl (one_of HT_.out (by kernel_rfl)) (by decide) (fun K hK => ?_)
           refine Kd.R_lit_step k129 (w0 := wd) wd.heap.size 129 ?hg (N := 79) ?hd (xs := ([] : List S129)) (inner := []) (ok := fun _ => True) (okp := fun _ => True) ?hr ?hp (fun _ hk => hk) trivial (Below.refl _ _) (Nat.le_refl _) (by simp) ?_; (case hd => rfl); (case hg => rfl); (case hr => first | (go_simp; done) | (go_simp; rfl)); (case hp => exact (Reps.none _ _))
           intro v1 x1 ho hb _ _
           have HO1 := Aside0.mk ho
           have HB1 := Aside0.mk hb
           clear ho hb
           refine hK.out _ _ (pw_cell_below HB1.out HF0.out) (fun hHeld => ?_)
           clear hK K
           refine norm_ (a' := ?_) ?_ ?_
           rotate_left
           · show Act.put _ (some 79) _ = _
             simp only [Act.put, List.setIfInBounds_toArray, List.set_cons_zero, List.set_cons_succ, i64_w, i32_w]
             rfl
           refine one_ (i := 7) (N := some 81) #[true, true, true, true, true, true, true, true, false, false, false, false] rfl rfl (one_of HT_.out (by kernel_rfl)) (by decide) (fun K hK => ?_)
           refine Kd.R_append_rows_step k129 (Rr := k129.K x1) (w0 := wd) wd.heap.size (by rfl) (.tmp 79) (.tmp 80) 69 129 (.agg #[.string ⟨#[]⟩, .int .i64 0]) 24 rfl Tryz.underlying69 (by kernel_rfl) rfl (by decide) (by omega) v1 [] (rules.map toRu) Aq rules.length cq (fun _ => True) (fun _ => False) rfl rfl HO1.out (HRC3.out _ (HWD.out.trans (HB1.out.mono HWD.out.size))) (fun x cs h => by rw [k129_open h]; exact k129_mkM _ _ _ _) (fun _ h => h.elim) (fun _ _ => trivial) HB1.out HB1.out.size (by simp only [List.length_nil]; omega) ?_
           intro v2 x2 ho hb _ _
           rw [List.nil_append] at ho
           have HB2' := Aside0.mk hb
           obtain ⟨A2, c2, hv2⟩ := Kd.R_slice ho
           rw [List.length_map] at hv2
           subst hv2
           have HBW2 := Aside0.mk (HWD.out.trans (HB2'.out.mono HWD.out.size))
           have y_2 := (HBW2.out.cell (p := ⟨g, k * 10 + 7, none⟩) HGS.out).trans HY7.out
           have z_2 : x2.frozen? ⟨g, k * 10 + 7, none⟩ = false := by rw [World.frozen?_of_block (HBW2.out.block g HGS.out)]; exact HZ7.out _
           have HO2 := Aside0.mk ho
           clear ho hb
           refine hK.out _ _ (pw_cell_below HB2'.out HF0.out) (fun hHeld => ?_)
           clear hK K
           refine norm_ (a' := ?_) ?_ ?_
           rotate_left
           · show Act.put _ (some 81) _ = _
             simp only [Act.put, List.setIfInBounds_toArray, List.set_cons_zero, List.set_cons_succ, i64_w, i32_w]
             rfl
           refine pure_ (i := 8) (N := some 82) (v := ?_) (a' := ?_) #[true, true, true, true, true, true, true, true, true, false, false, false] rfl rfl (any_of HT_.out (by kernel_rfl)) (fun _ _ _ h => h) (Or.inl ⟨by rfl, ?_⟩) ?_ ?_
           rotate_left
           · intro w'
             go_simp
             with_reducible rfl
           rotate_left
           · simp only [Act.put, List.setIfInBounds_toArray, List.set_cons_zero, List.set_cons_succ, i64_w, i32_w]
             rfl
           refine pure_ (i := 9) (N := some 83) (v := ?_) (a' := ?_) #[true, true, true, true, true, true, true, true, true, true, false, false] rfl rfl (any_of HT_.out (by kernel_rfl)) (fun _ _ _ h => h) (Or.inl ⟨by rfl, ?_⟩) ?_ ?_
           rotate_left
           · intro w'
             go_simp
             with_reducible rfl
           rotate_left
           · simp only [Act.put, List.setIfInBounds_toArray, List.set_cons_zero, List.set_cons_succ, i64_w, i32_w]
             rfl
           refine pure_ (i := 10) (N := some 84) (v := ?_) (a' := ?_) #[true, true, true, true, true, true, true, true, true, true, true, false] rfl rfl (any_of HT_.out (by kernel_rfl)) (fun _ _ _ h => h) (Or.inl ⟨by rfl, ?_⟩) ?_ ?_
           rotate_left
           · intro w'
             go_simp
             with_reducible rfl
           rotate_left
           · simp only [Act.put, List.setIfInBounds_toArray, List.set_cons_zero, List.set_cons_succ, i64_w, i32_w]
             rfl
           refine last_ (i := 11) (N := none) #[true, true, true, true, true, true, true, true, true, true, true, true] rfl rfl (one_of HT_.out (by kernel_rfl)) (by decide) (fun K hK => ?_)
           refine skip_ (w1 := ?_) (by rfl) rfl ?_ ?_
           rotate_left
           · go_simp
             rfl
           refine hK.out _ _ ?_
           clear hK K
           refine done_ (done_of HT_.out (by kernel_rfl)) ?_
           have HBX2 := Aside0.mk HBW2.out
           go_wp2
           refine bodyPost_ret (v := .int .i64 0) (by simp [results, Tryz.f43, go_sem]) rfl ?_
           rw [HM.out]
           obtain ⟨_, ok', hR, hC, hq⟩ := HR3.out.put HT3.out HK3.out HBX2.out 7 (.slice A2 rules.length c2) (f' := f.change perm rules) (by decide) rfl ⟨R_made (Kd.R_lower HO2.out HWD.out.size) HBX2.out HR3.out HT3.out, (InR.old HR3.out HT3.out.In HBX2.out).u, (InR.old HR3.out HT3.out.In HBX2.out).o⟩ (.int .i64 0)
           rw [List.set_set] at hR
           exact ROut.from_ HB2.out ⟨rfl, ok', hR, (HC3.out.mono (T := ok) (fun q hq => by rw [hq]; exact HOK.out)).trans hC (fun i hi => .inl hi), fun q h => (hq q h).elim .inl (fun e => .inr (Nat.le_trans HC3.out.size e))⟩
         · have gW : decide (bits .and .i64 64 a = 64) = false := by rw [HWI.out, hd12]; rfl
           have HM := Aside0.mk (show mChange st u n perm rules = (12, st) by unfold mChange; rw [if_neg (by rw [HCO.out]; simp), HMO.out]; simp only [hd12]; rfl)
           clear hd12 R2 T h hk hb2
           go_wp2_with fail
           refine (rwithin_c 64 a _).mono ?_
           rintro e w' ⟨rfl, rfl⟩
           go_wp2
           refine bodyPost_ret (v := .int .i64 12) (by simp [results, Tryz.f43, go_sem]) rfl ?_
           exact ROut.stay HRR.out HB2.out (by rw [HM.out]) (by rw [HM.out])
end Go.Proofs.YtehlmkgldcfciaaGreat.Files
/- The reference's store: the row of files made anew. -/
set_option linter.unusedVariables false
set_option linter.unusedSimpArgs false
namespace Go.Proofs.YtehlmkgldcfciaaGreat.Files
open Go.Proofs.YtehlmkgldcfciaaGreat.Common Go.Maps Go.ChangeMaps Go.WideMaps Go.Proofs.YtehlmkgldcfciaaGreat.F
open Go.RowKit Go.Proofs.YtehlmkgldcfciaaGreatW.PrintWords Go.Proofs.YtehlmkgldcfciaaGreatW.PrintLast Go.Proofs.YtehlmkgldcfciaaGreatW.PrintMore
theorem below_of_grown {B : Nat} {w x y : World} {row : Option Nat} (hb : Below B w x) (hB : B ≤ w.heap.size) (hg : x.grownBy y row) (hrow : ∀ k, row = some k → B ≤ k) : Below B w y :=
  ⟨hg.os.trans hb.os, hg.tape.trans hb.tape, hg.output.trans hb.output, Nat.le_trans hb.size hg.size, fun k hk => (hg.block k (Nat.lt_of_lt_of_le (Nat.lt_of_lt_of_le hk hB) hb.size) (fun e => by have := hrow k e.symm; omega)).trans (hb.block k hk)⟩
theorem ReadsRow.take' {α : Type} {R : α → List Value → Prop} {size : Nat} {w : World} {A : Option Addr} {n m : Nat} {ps : List α} (h : ReadsRow R size w A n ps) (hm : m ≤ n) : ReadsRow R size w A m (ps.take m) := by
  obtain ⟨h1, h2, h3⟩ := h
  refine ⟨by rw [List.length_take]; omega, by omega, fun hp => ?_⟩
  obtain ⟨ad, e, hc⟩ := h3 (by omega)
  refine ⟨ad, e, fun j p hj => hc j p ?_⟩
  rw [List.getElem?_take] at hj
  split at hj
  · exact hj
  · cases hj
theorem ReadsRow.drop' {α : Type} {R : α → List Value → Prop} {size : Nat} {w : World} {A : Option Addr} {n m c : Nat} {ps : List α} (h : ReadsRow R size w A n ps) (hm : m ≤ n) (hc : n ≤ c) : ReadsRow R size w (if c = m then A else A.map (·.add (m * size))) (n - m) (ps.drop m) := by
  obtain ⟨h1, h2, h3⟩ := h
  refine ⟨by rw [List.length_drop]; omega, by omega, fun hp => ?_⟩
  obtain ⟨ad, rfl, hcell⟩ := h3 (by omega)
  rw [if_neg (by omega)]
  refine ⟨ad.add (m * size), rfl, fun j p hj => ?_⟩
  rw [List.getElem?_drop] at hj
  obtain ⟨c', hl, hR, hu⟩ := hcell (m + j) p hj
  refine ⟨c', hl, hR, fun i u hi => ?_⟩
  rw [add_add, show m * size + (j * size + i) = (m + j) * size + i by rw [Nat.add_mul]; omega]
  exact hu i u hi
theorem ReadsRow.drop0 {α : Type} {R : α → List Value → Prop} {size : Nat} {w : World} {g n m c : Nat} {ps : List α} (h : ReadsRow R size w (some ⟨g, 0, none⟩) n ps) (hm : m ≤ n) (hc : n ≤ c) : ReadsRow R size w (if c = m then some ⟨g, 0, none⟩ else some ⟨g, m * size, none⟩) (n - m) (ps.drop m) := by
  have h1 := ReadsRow.drop' h hm hc
  rw [show (some (⟨g, 0, none⟩ : Addr)).map (·.add (m * size)) = some ⟨g, m * size, none⟩ from congrArg some (add_plain g (m * size))] at h1
  exact h1
section
variable {W X : World} {ok : Nat → Prop} {rb c : Nat} {st : Fs} {A : Option Addr}
theorem RParts.made (h : RParts W ok rb st A c) (hb : Below W.heap.size W X) : ReadsRow (k85.M X 0 (fun k => (ok k ∧ k ≠ rb) ∧ some k ≠ (Value.slice A st.length c).ownBlock)) 10 X A st.length (rows st) := by
  have h2 := h.below hb
  obtain ⟨_, hown⟩ := h2.F
  obtain ⟨A', c', hv, _, hr⟩ := OwnRow.reads (R := k85.M X 0 (fun k => (ok k ∧ k ≠ rb) ∧ some k ≠ (Value.slice A st.length c).ownBlock)) (e := 85) (size := 10) hown
  injection hv with hv _ _
  subst hv
  rw [rows_len] at hr
  exact hr
theorem RParts.files (h : RParts W ok rb st A c) (hb : Below W.heap.size W X) {st' : Fs} {A' : Option Addr} {c' : Nat} (hr : k85.R 85 X 0 (fun k => (ok k ∧ k ≠ rb) ∨ W.heap.size ≤ k) (.slice A' st'.length c') (rows st')) (v : Value) :
    ROut W ok rb v st' (.returned v) (X.setCell ⟨rb, 1, none⟩ (.slice A' st'.length c')) := by
  have hS : (X.setCell ⟨rb, 1, none⟩ (.slice A' st'.length c')).heap[rb]? = some (.cells #[.bool true, .slice A' st'.length c'] 46 (0, 0)) := by
    have := blk_set (h.below hb).S 1 (.slice A' st'.length c')
    exact this
  have hC : Chg X (X.setCell ⟨rb, 1, none⟩ (.slice A' st'.length c')) ok := Chg.of_set X ⟨rb, 1, none⟩ _ h.okr
  have hne : ∀ k, ((ok k ∧ k ≠ rb) ∨ W.heap.size ≤ k) → k ≠ rb := fun k hk e => by
    rcases hk with hk | hk
    · exact hk.2 e
    · have := h.lt rb h.okr; omega
  refine ⟨rfl, okP ok W X, ⟨A', c', ⟨⟨.inl h.okr, Nat.lt_of_lt_of_le (h.lt rb h.okr) hb.size⟩, hS, ?_, fun k hk => Nat.lt_of_lt_of_le hk.2 hC.size⟩⟩, ((Chg.of_below hb (fun _ => False)).mono (fun _ h => h.elim)).trans hC (fun i hi => .inl hi), fun q hq => hq.1⟩
  refine Kd.R_mono (Kd.R_far (p := ⟨rb, 1, none⟩) (Kd.R_bound hr) (fun k hk => hne k hk.1) _) (fun k hk => ⟨⟨hk.1.elim (fun h => .inl h.1) .inr, hk.2.2.1⟩, hne k hk.1⟩)
end
theorem reads_one {X : World} {okq : Nat → Prop} {A : Option Addr} {n c : Nat} {xs : List S85} (h : k85.R 85 X 0 okq (.slice A n c) xs) : ReadsRow (k85.M X 0 (fun q => okq q ∧ some q ≠ (Value.slice A n c).ownBlock)) 10 X A n xs := by
  obtain ⟨_, hown⟩ := h
  obtain ⟨A', c', hv, _, hr⟩ := OwnRow.reads (R := k85.M X 0 (fun q => okq q ∧ some q ≠ (Value.slice A n c).ownBlock)) (e := 85) (size := 10) hown
  injection hv with hv h2 _
  subst hv
  subst h2
  exact hr
theorem filter_at : ∀ (st : Fs) (n : ByteArray) (k : Nat) (f : AF), posF st n = some (k, f) → (st.map (·.key)).Nodup → st.filter (fun g => !decide (g.F.name = n)) = st.take k ++ st.drop (k + 1)
  | [], n, k, f, h, _ => by simp [posF] at h
  | a :: l, n, k, f, h, hn => by
    simp only [List.map_cons, List.nodup_cons] at hn
    rw [posF_cons] at h
    by_cases ha : a.F.name = n
    · rw [if_pos ha] at h
      injection h with h
      injection h with h1 h2
      subst h1
      rw [List.filter_cons_of_neg (by simp [ha])]
      simp only [List.take_zero, List.nil_append, Nat.zero_add, List.drop_succ_cons, List.drop_zero]
      refine List.filter_eq_self.2 fun x hx => ?_
      have : ¬ x.F.name = n := fun e => hn.1 (List.mem_map.2 ⟨x, hx, by unfold AF.key; rw [e, ha]⟩)
      simp [this]
    · rw [if_neg ha] at h
      cases hp : posF l n with
      | none => rw [hp] at h; cases h
      | some p =>
        rw [hp] at h
        injection h with h
        injection h with h1 h2
        rw [List.filter_cons_of_pos (by simp [ha]), filter_at l n p.1 p.2 hp hn.2, ← h1]
        simp
end Go.Proofs.YtehlmkgldcfciaaGreat.Files
/- The reference's store: Delete. -/
set_option linter.unusedVariables false
set_option linter.unusedSimpArgs false
namespace Go.Proofs.YtehlmkgldcfciaaGreat.Files
open Go.Proofs.YtehlmkgldcfciaaGreat.Common Go.Maps Go.ChangeMaps Go.WideMaps Go.Proofs.YtehlmkgldcfciaaGreat.F
open Go.RowKit Go.Proofs.YtehlmkgldcfciaaGreatW.PrintWords Go.Proofs.YtehlmkgldcfciaaGreatW.PrintLast Go.Proofs.YtehlmkgldcfciaaGreatW.PrintMore
def RDelete.T10 : Bool × List (List Nat × List Nat) := (true, [([], []), ([], []), ([], []), ([2], [2]), ([3], [3]), ([4], [4]), ([], []), ([5, 6], [5, 6]), ([1, 7], [1, 7]), ([], []), ([9], [9]), ([10], [10]), ([11], [11]), ([], []), ([13], [13]), ([12, 14], [12, 14]), ([8, 15, 8], [8, 15]), ([0, 0, 1, 2, 3, 4, 5, 6, 7, 8, 9, 10, 11, 12, 13, 14, 15, 16], [0]), ([17, 0, 1, 2, 3, 4, 5, 6, 7, 8, 9, 10, 11, 12, 13, 14, 15, 16], [17]), ([18, 16, 16, 0, 1, 2, 3, 4, 5, 6, 7, 8, 9, 10, 11, 12, 13, 14, 15, 16], [16, 18])])
def RDelete.B10 : List Nat := [0, 0, 0, 4, 12, 28, 0, 124, 254, 0, 512, 1536, 3584, 0, 8192, 32256, 65534, 131071, 262143, 524287]
theorem RDelete.tab10 : rtab .any (opsOf Tryz.f19 10) = RDelete.T10 := by kernel_rfl
theorem RDelete.bits10 : waitsOk RDelete.T10.2 RDelete.B10 = true := by kernel_rfl
set_option maxRecDepth 100000 in
set_option maxHeartbeats 4000000 in
theorem rDelete_c (rb c : Nat) (ok : Nat → Prop) (st : Fs) (A : Option Addr) (u n : ByteArray) (W : World) (h : RParts W ok rb st A c) (hI : RInv st) :
    Calls Tryz.prog 19 #[.pointer (some ⟨rb, 0, none⟩), .string u, .string n] W (ROut W ok rb (.int .i64 (mDelete st u n).1) (mDelete st u n).2) := by
  have C56 := Aside0.mk (rbad_c rb u n W h.c0)
  have CF := Aside0.mk (find_c rb c ok st A n W h)
  have HRR := Aside0.mk (show RRep W ok rb st from ⟨A, c, h⟩)
  have c1 := h.c1
  cases hbad : (userB u && nameB n) with
  | false =>
    rw [hbad] at C56
    have HM := Aside0.mk (show mDelete st u n = (1, st) by unfold mDelete; rw [mFound_bad hbad])
    clear h hbad c1 CF hI
    go_enter Tryz.func19, Tryz.ntmps19
    go_wp2_with first | (go_at_call 56; refine C56.out.mono ?_; rintro e w' ⟨rfl, rfl⟩)
    refine bodyPost_ret (v := .int .i64 1) (by simp [results, Tryz.f19, go_sem]) rfl ?_
    exact ROut.stay HRR.out (Below.refl _ _) (by rw [HM.out]) (by rw [HM.out])
  | true =>
    rw [hbad] at C56
    rcases posI_range st n with ⟨hp, hpf⟩ | ⟨k, f, hp, hpf, hk, hnm⟩
    · rw [hp] at CF
      have HM := Aside0.mk (show mDelete st u n = (3, st) by unfold mDelete; rw [mFound_none hbad hpf])
      clear h hbad c1 hI hp hpf
      go_enter Tryz.func19, Tryz.ntmps19
      go_wp2_with first | (go_at_call 56; refine C56.out.mono ?_; rintro e w' ⟨rfl, rfl⟩) | (go_at_call 49; refine CF.out.mono ?_; rintro e w' ⟨rfl, rfl⟩)
      refine bodyPost_ret (v := .int .i64 3) (by simp [results, Tryz.f19, go_sem]) rfl ?_
      exact ROut.stay HRR.out (Below.refl _ _) (by rw [HM.out]) (by rw [HM.out])
    · rw [hp] at CF
      obtain ⟨g, Ar, cr, Au, cu, Ao, co, T⟩ := h.row hk
      have hil : k < st.length := (List.getElem?_eq_some_iff.1 hk).1
      have hlz : (k : Int) < (st.length : Int) := by omega
      have hk0 : decide ((k : Int) < 0) = false := decide_eq_false (by omega)
      have hA := T.hA
      subst hA
      obtain ⟨x0, x1, x2, x3, x4, x5, x6, x7, x8, x9⟩ := T.x
      have HH := Aside0.mk h
      have HT := Aside0.mk T
      have HK := Aside0.mk hk
      have hrb := h.lt rb h.okr
      have hgl := h.glt T
      have hne : g ≠ rb := T.okg.2
      have hne2 : rb ≠ g := Ne.symm hne
      have hst := hI.count
      have hcap := h.cap.1
      have HOL := Aside0.mk h.lt
      have HNM := Aside0.mk (filter_at st n k f hpf hI.names)
      have HC1 := Aside0.mk c1
      have HMD := Aside0.mk (fun {X : World} (hb : Below W.heap.size W X) => h.made hb)
      have CM := Aside0.mk (fun W' (hb : Below W.heap.size W W') => rmay_c _ f Ar Au Ao cr cu co u 128 W' (T.In.step (Chg.of_below hb (fun _ => False)) (fun _ _ h => h)))
      unfold RowIs at CM
      have HMF := Aside0.mk (mFound_ok hbad hpf)
      clear h T hnm hpf hp hbad hI hk
      by_cases hl : 0 < f.users.length
      · have HM := Aside0.mk (show mDelete st u n = (8, st) by unfold mDelete; rw [HMF.out]; simp only [if_pos hl])
        have g1 : decide (0 < f.users.length) = true := decide_eq_true hl
        have g2 : (0 : Int) < (f.users.length : Int) := by omega
        clear hl
        go_enter Tryz.func19, Tryz.ntmps19
        go_wp2_with first | (go_at_call 56; refine C56.out.mono ?_; rintro e w' ⟨rfl, rfl⟩) | (go_at_call 49; refine CF.out.mono ?_; rintro e w' ⟨rfl, rfl⟩)
        refine bodyPost_ret (v := .int .i64 8) (by simp [results, Tryz.f19, go_sem]) rfl ?_
        exact ROut.stay HRR.out (Below.refl _ _) (by rw [HM.out]) (by rw [HM.out])
      · have g1 : decide (0 < f.users.length) = false := decide_eq_false hl
        have g2 : ¬ (0 : Int) < (f.users.length : Int) := by omega
        cases hmay : mayB f.F f.rules u 128 with
        | false =>
          rw [hmay] at CM
          have HM := Aside0.mk (show mDelete st u n = (12, st) by unfold mDelete; rw [HMF.out]; simp only [if_neg hl, hmay, if_pos])
          clear hl hmay
          go_enter Tryz.func19, Tryz.ntmps19
          go_wp2_with first | (go_at_call 56; refine C56.out.mono ?_; rintro e w' ⟨rfl, rfl⟩) | (go_at_call 49; refine CF.out.mono ?_; rintro e w' ⟨rfl, rfl⟩)
          refine (CM.out _ (Below.refl _ _)).mono ?_
          rintro e w3 ⟨rfl, hb3⟩
          go_wp2
          refine bodyPost_ret (v := .int .i64 12) (by simp [results, Tryz.f19, go_sem]) rfl ?_
          exact ROut.stay HRR.out hb3 (by rw [HM.out]) (by rw [HM.out])
        | true =>
        rw [hmay] at CM
        have HM := Aside0.mk (show mDelete st u n = (0, st.filter fun g => !decide (g.F.name = n)) by unfold mDelete; rw [HMF.out]; simp only [if_neg hl, hmay]; rfl)
        obtain ⟨N, hN⟩ : ∃ N, N = (st.take k ++ st.drop (k + 1)).length := ⟨_, rfl⟩
        have HN := Aside0.mk hN
        have HLEN := Aside0.mk (show ((rows st).take k ++ (rows st).drop (k + 1)).length = N by rw [hN]; simp [rows])
        have hkc : k ≤ c := by omega
        have hkw : wrap64 ((k : Int) + 1) = ((k + 1 : Nat) : Int) := by unfold wrap64; omega
        have hkn : ((k + 1 : Nat) : Int) ≤ (st.length : Int) := by omega
        have hkn2 : (k : Int) + 1 ≤ (st.length : Int) := by omega
        have hkm : (0 : Int) ≤ (k : Int) + 1 := by omega
        clear hl hmay hN
        go_enter Tryz.func19, Tryz.ntmps19
        go_wp2_with first | (go_at_call 56; refine C56.out.mono ?_; rintro e w' ⟨rfl, rfl⟩) | (go_at_call 49; refine CF.out.mono ?_; rintro e w' ⟨rfl, rfl⟩)
        refine (CM.out _ (Below.refl _ _)).mono ?_
        rintro e w3 ⟨rfl, hb3⟩
        have HB := Aside0.mk hb3
        have c1' := (hb3.cell (p := ⟨rb, 1, none⟩) hrb).trans c1
        clear hb3 x0 x1 x2 x3 x4 x5 x6 x7 x8 x9 c1
        go_wp2_with fail
        refine start_ (n := 20) (S := fun w' => w'.cell? ⟨rb, 1, none⟩ = some (.slice (some ⟨g, 0, none⟩) st.length c)) (ds := [19]) #[false, false, false, false, false, false, false, false, false, false, false, false, false, false, false, false, false, false, false, false] (by kernel_rfl) rfl rfl (c1') (fun hHeld => ?_)
        refine with_tabW RDelete.tab10 RDelete.bits10 (fun HT_ HW_ => ?_)
        have HWD := Aside0.mk (show Below W.heap.size W w3.drew from HB.out.drew)
        generalize w3.drew = wd at HWD hHeld ⊢
        have HF0 := Aside0.mk hHeld
        refine pure_ (i := 0) (N := some 40) (v := ?_) (a' := ?_) #[true, false, false, false, false, false, false, false, false, false, false, false, false, false, false, false, false, false, false, false] rfl rfl (any_of HT_.out (by kernel_rfl)) (fun _ _ _ h => h) (Or.inl ⟨by rfl, ?_⟩) ?_ ?_
        rotate_left
        · intro w'
          go_simp
          with_reducible rfl
        rotate_left
        · simp only [Act.put, List.setIfInBounds_toArray, List.set_cons_zero, List.set_cons_succ, i64_w, i32_w]
          rfl
        refine pure_ (i := 2) (N := some 42) (v := ?_) (a' := ?_) #[true, false, true, false, false, false, false, false, false, false, false, false, false, false, false, false, false, false, false, false] rfl rfl (any_of HT_.out (by kernel_rfl)) (fun _ _ _ h => h) (Or.inl ⟨by rfl, ?_⟩) ?_ ?_
        rotate_left
        · intro w'
          go_simp
          with_reducible rfl
        rotate_left
        · simp only [Act.put, List.setIfInBounds_toArray, List.set_cons_zero, List.set_cons_succ, i64_w, i32_w]
          rfl
        refine pure_ (i := 3) (N := some 43) (v := ?_) (a' := ?_) #[true, false, true, true, false, false, false, false, false, false, false, false, false, false, false, false, false, false, false, false] rfl rfl (any_of HT_.out (by kernel_rfl)) (fun _ _ _ h => h) (Or.inl ⟨by rfl, ?_⟩) ?_ ?_
        rotate_left
        · intro w'
          go_simp
          with_reducible rfl
        rotate_left
        · simp only [Act.put, List.setIfInBounds_toArray, List.set_cons_zero, List.set_cons_succ, i64_w, i32_w]
          rfl
        refine pure_ (i := 4) (N := some 44) (v := ?_) (a' := ?_) #[true, false, true, true, true, false, false, false, false, false, false, false, false, false, false, false, false, false, false, false] rfl rfl (any_of HT_.out (by kernel_rfl)) (fun _ _ _ h => h) (Or.inl ⟨by rfl, ?_⟩) ?_ ?_
        rotate_left
        · intro w'
          go_simp
          with_reducible rfl
        rotate_left
        · simp only [Act.put, List.setIfInBounds_toArray, List.set_cons_zero, List.set_cons_succ, i64_w, i32_w]
          rfl
        refine pure_ (i := 6) (N := some 46) (v := ?_) (a' := ?_) #[true, false, true, true, true, false, true, false, false, false, false, false, false, false, false, false, false, false, false, false] rfl rfl (any_of HT_.out (by kernel_rfl)) (fun _ _ _ h => h) (Or.inl ⟨by rfl, ?_⟩) ?_ ?_
        rotate_left
        · intro w'
          go_simp
          with_reducible rfl
        rotate_left
        · simp only [Act.put, List.setIfInBounds_toArray, List.set_cons_zero, List.set_cons_succ, i64_w, i32_w]
          rfl
        refine pure_ (i := 9) (N := some 49) (v := ?_) (a' := ?_) #[true, false, true, true, true, false, true, false, false, true, false, false, false, false, false, false, false, false, false, false] rfl rfl (any_of HT_.out (by kernel_rfl)) (fun _ _ _ h => h) (Or.inl ⟨by rfl, ?_⟩) ?_ ?_
        rotate_left
        · intro w'
          go_simp
          with_reducible rfl
        rotate_left
        · simp only [Act.put, List.setIfInBounds_toArray, List.set_cons_zero, List.set_cons_succ, i64_w, i32_w]
          rfl
        refine pure_ (i := 10) (N := some 50) (v := ?_) (a' := ?_) #[true, false, true, true, true, false, true, false, false, true, true, false, false, false, false, false, false, false, false, false] rfl rfl (any_of HT_.out (by kernel_rfl)) (fun _ _ _ h => h) (Or.inl ⟨by rfl, ?_⟩) ?_ ?_
        rotate_left
        · intro w'
          go_simp
          with_reducible rfl
        rotate_left
        · simp only [Act.put, List.setIfInBounds_toArray, List.set_cons_zero, List.set_cons_succ, i64_w, i32_w]
          rfl
        refine pure_ (i := 11) (N := some 51) (v := ?_) (a' := ?_) #[true, false, true, true, true, false, true, false, false, true, true, true, false, false, false, false, false, false, false, false] rfl rfl (any_of HT_.out (by kernel_rfl)) (fun _ _ _ h => h) (Or.inl ⟨by rfl, ?_⟩) ?_ ?_
        rotate_left
        · intro w'
          go_simp
          with_reducible rfl
        rotate_left
        · simp only [Act.put, List.setIfInBounds_toArray, List.set_cons_zero, List.set_cons_succ, i64_w, i32_w]
          rfl
        refine pure_ (i := 13) (N := some 53) (v := ?_) (a' := ?_) #[true, false, true, true, true, false, true, false, false, true, true, true, false, true, false, false, false, false, false, false] rfl rfl (any_of HT_.out (by kernel_rfl)) (fun _ _ _ h => h) (Or.inl ⟨by rfl, ?_⟩) ?_ ?_
        rotate_left
        · intro w'
          go_simp
          with_reducible rfl
        rotate_left
        · simp only [Act.put, List.setIfInBounds_toArray, List.set_cons_zero, List.set_cons_succ, i64_w, i32_w]
          rfl
        refine pure_ (i := 14) (N := some 54) (v := ?_) (a' := ?_) #[true, false, true, true, true, false, true, false, false, true, true, true, false, true, true, false, false, false, false, false] rfl rfl (any_of HT_.out (by kernel_rfl)) (fun _ _ _ h => h) (Or.inl ⟨by rfl, ?_⟩) ?_ ?_
        rotate_left
        · intro w'
          go_simp
          with_reducible rfl
        rotate_left
        · simp only [Act.put, List.setIfInBounds_toArray, List.set_cons_zero, List.set_cons_succ, i64_w, i32_w]
          rfl
        refine take_ (i := 5) (N := some 45) (v := ?_) (a' := ?_) #[true, false, true, true, true, true, true, false, false, true, true, true, false, true, true, false, false, false, false, false] rfl rfl (take_ofW HT_.out HW_.out (by kernel_rfl)) (fun _ _ _ h => h) (Or.inl ⟨by rfl, ?_⟩) hHeld ?_ ?_
        rotate_left
        · intro w' s0
          go_simp
          with_reducible rfl
        rotate_left
        · simp only [Act.put, List.setIfInBounds_toArray, List.set_cons_zero, List.set_cons_succ, i64_w, i32_w]
          rfl
        refine pure_ (i := 7) (N := some 47) (v := ?_) (a' := ?_) #[true, false, true, true, true, true, true, true, false, true, true, true, false, true, true, false, false, false, false, false] rfl rfl (any_of HT_.out (by kernel_rfl)) (fun _ _ _ h => h) (Or.inl ⟨by rfl, ?_⟩) ?_ ?_
        rotate_left
        · intro w'
          go_simp
          with_reducible rfl
        rotate_left
        · simp only [Act.put, List.setIfInBounds_toArray, List.set_cons_zero, List.set_cons_succ, i64_w, i32_w]
          rfl
        refine take_ (i := 12) (N := some 52) (v := ?_) (a' := ?_) #[true, false, true, true, true, true, true, true, false, true, true, true, true, true, true, false, false, false, false, false] rfl rfl (take_ofW HT_.out HW_.out (by kernel_rfl)) (fun _ _ _ h => h) (Or.inl ⟨by rfl, ?_⟩) hHeld ?_ ?_
        rotate_left
        · intro w' s0
          go_simp
          with_reducible rfl
        rotate_left
        · simp only [Act.put, List.setIfInBounds_toArray, List.set_cons_zero, List.set_cons_succ, i64_w, i32_w]
          rfl
        refine pure_ (i := 15) (N := some 55) (v := ?_) (a' := ?_) #[true, false, true, true, true, true, true, true, false, true, true, true, true, true, true, true, false, false, false, false] rfl rfl (any_of HT_.out (by kernel_rfl)) (fun _ _ _ h => h) (Or.inl ⟨by rfl, ?_⟩) ?_ ?_
        rotate_left
        · intro w'
          go_simp
          with_reducible rfl
        rotate_left
        · simp only [Act.put, List.setIfInBounds_toArray, List.set_cons_zero, List.set_cons_succ, i64_w, i32_w]
          rfl
        refine one_ (i := 1) (N := some 41) #[true, true, true, true, true, true, true, true, false, true, true, true, true, true, true, true, false, false, false, false] rfl rfl (one_of HT_.out (by kernel_rfl)) (by decide) (fun K hK => ?_)
        refine Kd.R_lit_step k85 (w0 := W) 0 85 ?hg (N := 41) ?hd (xs := ([] : List S85)) (inner := []) (ok := (fun q => (ok q ∧ q ≠ rb) ∨ W.heap.size ≤ q)) (okp := (fun _ => False)) ?hr ?hp (fun _ h => h.elim) (.inr HWD.out.size) (Below.mono HWD.out (Nat.zero_le _)) (Nat.zero_le _) (by simp) ?_; (case hd => rfl); (case hg => rfl); (case hr => first | (go_simp; done) | (go_simp; rfl)); (case hp => exact (Reps.none _ _))
        intro v1 x1 ho hb hgr hfr
        have HO1 := Aside0.mk ho
        have HB1 := Aside0.mk (below_of_grown HWD.out (Nat.le_refl _) hgr (fun _ h => by cases h))
        have HF1 := Aside0.mk (fun q (h : v1.ownBlock = some q) => (show W.heap.size ≤ q by obtain ⟨b, h1, h2⟩ := hfr; rw [h1] at h; injection h with h; have := HWD.out.size; omega))
        clear ho hb hgr hfr
        refine hK.out _ _ ((HB1.out.cell (p := ⟨rb, 1, none⟩) hrb).trans HC1.out) (fun hHeld => ?_)
        clear hK K
        refine norm_ (a' := ?_) ?_ ?_
        rotate_left
        · show Act.put _ (some 41) _ = _
          simp only [Act.put, List.setIfInBounds_toArray, List.set_cons_zero, List.set_cons_succ, i64_w, i32_w]
          rfl
        refine one_ (i := 8) (N := some 48) #[true, true, true, true, true, true, true, true, true, true, true, true, true, true, true, true, false, false, false, false] rfl rfl (one_of HT_.out (by kernel_rfl)) (by decide) (fun K hK => ?_)
        refine Kd.R_append_rows_step k85 (Rr := k85.M x1 0 (fun q => (ok q ∧ q ≠ rb) ∧ some q ≠ (Value.slice (some ⟨g, 0, none⟩) st.length c).ownBlock)) (w0 := W) 0 (by rfl) (.tmp 41) (.tmp 47) 44 85 (.agg #[.string ⟨#[]⟩, .int .i64 0, .int .i64 0, .string ⟨#[]⟩, .string ⟨#[]⟩, .int .i64 0, .int .i64 0, .slice none 0 0, .slice none 0 0, .slice none 0 0]) 152 rfl Tryz.underlying44 (by kernel_rfl) rfl (by decide) (by omega) v1 [] ((rows st).take k) _ k _ (fun q => (ok q ∧ q ≠ rb) ∨ W.heap.size ≤ q) (fun q => (ok q ∧ q ≠ rb) ∧ some q ≠ (Value.slice (some ⟨g, 0, none⟩) st.length c).ownBlock) rfl rfl HO1.out (ReadsRow.take' (HMD.out HB1.out) (Nat.le_of_lt hil)) (fun _ _ h => h) (fun q hq => ⟨.inl hq.1, fun e => by have h1 := HF1.out q e.symm; have h2 := HOL.out q hq.1.1; omega⟩) (fun q hq => .inr (Nat.le_trans HB1.out.size hq)) (Below.mono HB1.out (Nat.zero_le _)) (Nat.zero_le _) (by simp only [List.length_nil]; omega) ?_
        intro v2 x2 ho hb hgr hfr
        rw [List.nil_append] at ho
        have HB2 := Aside0.mk (below_of_grown HB1.out (Nat.le_refl _) hgr (fun q h => HF1.out q h))
        have HF2 := Aside0.mk (fun q (h : v2.ownBlock = some q) => (show W.heap.size ≤ q by rcases hfr with hfr | ⟨b, h1, h2⟩; (rw [hfr] at h; exact HF1.out q h); (rw [h1] at h; injection h with h; have := HB1.out.size; omega)))
        have HO2 := Aside0.mk ho
        clear ho hb hgr hfr
        refine hK.out _ _ ((HB2.out.cell (p := ⟨rb, 1, none⟩) hrb).trans HC1.out) (fun hHeld => ?_)
        clear hK K
        refine norm_ (a' := ?_) ?_ ?_
        rotate_left
        · show Act.put _ (some 48) _ = _
          simp only [Act.put, List.setIfInBounds_toArray, List.set_cons_zero, List.set_cons_succ, i64_w, i32_w]
          rfl
        refine one_ (i := 16) (N := some 56) #[true, true, true, true, true, true, true, true, true, true, true, true, true, true, true, true, true, false, false, false] rfl rfl (one_of HT_.out (by kernel_rfl)) (by decide) (fun K hK => ?_)
        refine Kd.R_append_rows_step k85 (Rr := k85.M x2 0 (fun q => (ok q ∧ q ≠ rb) ∧ some q ≠ (Value.slice (some ⟨g, 0, none⟩) st.length c).ownBlock)) (w0 := W) 0 (by rfl) (.tmp 48) (.tmp 55) 44 85 (.agg #[.string ⟨#[]⟩, .int .i64 0, .int .i64 0, .string ⟨#[]⟩, .string ⟨#[]⟩, .int .i64 0, .int .i64 0, .slice none 0 0, .slice none 0 0, .slice none 0 0]) 152 rfl Tryz.underlying44 (by kernel_rfl) rfl (by decide) (by omega) v2 ((rows st).take k) ((rows st).drop (k + 1)) _ (st.length - (k + 1)) _ (fun q => (ok q ∧ q ≠ rb) ∨ W.heap.size ≤ q) (fun q => (ok q ∧ q ≠ rb) ∧ some q ≠ (Value.slice (some ⟨g, 0, none⟩) st.length c).ownBlock) rfl rfl HO2.out (ReadsRow.drop0 (m := k + 1) (c := c) (HMD.out HB2.out) hil hcap) (fun _ _ h => h) (fun q hq => ⟨.inl hq.1, fun e => by have h1 := HF2.out q e.symm; have h2 := HOL.out q hq.1.1; omega⟩) (fun q hq => .inr (Nat.le_trans HB2.out.size hq)) (Below.mono HB2.out (Nat.zero_le _)) (Nat.zero_le _) (by rw [List.length_take, rows_len]; omega) ?_
        intro v3 x3 ho hb hgr hfr
        have HB3 := Aside0.mk (below_of_grown HB2.out (Nat.le_refl _) hgr (fun q h => HF2.out q h))
        have HF3 := Aside0.mk (fun q (h : v3.ownBlock = some q) => (show W.heap.size ≤ q by rcases hfr with hfr | ⟨b, h1, h2⟩; (rw [hfr] at h; exact HF2.out q h); (rw [h1] at h; injection h with h; have := HB2.out.size; omega)))
        obtain ⟨A3, c3, hv3⟩ := Kd.R_slice ho
        rw [HLEN.out] at hv3
        subst hv3
        have y_3 := (HB3.out.cell (p := ⟨rb, 1, none⟩) hrb).trans HC1.out
        have z_3 : x3.frozen? ⟨rb, 1, none⟩ = false := blk_frozen (HH.out.below HB3.out).S 1
        have HO3 := Aside0.mk ho
        clear ho hb hgr hfr
        refine hK.out _ _ ((HB3.out.cell (p := ⟨rb, 1, none⟩) hrb).trans HC1.out) (fun hHeld => ?_)
        clear hK K
        refine norm_ (a' := ?_) ?_ ?_
        rotate_left
        · show Act.put _ (some 56) _ = _
          simp only [Act.put, List.setIfInBounds_toArray, List.set_cons_zero, List.set_cons_succ, i64_w, i32_w]
          rfl
        refine pure_ (i := 17) (N := some 57) (v := ?_) (a' := ?_) #[true, true, true, true, true, true, true, true, true, true, true, true, true, true, true, true, true, true, false, false] rfl rfl (any_of HT_.out (by kernel_rfl)) (fun _ _ _ h => h) (Or.inl ⟨by rfl, ?_⟩) ?_ ?_
        rotate_left
        · intro w'
          go_simp
          with_reducible rfl
        rotate_left
        · simp only [Act.put, List.setIfInBounds_toArray, List.set_cons_zero, List.set_cons_succ, i64_w, i32_w]
          rfl
        refine pure_ (i := 18) (N := some 58) (v := ?_) (a' := ?_) #[true, true, true, true, true, true, true, true, true, true, true, true, true, true, true, true, true, true, true, false] rfl rfl (any_of HT_.out (by kernel_rfl)) (fun _ _ _ h => h) (Or.inl ⟨by rfl, ?_⟩) ?_ ?_
        rotate_left
        · intro w'
          go_simp
          with_reducible rfl
        rotate_left
        · simp only [Act.put, List.setIfInBounds_toArray, List.set_cons_zero, List.set_cons_succ, i64_w, i32_w]
          rfl
        refine last_ (i := 19) (N := none) #[true, true, true, true, true, true, true, true, true, true, true, true, true, true, true, true, true, true, true, true] rfl rfl (one_of HT_.out (by kernel_rfl)) (by decide) (fun K hK => ?_)
        refine skip_ (w1 := ?_) (by rfl) rfl ?_ ?_
        rotate_left
        · go_simp
          rfl
        refine hK.out _ _ ?_
        clear hK K
        refine done_ (done_of HT_.out (by kernel_rfl)) ?_
        go_wp2
        all_goals
          refine bodyPost_ret (v := .int .i64 0) (by simp [results, Tryz.f19, go_sem]) rfl ?_
          rw [HM.out, HNM.out]
          have hN := HN.out
          subst hN
          exact HH.out.files HB3.out (by unfold rows; rw [List.map_append, List.map_take, List.map_drop]; exact HO3.out) _
end Go.Proofs.YtehlmkgldcfciaaGreat.Files
/- The reference's store: Create. -/
set_option linter.unusedVariables false
set_option linter.unusedSimpArgs false
namespace Go.Proofs.YtehlmkgldcfciaaGreat.Files
open Go.Proofs.YtehlmkgldcfciaaGreat.Common Go.Maps Go.ChangeMaps Go.WideMaps Go.Proofs.YtehlmkgldcfciaaGreat.F
open Go.RowKit Go.Proofs.YtehlmkgldcfciaaGreatW.PrintWords Go.Proofs.YtehlmkgldcfciaaGreatW.PrintLast Go.Proofs.YtehlmkgldcfciaaGreatW.PrintMore
set_option maxRecDepth 100000 in
set_option maxHeartbeats 4000000 in
theorem rCreate_c (rb c : Nat) (ok : Nat → Prop) (st : Fs) (A : Option Addr) (u n : ByteArray) (kind perm : Int) (W : World) (h : RParts W ok rb st A c) (hI : RInv st) :
    Calls Tryz.prog 17 #[.pointer (some ⟨rb, 0, none⟩), .string u, .string n, .int .i64 kind, .int .i64 perm] W (ROut W ok rb (.int .i64 (mCreate st u n kind perm).1) (mCreate st u n kind perm).2) := by
  have C56 := Aside0.mk (rbad_c rb u n W h.c0)
  have CF := Aside0.mk (find_c rb c ok st A n W h)
  have HRR := Aside0.mk (show RRep W ok rb st from ⟨A, c, h⟩)
  have c1 := h.c1
  have CS := Aside0.mk (rset_c perm W)
  have hrb := h.lt rb h.okr
  have hst := hI.count
  have HC1 := Aside0.mk c1
  have HH := Aside0.mk h
  have HOL := Aside0.mk h.lt
  have HMD := Aside0.mk (fun {X : World} (hb : Below W.heap.size W X) => h.made hb)
  clear h hI
  cases hbad : (userB u && nameB n) with
  | false =>
    rw [hbad] at C56
    have HM := Aside0.mk (show mCreate st u n kind perm = (1, st) by unfold mCreate createB; rw [hbad]; rfl)
    clear hbad c1 CF
    go_enter Tryz.func17, Tryz.ntmps17
    go_wp2_with first | (go_at_call 56; refine C56.out.mono ?_; rintro e w' ⟨rfl, rfl⟩)
    refine bodyPost_ret (v := .int .i64 1) (by simp [results, Tryz.f17, go_sem]) rfl ?_
    exact ROut.stay HRR.out (Below.refl _ _) (by rw [HM.out]) (by rw [HM.out])
  | true =>
    rw [hbad] at C56
    by_cases hk1 : kind < 0
    · have g1 : decide (kind < 0) = true := decide_eq_true hk1
      have HM := Aside0.mk (show mCreate st u n kind perm = (1, st) by unfold mCreate createB; rw [decide_eq_false (show ¬ 0 ≤ kind by omega)]; simp)
      clear hbad c1 CF hk1
      go_enter Tryz.func17, Tryz.ntmps17
      go_wp2_with first | (go_at_call 56; refine C56.out.mono ?_; rintro e w' ⟨rfl, rfl⟩)
      refine bodyPost_ret (v := .int .i64 1) (by simp [results, Tryz.f17, go_sem]) rfl ?_
      exact ROut.stay HRR.out (Below.refl _ _) (by rw [HM.out]) (by rw [HM.out])
    have g1 : decide (kind < 0) = false := decide_eq_false hk1
    by_cases hk2 : 2 < kind
    · have g2 : decide (2 < kind) = true := decide_eq_true hk2
      have HM := Aside0.mk (show mCreate st u n kind perm = (1, st) by unfold mCreate createB; rw [decide_eq_false (show ¬ kind ≤ 2 by omega)]; simp)
      clear hbad c1 CF hk1 hk2
      go_enter Tryz.func17, Tryz.ntmps17
      go_wp2_with first | (go_at_call 56; refine C56.out.mono ?_; rintro e w' ⟨rfl, rfl⟩)
      refine bodyPost_ret (v := .int .i64 1) (by simp [results, Tryz.f17, go_sem]) rfl ?_
      exact ROut.stay HRR.out (Below.refl _ _) (by rw [HM.out]) (by rw [HM.out])
    have g2 : decide (2 < kind) = false := decide_eq_false hk2
    cases hs : setB perm with
    | false =>
      rw [hs] at CS
      have HM := Aside0.mk (show mCreate st u n kind perm = (1, st) by unfold mCreate createB; rw [hs]; simp)
      clear hbad c1 CF hk1 hk2 hs
      go_enter Tryz.func17, Tryz.ntmps17
      go_wp2_with first | (go_at_call 56; refine C56.out.mono ?_; rintro e w' ⟨rfl, rfl⟩) | (go_at_call 57; refine CS.out.mono ?_; rintro e w' ⟨rfl, rfl⟩)
      refine bodyPost_ret (v := .int .i64 1) (by simp [results, Tryz.f17, go_sem]) rfl ?_
      exact ROut.stay HRR.out (Below.refl _ _) (by rw [HM.out]) (by rw [HM.out])
    | true =>
      rw [hs] at CS
      have HCB := Aside0.mk (show createB u n kind perm = true by unfold createB; rw [hbad, hs, decide_eq_true (show 0 ≤ kind by omega), decide_eq_true (show kind ≤ 2 by omega)]; rfl)
      rcases posI_range st n with ⟨hp, hpf⟩ | ⟨k, f, hp, hpf, hk, hnm⟩
      · rw [hp] at CF
        by_cases hfull : st.length = 30
        · have g3 : ((st.length : Int) == 30) = true := by rw [hfull]; rfl
          have HM := Aside0.mk (show mCreate st u n kind perm = (9, st) by unfold mCreate; rw [if_neg (by rw [HCB.out]; simp), hpf, if_neg (by simp), if_pos (by omega)])
          clear hbad hp hpf hk1 hk2 hs hfull
          go_enter Tryz.func17, Tryz.ntmps17
          go_wp2_with first | (go_at_call 56; refine C56.out.mono ?_; rintro e w' ⟨rfl, rfl⟩) | (go_at_call 57; refine CS.out.mono ?_; rintro e w' ⟨rfl, rfl⟩) | (go_at_call 49; refine CF.out.mono ?_; rintro e w' ⟨rfl, rfl⟩)
          refine bodyPost_ret (v := .int .i64 9) (by simp [results, Tryz.f17, go_sem]) rfl ?_
          exact ROut.stay HRR.out (Below.refl _ _) (by rw [HM.out]) (by rw [HM.out])
        · have g3 : ((st.length : Int) == 30) = false := by simp; omega
          have g4 : ¬ (st.length : Int) = 30 := by omega
          have HM := Aside0.mk (show mCreate st u n kind perm = (0, st ++ [newF u n kind perm]) by unfold mCreate; rw [if_neg (by rw [HCB.out]; simp), hpf, if_neg (by simp), if_neg (by omega)])
          obtain ⟨N, hN⟩ : ∃ N, N = (st ++ [newF u n kind perm]).length := ⟨_, rfl⟩
          have HN := Aside0.mk hN
          have HLEN := Aside0.mk (show (rows st ++ [toR (newF u n kind perm)]).length = N by rw [hN]; simp [rows])
          clear hbad hp hpf hk1 hk2 hs hfull hN
          go_enter Tryz.func17, Tryz.ntmps17
          go_wp2_with (first
            | (go_at_call 56; refine C56.out.mono ?_; rintro e w' ⟨rfl, rfl⟩)
            | (go_at_call 57; refine CS.out.mono ?_; rintro e w' ⟨rfl, rfl⟩)
            | (go_at_call 49; refine CF.out.mono ?_; rintro e w' ⟨rfl, rfl⟩)
            | ((with_reducible refine gate_dst (N := 39) rfl ?_); refine Kd.R_lit k85 (w0 := W) 0 85 ?hg (N := 39) ?hd (xs := ([] : List S85)) (inner := []) (ok := (fun q => (ok q ∧ q ≠ rb) ∨ W.heap.size ≤ q)) (okp := (fun _ => False)) ?hr ?hp (fun _ h => h.elim) (.inr (Below.refl W.heap.size W).size) (Below.mono (Below.refl W.heap.size W) (Nat.zero_le _)) (Nat.zero_le _) (by simp) ?_; (case hd => rfl); (case hg => rfl); (case hr => first | (go_simp; done) | (go_simp; rfl)); (case hp => exact (Reps.none _ _)); intro v1 x1 ho hb hgr hfr; have HO1 := Aside0.mk ho; have HB1 := Aside0.mk (below_of_grown (Below.refl W.heap.size W) (Nat.le_refl _) hgr (fun _ h => by cases h)); have HF1 := Aside0.mk (fun q (h : v1.ownBlock = some q) => (show W.heap.size ≤ q by obtain ⟨b, h1, h2⟩ := hfr; rw [h1] at h; injection h with h; have := (Below.refl W.heap.size W).size; omega)); clear ho hb hgr hfr; have d1 := (HB1.out.cell (p := ⟨rb, 1, none⟩) hrb).trans c1)
            | ((with_reducible refine gate_builtin (b := .append) (xs := #[.tmp 39, .tmp 43]) rfl ?_); at_builtin; refine Kd.R_append_rows k85 (Rr := k85.M x1 0 (fun q => (ok q ∧ q ≠ rb) ∧ some q ≠ (Value.slice A st.length c).ownBlock)) (w0 := W) 0 rfl (.tmp 39) (.tmp 43) 44 85 (.agg #[.string ⟨#[]⟩, .int .i64 0, .int .i64 0, .string ⟨#[]⟩, .string ⟨#[]⟩, .int .i64 0, .int .i64 0, .slice none 0 0, .slice none 0 0, .slice none 0 0]) 152 rfl Tryz.underlying44 (by kernel_rfl) rfl (by decide) (by omega) v1 [] (rows st) A st.length c (fun q => (ok q ∧ q ≠ rb) ∨ W.heap.size ≤ q) (fun q => (ok q ∧ q ≠ rb) ∧ some q ≠ (Value.slice A st.length c).ownBlock) rfl rfl HO1.out (HMD.out HB1.out) (fun _ _ h => h) (fun q hq => ⟨.inl hq.1, fun e => by have h1 := HF1.out q e.symm; have h2 := HOL.out q hq.1.1; omega⟩) (fun q hq => .inr (Nat.le_trans HB1.out.size hq)) (Below.mono HB1.out (Nat.zero_le _)) (Nat.zero_le _) (by simp only [List.length_nil]; omega) ?_; intro v2 x2 ho hb hgr hfr; rw [List.nil_append] at ho; have HB2 := Aside0.mk (below_of_grown HB1.out (Nat.le_refl _) hgr (fun q h => HF1.out q h)); have HF2 := Aside0.mk (fun q (h : v2.ownBlock = some q) => (show W.heap.size ≤ q by rcases hfr with hfr | ⟨b, h1, h2⟩; (rw [hfr] at h; exact HF1.out q h); (rw [h1] at h; injection h with h; have := HB1.out.size; omega))); have HV2 := Aside0.mk (fun q (h : v2.ownBlock = some q) => (show q < x2.heap.size by obtain ⟨_, inner, hown, _⟩ := ho; exact own_lt hown q h)); have HO2 := Aside0.mk ho; clear ho hb hgr hfr)
            | ((with_reducible refine gate_dst (N := 51) rfl ?_); refine Kd.R_lit k62 (w0 := W) 0 62 ?hg (N := 51) ?hd (xs := ([⟨⟨#[]⟩, ⟨#[]⟩, 0⟩] : List S62)) (inner := [.string ⟨#[]⟩, .string ⟨#[]⟩, .int .i64 0]) (ok := (fun q => x2.heap.size ≤ q)) (okp := (fun _ => False)) ?hr ?hp (fun _ h => h.elim) ?hfr_ (Below.mono HB2.out (Nat.zero_le _)) (Nat.zero_le _) (by simp) ?_; (case hd => rfl); (case hg => rfl); (case hr => first | (go_simp; done) | (go_simp; rfl)); (case hp => exact (Reps.c3 (k62_mkM _ _ (fun _ => False) _) (Reps.none _ _))); (case hfr_ => exact Nat.le_refl _); intro v3 x3 ho hb hgr hfr; have HB3 := Aside0.mk (below_of_grown HB2.out (Nat.le_refl _) hgr (fun _ h => by cases h)); have HX3 := Aside0.mk (below_of_grown (Below.refl _ x2) (Nat.le_refl _) hgr (fun _ h => by cases h)); obtain ⟨Az, cz, hvz⟩ := Kd.R_slice ho; have hvz : v3 = .slice Az 1 cz := hvz; subst hvz; have HO3 := Aside0.mk ho; clear ho hb hgr hfr)
            | ((with_reducible refine gate_dst (N := 53) rfl ?_); refine Kd.R_lit k85 (w0 := W) 0 85 ?hg (N := 53) ?hd (xs := ([(toR (newF u n kind perm))] : List S85)) (inner := [.string n, .int .i64 kind, .int .i64 perm, .string u, .string ⟨#[]⟩, .int .i64 0, .int .i64 0, .slice none 0 0, .slice Az 1 cz, .slice none 0 0]) (ok := (fun q => x2.heap.size ≤ q)) (okp := (fun q => x2.heap.size ≤ q)) ?hr ?hp (fun _ h => h) ?hfr_ (Below.mono HB3.out (Nat.zero_le _)) (Nat.zero_le _) (by simp) ?_; (case hd => rfl); (case hg => rfl); (case hr => first | (go_simp; done) | (go_simp; rfl)); (case hp => exact (Reps.c10 (k85_mkM _ 0 (fun q => x2.heap.size ≤ q) (toR (newF u n kind perm)) (Kd.R_nil _ _ _ _ _) HO3.out (Kd.R_nil _ _ _ _ _)) (Reps.none _ _))); (case hfr_ => exact HX3.out.size); intro v4 x4 ho hb hgr hfr; have HB4 := Aside0.mk (below_of_grown HB3.out (Nat.le_refl _) hgr (fun _ h => by cases h)); have HX4 := Aside0.mk (below_of_grown HX3.out (Nat.le_refl _) hgr (fun _ h => by cases h)); obtain ⟨A4, c4, hv4⟩ := Kd.R_slice ho; have hv4 : v4 = .slice A4 1 c4 := hv4; subst hv4; have HO4 := Aside0.mk ho; clear ho hb hgr hfr)
            | ((with_reducible refine gate_builtin (b := .append) (xs := #[.tmp 44, .tmp 53]) rfl ?_); at_builtin; refine Kd.R_append_rows k85 (Rr := k85.M x4 0 (fun q => x2.heap.size ≤ q ∧ some q ≠ (Value.slice A4 1 c4).ownBlock)) (w0 := W) 0 rfl (.tmp 44) (.tmp 53) 44 85 (.agg #[.string ⟨#[]⟩, .int .i64 0, .int .i64 0, .string ⟨#[]⟩, .string ⟨#[]⟩, .int .i64 0, .int .i64 0, .slice none 0 0, .slice none 0 0, .slice none 0 0]) 152 rfl Tryz.underlying44 (by kernel_rfl) rfl (by decide) (by omega) v2 (rows st) [(toR (newF u n kind perm))] A4 1 c4 (fun q => (ok q ∧ q ≠ rb) ∨ W.heap.size ≤ q) (fun q => x2.heap.size ≤ q ∧ some q ≠ (Value.slice A4 1 c4).ownBlock) rfl rfl (Kd.R_below HO2.out HX4.out) (reads_one HO4.out) (fun _ _ h => h) (fun q hq => ⟨.inr (Nat.le_trans HB2.out.size hq.1), fun e => by have := HV2.out q e.symm; have := hq.1; omega⟩) (fun q hq => .inr (Nat.le_trans HB4.out.size hq)) (Below.mono HB4.out (Nat.zero_le _)) (Nat.zero_le _) (by rw [rows_len]; omega) ?_; intro v5 x5 ho hb hgr hfr; have HB5 := Aside0.mk (below_of_grown HB4.out (Nat.le_refl _) hgr (fun q h => HF2.out q h)); have HF5 := Aside0.mk (fun q (h : v5.ownBlock = some q) => (show W.heap.size ≤ q by rcases hfr with hfr | ⟨b, h1, h2⟩; (rw [hfr] at h; exact HF2.out q h); (rw [h1] at h; injection h with h; have := HB4.out.size; omega))); obtain ⟨A5, c5, hv5⟩ := Kd.R_slice ho; rw [HLEN.out] at hv5; subst hv5; have y_5 := (HB5.out.cell (p := ⟨rb, 1, none⟩) hrb).trans HC1.out; have z_5 : x5.frozen? ⟨rb, 1, none⟩ = false := blk_frozen (HH.out.below HB5.out).S 1; have HO5 := Aside0.mk ho; clear ho hb hgr hfr))
          refine bodyPost_ret (v := .int .i64 0) (by simp [results, Tryz.f17, go_sem]) rfl ?_
          rw [HM.out]
          have hN := HN.out
          subst hN
          exact HH.out.files HB5.out (by unfold rows; rw [List.map_append]; exact HO5.out) _
      · rw [hp] at CF
        have hk0 : (0 : Int) ≤ (k : Int) := by omega
        have HM := Aside0.mk (show mCreate st u n kind perm = (7, st) by unfold mCreate; rw [if_neg (by rw [HCB.out]; simp), hpf]; rfl)
        clear hbad hp hpf hk1 hk2 hs hk hnm
        go_enter Tryz.func17, Tryz.ntmps17
        go_wp2_with first | (go_at_call 56; refine C56.out.mono ?_; rintro e w' ⟨rfl, rfl⟩) | (go_at_call 57; refine CS.out.mono ?_; rintro e w' ⟨rfl, rfl⟩) | (go_at_call 49; refine CF.out.mono ?_; rintro e w' ⟨rfl, rfl⟩)
        refine bodyPost_ret (v := .int .i64 7) (by simp [results, Tryz.f17, go_sem]) rfl ?_
        exact ROut.stay HRR.out (Below.refl _ _) (by rw [HM.out]) (by rw [HM.out])
end Go.Proofs.YtehlmkgldcfciaaGreat.Files
/- The reference's store: New. -/
set_option linter.unusedVariables false
set_option linter.unusedSimpArgs false
namespace Go.Proofs.YtehlmkgldcfciaaGreat.Files
open Go.Proofs.YtehlmkgldcfciaaGreat.Common Go.Maps Go.ChangeMaps Go.WideMaps Go.Proofs.YtehlmkgldcfciaaGreat.F
open Go.RowKit Go.Proofs.YtehlmkgldcfciaaGreatW.PrintWords Go.Proofs.YtehlmkgldcfciaaGreatW.PrintLast Go.Proofs.YtehlmkgldcfciaaGreatW.PrintMore
def RNewOut (w : World) (e : Ending) (w' : World) : Prop := ∃ rb, e = .returned (.pointer (some ⟨rb, 0, none⟩)) ∧ RRep w' (fun q => q = rb) rb [] ∧ Below w.heap.size w w' ∧ w.heap.size ≤ rb
theorem rNew_made (W : World) : RRep (W.alloc (.cells #[.bool true, .slice none 0 0] 46)) (fun q => q = W.heap.size) W.heap.size [] :=
  ⟨none, 0, rfl, by simpa using heap_alloc_new W _, Kd.R_nil _ _ _ _ _, fun k hk => by rw [hk]; simp⟩
set_option maxRecDepth 100000 in
theorem rNew_c (W : World) : Calls Tryz.prog 6 #[] W (RNewOut W) := by
  have HR := Aside0.mk (rNew_made W)
  have HB := Aside0.mk (show Below W.heap.size W (W.alloc (.cells #[.bool true, .slice none 0 0] 46)) from (Below.refl _ _).alloc (Nat.le_refl _) _)
  go_enter Tryz.func6, Tryz.ntmps6
  go_wp2
  refine bodyPost_ret (v := .pointer (some ⟨W.heap.size, 0, none⟩)) (by simp [results, Tryz.f6, go_sem]) rfl ?_
  exact ⟨_, rfl, HR.out, HB.out, Nat.le_refl _⟩
end Go.Proofs.YtehlmkgldcfciaaGreat.Files
