/- The parts of this proof that lie in one text. -/
import Derived.Test.YtehlmkgldcfciaaGreatGN7
import Derived.Test.YtehlmkgldcfciaaGreatWRepsOne
import Derived.Test.YtehlmkgldcfciaaGreatGN1
import Derived.Test.YtehlmkgldcfciaaGreatGN3
import Derived.Test.YtehlmkgldcfciaaGreatGN8
import Derived.Test.YtehlmkgldcfciaaGreatGN6
import Derived.BigQuiet
/- The reference's store: Info. -/
set_option linter.unusedVariables false
set_option linter.unusedSimpArgs false
namespace Go.Proofs.YtehlmkgldcfciaaGreat.Files
open Go.Proofs.YtehlmkgldcfciaaGreat.Common Go.Maps Go.ChangeMaps Go.WideMaps Go.Proofs.YtehlmkgldcfciaaGreat.F
open Go.RowKit Go.Proofs.YtehlmkgldcfciaaGreatW.PrintWords Go.Proofs.YtehlmkgldcfciaaGreatW.PrintLast Go.Proofs.YtehlmkgldcfciaaGreatW.PrintMore
theorem Chg.next {w x : World} {S : Nat → Prop} (h : Chg w x S) (p : Addr) (u : Value) (hS : S p.block) : Chg w (x.setCell p u) S := h.trans (Chg.of_set x p u (S := S) hS) (fun _ h => .inl h)
theorem fill8 {w : World} {b ty : Nat} {c0 c1 c2 c3 c4 c5 c6 c7 : Value} (h : w.heap[b]? = some (.cells #[c0, c1, c2, c3, c4, c5, c6, c7] ty (0, 0))) (v0 v1 v2 v3 v4 v5 v6 v7 : Value) : ∃ X, X = ((((((((w.setCell ⟨b, 0, none⟩ v0).setCell ⟨b, 1, none⟩ v1).setCell ⟨b, 2, none⟩ v2).setCell ⟨b, 3, none⟩ v3).setCell ⟨b, 4, none⟩ v4).setCell ⟨b, 5, none⟩ v5).setCell ⟨b, 6, none⟩ v6).setCell ⟨b, 7, none⟩ v7) ∧ X.heap[b]? = some (.cells #[v0, v1, v2, v3, v4, v5, v6, v7] ty (0, 0)) ∧ Chg w X (fun q => q = b) := by
  have h0 : (w.setCell ⟨b, 0, none⟩ v0).heap[b]? = some (.cells #[v0, c1, c2, c3, c4, c5, c6, c7] ty (0, 0)) := blk_set h 0 v0
  have k0 : Chg w (w.setCell ⟨b, 0, none⟩ v0) (fun q => q = b) := Chg.of_set w _ _ rfl
  generalize w.setCell ⟨b, 0, none⟩ v0 = w0 at h0 k0 ⊢
  have h1 : (w0.setCell ⟨b, 1, none⟩ v1).heap[b]? = some (.cells #[v0, v1, c2, c3, c4, c5, c6, c7] ty (0, 0)) := blk_set h0 1 v1
  have k1 : Chg w (w0.setCell ⟨b, 1, none⟩ v1) (fun q => q = b) := k0.next _ _ rfl
  generalize w0.setCell ⟨b, 1, none⟩ v1 = w1 at h1 k1 ⊢
  have h2 : (w1.setCell ⟨b, 2, none⟩ v2).heap[b]? = some (.cells #[v0, v1, v2, c3, c4, c5, c6, c7] ty (0, 0)) := blk_set h1 2 v2
  have k2 : Chg w (w1.setCell ⟨b, 2, none⟩ v2) (fun q => q = b) := k1.next _ _ rfl
  generalize w1.setCell ⟨b, 2, none⟩ v2 = w2 at h2 k2 ⊢
  have h3 : (w2.setCell ⟨b, 3, none⟩ v3).heap[b]? = some (.cells #[v0, v1, v2, v3, c4, c5, c6, c7] ty (0, 0)) := blk_set h2 3 v3
  have k3 : Chg w (w2.setCell ⟨b, 3, none⟩ v3) (fun q => q = b) := k2.next _ _ rfl
  generalize w2.setCell ⟨b, 3, none⟩ v3 = w3 at h3 k3 ⊢
  have h4 : (w3.setCell ⟨b, 4, none⟩ v4).heap[b]? = some (.cells #[v0, v1, v2, v3, v4, c5, c6, c7] ty (0, 0)) := blk_set h3 4 v4
  have k4 : Chg w (w3.setCell ⟨b, 4, none⟩ v4) (fun q => q = b) := k3.next _ _ rfl
  generalize w3.setCell ⟨b, 4, none⟩ v4 = w4 at h4 k4 ⊢
  have h5 : (w4.setCell ⟨b, 5, none⟩ v5).heap[b]? = some (.cells #[v0, v1, v2, v3, v4, v5, c6, c7] ty (0, 0)) := blk_set h4 5 v5
  have k5 : Chg w (w4.setCell ⟨b, 5, none⟩ v5) (fun q => q = b) := k4.next _ _ rfl
  generalize w4.setCell ⟨b, 5, none⟩ v5 = w5 at h5 k5 ⊢
  have h6 : (w5.setCell ⟨b, 6, none⟩ v6).heap[b]? = some (.cells #[v0, v1, v2, v3, v4, v5, v6, c7] ty (0, 0)) := blk_set h5 6 v6
  have k6 : Chg w (w5.setCell ⟨b, 6, none⟩ v6) (fun q => q = b) := k5.next _ _ rfl
  generalize w5.setCell ⟨b, 6, none⟩ v6 = w6 at h6 k6 ⊢
  have h7 : (w6.setCell ⟨b, 7, none⟩ v7).heap[b]? = some (.cells #[v0, v1, v2, v3, v4, v5, v6, v7] ty (0, 0)) := blk_set h6 7 v7
  have k7 : Chg w (w6.setCell ⟨b, 7, none⟩ v7) (fun q => q = b) := k6.next _ _ rfl
  generalize w6.setCell ⟨b, 7, none⟩ v7 = w7 at h7 k7 ⊢
  exact ⟨_, rfl, h7, k7⟩
def noFS : FS := ⟨⟨#[]⟩, 0, 0, ⟨#[]⟩, ⟨#[]⟩, 0, 0⟩
def infoOf (f : AF) (g : Int) : FS × List S100 := if g = 0 then (⟨f.F.name, f.F.kind, f.F.perm, ⟨#[]⟩, ⟨#[]⟩, 0, 0⟩, []) else if g = 1 then (⟨⟨#[]⟩, 0, 0, f.F.owner, f.F.last, f.F.ch, f.F.rd⟩, []) else (noFS, f.rules)
def mInfo (st : Fs) (u n : ByteArray) (g : Int) : (FS × List S100) × Int := if g < 0 ∨ 2 < g then ((noFS, []), 1) else match mOpened st u n 32 with
  | .error E => ((noFS, []), E)
  | .ok (_, f, dn) => if dn = 0 then (infoOf f g, 0) else ((noFS, []), dn)
def infoV (x : FS) (v : Value) : Value := .agg #[.string x.name, .int .i64 x.kind, .int .i64 x.perm, .string x.owner, .string x.last, .int .i64 x.ch, .int .i64 x.rd, v]
def RInfoOut (W : World) (r : (FS × List S100) × Int) (e : Ending) (w' : World) : Prop := ∃ v, e = .returned (.tuple #[infoV r.1.1 v, .int .i64 r.2]) ∧ Below W.heap.size W w' ∧ Kd.R k129 129 w' W.heap.size (fun _ => True) v (r.1.2.map toRu)
theorem RInfoOut.stay {W w' : World} {E : Int} {F : FS} {r : (FS × List S100) × Int} (hb : Below W.heap.size W w') (hr : r = ((F, []), E)) : RInfoOut W r (.returned (.tuple #[infoV F (.slice none 0 0), .int .i64 E])) w' := by
  subst hr
  exact ⟨_, rfl, hb, Kd.R_nil _ _ _ _ _⟩
theorem below_fill {W w X : World} (h : Below W.heap.size W w) (hc : Chg w X (fun q => q = W.heap.size)) : Below W.heap.size W X := h.trans (hc.below h.size (fun k hk => by omega))
set_option maxRecDepth 100000 in
set_option maxHeartbeats 4000000 in
theorem rInfo_c (rb c : Nat) (ok : Nat → Prop) (st : Fs) (A : Option Addr) (u n : ByteArray) (gr : Int) (W : World) (h : RParts W ok rb st A c) (hI : RInv st) :
    Calls Tryz.prog 39 #[.pointer (some ⟨rb, 0, none⟩), .string u, .string n, .int .i64 gr] W (RInfoOut W (mInfo st u n gr)) := by
  have HBX := Aside0.mk (show Below W.heap.size W (W.alloc (.cells #[.string ⟨#[]⟩, .int .i64 0, .int .i64 0, .string ⟨#[]⟩, .string ⟨#[]⟩, .int .i64 0, .int .i64 0, .slice none 0 0] 71)) from (Below.refl _ _).alloc (Nat.le_refl _) _)
  have HKX := Aside0.mk (show (W.alloc (.cells #[.string ⟨#[]⟩, .int .i64 0, .int .i64 0, .string ⟨#[]⟩, .string ⟨#[]⟩, .int .i64 0, .int .i64 0, .slice none 0 0] 71)).heap[W.heap.size]? = some (.cells #[.string ⟨#[]⟩, .int .i64 0, .int .i64 0, .string ⟨#[]⟩, .string ⟨#[]⟩, .int .i64 0, .int .i64 0, .slice none 0 0] 71 (0, 0)) by simpa using heap_alloc_new W _)
  have C56 := Aside0.mk (rbad_c rb u n (W.alloc (.cells #[.string ⟨#[]⟩, .int .i64 0, .int .i64 0, .string ⟨#[]⟩, .string ⟨#[]⟩, .int .i64 0, .int .i64 0, .slice none 0 0] 71)) (h.below HBX.out).c0)
  have CB := Aside0.mk (begin_c rb c ok st A u n (W.alloc (.cells #[.string ⟨#[]⟩, .int .i64 0, .int .i64 0, .string ⟨#[]⟩, .string ⟨#[]⟩, .int .i64 0, .int .i64 0, .slice none 0 0] 71)) (h.below HBX.out))
  cases hbad : (userB u && nameB n) with
  | false =>
    rw [hbad] at C56
    have HM := Aside0.mk (show mInfo st u n gr = ((noFS, []), 1) by unfold mInfo; split <;> first | rfl | rw [mOpened_bad hbad])
    clear h hbad CB 
    go_enter Tryz.func39, Tryz.ntmps39
    go_wp2_with first | (go_at_call 56; refine C56.out.mono ?_; rintro e w' ⟨rfl, rfl⟩)
    refine bodyPost_ret (v := .tuple #[infoV noFS (.slice none 0 0), .int .i64 1]) (by unfold infoV noFS; simp [results, Tryz.f39, go_sem]; try rfl) rfl ?_
    exact RInfoOut.stay HBX.out HM.out
  | true =>
   rw [hbad] at C56
   by_cases hr : gr < 0
   · have g1 : decide (gr < 0) = true := decide_eq_true hr
     have HM := Aside0.mk (show mInfo st u n gr = ((noFS, []), 1) by unfold mInfo; rw [if_pos (.inl hr)])
     clear h hbad CB hr
     go_enter Tryz.func39, Tryz.ntmps39
     go_wp2_with first | (go_at_call 56; refine C56.out.mono ?_; rintro e w' ⟨rfl, rfl⟩)
     refine bodyPost_ret (v := .tuple #[infoV noFS (.slice none 0 0), .int .i64 1]) (by unfold infoV noFS; simp [results, Tryz.f39, go_sem]; try rfl) rfl ?_
     exact RInfoOut.stay HBX.out HM.out
   have g1 : decide (gr < 0) = false := decide_eq_false hr
   by_cases hr2 : 2 < gr
   · have g2 : decide (2 < gr) = true := decide_eq_true hr2
     have HM := Aside0.mk (show mInfo st u n gr = ((noFS, []), 1) by unfold mInfo; rw [if_pos (.inr hr2)])
     clear h hbad CB hr hr2
     go_enter Tryz.func39, Tryz.ntmps39
     go_wp2_with first | (go_at_call 56; refine C56.out.mono ?_; rintro e w' ⟨rfl, rfl⟩)
     refine bodyPost_ret (v := .tuple #[infoV noFS (.slice none 0 0), .int .i64 1]) (by unfold infoV noFS; simp [results, Tryz.f39, go_sem]; try rfl) rfl ?_
     exact RInfoOut.stay HBX.out HM.out
   have g2 : decide (2 < gr) = false := decide_eq_false hr2
   have HMI := Aside0.mk (show mInfo st u n gr = _ from if_neg (by omega))
   cases hB : mBegin st u n with
   | error E =>
     rw [hB] at CB
     have hE := mBegin_E hB
     have HM := Aside0.mk (show mInfo st u n gr = ((noFS, []), E) by rw [HMI.out, mOpened_err hbad hB 32])
     clear h hbad hB hr hr2
     go_enter Tryz.func39, Tryz.ntmps39
     go_wp2_with first | (go_at_call 56; refine C56.out.mono ?_; rintro e w' ⟨rfl, rfl⟩)
     refine CB.out.mono ?_
     rintro e w2 ⟨hb2, rfl⟩
     have HB2 := Aside0.mk (HBX.out.trans (hb2.mono HBX.out.size))
     have HK2 := Aside0.mk ((hb2.block W.heap.size (by simp)).trans HKX.out)
     clear hb2
     have x0 := (blk_cell HK2.out 0).trans (show _ = some (Value.string ⟨#[]⟩) from rfl)
     have x1 := (blk_cell HK2.out 1).trans (show _ = some (Value.int .i64 0) from rfl)
     have x2 := (blk_cell HK2.out 2).trans (show _ = some (Value.int .i64 0) from rfl)
     have x3 := (blk_cell HK2.out 3).trans (show _ = some (Value.string ⟨#[]⟩) from rfl)
     have x4 := (blk_cell HK2.out 4).trans (show _ = some (Value.string ⟨#[]⟩) from rfl)
     have x5 := (blk_cell HK2.out 5).trans (show _ = some (Value.int .i64 0) from rfl)
     have x6 := (blk_cell HK2.out 6).trans (show _ = some (Value.int .i64 0) from rfl)
     have x7 := (blk_cell HK2.out 7).trans (show _ = some (Value.slice none 0 0) from rfl)
     have y0 := blk_frozen HK2.out 0
     have y1 := blk_frozen HK2.out 1
     have y2 := blk_frozen HK2.out 2
     have y3 := blk_frozen HK2.out 3
     have y4 := blk_frozen HK2.out 4
     have y5 := blk_frozen HK2.out 5
     have y6 := blk_frozen HK2.out 6
     have y7 := blk_frozen HK2.out 7
     go_wp2
     obtain ⟨X9, hX9, hK9, hC9⟩ := fill8 HK2.out (.string ⟨#[]⟩) (.int .i64 0) (.int .i64 0) (.string ⟨#[]⟩) (.string ⟨#[]⟩) (.int .i64 0) (.int .i64 0) (.slice none 0 0)
     rw [← hX9]
     have HC9 := Aside0.mk hC9
     clear x0 y0 x1 y1 x2 y2 x3 y3 x4 y4 x5 y5 x6 y6 x7 y7
     have x0 := (blk_cell hK9 0).trans (show _ = some (Value.string ⟨#[]⟩) from rfl)
     have x1 := (blk_cell hK9 1).trans (show _ = some (Value.int .i64 0) from rfl)
     have x2 := (blk_cell hK9 2).trans (show _ = some (Value.int .i64 0) from rfl)
     have x3 := (blk_cell hK9 3).trans (show _ = some (Value.string ⟨#[]⟩) from rfl)
     have x4 := (blk_cell hK9 4).trans (show _ = some (Value.string ⟨#[]⟩) from rfl)
     have x5 := (blk_cell hK9 5).trans (show _ = some (Value.int .i64 0) from rfl)
     have x6 := (blk_cell hK9 6).trans (show _ = some (Value.int .i64 0) from rfl)
     have x7 := (blk_cell hK9 7).trans (show _ = some (Value.slice none 0 0) from rfl)
     clear hX9 hK9 hC9
     refine bodyPost_ret (v := .tuple #[infoV noFS (.slice none 0 0), .int .i64 E]) (by unfold infoV; simp [noFS, results, Tryz.f39, go_sem, x0, x1, x2, x3, x4, x5, x6, x7]) rfl ?_
     exact RInfoOut.stay (below_fill HB2.out HC9.out) HM.out
   | ok p =>
     obtain ⟨k, f, a⟩ := p
     rw [hB] at CB
     obtain ⟨hk, hnm⟩ := mBegin_at hB
     have HMO := Aside0.mk (mOpened_ok hbad hB 32)
     have R0 := Aside0.mk h
     have HKK := Aside0.mk hk
     have HG := Aside0.mk (show 0 ≤ gr ∧ gr ≤ 2 by omega)
     have HRL := Aside0.mk (hI.rules f (List.mem_of_getElem? hk))
     clear h hbad hB hk hnm hr hr2
     rcases denied_cases a 32 with hd0 | hd12
     · have gW : decide (bits .and .i64 32 a = 32) = true := by rw [within_den a 32 5 (by decide) rfl, hd0]; rfl
       have HM0 := Aside0.mk (show mInfo st u n gr = (infoOf f gr, 0) by rw [HMI.out, HMO.out]; simp only [hd0, if_pos])
       clear hd0
       by_cases h0 : gr = 0
       · subst h0
         have HM := Aside0.mk (show mInfo st u n 0 = ((⟨f.F.name, f.F.kind, f.F.perm, ⟨#[]⟩, ⟨#[]⟩, 0, 0⟩, []), 0) by rw [HM0.out]; rfl)
         go_enter Tryz.func39, Tryz.ntmps39
         go_wp2_with first | (go_at_call 56; refine C56.out.mono ?_; rintro e w' ⟨rfl, rfl⟩)
         refine CB.out.mono ?_
         rintro e w2 ⟨hb2, rfl⟩
         have HB2 := Aside0.mk (HBX.out.trans (hb2.mono HBX.out.size))
         have HK2 := Aside0.mk ((hb2.block W.heap.size (by simp)).trans HKX.out)
         clear hb2
         have T2 := R0.out.row HKK.out
         obtain ⟨g, Ar, cr, Au, cu, Ao, co, T⟩ := (R0.out.below HB2.out).row HKK.out
         have hil : k < st.length := (List.getElem?_eq_some_iff.1 HKK.out).1
         have hlz : (k : Int) < (st.length : Int) := by omega
         have hk0 : decide ((k : Int) < 0) = false := decide_eq_false (by omega)
         have cc1 := (R0.out.below HB2.out).c1
         have hA := T.hA
         subst hA
         obtain ⟨n0, n1, n2, n3, n4, n5, n6, n7, _, _⟩ := T.x
         have HTR := Aside0.mk T.In.r
         have HRD := Aside0.mk (fun x (hb : Below w2.heap.size w2 x) => (show Kd.C k129 x Ar f.rules.length (f.rules.map toRu) by have h := (Kd.R_reads' (Kd.R_below HTR.out hb)).2.2; rwa [List.length_map] at h))
         have HX3 := Aside0.mk (show Below w2.heap.size w2 (w2.alloc (.cells #[.string f.F.name, .int .i64 f.F.kind, .int .i64 f.F.perm, .string f.F.owner, .string f.F.last, .int .i64 f.F.ch, .int .i64 f.F.rd, .slice Ar f.rules.length cr] 71)) from (Below.refl _ _).alloc (Nat.le_refl _) _)
         have HK3 := Aside0.mk ((HX3.out.block W.heap.size (blk_lt HK2.out)).trans HK2.out)
         have HI3 := Aside0.mk (heap_alloc_new w2 (.cells #[.string f.F.name, .int .i64 f.F.kind, .int .i64 f.F.perm, .string f.F.owner, .string f.F.last, .int .i64 f.F.ch, .int .i64 f.F.rd, .slice Ar f.rules.length cr] 71))
         have HB3 := Aside0.mk (HB2.out.trans (HX3.out.mono HB2.out.size))
         have hrl := HRL.out
         clear T T2
         have x0 := (blk_cell HK3.out 0).trans (show _ = some (Value.string ⟨#[]⟩) from rfl)
         have x1 := (blk_cell HK3.out 1).trans (show _ = some (Value.int .i64 0) from rfl)
         have x2 := (blk_cell HK3.out 2).trans (show _ = some (Value.int .i64 0) from rfl)
         have x3 := (blk_cell HK3.out 3).trans (show _ = some (Value.string ⟨#[]⟩) from rfl)
         have x4 := (blk_cell HK3.out 4).trans (show _ = some (Value.string ⟨#[]⟩) from rfl)
         have x5 := (blk_cell HK3.out 5).trans (show _ = some (Value.int .i64 0) from rfl)
         have x6 := (blk_cell HK3.out 6).trans (show _ = some (Value.int .i64 0) from rfl)
         have x7 := (blk_cell HK3.out 7).trans (show _ = some (Value.slice none 0 0) from rfl)
         have y0 := blk_frozen HK3.out 0
         have y1 := blk_frozen HK3.out 1
         have y2 := blk_frozen HK3.out 2
         have y3 := blk_frozen HK3.out 3
         have y4 := blk_frozen HK3.out 4
         have y5 := blk_frozen HK3.out 5
         have y6 := blk_frozen HK3.out 6
         have y7 := blk_frozen HK3.out 7
         go_wp2_with fail
         refine (rwithin_c 32 a _).mono ?_
         rintro e w' ⟨rfl, rfl⟩
         go_wp2
         obtain ⟨X9, hX9, hK9, hC9⟩ := fill8 HK3.out (.string f.F.name) (.int .i64 f.F.kind) (.int .i64 f.F.perm) (.string ⟨#[]⟩) (.string ⟨#[]⟩) (.int .i64 0) (.int .i64 0) (.slice none 0 0)
         rw [← hX9]
         have HC9 := Aside0.mk hC9
         clear x0 y0 x1 y1 x2 y2 x3 y3 x4 y4 x5 y5 x6 y6 x7 y7
         have x0 := (blk_cell hK9 0).trans (show _ = some (Value.string f.F.name) from rfl)
         have x1 := (blk_cell hK9 1).trans (show _ = some (Value.int .i64 f.F.kind) from rfl)
         have x2 := (blk_cell hK9 2).trans (show _ = some (Value.int .i64 f.F.perm) from rfl)
         have x3 := (blk_cell hK9 3).trans (show _ = some (Value.string ⟨#[]⟩) from rfl)
         have x4 := (blk_cell hK9 4).trans (show _ = some (Value.string ⟨#[]⟩) from rfl)
         have x5 := (blk_cell hK9 5).trans (show _ = some (Value.int .i64 0) from rfl)
         have x6 := (blk_cell hK9 6).trans (show _ = some (Value.int .i64 0) from rfl)
         have x7 := (blk_cell hK9 7).trans (show _ = some (Value.slice none 0 0) from rfl)
         clear hX9 hK9 hC9
         refine bodyPost_ret (v := .tuple #[infoV ⟨f.F.name, f.F.kind, f.F.perm, ⟨#[]⟩, ⟨#[]⟩, 0, 0⟩ (.slice none 0 0), .int .i64 0]) (by unfold infoV; simp [noFS, results, Tryz.f39, go_sem, x0, x1, x2, x3, x4, x5, x6, x7]) rfl ?_
         exact RInfoOut.stay (below_fill HB3.out HC9.out) HM.out
       have t0 : (gr == 0) = false := by simpa using h0
       by_cases h1 : gr = 1
       · subst h1
         have HM := Aside0.mk (show mInfo st u n 1 = ((⟨⟨#[]⟩, 0, 0, f.F.owner, f.F.last, f.F.ch, f.F.rd⟩, []), 0) by rw [HM0.out]; rfl)
         go_enter Tryz.func39, Tryz.ntmps39
         go_wp2_with first | (go_at_call 56; refine C56.out.mono ?_; rintro e w' ⟨rfl, rfl⟩)
         refine CB.out.mono ?_
         rintro e w2 ⟨hb2, rfl⟩
         have HB2 := Aside0.mk (HBX.out.trans (hb2.mono HBX.out.size))
         have HK2 := Aside0.mk ((hb2.block W.heap.size (by simp)).trans HKX.out)
         clear hb2
         have T2 := R0.out.row HKK.out
         obtain ⟨g, Ar, cr, Au, cu, Ao, co, T⟩ := (R0.out.below HB2.out).row HKK.out
         have hil : k < st.length := (List.getElem?_eq_some_iff.1 HKK.out).1
         have hlz : (k : Int) < (st.length : Int) := by omega
         have hk0 : decide ((k : Int) < 0) = false := decide_eq_false (by omega)
         have cc1 := (R0.out.below HB2.out).c1
         have hA := T.hA
         subst hA
         obtain ⟨n0, n1, n2, n3, n4, n5, n6, n7, _, _⟩ := T.x
         have HTR := Aside0.mk T.In.r
         have HRD := Aside0.mk (fun x (hb : Below w2.heap.size w2 x) => (show Kd.C k129 x Ar f.rules.length (f.rules.map toRu) by have h := (Kd.R_reads' (Kd.R_below HTR.out hb)).2.2; rwa [List.length_map] at h))
         have HX3 := Aside0.mk (show Below w2.heap.size w2 (w2.alloc (.cells #[.string f.F.name, .int .i64 f.F.kind, .int .i64 f.F.perm, .string f.F.owner, .string f.F.last, .int .i64 f.F.ch, .int .i64 f.F.rd, .slice Ar f.rules.length cr] 71)) from (Below.refl _ _).alloc (Nat.le_refl _) _)
         have HK3 := Aside0.mk ((HX3.out.block W.heap.size (blk_lt HK2.out)).trans HK2.out)
         have HI3 := Aside0.mk (heap_alloc_new w2 (.cells #[.string f.F.name, .int .i64 f.F.kind, .int .i64 f.F.perm, .string f.F.owner, .string f.F.last, .int .i64 f.F.ch, .int .i64 f.F.rd, .slice Ar f.rules.length cr] 71))
         have HB3 := Aside0.mk (HB2.out.trans (HX3.out.mono HB2.out.size))
         have hrl := HRL.out
         clear T T2
         have x0 := (blk_cell HK3.out 0).trans (show _ = some (Value.string ⟨#[]⟩) from rfl)
         have x1 := (blk_cell HK3.out 1).trans (show _ = some (Value.int .i64 0) from rfl)
         have x2 := (blk_cell HK3.out 2).trans (show _ = some (Value.int .i64 0) from rfl)
         have x3 := (blk_cell HK3.out 3).trans (show _ = some (Value.string ⟨#[]⟩) from rfl)
         have x4 := (blk_cell HK3.out 4).trans (show _ = some (Value.string ⟨#[]⟩) from rfl)
         have x5 := (blk_cell HK3.out 5).trans (show _ = some (Value.int .i64 0) from rfl)
         have x6 := (blk_cell HK3.out 6).trans (show _ = some (Value.int .i64 0) from rfl)
         have x7 := (blk_cell HK3.out 7).trans (show _ = some (Value.slice none 0 0) from rfl)
         have y0 := blk_frozen HK3.out 0
         have y1 := blk_frozen HK3.out 1
         have y2 := blk_frozen HK3.out 2
         have y3 := blk_frozen HK3.out 3
         have y4 := blk_frozen HK3.out 4
         have y5 := blk_frozen HK3.out 5
         have y6 := blk_frozen HK3.out 6
         have y7 := blk_frozen HK3.out 7
         go_wp2_with fail
         refine (rwithin_c 32 a _).mono ?_
         rintro e w' ⟨rfl, rfl⟩
         go_wp2
         obtain ⟨X9, hX9, hK9, hC9⟩ := fill8 HK3.out (.string ⟨#[]⟩) (.int .i64 0) (.int .i64 0) (.string f.F.owner) (.string f.F.last) (.int .i64 f.F.ch) (.int .i64 f.F.rd) (.slice none 0 0)
         rw [← hX9]
         have HC9 := Aside0.mk hC9
         clear x0 y0 x1 y1 x2 y2 x3 y3 x4 y4 x5 y5 x6 y6 x7 y7
         have x0 := (blk_cell hK9 0).trans (show _ = some (Value.string ⟨#[]⟩) from rfl)
         have x1 := (blk_cell hK9 1).trans (show _ = some (Value.int .i64 0) from rfl)
         have x2 := (blk_cell hK9 2).trans (show _ = some (Value.int .i64 0) from rfl)
         have x3 := (blk_cell hK9 3).trans (show _ = some (Value.string f.F.owner) from rfl)
         have x4 := (blk_cell hK9 4).trans (show _ = some (Value.string f.F.last) from rfl)
         have x5 := (blk_cell hK9 5).trans (show _ = some (Value.int .i64 f.F.ch) from rfl)
         have x6 := (blk_cell hK9 6).trans (show _ = some (Value.int .i64 f.F.rd) from rfl)
         have x7 := (blk_cell hK9 7).trans (show _ = some (Value.slice none 0 0) from rfl)
         clear hX9 hK9 hC9
         refine bodyPost_ret (v := .tuple #[infoV ⟨⟨#[]⟩, 0, 0, f.F.owner, f.F.last, f.F.ch, f.F.rd⟩ (.slice none 0 0), .int .i64 0]) (by unfold infoV; simp [noFS, results, Tryz.f39, go_sem, x0, x1, x2, x3, x4, x5, x6, x7]) rfl ?_
         exact RInfoOut.stay (below_fill HB3.out HC9.out) HM.out
       have t1 : (gr == 1) = false := by simpa using h1
       obtain rfl : gr = 2 := by have := HG.out; omega
       have HM := Aside0.mk (show mInfo st u n 2 = ((noFS, f.rules), 0) by rw [HM0.out]; rfl)
       go_enter Tryz.func39, Tryz.ntmps39
       go_wp2_with first | (go_at_call 56; refine C56.out.mono ?_; rintro e w' ⟨rfl, rfl⟩)
       refine CB.out.mono ?_
       rintro e w2 ⟨hb2, rfl⟩
       have HB2 := Aside0.mk (HBX.out.trans (hb2.mono HBX.out.size))
       have HK2 := Aside0.mk ((hb2.block W.heap.size (by simp)).trans HKX.out)
       clear hb2
       have T2 := R0.out.row HKK.out
       obtain ⟨g, Ar, cr, Au, cu, Ao, co, T⟩ := (R0.out.below HB2.out).row HKK.out
       have hil : k < st.length := (List.getElem?_eq_some_iff.1 HKK.out).1
       have hlz : (k : Int) < (st.length : Int) := by omega
       have hk0 : decide ((k : Int) < 0) = false := decide_eq_false (by omega)
       have cc1 := (R0.out.below HB2.out).c1
       have hA := T.hA
       subst hA
       obtain ⟨n0, n1, n2, n3, n4, n5, n6, n7, _, _⟩ := T.x
       have HTR := Aside0.mk T.In.r
       have HRD := Aside0.mk (fun x (hb : Below w2.heap.size w2 x) => (show Kd.C k129 x Ar f.rules.length (f.rules.map toRu) by have h := (Kd.R_reads' (Kd.R_below HTR.out hb)).2.2; rwa [List.length_map] at h))
       have HX3 := Aside0.mk (show Below w2.heap.size w2 (w2.alloc (.cells #[.string f.F.name, .int .i64 f.F.kind, .int .i64 f.F.perm, .string f.F.owner, .string f.F.last, .int .i64 f.F.ch, .int .i64 f.F.rd, .slice Ar f.rules.length cr] 71)) from (Below.refl _ _).alloc (Nat.le_refl _) _)
       have HK3 := Aside0.mk ((HX3.out.block W.heap.size (blk_lt HK2.out)).trans HK2.out)
       have HI3 := Aside0.mk (heap_alloc_new w2 (.cells #[.string f.F.name, .int .i64 f.F.kind, .int .i64 f.F.perm, .string f.F.owner, .string f.F.last, .int .i64 f.F.ch, .int .i64 f.F.rd, .slice Ar f.rules.length cr] 71))
       have HB3 := Aside0.mk (HB2.out.trans (HX3.out.mono HB2.out.size))
       have hrl := HRL.out
       clear T T2
       go_wp2_with fail
       refine (rwithin_c 32 a _).mono ?_
       rintro e w' ⟨rfl, rfl⟩
       go_wp2_with (first
         | ((with_reducible refine gate_dst (N := 72) rfl ?_); refine Kd.R_lit k129 (w0 := W) W.heap.size 129 ?hg (N := 72) ?hd (xs := ([] : List S129)) (inner := []) (ok := (fun q => W.heap.size < q)) (okp := (fun q => W.heap.size < q)) ?hr ?hp (fun _ hk => hk) ?hfr_ HB3.out HB3.out.size (by simp) ?_; (case hd => rfl); (case hg => rfl); (case hr => first | (go_simp; done) | (go_simp; rfl)); (case hp => exact (Reps.none _ _)); (case hfr_ => exact blk_lt HK3.out); intro v4 x4 ho hb hgr hfr; have HB4 := Aside0.mk hb; have HK4 := Aside0.mk ((hgr.block W.heap.size (blk_lt HK3.out) (by simp)).trans HK3.out); have HX4 := Aside0.mk (HX3.out.trans (((Chg.of_grown hgr (S := fun _ => False) (fun _ e => by cases e)).below0 (fun _ h => h)).mono HX3.out.size)); have i7 := (blk_cell ((hgr.block w2.heap.size (by simp) (by simp)).trans HI3.out) 7).trans (show _ = some (Value.slice Ar f.rules.length cr) from rfl); have HO4 := Aside0.mk ho; have HN4 := Aside0.mk (fun q (h : v4.ownBlock = some q) (e : q = W.heap.size) => (show False by obtain ⟨b_, h1, h2⟩ := hfr; rw [h1] at h; injection h with h; have := blk_lt HK3.out; omega)); clear ho hb hgr hfr)
         | ((with_reducible refine gate_builtin (b := .append) (xs := #[.tmp 72, .tmp 74]) rfl ?_); at_builtin; refine Kd.R_append_rows k129 (Rr := k129.K x4) (w0 := W) W.heap.size rfl (.tmp 72) (.tmp 74) 69 129 (.agg #[.string ⟨#[]⟩, .int .i64 0]) 24 rfl Tryz.underlying69 (by kernel_rfl) rfl (by decide) (by omega) v4 [] (f.rules.map toRu) Ar f.rules.length cr (fun q => W.heap.size < q) (fun _ => False) rfl rfl HO4.out (HRD.out _ HX4.out) (fun x cs h => by rw [k129_open h]; exact k129_mkM _ _ _ _) (fun _ h => h.elim) (fun q hq => Nat.lt_of_lt_of_le (blk_lt HK4.out) hq) HB4.out HB4.out.size (by first | omega | (simp only [List.length_nil]; omega)) ?_; intro v5 x5 ho hb hgr hfr; rw [List.nil_append] at ho; obtain ⟨A5, c5, hv5⟩ := Kd.R_slice ho; rw [List.length_map] at hv5; subst hv5; have HB5 := Aside0.mk hb; have HK5 := Aside0.mk ((hgr.block W.heap.size (blk_lt HK4.out) (fun e => HN4.out _ e.symm rfl)).trans HK4.out); have HO5 := Aside0.mk ho; have x0 := (blk_cell HK5.out 0).trans (show _ = some (Value.string ⟨#[]⟩) from rfl); have x1 := (blk_cell HK5.out 1).trans (show _ = some (Value.int .i64 0) from rfl); have x2 := (blk_cell HK5.out 2).trans (show _ = some (Value.int .i64 0) from rfl); have x3 := (blk_cell HK5.out 3).trans (show _ = some (Value.string ⟨#[]⟩) from rfl); have x4 := (blk_cell HK5.out 4).trans (show _ = some (Value.string ⟨#[]⟩) from rfl); have x5 := (blk_cell HK5.out 5).trans (show _ = some (Value.int .i64 0) from rfl); have x6 := (blk_cell HK5.out 6).trans (show _ = some (Value.int .i64 0) from rfl); have x7 := (blk_cell HK5.out 7).trans (show _ = some (Value.slice none 0 0) from rfl); have y0 := blk_frozen HK5.out 0; have y1 := blk_frozen HK5.out 1; have y2 := blk_frozen HK5.out 2; have y3 := blk_frozen HK5.out 3; have y4 := blk_frozen HK5.out 4; have y5 := blk_frozen HK5.out 5; have y6 := blk_frozen HK5.out 6; have y7 := blk_frozen HK5.out 7; clear ho hb hgr hfr))
       obtain ⟨X9, hX9, hK9, hC9⟩ := fill8 HK5.out (.string ⟨#[]⟩) (.int .i64 0) (.int .i64 0) (.string ⟨#[]⟩) (.string ⟨#[]⟩) (.int .i64 0) (.int .i64 0) (.slice A5 f.rules.length c5)
       rw [← hX9]
       have HC9 := Aside0.mk hC9
       clear x0 y0 x1 y1 x2 y2 x3 y3 x4 y4 x5 y5 x6 y6 x7 y7
       have x0 := (blk_cell hK9 0).trans (show _ = some (Value.string ⟨#[]⟩) from rfl)
       have x1 := (blk_cell hK9 1).trans (show _ = some (Value.int .i64 0) from rfl)
       have x2 := (blk_cell hK9 2).trans (show _ = some (Value.int .i64 0) from rfl)
       have x3 := (blk_cell hK9 3).trans (show _ = some (Value.string ⟨#[]⟩) from rfl)
       have x4 := (blk_cell hK9 4).trans (show _ = some (Value.string ⟨#[]⟩) from rfl)
       have x5 := (blk_cell hK9 5).trans (show _ = some (Value.int .i64 0) from rfl)
       have x6 := (blk_cell hK9 6).trans (show _ = some (Value.int .i64 0) from rfl)
       have x7 := (blk_cell hK9 7).trans (show _ = some (Value.slice A5 f.rules.length c5) from rfl)
       clear hX9 hK9 hC9
       refine bodyPost_ret (v := .tuple #[infoV noFS (.slice A5 f.rules.length c5), .int .i64 0]) (by unfold infoV; simp [noFS, results, Tryz.f39, go_sem, x0, x1, x2, x3, x4, x5, x6, x7]) rfl ?_
       exact ⟨_, by rw [HM.out], below_fill HB5.out HC9.out, by rw [HM.out]; exact Kd.R_mono (HC9.out.row HO5.out (fun q hq e => by omega)) (fun _ _ => trivial)⟩
     · have gW : decide (bits .and .i64 32 a = 32) = false := by rw [within_den a 32 5 (by decide) rfl, hd12]; rfl
       have HM := Aside0.mk (show mInfo st u n gr = ((noFS, []), 12) by rw [HMI.out, HMO.out]; simp only [hd12]; rfl)
       clear hd12
       go_enter Tryz.func39, Tryz.ntmps39
       go_wp2_with first | (go_at_call 56; refine C56.out.mono ?_; rintro e w' ⟨rfl, rfl⟩)
       refine CB.out.mono ?_
       rintro e w2 ⟨hb2, rfl⟩
       have HB2 := Aside0.mk (HBX.out.trans (hb2.mono HBX.out.size))
       have HK2 := Aside0.mk ((hb2.block W.heap.size (by simp)).trans HKX.out)
       clear hb2
       have x0 := (blk_cell HK2.out 0).trans (show _ = some (Value.string ⟨#[]⟩) from rfl)
       have x1 := (blk_cell HK2.out 1).trans (show _ = some (Value.int .i64 0) from rfl)
       have x2 := (blk_cell HK2.out 2).trans (show _ = some (Value.int .i64 0) from rfl)
       have x3 := (blk_cell HK2.out 3).trans (show _ = some (Value.string ⟨#[]⟩) from rfl)
       have x4 := (blk_cell HK2.out 4).trans (show _ = some (Value.string ⟨#[]⟩) from rfl)
       have x5 := (blk_cell HK2.out 5).trans (show _ = some (Value.int .i64 0) from rfl)
       have x6 := (blk_cell HK2.out 6).trans (show _ = some (Value.int .i64 0) from rfl)
       have x7 := (blk_cell HK2.out 7).trans (show _ = some (Value.slice none 0 0) from rfl)
       have y0 := blk_frozen HK2.out 0
       have y1 := blk_frozen HK2.out 1
       have y2 := blk_frozen HK2.out 2
       have y3 := blk_frozen HK2.out 3
       have y4 := blk_frozen HK2.out 4
       have y5 := blk_frozen HK2.out 5
       have y6 := blk_frozen HK2.out 6
       have y7 := blk_frozen HK2.out 7
       go_wp2_with fail
       refine (rwithin_c 32 a _).mono ?_
       rintro e w' ⟨rfl, rfl⟩
       go_wp2
       obtain ⟨X9, hX9, hK9, hC9⟩ := fill8 HK2.out (.string ⟨#[]⟩) (.int .i64 0) (.int .i64 0) (.string ⟨#[]⟩) (.string ⟨#[]⟩) (.int .i64 0) (.int .i64 0) (.slice none 0 0)
       rw [← hX9]
       have HC9 := Aside0.mk hC9
       clear x0 y0 x1 y1 x2 y2 x3 y3 x4 y4 x5 y5 x6 y6 x7 y7
       have x0 := (blk_cell hK9 0).trans (show _ = some (Value.string ⟨#[]⟩) from rfl)
       have x1 := (blk_cell hK9 1).trans (show _ = some (Value.int .i64 0) from rfl)
       have x2 := (blk_cell hK9 2).trans (show _ = some (Value.int .i64 0) from rfl)
       have x3 := (blk_cell hK9 3).trans (show _ = some (Value.string ⟨#[]⟩) from rfl)
       have x4 := (blk_cell hK9 4).trans (show _ = some (Value.string ⟨#[]⟩) from rfl)
       have x5 := (blk_cell hK9 5).trans (show _ = some (Value.int .i64 0) from rfl)
       have x6 := (blk_cell hK9 6).trans (show _ = some (Value.int .i64 0) from rfl)
       have x7 := (blk_cell hK9 7).trans (show _ = some (Value.slice none 0 0) from rfl)
       clear hX9 hK9 hC9
       refine bodyPost_ret (v := .tuple #[infoV noFS (.slice none 0 0), .int .i64 12]) (by unfold infoV; simp [noFS, results, Tryz.f39, go_sem, x0, x1, x2, x3, x4, x5, x6, x7]) rfl ?_
       exact RInfoOut.stay (below_fill HB2.out HC9.out) HM.out
end Go.Proofs.YtehlmkgldcfciaaGreat.Files
/- The file store: Info. -/
set_option linter.unusedVariables false
set_option linter.unusedSimpArgs false
namespace Go.Proofs.YtehlmkgldcfciaaGreat.Files
open Go.Proofs.YtehlmkgldcfciaaGreat.Common Go.Maps Go.ChangeMaps Go.WideMaps Go.Proofs.YtehlmkgldcfciaaGreat.F
open Go.RowKit Go.Proofs.YtehlmkgldcfciaaGreatW.PrintWords Go.Proofs.YtehlmkgldcfciaaGreatW.PrintLast Go.Proofs.YtehlmkgldcfciaaGreatW.PrintMore
def Inf.T9 : Bool × List (List Nat × List Nat) := (true, [([], []), ([0], [0]), ([], []), ([2], [2]), ([], []), ([4], [4]), ([1, 3, 5], [1, 3, 5]), ([], []), ([7], [7]), ([], []), ([9], [9]), ([], []), ([11], [11]), ([], []), ([13], [13]), ([8, 10, 12, 14], [8, 10, 12, 14]), ([], []), ([16], [16]), ([17], [17]), ([18], [18]), ([6, 15, 19], [6, 15, 19]), ([], []), ([20, 21], [20, 21]), ([22], [22]), ([23, 18, 0, 1, 2, 3, 4, 5, 6, 7, 8, 9, 10, 11, 12, 13, 14, 15, 16, 17, 18, 19, 20, 21, 22, 23], [23]), ([24, 0, 1, 2, 3, 4, 5, 6, 7, 8, 9, 10, 11, 12, 13, 14, 15, 16, 17, 18, 19, 20, 21, 22, 23, 24], [])])
def Inf.B9 : List Nat := [0, 1, 0, 4, 0, 16, 63, 0, 128, 0, 512, 0, 2048, 0, 8192, 32640, 0, 65536, 196608, 458752, 1048575, 0, 4194303, 8388607, 16777215, 33554431]
theorem Inf.tab9 : rtab .any (opsOf Tryz.f38 9) = Inf.T9 := by kernel_rfl
theorem Inf.bits9 : waitsOk Inf.T9.2 Inf.B9 = true := by kernel_rfl
def PInfoOut (W : World) (r : (FS × List S100) × Int) (e : Ending) (w' : World) : Prop := ∃ v, e = .returned (.tuple #[infoV r.1.1 v, .int .i64 r.2]) ∧ Below W.heap.size W w' ∧ Kd.R k100 100 w' W.heap.size (fun _ => True) v r.1.2
theorem PInfoOut.stay {W w' : World} {E : Int} {F : FS} {r : (FS × List S100) × Int} (hb : Below W.heap.size W w') (hr : r = ((F, []), E)) : PInfoOut W r (.returned (.tuple #[infoV F (.slice none 0 0), .int .i64 E])) w' := by
  subst hr
  exact ⟨_, rfl, hb, Kd.R_nil _ _ _ _ _⟩
theorem clone_rules (A : Option Addr) (c : Nat) (rules : List S100) (W : World) (hr : Kd.C k100 W A rules.length rules) (hl : rules.length * 24 ≤ 140737488355328) :
    Calls Tryz.prog 52 #[.slice A rules.length c] W fun e w' => ∃ A5 c5, e = .returned (.slice A5 rules.length c5) ∧ Kd.R k100 100 w' W.heap.size (fun _ => True) (.slice A5 rules.length c5) rules ∧ Below W.heap.size W w' := by
  obtain ⟨css, hcl, hcr, hck⟩ := C_raw hr
  refine (files_Rule_52.raw A c rules.length css W hcr hl).mono ?_
  rintro e w4 ⟨v, rfl, hr4, hb4⟩
  have hr5 : Kd.R k100 100 w4 W.heap.size (fun _ => True) v rules := R_of_raw (d := k100) hr4 hcl (fun j x cs hj hcs => by
    obtain ⟨c0, h0, hK⟩ := hck j x hj
    rw [hcs] at h0
    injection h0 with h0
    rw [h0, k100_open hK]
    exact k100_mkM _ _ _ x)
  obtain ⟨A5, c5, hv5⟩ := Kd.R_slice hr5
  subst hv5
  exact ⟨A5, c5, rfl, hr5, hb4⟩
set_option maxRecDepth 100000 in
set_option maxHeartbeats 4000000 in
theorem Info_denied (sp : Value) (u n : ByteArray) (gr : Int) (fb : Nat) (W : World) (h0 : 0 ≤ gr) (h2 : gr ≤ 2) (HO : OpenedOk W sp u n 32 fb 12) :
    Calls Tryz.prog 38 #[sp, .string u, .string n, .int .i64 gr] W (fun e w' => e = .returned (.tuple #[infoV noFS (.slice none 0 0), .int .i64 12]) ∧ Below W.heap.size W w') := by
  have g1 : decide (gr < 0) = false := decide_eq_false (by omega)
  have g2 : decide (2 < gr) = false := decide_eq_false (by omega)
  have hb0 : Below W.heap.size W (W.alloc (.cells #[.string ByteArray.empty, .int .i64 0, .int .i64 0, .string ByteArray.empty, .string ByteArray.empty, .int .i64 0, .int .i64 0, .slice none 0 0] 66)) := (Below.refl _ _).alloc (Nat.le_refl _) _
  have HB0 := Aside0.mk hb0
  have HBX := Aside0.mk (heap_alloc_new W (.cells #[.string ByteArray.empty, .int .i64 0, .int .i64 0, .string ByteArray.empty, .string ByteArray.empty, .int .i64 0, .int .i64 0, .slice none 0 0] 66))
  have CO := Aside0.mk (HO _ hb0)
  clear HO h0 h2 hb0
  go_enter Tryz.func38, Tryz.ntmps38
  go_wp2_with fail
  refine CO.out.mono ?_
  rintro e w2 ⟨rfl, hb2⟩
  have HK2 := Aside0.mk ((hb2.block _ (by simp)).trans HBX.out)
  have HB2 := Aside0.mk (HB0.out.trans (hb2.mono HB0.out.size))
  clear hb2
  have x0 := (blk_cell HK2.out 0).trans (show _ = some (Value.string ByteArray.empty) from rfl)
  have x1 := (blk_cell HK2.out 1).trans (show _ = some (Value.int .i64 0) from rfl)
  have x2 := (blk_cell HK2.out 2).trans (show _ = some (Value.int .i64 0) from rfl)
  have x3 := (blk_cell HK2.out 3).trans (show _ = some (Value.string ByteArray.empty) from rfl)
  have x4 := (blk_cell HK2.out 4).trans (show _ = some (Value.string ByteArray.empty) from rfl)
  have x5 := (blk_cell HK2.out 5).trans (show _ = some (Value.int .i64 0) from rfl)
  have x6 := (blk_cell HK2.out 6).trans (show _ = some (Value.int .i64 0) from rfl)
  have x7 := (blk_cell HK2.out 7).trans (show _ = some (Value.slice none 0 0) from rfl)
  have y0 := blk_frozen HK2.out 0
  have y1 := blk_frozen HK2.out 1
  have y2 := blk_frozen HK2.out 2
  have y3 := blk_frozen HK2.out 3
  have y4 := blk_frozen HK2.out 4
  have y5 := blk_frozen HK2.out 5
  have y6 := blk_frozen HK2.out 6
  have y7 := blk_frozen HK2.out 7
  go_wp2
  obtain ⟨X9, hX9, hK9, hC9⟩ := fill8 HK2.out (.string ⟨#[]⟩) (.int .i64 0) (.int .i64 0) (.string ⟨#[]⟩) (.string ⟨#[]⟩) (.int .i64 0) (.int .i64 0) (.slice none 0 0)
  rw [← hX9]
  have HC9 := Aside0.mk hC9
  clear x0 y0 x1 y1 x2 y2 x3 y3 x4 y4 x5 y5 x6 y6 x7 y7
  have x0 := (blk_cell hK9 0).trans (show _ = some (Value.string ⟨#[]⟩) from rfl)
  have x1 := (blk_cell hK9 1).trans (show _ = some (Value.int .i64 0) from rfl)
  have x2 := (blk_cell hK9 2).trans (show _ = some (Value.int .i64 0) from rfl)
  have x3 := (blk_cell hK9 3).trans (show _ = some (Value.string ⟨#[]⟩) from rfl)
  have x4 := (blk_cell hK9 4).trans (show _ = some (Value.string ⟨#[]⟩) from rfl)
  have x5 := (blk_cell hK9 5).trans (show _ = some (Value.int .i64 0) from rfl)
  have x6 := (blk_cell hK9 6).trans (show _ = some (Value.int .i64 0) from rfl)
  have x7 := (blk_cell hK9 7).trans (show _ = some (Value.slice none 0 0) from rfl)
  clear hX9 hK9 hC9
  refine bodyPost_ret (v := .tuple #[infoV noFS (.slice none 0 0), .int .i64 12]) (by unfold infoV; simp [noFS, results, Tryz.f38, go_sem, x0, x1, x2, x3, x4, x5, x6, x7]; try rfl) rfl ?_
  exact ⟨rfl, below_fill HB2.out HC9.out⟩
theorem pick3 {i : Nat} {B : Nat} (f : AF) (A5 : Option Addr) (c5 : Nat) (w : World) (hi : i < 3) (hr : Kd.R k100 100 w B (fun _ => True) (.slice A5 f.rules.length c5) f.rules) : ∃ s0 s3 s4 n1 n2 n5 n6 Ag lg cg, (∀ j u, (#[.string s0, .int .i64 n1, .int .i64 n2, .string s3, .string s4, .int .i64 n5, .int .i64 n6, .slice Ag lg cg] : Array Value)[j]? = some u → (#[.string f.F.name, .int .i64 f.F.kind, .int .i64 f.F.perm, .string ⟨#[]⟩, .string ⟨#[]⟩, .int .i64 0, .int .i64 0, .slice none 0 0, .string ⟨#[]⟩, .int .i64 0, .int .i64 0, .string f.F.owner, .string f.F.last, .int .i64 f.F.ch, .int .i64 f.F.rd, .slice none 0 0, .string ⟨#[]⟩, .int .i64 0, .int .i64 0, .string ⟨#[]⟩, .string ⟨#[]⟩, .int .i64 0, .int .i64 0, .slice A5 f.rules.length c5] : Array Value)[i * 8 + j]? = some u) ∧ (⟨s0, n1, n2, s3, s4, n5, n6⟩ : FS) = (infoOf f (i : Int)).1 ∧ Kd.R k100 100 w B (fun _ => True) (.slice Ag lg cg) (infoOf f (i : Int)).2 := by
  obtain rfl | rfl | rfl : i = 0 ∨ i = 1 ∨ i = 2 := by omega
  · refine ⟨f.F.name, ⟨#[]⟩, ⟨#[]⟩, f.F.kind, f.F.perm, 0, 0, none, 0, 0, fun j u h => ?_, rfl, Kd.R_nil _ _ _ _ _⟩
    rcases j with _ | _ | _ | _ | _ | _ | _ | _ | j
    all_goals first | exact h | simp at h
  · refine ⟨⟨#[]⟩, f.F.owner, f.F.last, 0, 0, f.F.ch, f.F.rd, none, 0, 0, fun j u h => ?_, rfl, Kd.R_nil _ _ _ _ _⟩
    rcases j with _ | _ | _ | _ | _ | _ | _ | _ | j
    all_goals first | exact h | simp at h
  · refine ⟨⟨#[]⟩, ⟨#[]⟩, ⟨#[]⟩, 0, 0, 0, 0, A5, _, c5, fun j u h => ?_, rfl, hr⟩
    rcases j with _ | _ | _ | _ | _ | _ | _ | _ | j
    all_goals first | exact h | simp at h
set_option maxRecDepth 100000 in
set_option maxHeartbeats 4000000 in
theorem Info_ok (sp : Value) (u n : ByteArray) (i fb rc ub : Nat) (f : AF) (A : Option Addr) (uv : Value) (DU : DataW Unit) (ok : Nat → Prop) (W : World) (hi : i < 3) (HO : OpenedOk W sp u n 32 fb 0) (P : FileParts W ok fb f A rc uv ub DU) (hrl : f.rules.length * 24 ≤ 140737488355328) :
    Calls Tryz.prog 38 #[sp, .string u, .string n, .int .i64 (i : Int)] W (PInfoOut W (infoOf f (i : Int), 0)) := by
  have hiz : (i : Int) < 3 := by omega
  have hi2 : decide ((2 : Int) < (i : Int)) = false := decide_eq_false (by omega)
  have hi0 : decide ((i : Int) < 0) = false := decide_eq_false (by omega)
  have hb0 : Below W.heap.size W (W.alloc (.cells #[.string ByteArray.empty, .int .i64 0, .int .i64 0, .string ByteArray.empty, .string ByteArray.empty, .int .i64 0, .int .i64 0, .slice none 0 0] 66)) := (Below.refl _ _).alloc (Nat.le_refl _) _
  have HB0 := Aside0.mk hb0
  have HBX := Aside0.mk (heap_alloc_new W (.cells #[.string ByteArray.empty, .int .i64 0, .int .i64 0, .string ByteArray.empty, .string ByteArray.empty, .int .i64 0, .int .i64 0, .slice none 0 0] 66))
  have CO := Aside0.mk (HO _ hb0)
  have HP := Aside0.mk P
  have HRL := Aside0.mk hrl
  clear HO hb0 P hrl
  go_enter Tryz.func38, Tryz.ntmps38
  go_wp2_with fail
  refine CO.out.mono ?_
  rintro e w2 ⟨rfl, hb2⟩
  have HK2 := Aside0.mk ((hb2.block _ (by simp)).trans HBX.out)
  have HB2 := Aside0.mk (HB0.out.trans (hb2.mono HB0.out.size))
  clear hb2
  have P2 := HP.out.below HB2.out
  have n0 := (blk_cell P2.F 0).trans (show _ = some (Value.string f.F.name) from rfl)
  have n1 := (blk_cell P2.F 1).trans (show _ = some (Value.int .i64 f.F.kind) from rfl)
  have n2 := (blk_cell P2.F 2).trans (show _ = some (Value.int .i64 f.F.perm) from rfl)
  have n3 := (blk_cell P2.F 3).trans (show _ = some (Value.string f.F.owner) from rfl)
  have n4 := (blk_cell P2.F 4).trans (show _ = some (Value.string f.F.last) from rfl)
  have n5 := (blk_cell P2.F 5).trans (show _ = some (Value.int .i64 f.F.ch) from rfl)
  have n6 := (blk_cell P2.F 6).trans (show _ = some (Value.int .i64 f.F.rd) from rfl)
  have n7 := (blk_cell P2.F 7).trans (show _ = some (Value.slice A f.rules.length rc) from rfl)
  have HP2 := Aside0.mk P2
  clear P2
  have HX3 := Aside0.mk (show Below w2.heap.size w2 (w2.alloc (.cells #[.string f.F.name, .int .i64 f.F.kind, .int .i64 f.F.perm, .string f.F.owner, .string f.F.last, .int .i64 f.F.ch, .int .i64 f.F.rd, .slice A f.rules.length rc] 66)) from (Below.refl _ _).alloc (Nat.le_refl _) _)
  have HI3 := Aside0.mk (heap_alloc_new w2 (.cells #[.string f.F.name, .int .i64 f.F.kind, .int .i64 f.F.perm, .string f.F.owner, .string f.F.last, .int .i64 f.F.ch, .int .i64 f.F.rd, .slice A f.rules.length rc] 66))
  go_wp2_with fail
  generalize w2.alloc (.cells #[.string f.F.name, .int .i64 f.F.kind, .int .i64 f.F.perm, .string f.F.owner, .string f.F.last, .int .i64 f.F.ch, .int .i64 f.F.rd, .slice A f.rules.length rc] 66) = w3 at HX3 HI3 ⊢
  have HK3 := Aside0.mk ((HX3.out.block W.heap.size (blk_lt HK2.out)).trans HK2.out)
  have HB3 := Aside0.mk (HB2.out.trans (HX3.out.mono HB2.out.size))
  have hz0 := (blk_cell HI3.out 0).trans (show _ = some (Value.string f.F.name) from rfl)
  have hz1 := (blk_cell HI3.out 1).trans (show _ = some (Value.int .i64 f.F.kind) from rfl)
  have hz2 := (blk_cell HI3.out 2).trans (show _ = some (Value.int .i64 f.F.perm) from rfl)
  have hz3 := (blk_cell HI3.out 3).trans (show _ = some (Value.string f.F.owner) from rfl)
  have hz4 := (blk_cell HI3.out 4).trans (show _ = some (Value.string f.F.last) from rfl)
  have hz5 := (blk_cell HI3.out 5).trans (show _ = some (Value.int .i64 f.F.ch) from rfl)
  have hz6 := (blk_cell HI3.out 6).trans (show _ = some (Value.int .i64 f.F.rd) from rfl)
  have hz7 := (blk_cell HI3.out 7).trans (show _ = some (Value.slice A f.rules.length rc) from rfl)
  have CC := Aside0.mk (fun X (hb : Below w3.heap.size w3 X) => clone_rules A rc f.rules X (Kd.C_below (Kd.C_below (Kd.R_reads' HP2.out.rules).2.2 HX3.out) hb) HRL.out)
  clear n0 n1 n2 n3 n4 n5 n6 n7
  refine start_ (n := 26) (S := fun w' => w'.cell? ⟨w2.heap.size, 0, none⟩ = some (.string f.F.name) ∧ w'.cell? ⟨w2.heap.size, 1, none⟩ = some (.int .i64 f.F.kind) ∧ w'.cell? ⟨w2.heap.size, 2, none⟩ = some (.int .i64 f.F.perm) ∧ w'.cell? ⟨w2.heap.size, 3, none⟩ = some (.string f.F.owner) ∧ w'.cell? ⟨w2.heap.size, 4, none⟩ = some (.string f.F.last) ∧ w'.cell? ⟨w2.heap.size, 5, none⟩ = some (.int .i64 f.F.ch) ∧ w'.cell? ⟨w2.heap.size, 6, none⟩ = some (.int .i64 f.F.rd) ∧ w'.cell? ⟨w2.heap.size, 7, none⟩ = some (.slice A f.rules.length rc)) (ds := [20, 23, 24]) #[false, false, false, false, false, false, false, false, false, false, false, false, false, false, false, false, false, false, false, false, false, false, false, false, false, false] (by kernel_rfl) rfl rfl ⟨hz0, hz1, hz2, hz3, hz4, hz5, hz6, hz7⟩ (fun hHeld => ?_)
  refine with_tabW Inf.tab9 Inf.bits9 (fun HT_ HW_ => ?_)
  have HWD := Aside0.mk (show Below w3.heap.size w3 w3.drew from (Below.refl _ _).drew)
  generalize w3.drew = wd at HWD hHeld ⊢
  refine pure_ (i := 0) (N := some 41) (v := ?_) (a' := ?_) #[true, false, false, false, false, false, false, false, false, false, false, false, false, false, false, false, false, false, false, false, false, false, false, false, false, false] rfl rfl (any_of HT_.out (by kernel_rfl)) (fun _ _ _ h => h) (Or.inl ⟨by rfl, ?_⟩) ?_ ?_
  rotate_left
  · intro w'
    go_simp
    with_reducible rfl
  rotate_left
  · simp only [Act.put, List.setIfInBounds_toArray, List.set_cons_zero, List.set_cons_succ, i64_w, i32_w]
    rfl
  refine pure_ (i := 2) (N := some 43) (v := ?_) (a' := ?_) #[true, false, true, false, false, false, false, false, false, false, false, false, false, false, false, false, false, false, false, false, false, false, false, false, false, false] rfl rfl (any_of HT_.out (by kernel_rfl)) (fun _ _ _ h => h) (Or.inl ⟨by rfl, ?_⟩) ?_ ?_
  rotate_left
  · intro w'
    go_simp
    with_reducible rfl
  rotate_left
  · simp only [Act.put, List.setIfInBounds_toArray, List.set_cons_zero, List.set_cons_succ, i64_w, i32_w]
    rfl
  refine pure_ (i := 4) (N := some 45) (v := ?_) (a' := ?_) #[true, false, true, false, true, false, false, false, false, false, false, false, false, false, false, false, false, false, false, false, false, false, false, false, false, false] rfl rfl (any_of HT_.out (by kernel_rfl)) (fun _ _ _ h => h) (Or.inl ⟨by rfl, ?_⟩) ?_ ?_
  rotate_left
  · intro w'
    go_simp
    with_reducible rfl
  rotate_left
  · simp only [Act.put, List.setIfInBounds_toArray, List.set_cons_zero, List.set_cons_succ, i64_w, i32_w]
    rfl
  refine pure_ (i := 7) (N := some 48) (v := ?_) (a' := ?_) #[true, false, true, false, true, false, false, true, false, false, false, false, false, false, false, false, false, false, false, false, false, false, false, false, false, false] rfl rfl (any_of HT_.out (by kernel_rfl)) (fun _ _ _ h => h) (Or.inl ⟨by rfl, ?_⟩) ?_ ?_
  rotate_left
  · intro w'
    go_simp
    with_reducible rfl
  rotate_left
  · simp only [Act.put, List.setIfInBounds_toArray, List.set_cons_zero, List.set_cons_succ, i64_w, i32_w]
    rfl
  refine pure_ (i := 9) (N := some 50) (v := ?_) (a' := ?_) #[true, false, true, false, true, false, false, true, false, true, false, false, false, false, false, false, false, false, false, false, false, false, false, false, false, false] rfl rfl (any_of HT_.out (by kernel_rfl)) (fun _ _ _ h => h) (Or.inl ⟨by rfl, ?_⟩) ?_ ?_
  rotate_left
  · intro w'
    go_simp
    with_reducible rfl
  rotate_left
  · simp only [Act.put, List.setIfInBounds_toArray, List.set_cons_zero, List.set_cons_succ, i64_w, i32_w]
    rfl
  refine pure_ (i := 11) (N := some 52) (v := ?_) (a' := ?_) #[true, false, true, false, true, false, false, true, false, true, false, true, false, false, false, false, false, false, false, false, false, false, false, false, false, false] rfl rfl (any_of HT_.out (by kernel_rfl)) (fun _ _ _ h => h) (Or.inl ⟨by rfl, ?_⟩) ?_ ?_
  rotate_left
  · intro w'
    go_simp
    with_reducible rfl
  rotate_left
  · simp only [Act.put, List.setIfInBounds_toArray, List.set_cons_zero, List.set_cons_succ, i64_w, i32_w]
    rfl
  refine pure_ (i := 13) (N := some 54) (v := ?_) (a' := ?_) #[true, false, true, false, true, false, false, true, false, true, false, true, false, true, false, false, false, false, false, false, false, false, false, false, false, false] rfl rfl (any_of HT_.out (by kernel_rfl)) (fun _ _ _ h => h) (Or.inl ⟨by rfl, ?_⟩) ?_ ?_
  rotate_left
  · intro w'
    go_simp
    with_reducible rfl
  rotate_left
  · simp only [Act.put, List.setIfInBounds_toArray, List.set_cons_zero, List.set_cons_succ, i64_w, i32_w]
    rfl
  refine pure_ (i := 16) (N := some 57) (v := ?_) (a' := ?_) #[true, false, true, false, true, false, false, true, false, true, false, true, false, true, false, false, true, false, false, false, false, false, false, false, false, false] rfl rfl (any_of HT_.out (by kernel_rfl)) (fun _ _ _ h => h) (Or.inl ⟨by rfl, ?_⟩) ?_ ?_
  rotate_left
  · intro w'
    go_simp
    with_reducible rfl
  rotate_left
  · simp only [Act.put, List.setIfInBounds_toArray, List.set_cons_zero, List.set_cons_succ, i64_w, i32_w]
    rfl
  refine pure_ (i := 21) (N := some 62) (v := ?_) (a' := ?_) #[true, false, true, false, true, false, false, true, false, true, false, true, false, true, false, false, true, false, false, false, false, true, false, false, false, false] rfl rfl (any_of HT_.out (by kernel_rfl)) (fun _ _ _ h => h) (Or.inl ⟨by rfl, ?_⟩) ?_ ?_
  rotate_left
  · intro w'
    go_simp
    with_reducible rfl
  rotate_left
  · simp only [Act.put, List.setIfInBounds_toArray, List.set_cons_zero, List.set_cons_succ, i64_w, i32_w]
    rfl
  refine take_ (i := 1) (N := some 42) (v := ?_) (a' := ?_) #[true, true, true, false, true, false, false, true, false, true, false, true, false, true, false, false, true, false, false, false, false, true, false, false, false, false] rfl rfl (take_ofW HT_.out HW_.out (by kernel_rfl)) (fun _ _ _ h => h) (Or.inl ⟨by rfl, ?_⟩) hHeld ?_ ?_
  rotate_left
  · rintro w' ⟨s0, s1, s2, s3, s4, s5, s6, s7⟩
    go_simp
    with_reducible rfl
  rotate_left
  · simp only [Act.put, List.setIfInBounds_toArray, List.set_cons_zero, List.set_cons_succ, i64_w, i32_w]
    rfl
  refine take_ (i := 3) (N := some 44) (v := ?_) (a' := ?_) #[true, true, true, true, true, false, false, true, false, true, false, true, false, true, false, false, true, false, false, false, false, true, false, false, false, false] rfl rfl (take_ofW HT_.out HW_.out (by kernel_rfl)) (fun _ _ _ h => h) (Or.inl ⟨by rfl, ?_⟩) hHeld ?_ ?_
  rotate_left
  · rintro w' ⟨s0, s1, s2, s3, s4, s5, s6, s7⟩
    go_simp
    with_reducible rfl
  rotate_left
  · simp only [Act.put, List.setIfInBounds_toArray, List.set_cons_zero, List.set_cons_succ, i64_w, i32_w]
    rfl
  refine take_ (i := 5) (N := some 46) (v := ?_) (a' := ?_) #[true, true, true, true, true, true, false, true, false, true, false, true, false, true, false, false, true, false, false, false, false, true, false, false, false, false] rfl rfl (take_ofW HT_.out HW_.out (by kernel_rfl)) (fun _ _ _ h => h) (Or.inl ⟨by rfl, ?_⟩) hHeld ?_ ?_
  rotate_left
  · rintro w' ⟨s0, s1, s2, s3, s4, s5, s6, s7⟩
    go_simp
    with_reducible rfl
  rotate_left
  · simp only [Act.put, List.setIfInBounds_toArray, List.set_cons_zero, List.set_cons_succ, i64_w, i32_w]
    rfl
  refine pure_ (i := 6) (N := some 47) (v := ?_) (a' := ?_) #[true, true, true, true, true, true, true, true, false, true, false, true, false, true, false, false, true, false, false, false, false, true, false, false, false, false] rfl rfl (any_of HT_.out (by kernel_rfl)) (fun _ _ _ h => h) (Or.inl ⟨by rfl, ?_⟩) ?_ ?_
  rotate_left
  · intro w'
    go_simp
    with_reducible rfl
  rotate_left
  · simp only [Act.put, List.setIfInBounds_toArray, List.set_cons_zero, List.set_cons_succ, i64_w, i32_w]
    rfl
  refine take_ (i := 8) (N := some 49) (v := ?_) (a' := ?_) #[true, true, true, true, true, true, true, true, true, true, false, true, false, true, false, false, true, false, false, false, false, true, false, false, false, false] rfl rfl (take_ofW HT_.out HW_.out (by kernel_rfl)) (fun _ _ _ h => h) (Or.inl ⟨by rfl, ?_⟩) hHeld ?_ ?_
  rotate_left
  · rintro w' ⟨s0, s1, s2, s3, s4, s5, s6, s7⟩
    go_simp
    with_reducible rfl
  rotate_left
  · simp only [Act.put, List.setIfInBounds_toArray, List.set_cons_zero, List.set_cons_succ, i64_w, i32_w]
    rfl
  refine take_ (i := 10) (N := some 51) (v := ?_) (a' := ?_) #[true, true, true, true, true, true, true, true, true, true, true, true, false, true, false, false, true, false, false, false, false, true, false, false, false, false] rfl rfl (take_ofW HT_.out HW_.out (by kernel_rfl)) (fun _ _ _ h => h) (Or.inl ⟨by rfl, ?_⟩) hHeld ?_ ?_
  rotate_left
  · rintro w' ⟨s0, s1, s2, s3, s4, s5, s6, s7⟩
    go_simp
    with_reducible rfl
  rotate_left
  · simp only [Act.put, List.setIfInBounds_toArray, List.set_cons_zero, List.set_cons_succ, i64_w, i32_w]
    rfl
  refine take_ (i := 12) (N := some 53) (v := ?_) (a' := ?_) #[true, true, true, true, true, true, true, true, true, true, true, true, true, true, false, false, true, false, false, false, false, true, false, false, false, false] rfl rfl (take_ofW HT_.out HW_.out (by kernel_rfl)) (fun _ _ _ h => h) (Or.inl ⟨by rfl, ?_⟩) hHeld ?_ ?_
  rotate_left
  · rintro w' ⟨s0, s1, s2, s3, s4, s5, s6, s7⟩
    go_simp
    with_reducible rfl
  rotate_left
  · simp only [Act.put, List.setIfInBounds_toArray, List.set_cons_zero, List.set_cons_succ, i64_w, i32_w]
    rfl
  refine take_ (i := 14) (N := some 55) (v := ?_) (a' := ?_) #[true, true, true, true, true, true, true, true, true, true, true, true, true, true, true, false, true, false, false, false, false, true, false, false, false, false] rfl rfl (take_ofW HT_.out HW_.out (by kernel_rfl)) (fun _ _ _ h => h) (Or.inl ⟨by rfl, ?_⟩) hHeld ?_ ?_
  rotate_left
  · rintro w' ⟨s0, s1, s2, s3, s4, s5, s6, s7⟩
    go_simp
    with_reducible rfl
  rotate_left
  · simp only [Act.put, List.setIfInBounds_toArray, List.set_cons_zero, List.set_cons_succ, i64_w, i32_w]
    rfl
  refine pure_ (i := 15) (N := some 56) (v := ?_) (a' := ?_) #[true, true, true, true, true, true, true, true, true, true, true, true, true, true, true, true, true, false, false, false, false, true, false, false, false, false] rfl rfl (any_of HT_.out (by kernel_rfl)) (fun _ _ _ h => h) (Or.inl ⟨by rfl, ?_⟩) ?_ ?_
  rotate_left
  · intro w'
    go_simp
    with_reducible rfl
  rotate_left
  · simp only [Act.put, List.setIfInBounds_toArray, List.set_cons_zero, List.set_cons_succ, i64_w, i32_w]
    rfl
  refine take_ (i := 17) (N := some 58) (v := ?_) (a' := ?_) #[true, true, true, true, true, true, true, true, true, true, true, true, true, true, true, true, true, true, false, false, false, true, false, false, false, false] rfl rfl (take_ofW HT_.out HW_.out (by kernel_rfl)) (fun _ _ _ h => h) (Or.inl ⟨by rfl, ?_⟩) hHeld ?_ ?_
  rotate_left
  · rintro w' ⟨s0, s1, s2, s3, s4, s5, s6, s7⟩
    go_simp
    with_reducible rfl
  rotate_left
  · simp only [Act.put, List.setIfInBounds_toArray, List.set_cons_zero, List.set_cons_succ, i64_w, i32_w]
    rfl
  refine one_ (i := 18) (N := some 59) #[true, true, true, true, true, true, true, true, true, true, true, true, true, true, true, true, true, true, true, false, false, true, false, false, false, false] rfl rfl (one_of HT_.out (by kernel_rfl)) (by decide) (fun K hK => ?_)
  refine goes_ Tryz.func52 (by kernel_rfl) rfl #[.slice A f.rules.length rc] (by rfl) rfl rfl (by (try simp only [List.map_toArray, List.map_cons, List.map_nil]); first | done | rfl | (simp only []; rfl)) ?_
  with_reducible refine (CC.out _ HWD.out).mono ?_
  rintro e w5 ⟨A5, c5, rfl, hr5, hb5⟩
  have HB5 := Aside0.mk (show Below w3.heap.size w3 w5 from HWD.out.trans (hb5.mono HWD.out.size))
  have HBb5 := Aside0.mk hb5
  have HR5 := Aside0.mk hr5
  have HK5 := Aside0.mk ((HB5.out.block W.heap.size (blk_lt HK3.out)).trans HK3.out)
  clear hr5 hb5
  refine ⟨_, rfl, ?_⟩
  refine hK.out _ _ ⟨pw_cell_below HBb5.out hHeld.1, pw_cell_below HBb5.out hHeld.2.1, pw_cell_below HBb5.out hHeld.2.2.1, pw_cell_below HBb5.out hHeld.2.2.2.1, pw_cell_below HBb5.out hHeld.2.2.2.2.1, pw_cell_below HBb5.out hHeld.2.2.2.2.2.1, pw_cell_below HBb5.out hHeld.2.2.2.2.2.2.1, pw_cell_below HBb5.out hHeld.2.2.2.2.2.2.2⟩ (fun hHeld => ?_)
  clear hK K
  refine norm_ (a' := ?_) ?_ ?_
  rotate_left
  · show Act.put _ (some 59) _ = _
    simp only [Act.put, List.setIfInBounds_toArray, List.set_cons_zero, List.set_cons_succ, i64_w, i32_w]
    rfl
  refine pure_ (i := 19) (N := some 60) (v := ?_) (a' := ?_) #[true, true, true, true, true, true, true, true, true, true, true, true, true, true, true, true, true, true, true, true, false, true, false, false, false, false] rfl rfl (any_of HT_.out (by kernel_rfl)) (fun _ _ _ h => h) (Or.inl ⟨by rfl, ?_⟩) ?_ ?_
  rotate_left
  · intro w'
    go_simp
    with_reducible rfl
  rotate_left
  · simp only [Act.put, List.setIfInBounds_toArray, List.set_cons_zero, List.set_cons_succ, i64_w, i32_w]
    rfl
  refine last_ (i := 20) (N := some 61) #[true, true, true, true, true, true, true, true, true, true, true, true, true, true, true, true, true, true, true, true, true, true, false, false, false, false] rfl rfl (one_of HT_.out (by kernel_rfl)) (by decide) (fun K hK => ?_)
  refine value_ (w1 := ?_) (v := ?_) (by rfl) rfl ?_ ?_
  rotate_left 2
  · go_simp
    constructor
    · rfl
    · rfl
  have HK6 := Aside0.mk (heap_alloc_new w5 (.cells #[.string f.F.name, .int .i64 f.F.kind, .int .i64 f.F.perm, .string ⟨#[]⟩, .string ⟨#[]⟩, .int .i64 0, .int .i64 0, .slice none 0 0, .string ⟨#[]⟩, .int .i64 0, .int .i64 0, .string f.F.owner, .string f.F.last, .int .i64 f.F.ch, .int .i64 f.F.rd, .slice none 0 0, .string ⟨#[]⟩, .int .i64 0, .int .i64 0, .string ⟨#[]⟩, .string ⟨#[]⟩, .int .i64 0, .int .i64 0, .slice A5 f.rules.length c5] 66))
  have HX6 := Aside0.mk ((Below.refl w5.heap.size w5).alloc (Nat.le_refl _) (.cells #[.string f.F.name, .int .i64 f.F.kind, .int .i64 f.F.perm, .string ⟨#[]⟩, .string ⟨#[]⟩, .int .i64 0, .int .i64 0, .slice none 0 0, .string ⟨#[]⟩, .int .i64 0, .int .i64 0, .string f.F.owner, .string f.F.last, .int .i64 f.F.ch, .int .i64 f.F.rd, .slice none 0 0, .string ⟨#[]⟩, .int .i64 0, .int .i64 0, .string ⟨#[]⟩, .string ⟨#[]⟩, .int .i64 0, .int .i64 0, .slice A5 f.rules.length c5] 66))
  have HK7 := Aside0.mk ((HX6.out.block W.heap.size (blk_lt HK5.out)).trans HK5.out)
  obtain ⟨s0, s3, s4, n1, n2, n5, n6, Ag, lg, cg, hg, hfs, hrow⟩ := pick3 f A5 c5 w5 hi HR5.out
  have HFS := Aside0.mk hfs
  have HROW := Aside0.mk hrow
  have z0 := (blk_cell HK6.out (i * 8)).trans (hg 0 _ rfl)
  have z1 := (blk_cell HK6.out (i * 8 + 1)).trans (hg 1 _ rfl)
  have z2 := (blk_cell HK6.out (i * 8 + 2)).trans (hg 2 _ rfl)
  have z3 := (blk_cell HK6.out (i * 8 + 3)).trans (hg 3 _ rfl)
  have z4 := (blk_cell HK6.out (i * 8 + 4)).trans (hg 4 _ rfl)
  have z5 := (blk_cell HK6.out (i * 8 + 5)).trans (hg 5 _ rfl)
  have z6 := (blk_cell HK6.out (i * 8 + 6)).trans (hg 6 _ rfl)
  have z7 := (blk_cell HK6.out (i * 8 + 7)).trans (hg 7 _ rfl)
  clear hg hfs hrow
  have x0 := (blk_cell HK7.out 0).trans (show _ = some (Value.string ByteArray.empty) from rfl)
  have x1 := (blk_cell HK7.out 1).trans (show _ = some (Value.int .i64 0) from rfl)
  have x2 := (blk_cell HK7.out 2).trans (show _ = some (Value.int .i64 0) from rfl)
  have x3 := (blk_cell HK7.out 3).trans (show _ = some (Value.string ByteArray.empty) from rfl)
  have x4 := (blk_cell HK7.out 4).trans (show _ = some (Value.string ByteArray.empty) from rfl)
  have x5 := (blk_cell HK7.out 5).trans (show _ = some (Value.int .i64 0) from rfl)
  have x6 := (blk_cell HK7.out 6).trans (show _ = some (Value.int .i64 0) from rfl)
  have x7 := (blk_cell HK7.out 7).trans (show _ = some (Value.slice none 0 0) from rfl)
  have y0 := blk_frozen HK7.out 0
  have y1 := blk_frozen HK7.out 1
  have y2 := blk_frozen HK7.out 2
  have y3 := blk_frozen HK7.out 3
  have y4 := blk_frozen HK7.out 4
  have y5 := blk_frozen HK7.out 5
  have y6 := blk_frozen HK7.out 6
  have y7 := blk_frozen HK7.out 7
  refine hK.out _ _ ?_
  clear hK K
  refine norm_ (a' := ?_) ?_ ?_
  rotate_left
  · show Act.put _ (some 61) _ = _
    simp only [Act.put, List.setIfInBounds_toArray, List.set_cons_zero, List.set_cons_succ, i64_w, i32_w]
    rfl
  refine pure_ (i := 22) (N := some 63) (v := ?_) (a' := ?_) #[true, true, true, true, true, true, true, true, true, true, true, true, true, true, true, true, true, true, true, true, true, true, true, false, false, false] rfl rfl (any_of HT_.out (by kernel_rfl)) (fun _ _ _ h => h) (Or.inl ⟨by rfl, ?_⟩) ?_ ?_
  rotate_left
  · intro w'
    go_simp
    with_reducible rfl
  rotate_left
  · simp only [Act.put, List.setIfInBounds_toArray, List.set_cons_zero, List.set_cons_succ, i64_w, i32_w]
    rfl
  refine last_ (i := 23) (N := some 64) #[true, true, true, true, true, true, true, true, true, true, true, true, true, true, true, true, true, true, true, true, true, true, true, true, false, false] rfl rfl (one_of HT_.out (by kernel_rfl)) (by decide) (fun K hK => ?_)
  refine value_ (w1 := ?_) (v := ?_) (by rfl) rfl ?_ ?_
  rotate_left 2
  · go_simp
    constructor
    · rfl
    · rfl
  refine hK.out _ _ ?_
  clear hK K
  refine norm_ (a' := ?_) ?_ ?_
  rotate_left
  · show Act.put _ (some 64) _ = _
    simp only [Act.put, List.setIfInBounds_toArray, List.set_cons_zero, List.set_cons_succ, i64_w, i32_w]
    rfl
  refine last_ (i := 24) (N := none) #[true, true, true, true, true, true, true, true, true, true, true, true, true, true, true, true, true, true, true, true, true, true, true, true, true, false] rfl rfl (one_of HT_.out (by kernel_rfl)) (by decide) (fun K hK => ?_)
  refine skip_ (w1 := ?_) (by rfl) rfl ?_ ?_
  rotate_left
  · go_simp
    rfl
  refine hK.out _ _ ?_
  clear hK K
  refine pure_ (i := 25) (N := some 9) (v := ?_) (a' := ?_) #[true, true, true, true, true, true, true, true, true, true, true, true, true, true, true, true, true, true, true, true, true, true, true, true, true, true] rfl rfl (any_of HT_.out (by kernel_rfl)) (fun _ _ _ h => h) (Or.inl ⟨by rfl, ?_⟩) ?_ ?_
  rotate_left
  · intro w'
    go_simp
    with_reducible rfl
  rotate_left
  · simp only [Act.put, List.setIfInBounds_toArray, List.set_cons_zero, List.set_cons_succ, i64_w, i32_w]
    rfl
  refine done_ (done_of HT_.out (by kernel_rfl)) ?_
  go_wp2
  obtain ⟨X9, hX9, hK9, hC9⟩ := fill8 HK7.out (.string s0) (.int .i64 n1) (.int .i64 n2) (.string s3) (.string s4) (.int .i64 n5) (.int .i64 n6) (.slice Ag lg cg)
  rw [← hX9]
  have HC9 := Aside0.mk hC9
  clear x0 y0 x1 y1 x2 y2 x3 y3 x4 y4 x5 y5 x6 y6 x7 y7
  have x0 := (blk_cell hK9 0).trans (show _ = some (Value.string s0) from rfl)
  have x1 := (blk_cell hK9 1).trans (show _ = some (Value.int .i64 n1) from rfl)
  have x2 := (blk_cell hK9 2).trans (show _ = some (Value.int .i64 n2) from rfl)
  have x3 := (blk_cell hK9 3).trans (show _ = some (Value.string s3) from rfl)
  have x4 := (blk_cell hK9 4).trans (show _ = some (Value.string s4) from rfl)
  have x5 := (blk_cell hK9 5).trans (show _ = some (Value.int .i64 n5) from rfl)
  have x6 := (blk_cell hK9 6).trans (show _ = some (Value.int .i64 n6) from rfl)
  have x7 := (blk_cell hK9 7).trans (show _ = some (Value.slice Ag lg cg) from rfl)
  clear hX9 hK9 hC9
  refine bodyPost_ret (v := .tuple #[infoV ⟨s0, n1, n2, s3, s4, n5, n6⟩ (.slice Ag lg cg), .int .i64 0]) (by unfold infoV; simp [noFS, results, Tryz.f38, go_sem, x0, x1, x2, x3, x4, x5, x6, x7]; try rfl) rfl ?_
  have HB7 := Aside0.mk (HB3.out.trans ((HB5.out.trans (HX6.out.mono HB5.out.size)).mono HB3.out.size))
  exact ⟨_, by rw [HFS.out], below_fill HB7.out HC9.out, Kd.R_lower (Kd.R_mono (HC9.out.row (Kd.R_below (Kd.R_bound HROW.out) HX6.out) (fun q hq e => by have h1 := hq.2.1; have h2 := HWD.out.size; have h3 := blk_lt HK3.out; omega)) (fun _ _ => trivial)) (by have h2 := HWD.out.size; have h3 := blk_lt HK3.out; omega)⟩
theorem S_Info {W : World} {ok : Nat → Prop} {sb c : Nat} {L : List (Nat × AF)} {st : Fs} (hR : StoreRep W ok sb L) (hst : L.map (·.2) = st) (hI : TInv c st) (u n : ByteArray) (gr : Int) :
    Calls Tryz.prog 38 #[.pointer (some ⟨sb, 0, none⟩), .string u, .string n, .int .i64 gr] W (PInfoOut W (mInfo st u n gr)) := by
  by_cases hg : gr < 0 ∨ 2 < gr
  · refine (Info_arg _ u n gr W hg).mono ?_
    rintro e w' ⟨rfl, hb⟩
    exact PInfoOut.stay (F := noFS) hb (by unfold mInfo; rw [if_pos hg])
  · have h0 : 0 ≤ gr := by omega
    have h2 : gr ≤ 2 := by omega
    cases ho : mOpened st u n 32 with
    | error E =>
      refine (Info_err _ u n gr E W h0 h2 (opened_error hR hst ho)).mono ?_
      rintro e w' ⟨rfl, hb⟩
      exact PInfoOut.stay (F := noFS) hb (by unfold mInfo; rw [if_neg hg, ho])
    | ok p =>
      obtain ⟨k, f, dn⟩ := p
      obtain ⟨hdn, ac, ex, mb, fb, rc, ub, D, DU, own, A, uv, G, _, _, HO⟩ := opened_all hR hst ho
      have hF : GInv c f := hI.files f (by rw [← hst]; exact List.mem_map.2 ⟨(fb, f), List.mem_of_getElem? G.at_, rfl⟩)
      have hm : mInfo st u n gr = if dn = 0 then (infoOf f gr, 0) else ((noFS, []), dn) := by unfold mInfo; rw [if_neg hg, ho]
      rw [hm]
      rcases hdn with rfl | rfl
      · rw [if_pos rfl]
        have hrl : f.rules.length * 24 ≤ 140737488355328 := by have := hF.rules; omega
        obtain rfl | rfl | rfl : gr = 0 ∨ gr = 1 ∨ gr = 2 := by omega
        · exact Info_ok _ u n 0 fb rc ub f A uv DU _ W (by omega) HO G.P hrl
        · exact Info_ok _ u n 1 fb rc ub f A uv DU _ W (by omega) HO G.P hrl
        · exact Info_ok _ u n 2 fb rc ub f A uv DU _ W (by omega) HO G.P hrl
      · rw [if_neg (by decide)]
        refine (Info_denied _ u n gr fb W h0 h2 HO).mono ?_
        rintro e w' ⟨rfl, hb⟩
        exact PInfoOut.stay (F := noFS) hb rfl
end Go.Proofs.YtehlmkgldcfciaaGreat.Files
-- Written by this repo's wip/tools/myprint.py (the kit's print program, with contracts of our own beside). Lean checks it.
namespace Go.Proofs.YtehlmkgldcfciaaGreat.F
open Go.Proofs.YtehlmkgldcfciaaGreat.Common
open Go.RowKit Go.Proofs.YtehlmkgldcfciaaGreatW.PrintWords Go.Proofs.YtehlmkgldcfciaaGreatW.PrintLast Go.Proofs.YtehlmkgldcfciaaGreatW.PrintMore
set_option linter.unusedVariables false
set_option linter.unusedSimpArgs false
end Go.Proofs.YtehlmkgldcfciaaGreat.F
/- The reference's store: the sort of words. -/
set_option linter.unusedVariables false
set_option linter.unusedSimpArgs false
namespace Go.Proofs.YtehlmkgldcfciaaGreat.Files
open Go.Proofs.YtehlmkgldcfciaaGreat.Common Go.Maps Go.ChangeMaps Go.WideMaps Go.Proofs.YtehlmkgldcfciaaGreat.F
open Go.RowKit Go.Proofs.YtehlmkgldcfciaaGreatW.PrintWords Go.Proofs.YtehlmkgldcfciaaGreatW.PrintLast Go.Proofs.YtehlmkgldcfciaaGreatW.PrintMore
open Go.Sort Go.Shelf
def insW (x : ByteArray) : List ByteArray → List ByteArray
  | [] => [x]
  | y :: r => if Op.bytesLess y.toList x.toList = true then y :: insW x r else x :: y :: r
def sortL (l : List ByteArray) : List ByteArray := l.foldl (fun out x => insW x out) []
theorem insW_perm (x : ByteArray) : ∀ l, (insW x l).Perm (x :: l)
  | [] => .refl _
  | y :: r => by
    unfold insW
    split
    · exact ((insW_perm x r).cons y).trans (.swap x y r)
    · exact .refl _
theorem foldl_ins_perm : ∀ (l out : List ByteArray), (l.foldl (fun out x => insW x out) out).Perm (l ++ out)
  | [], out => .refl _
  | x :: l, out => by
    refine (foldl_ins_perm l _).trans ?_
    refine ((insW_perm x out).append_left l).trans ?_
    exact List.perm_middle
theorem sortL_perm (l : List ByteArray) : (sortL l).Perm l := by
  have := foldl_ins_perm l []
  rwa [List.append_nil] at this
def leW (a b : ByteArray) : Prop := a.data.toList ≤ b.data.toList
theorem less_W (a b : ByteArray) : Op.bytesLess a.toList b.toList = decide (a.data.toList < b.data.toList) := by rw [bytesLess_eq, Lib.toList_data, Lib.toList_data]
theorem leW_trans {a b c : ByteArray} (h1 : leW a b) (h2 : leW b c) : leW a c := List.le_trans h1 h2
theorem insW_sorted (x : ByteArray) : ∀ l, l.Pairwise leW → (insW x l).Pairwise leW
  | [], _ => List.pairwise_singleton _ _
  | y :: r, h => by
    have h1 := List.pairwise_cons.1 h
    unfold insW
    split
    · rename_i hl
      rw [less_W, decide_eq_true_eq] at hl
      refine List.pairwise_cons.2 ⟨fun z hz => ?_, insW_sorted x r h1.2⟩
      rcases List.mem_cons.1 ((insW_perm x r).mem_iff.1 hz) with rfl | hr
      · exact List.le_of_lt hl
      · exact h1.1 z hr
    · rename_i hl
      rw [less_W, decide_eq_true_eq] at hl
      have hxy : leW x y := List.not_lt.1 hl
      refine List.pairwise_cons.2 ⟨fun z hz => ?_, h⟩
      rcases List.mem_cons.1 hz with rfl | hr
      · exact hxy
      · exact leW_trans hxy (h1.1 z hr)
theorem foldl_ins_sorted : ∀ (l out : List ByteArray), out.Pairwise leW → (l.foldl (fun out x => insW x out) out).Pairwise leW
  | [], out, h => h
  | x :: l, out, h => foldl_ins_sorted l _ (insW_sorted x out h)
theorem sortL_sorted (l : List ByteArray) : (sortL l).Pairwise leW := foldl_ins_sorted l [] List.Pairwise.nil
theorem sortL_names (l : List ByteArray) : sortL l = (sortedNames l).map (fun s => (⟨s.toArray⟩ : ByteArray)) := by
  have hinj : ∀ s : List UInt8, (⟨s.toArray⟩ : ByteArray).data.toList = s := fun s => rfl
  have h1 : (sortedNames l).Perm (l.map (·.data.toList)) := List.mergeSort_perm _ _
  have h2 : (sortedNames l).Pairwise (fun x y => x ≤ y) := by
    have := List.pairwise_mergeSort (le := fun x y : List UInt8 => decide (x ≤ y)) (fun a b c h1 h2 => by
      rw [decide_eq_true_eq] at h1 h2 ⊢
      exact List.le_trans h1 h2) (fun a b => by
      rw [Bool.or_eq_true, decide_eq_true_eq, decide_eq_true_eq]
      exact List.le_total a b) (l.map (·.data.toList))
    exact this.imp (fun h => by simpa using h)
  have h3 : ((sortL l).map (·.data.toList)).Perm (sortedNames l) := ((sortL_perm l).map _).trans h1.symm
  have h4 : ((sortL l).map (·.data.toList)).Pairwise (fun x y => x ≤ y) := List.pairwise_map.2 (sortL_sorted l)
  have h5 : (sortL l).map (·.data.toList) = sortedNames l := h3.eq_of_pairwise (le := fun x y => x ≤ y) (fun a b _ _ h1 h2 => List.le_antisymm h1 h2) h4 h2
  rw [← h5, List.map_map]
  refine (List.map_congr_left fun x _ => ?_).trans (List.map_id _) |>.symm
  cases x; rfl
end Go.Proofs.YtehlmkgldcfciaaGreat.Files
-- Written by this repo's wip/tools/myprint.py (the kit's print program, with contracts of our own beside). Lean checks it.
namespace Go.Proofs.YtehlmkgldcfciaaGreat.F
open Go.Proofs.YtehlmkgldcfciaaGreat.Common
open Go.RowKit Go.Proofs.YtehlmkgldcfciaaGreatW.PrintWords Go.Proofs.YtehlmkgldcfciaaGreatW.PrintLast Go.Proofs.YtehlmkgldcfciaaGreatW.PrintMore
set_option linter.unusedVariables false
set_option linter.unusedSimpArgs false
theorem eqA129 (d : Nat) (w : World) (x0 y0 : ByteArray) (x1 y1 : Int) :
    (Op.equalIn (d + 2) 129 (.agg #[.string x0, .int .i64 x1]) (.agg #[.string y0, .int .i64 y1])).run Tryz.prog w = .ok (x0.toList == y0.toList && (x1 == y1)) w := by
  refine eqA_of Tryz.underlying129 (by kernel_rfl) ?_
  refine eqf_cons (by rfl) (by go_simp; rfl) (by go_simp; rfl) (by go_simp) ?_
  exact eqf_last (by rfl) (by go_simp; rfl) (by go_simp; rfl) (by go_simp)
end Go.Proofs.YtehlmkgldcfciaaGreat.F
/- The reference's SameInfo. -/
set_option linter.unusedVariables false
set_option linter.unusedSimpArgs false
namespace Go.Proofs.YtehlmkgldcfciaaGreat.Files
open Go.Proofs.YtehlmkgldcfciaaGreat.Common Go.Maps Go.ChangeMaps Go.WideMaps Go.Lib Go.Proofs.YtehlmkgldcfciaaGreat.F
open Go.RowKit Go.Proofs.YtehlmkgldcfciaaGreatW.PrintWords Go.Proofs.YtehlmkgldcfciaaGreatW.PrintLast Go.Proofs.YtehlmkgldcfciaaGreatW.PrintMore
attribute [local go_sem high] eqA129
noncomputable def sameInfoB (x y : FS) (a b : List S129) : Bool := @decide (x = y ∧ a = b) (Classical.propDecidable _)
theorem sameInfoB_no {x y : FS} {a b : List S129} (h : ¬ (x = y ∧ a = b)) : sameInfoB x y a b = false := by unfold sameInfoB; exact @decide_eq_false _ (Classical.propDecidable _) h
theorem sameInfoB_yes {x y : FS} {a b : List S129} (h : x = y ∧ a = b) : sameInfoB x y a b = true := by unfold sameInfoB; exact @decide_eq_true _ (Classical.propDecidable _) h
set_option maxRecDepth 100000 in
set_option maxHeartbeats 8000000 in
theorem SameInfo_c (x y : FS) (A0 A1 : Option Addr) (c0 c1 : Nat) (a b : List S129) (W : World) (h0 : Kd.C k129 W A0 a.length a) (hc0 : a.length ≤ c0) (h1 : Kd.C k129 W A1 b.length b) (hc1 : b.length ≤ c1) (hl : a.length ≤ 1000) :
    Calls Tryz.prog 40 #[infoV x (.slice A0 a.length c0), infoV y (.slice A1 b.length c1)] W fun e w' => e = .returned (.bool (sameInfoB x y a b)) ∧ Below W.heap.size W w' := by
  have hB2 : Below W.heap.size W ((W.alloc (.cells #[.string x.name, .int .i64 x.kind, .int .i64 x.perm, .string x.owner, .string x.last, .int .i64 x.ch, .int .i64 x.rd, .slice A0 a.length c0] 71)).alloc (.cells #[.string y.name, .int .i64 y.kind, .int .i64 y.perm, .string y.owner, .string y.last, .int .i64 y.ch, .int .i64 y.rd, .slice A1 b.length c1] 71)) := ((Below.refl _ W).alloc (Nat.le_refl _) _).alloc (by simp) _
  have HB2 := Aside0.mk hB2
  have HX := Aside0.mk ((((Below.refl _ _).alloc (Nat.le_refl _) _ : Below (W.alloc (.cells #[.string x.name, .int .i64 x.kind, .int .i64 x.perm, .string x.owner, .string x.last, .int .i64 x.ch, .int .i64 x.rd, .slice A0 a.length c0] 71)).heap.size (W.alloc (.cells #[.string x.name, .int .i64 x.kind, .int .i64 x.perm, .string x.owner, .string x.last, .int .i64 x.ch, .int .i64 x.rd, .slice A0 a.length c0] 71)) ((W.alloc (.cells #[.string x.name, .int .i64 x.kind, .int .i64 x.perm, .string x.owner, .string x.last, .int .i64 x.ch, .int .i64 x.rd, .slice A0 a.length c0] 71)).alloc (.cells #[.string y.name, .int .i64 y.kind, .int .i64 y.perm, .string y.owner, .string y.last, .int .i64 y.ch, .int .i64 y.rd, .slice A1 b.length c1] 71))).block W.heap.size (by simp)).trans (heap_alloc_new W (.cells #[.string x.name, .int .i64 x.kind, .int .i64 x.perm, .string x.owner, .string x.last, .int .i64 x.ch, .int .i64 x.rd, .slice A0 a.length c0] 71)))
  have HY := Aside0.mk (heap_alloc_new (W.alloc (.cells #[.string x.name, .int .i64 x.kind, .int .i64 x.perm, .string x.owner, .string x.last, .int .i64 x.ch, .int .i64 x.rd, .slice A0 a.length c0] 71)) (.cells #[.string y.name, .int .i64 y.kind, .int .i64 y.perm, .string y.owner, .string y.last, .int .i64 y.ch, .int .i64 y.rd, .slice A1 b.length c1] 71))
  have HC0 := Aside0.mk (Kd.C_below h0 hB2)
  have HC1 := Aside0.mk (Kd.C_below h1 hB2)
  simp only [World.size_alloc] at HY
  have HU0 := Aside0.mk h0.2.1
  have HU1 := Aside0.mk h1.2.1
  have HLL := Aside0.mk hl
  unfold infoV
  obtain ⟨x0, x1, x2, x3, x4, x5, x6⟩ := x
  obtain ⟨y0, y1, y2, y3, y4, y5, y6⟩ := y
  simp only at HB2 HX HY HC0 HC1 ⊢
  clear h0 h1 hB2
  by_cases h0 : x0 = y0
  rotate_left
  · have HN := Aside0.mk (sameInfoB_no (fun e => h0 (by injection e.1)) : sameInfoB ⟨x0, x1, x2, x3, x4, x5, x6⟩ ⟨y0, y1, y2, y3, y4, y5, y6⟩ a b = false)
    have g0 := beq_no h0
    go_enter Tryz.func40, Tryz.ntmps40
    go_wp2
    refine bodyPost_ret (v := .bool false) (by simp [results, Tryz.f40, go_sem]) rfl ?_
    exact ⟨by rw [HN.out], HB2.out⟩
  subst h0
  by_cases h1 : x1 = y1
  rotate_left
  · have HN := Aside0.mk (sameInfoB_no (fun e => h1 (by injection e.1)) : sameInfoB ⟨x0, x1, x2, x3, x4, x5, x6⟩ ⟨x0, y1, y2, y3, y4, y5, y6⟩ a b = false)
    have g1 : (x1 == y1) = false := by simpa using h1
    have g1' : (x1 != y1) = true := by simpa using h1
    go_enter Tryz.func40, Tryz.ntmps40
    go_wp2
    refine bodyPost_ret (v := .bool false) (by simp [results, Tryz.f40, go_sem]) rfl ?_
    exact ⟨by rw [HN.out], HB2.out⟩
  subst h1
  by_cases h2 : x2 = y2
  rotate_left
  · have HN := Aside0.mk (sameInfoB_no (fun e => h2 (by injection e.1)) : sameInfoB ⟨x0, x1, x2, x3, x4, x5, x6⟩ ⟨x0, x1, y2, y3, y4, y5, y6⟩ a b = false)
    have g2 : (x2 == y2) = false := by simpa using h2
    have g2' : (x2 != y2) = true := by simpa using h2
    go_enter Tryz.func40, Tryz.ntmps40
    go_wp2
    refine bodyPost_ret (v := .bool false) (by simp [results, Tryz.f40, go_sem]) rfl ?_
    exact ⟨by rw [HN.out], HB2.out⟩
  subst h2
  by_cases h3 : x3 = y3
  rotate_left
  · have HN := Aside0.mk (sameInfoB_no (fun e => h3 (by injection e.1)) : sameInfoB ⟨x0, x1, x2, x3, x4, x5, x6⟩ ⟨x0, x1, x2, y3, y4, y5, y6⟩ a b = false)
    have g3 := beq_no h3
    go_enter Tryz.func40, Tryz.ntmps40
    go_wp2
    refine bodyPost_ret (v := .bool false) (by simp [results, Tryz.f40, go_sem]) rfl ?_
    exact ⟨by rw [HN.out], HB2.out⟩
  subst h3
  by_cases h4 : x4 = y4
  rotate_left
  · have HN := Aside0.mk (sameInfoB_no (fun e => h4 (by injection e.1)) : sameInfoB ⟨x0, x1, x2, x3, x4, x5, x6⟩ ⟨x0, x1, x2, x3, y4, y5, y6⟩ a b = false)
    have g4 := beq_no h4
    go_enter Tryz.func40, Tryz.ntmps40
    go_wp2
    refine bodyPost_ret (v := .bool false) (by simp [results, Tryz.f40, go_sem]) rfl ?_
    exact ⟨by rw [HN.out], HB2.out⟩
  subst h4
  by_cases h5 : x5 = y5
  rotate_left
  · have HN := Aside0.mk (sameInfoB_no (fun e => h5 (by injection e.1)) : sameInfoB ⟨x0, x1, x2, x3, x4, x5, x6⟩ ⟨x0, x1, x2, x3, x4, y5, y6⟩ a b = false)
    have g5 : (x5 == y5) = false := by simpa using h5
    have g5' : (x5 != y5) = true := by simpa using h5
    go_enter Tryz.func40, Tryz.ntmps40
    go_wp2
    refine bodyPost_ret (v := .bool false) (by simp [results, Tryz.f40, go_sem]) rfl ?_
    exact ⟨by rw [HN.out], HB2.out⟩
  subst h5
  by_cases h6 : x6 = y6
  rotate_left
  · have HN := Aside0.mk (sameInfoB_no (fun e => h6 (by injection e.1)) : sameInfoB ⟨x0, x1, x2, x3, x4, x5, x6⟩ ⟨x0, x1, x2, x3, x4, x5, y6⟩ a b = false)
    have g6 : (x6 == y6) = false := by simpa using h6
    have g6' : (x6 != y6) = true := by simpa using h6
    go_enter Tryz.func40, Tryz.ntmps40
    go_wp2
    refine bodyPost_ret (v := .bool false) (by simp [results, Tryz.f40, go_sem]) rfl ?_
    exact ⟨by rw [HN.out], HB2.out⟩
  subst h6
  by_cases h7 : a.length = b.length
  rotate_left
  · have HN := Aside0.mk (sameInfoB_no (fun e => h7 (by rw [e.2])) : sameInfoB ⟨x0, x1, x2, x3, x4, x5, x6⟩ ⟨x0, x1, x2, x3, x4, x5, x6⟩ a b = false)
    have h7z : ¬ (a.length : Int) = (b.length : Int) := by omega
    have g7 : ((a.length : Int) == (b.length : Int)) = false := by simp; omega
    have g7' : ((a.length : Int) != (b.length : Int)) = true := by simp; omega
    go_enter Tryz.func40, Tryz.ntmps40
    go_wp2
    refine bodyPost_ret (v := .bool false) (by simp [results, Tryz.f40, go_sem]) rfl ?_
    exact ⟨by rw [HN.out], HB2.out⟩
  have g7 : ((a.length : Int) == (b.length : Int)) = true := by simp; omega
  have g7' : ((a.length : Int) != (b.length : Int)) = false := by simp; omega
  have HE := Aside0.mk h7
  clear h7
  go_enter Tryz.func40, Tryz.ntmps40
  go_wp2_with fail
  generalize (W.alloc (.cells #[.string x0, .int .i64 x1, .int .i64 x2, .string x3, .string x4, .int .i64 x5, .int .i64 x6, .slice A0 a.length c0] 71)).alloc (.cells #[.string x0, .int .i64 x1, .int .i64 x2, .string x3, .string x4, .int .i64 x5, .int .i64 x6, .slice A1 b.length c1] 71) = w2 at HB2 HX HY HC0 HC1 ⊢
  have p7 := (blk_cell HX.out 7).trans (show _ = some (Value.slice A0 a.length c0) from rfl)
  have q7 := (blk_cell HY.out 7).trans (show _ = some (Value.slice A1 b.length c1) from rfl)
  clear HX HY hc0 hc1
  go_loopw [5] (fun s wr => ∃ j : Nat, s = .int .i64 j ∧ j ≤ a.length ∧ Aside0 (Below w2.heap.size w2 wr) ∧ Aside0 (∀ i, i < j → a[i]? = b[i]?)) (fun s _ => a.length - (intOf s).toNat)
  case atStart => exact ⟨0, rfl, Nat.zero_le _, ⟨Below.refl _ _⟩, ⟨fun i h => by omega⟩⟩
  case round =>
    obtain ⟨j, rfl, hj, HBW, HF⟩ := hrel
    have r7 := pw_cell_below HBW.out p7
    have s7 := pw_cell_below HBW.out q7
    by_cases hlt : j < a.length
    · have hltz : (j : Int) < (a.length : Int) := by omega
      have hltb : (j : Int) < (b.length : Int) := by have := HE.out; omega
      have hlb : j < b.length := by have := HE.out; omega
      have hj0 : decide ((j : Int) < 0) = false := decide_eq_false (by omega)
      obtain ⟨ad, hA, z0, z1⟩ := at_T129 (Kd.C_below HC0.out HBW.out) (j : Int) (by omega) (by omega)
      obtain ⟨ad', hA', y0, y1⟩ := at_T129 (Kd.C_below HC1.out HBW.out) (j : Int) (by omega) (by omega)
      subst hA hA'
      rw [Int.toNat_natCast] at z0 z1 y0 y1
      have HGA := Aside0.mk (show a[j]? = some (rd_T129 a (j : Int)) by simp [rd_T129, List.getD_eq_getElem?_getD, List.getElem?_eq_getElem hlt])
      have HGB := Aside0.mk (show b[j]? = some (rd_T129 b (j : Int)) by simp [rd_T129, List.getD_eq_getElem?_getD, List.getElem?_eq_getElem hlb])
      generalize rd_T129 a (j : Int) = p at z0 z1 HGA
      generalize rd_T129 b (j : Int) = q at y0 y1 HGB
      obtain ⟨p0, p1⟩ := p
      obtain ⟨q0, q1⟩ := q
      simp only at z0 z1 y0 y1
      by_cases hp : p0 = q0
      · subst hp
        by_cases hq : p1 = q1
        · subst hq
          have HF2 := Aside0.mk (show ∀ i, i < j + 1 → a[i]? = b[i]? from fun i hi => by
            by_cases e : i = j
            · subst e; rw [HGA.out, HGB.out]
            · exact HF.out i (by omega))
          go_wp2_with fail
          go_quiet (fail)
          go_wp2_with fail
          go_roundw
          case rel => exact ⟨j + 1, by go_num, by omega, ⟨pw_below_drewN HBW.out _⟩, HF2⟩
          case measure => (simp [intOf]; omega)
        · have g1 : (p1 == q1) = false := by simpa using hq
          have HN := Aside0.mk (sameInfoB_no (fun e => hq (by have := HGA.out; rw [e.2, HGB.out] at this; injection this with this; injection this with _ h; exact h.symm)) : sameInfoB ⟨x0, x1, x2, x3, x4, x5, x6⟩ ⟨x0, x1, x2, x3, x4, x5, x6⟩ a b = false)
          go_wp2_with fail
          go_quiet (fail)
          go_wp2
          refine bodyPost_ret (v := .bool false) (by simp [results, Tryz.f40, go_sem]) rfl ?_
          exact ⟨by rw [HN.out], HB2.out.trans ((pw_below_drewN HBW.out _).mono HB2.out.size)⟩
      · have g0 := beq_no hp
        have HN := Aside0.mk (sameInfoB_no (fun e => hp (by have := HGA.out; rw [e.2, HGB.out] at this; injection this with this; injection this with h _; exact h.symm)) : sameInfoB ⟨x0, x1, x2, x3, x4, x5, x6⟩ ⟨x0, x1, x2, x3, x4, x5, x6⟩ a b = false)
        go_wp2_with fail
        go_quiet (fail)
        go_wp2
        refine bodyPost_ret (v := .bool false) (by simp [results, Tryz.f40, go_sem]) rfl ?_
        exact ⟨by rw [HN.out], HB2.out.trans ((pw_below_drewN HBW.out _).mono HB2.out.size)⟩
    · have hltz : ¬ (j : Int) < (a.length : Int) := by omega
      have HY := Aside0.mk (sameInfoB_yes ⟨rfl, List.ext_getElem? (fun i => by
        by_cases hi : i < j
        · exact HF.out i hi
        · rw [List.getElem?_eq_none (by omega), List.getElem?_eq_none (by have := HE.out; omega)])⟩ : sameInfoB ⟨x0, x1, x2, x3, x4, x5, x6⟩ ⟨x0, x1, x2, x3, x4, x5, x6⟩ a b = true)
      go_wp2
      refine bodyPost_ret (v := .bool true) (by simp [results, Tryz.f40, go_sem]) rfl ?_
      exact ⟨by rw [HY.out], HB2.out.trans (HBW.out.mono HB2.out.size)⟩
end Go.Proofs.YtehlmkgldcfciaaGreat.Files
-- Written by this repo's wip/tools/myprint.py (the kit's print program, with contracts of our own beside). Lean checks it.
namespace Go.Proofs.YtehlmkgldcfciaaGreat.F
open Go.Proofs.YtehlmkgldcfciaaGreat.Common
open Go.RowKit Go.Proofs.YtehlmkgldcfciaaGreatW.PrintWords Go.Proofs.YtehlmkgldcfciaaGreatW.PrintLast Go.Proofs.YtehlmkgldcfciaaGreatW.PrintMore
set_option linter.unusedVariables false
set_option linter.unusedSimpArgs false
theorem eqA62 (d : Nat) (w : World) (x0 y0 : ByteArray) (x1 y1 : ByteArray) (x2 y2 : Int) :
    (Op.equalIn (d + 2) 62 (.agg #[.string x0, .string x1, .int .i64 x2]) (.agg #[.string y0, .string y1, .int .i64 y2])).run Tryz.prog w = .ok (x0.toList == y0.toList && (x1.toList == y1.toList && (x2 == y2))) w := by
  refine eqA_of Tryz.underlying62 (by kernel_rfl) ?_
  refine eqf_cons (by rfl) (by go_simp; rfl) (by go_simp; rfl) (by go_simp) ?_
  refine eqf_cons (by rfl) (by go_simp; rfl) (by go_simp; rfl) (by go_simp) ?_
  exact eqf_last (by rfl) (by go_simp; rfl) (by go_simp; rfl) (by go_simp)
end Go.Proofs.YtehlmkgldcfciaaGreat.F
-- Written by this repo's wip/tools/myprint.py (the kit's print program, with contracts of our own beside). Lean checks it.
namespace Go.Proofs.YtehlmkgldcfciaaGreat.F
open Go.Proofs.YtehlmkgldcfciaaGreat.Common
open Go.RowKit Go.Proofs.YtehlmkgldcfciaaGreatW.PrintWords Go.Proofs.YtehlmkgldcfciaaGreatW.PrintLast Go.Proofs.YtehlmkgldcfciaaGreatW.PrintMore
set_option linter.unusedVariables false
set_option linter.unusedSimpArgs false
attribute [local go_sem high] eqA62
def heptadref28_Same.l0 : Nat → List (S62) → List (S62) → Int → Option (Bool)
 | 0, _, _, _ => none
 | k + 1, x0, x1, x5 => if x5 < (x0.length : Int) then (if 0 ≤ x5 then (if x5 < (x1.length : Int) then (if (!((((rd_T62 x0 x5).f0).toList) == (((rd_T62 x1 x5).f0).toList)) || (!((((rd_T62 x0 x5).f1).toList) == (((rd_T62 x1 x5).f1).toList)) || (!(((rd_T62 x0 x5).f2) == ((rd_T62 x1 x5).f2))))) = true then (some false) else (heptadref28_Same.l0 k x0 x1 (wrap64 (x5 + 1)))) else (none)) else (none)) else (some true)
def heptadref28_Same.f (k : Nat) (l0 : List (S62)) (l1 : List (S62)) : Option (Bool) := if (l0.length : Int) = (l1.length : Int) then (heptadref28_Same.l0 k l0 l1 0) else (some false)
set_option maxHeartbeats 8000000 in
set_option maxRecDepth 100000 in
theorem heptadref28_Same.calls (k : Nat) (A0 : Option Addr) (c0 : Nat) (l0 : List (S62)) (A1 : Option Addr) (c1 : Nat) (l1 : List (S62)) (r : Bool) (w : World) (hr0 : Kd.C k62 w A0 l0.length l0) (hc0 : l0.length ≤ c0) (hr1 : Kd.C k62 w A1 l1.length l1) (hc1 : l1.length ≤ c1) (h : heptadref28_Same.f k l0 l1 = some r) :
  Calls Tryz.prog 28 #[.slice A0 l0.length c0, .slice A1 l1.length c1] w fun e w' => e = .returned (.bool r) ∧ Drawn0 w w' := by
 have hu62 := Tryz.underlying62
 have HR0 := Aside0.mk hr0
 have HC0 := Aside0.mk hc0
 clear hr0 hc0
 have HR1 := Aside0.mk hr1
 have HC1 := Aside0.mk hc1
 clear hr1 hc1
 have H : (if (l0.length : Int) = (l1.length : Int) then (heptadref28_Same.l0 k l0 l1 0) else (some false)) = some r := h
 clear h
 by_cases c3 : (l0.length : Int) = (l1.length : Int)
 ·rw [if_pos c3] at H
  have c3b0 : ((l0.length : Int) == (l1.length : Int)) = true := beq_iff_eq.mpr c3
  have c3b1 : ((l0.length : Int) != (l1.length : Int)) = false := bne_eq_false_iff_eq.mpr c3
  have c3b2 : (l0.length == l1.length) = true := by first | simpa using c3 | (simp at c3 ⊢; omega)
  clear c3
  have H' := Aside0.mk H
  clear H
  go_enter Tryz.func28, Tryz.ntmps28
  go_wp2
  repeat (go_quiet (fail); try go_wp2)
  go_loopg [5] k (fun kq v5 w' => ∃ (x5_1 : Int), v5 = .int .i64 x5_1 ∧ Aside0 (heptadref28_Same.l0 kq l0 l1 x5_1 = some r) ∧ Aside0 (kq ≤ k) ∧ Drawn0 w w')
  case atStart => exact ⟨(0), (by first | rfl | (simp; done) | (simp [*]; done)), H', ⟨Nat.le_refl _⟩, by repeat (first | exact Drawn0.refl _ | apply Drawn0.step)⟩
  case round =>
   clear H'
   try clear c1
   try clear c2
   try clear p2
   try clear c3
   try clear c3b0
   try clear c3b1
   try clear c3b2
   obtain ⟨x5_1, rfl, HA, HK1, ⟨m1, rfl⟩⟩ := hrel
   cases gk with
   | zero => exact absurd HA.out (by simp [heptadref28_Same.l0])
   | succ k1 =>
    have H := HA.out
    clear HA
    simp only [heptadref28_Same.l0] at H
    by_cases c4 : x5_1 < (l0.length : Int)
    ·rw [if_pos c4] at H
     have c4b0 : decide (x5_1 < (l0.length : Int)) = true := decide_eq_true c4
     clear c4
     by_cases c5 : 0 ≤ x5_1
     ·rw [if_pos c5] at H
      have c5b0 : decide (0 ≤ x5_1) = true := decide_eq_true c5
      clear c5
      by_cases c6 : x5_1 < (l1.length : Int)
      ·rw [if_pos c6] at H
       have c6b0 : decide (x5_1 < (l1.length : Int)) = true := decide_eq_true c6
       clear c6
       by_cases c7 : (!((((rd_T62 l0 x5_1).f0).toList) == (((rd_T62 l1 x5_1).f0).toList)) || (!((((rd_T62 l0 x5_1).f1).toList) == (((rd_T62 l1 x5_1).f1).toList)) || (!(((rd_T62 l0 x5_1).f2) == ((rd_T62 l1 x5_1).f2))))) = true
       ·rw [if_pos c7] at H
        have c7b0 : (!((((rd_T62 l0 x5_1).f0).toList) == (((rd_T62 l1 x5_1).f0).toList)) || (!((((rd_T62 l0 x5_1).f1).toList) == (((rd_T62 l1 x5_1).f1).toList)) || (!(((rd_T62 l0 x5_1).f2) == ((rd_T62 l1 x5_1).f2))))) = true := c7
        clear c7
        obtain rfl := Option.some.inj H
        have p128 : 0 ≤ (x5_1 : Int) := of_decide_eq_true (by first | (with_reducible assumption) | assumption)
        have q128 : x5_1 < (l0.length : Int) := of_decide_eq_true (by first | (with_reducible assumption) | assumption)
        obtain ⟨ad128, e128, hx128_0, hx128_1, hx128_2⟩ := at_T62 HR0.out x5_1 p128 q128
        cases e128
        replace p128 := eq_true p128
        replace q128 := eq_true q128
        have p129 : 0 ≤ (x5_1 : Int) := of_decide_eq_true (by first | (with_reducible assumption) | assumption)
        have q129 : x5_1 < (l1.length : Int) := of_decide_eq_true (by first | (with_reducible assumption) | assumption)
        obtain ⟨ad129, e129, hx129_0, hx129_1, hx129_2⟩ := at_T62 HR1.out x5_1 p129 q129
        cases e129
        replace p129 := eq_true p129
        replace q129 := eq_true q129
        go_wp2
        repeat (go_quiet (fail); try go_wp2)
        go_ret
        exact ⟨by first | rfl | (simp; done) | (simp [*]; done), by repeat (first | exact Drawn0.refl _ | apply Drawn0.step)⟩
       ·rw [if_neg c7] at H
        have c7b0 : (!((((rd_T62 l0 x5_1).f0).toList) == (((rd_T62 l1 x5_1).f0).toList)) || (!((((rd_T62 l0 x5_1).f1).toList) == (((rd_T62 l1 x5_1).f1).toList)) || (!(((rd_T62 l0 x5_1).f2) == ((rd_T62 l1 x5_1).f2))))) = false := by simpa using c7
        clear c7
        have H' := Aside0.mk H
        clear H
        have p128 : 0 ≤ (x5_1 : Int) := of_decide_eq_true (by first | (with_reducible assumption) | assumption)
        have q128 : x5_1 < (l0.length : Int) := of_decide_eq_true (by first | (with_reducible assumption) | assumption)
        obtain ⟨ad128, e128, hx128_0, hx128_1, hx128_2⟩ := at_T62 HR0.out x5_1 p128 q128
        cases e128
        replace p128 := eq_true p128
        replace q128 := eq_true q128
        have p129 : 0 ≤ (x5_1 : Int) := of_decide_eq_true (by first | (with_reducible assumption) | assumption)
        have q129 : x5_1 < (l1.length : Int) := of_decide_eq_true (by first | (with_reducible assumption) | assumption)
        obtain ⟨ad129, e129, hx129_0, hx129_1, hx129_2⟩ := at_T62 HR1.out x5_1 p129 q129
        cases e129
        replace p129 := eq_true p129
        replace q129 := eq_true q129
        go_wp2
        repeat (go_quiet (fail); try go_wp2)
        go_roundg k1
        case measure => have := HK1.out; omega
        case rel => exact ⟨(wrap64 (x5_1 + 1)), (by first | rfl | (simp; done) | (simp [*]; done)), H', ⟨by have := HK1.out; omega⟩, by repeat (first | exact Drawn0.refl _ | apply Drawn0.step)⟩
      ·rw [if_neg c6] at H
       exact absurd H (by simp)
     ·rw [if_neg c5] at H
      exact absurd H (by simp)
    ·rw [if_neg c4] at H
     have c4b0 : decide (x5_1 < (l0.length : Int)) = false := decide_eq_false c4
     clear c4
     obtain rfl := Option.some.inj H
     go_wp2
     repeat (go_quiet (fail); try go_wp2)
     go_ret
     exact ⟨by first | rfl | (simp; done) | (simp [*]; done), by repeat (first | exact Drawn0.refl _ | apply Drawn0.step)⟩
 ·rw [if_neg c3] at H
  have c3b0 : ((l0.length : Int) == (l1.length : Int)) = false := beq_eq_false_iff_ne.mpr c3
  have c3b1 : ((l0.length : Int) != (l1.length : Int)) = true := bne_iff_ne.mpr c3
  have c3b2 : (l0.length == l1.length) = false := by first | simpa using c3 | (simp at c3 ⊢; omega)
  obtain rfl := Option.some.inj H
  go_enter Tryz.func28, Tryz.ntmps28
  go_wp2
  repeat (go_quiet (fail); try go_wp2)
  go_ret
  exact ⟨by first | rfl | (simp; done) | (simp [*]; done), by repeat (first | exact Drawn0.refl _ | apply Drawn0.step)⟩
end Go.Proofs.YtehlmkgldcfciaaGreat.F
-- Written by this repo's wip/tools/myprint.py (the kit's print program, with contracts of our own beside). Lean checks it.
namespace Go.Proofs.YtehlmkgldcfciaaGreat.F
open Go.Proofs.YtehlmkgldcfciaaGreat.Common
open Go.RowKit Go.Proofs.YtehlmkgldcfciaaGreatW.PrintWords Go.Proofs.YtehlmkgldcfciaaGreatW.PrintLast Go.Proofs.YtehlmkgldcfciaaGreatW.PrintMore
set_option linter.unusedVariables false
set_option linter.unusedSimpArgs false
def heptadlaw28_To.l0 : Nat → List (S29) → List (S62) → Int → Option ((List (S62)))
 | 0, _, _, _ => none
 | k + 1, x0, x3, x4 => if x4 < (x0.length : Int) then (if 0 ≤ x4 then (if x3.length < 3518437208883 then (heptadlaw28_To.l0 k x0 (x3 ++ [(⟨(rd_T29 x0 x4).f0, (rd_T29 x0 x4).f1, (rd_T29 x0 x4).f2⟩ : S62)]) (wrap64 (x4 + 1))) else (none)) else (none)) else (some x3)
def heptadlaw28_To.f (k : Nat) (l0 : List (S29)) : Option ((List (S62))) := heptadlaw28_To.l0 k l0 ([] : List (S62)) 0
def heptadlaw28_To.T5 : Bool × List (List Nat × List Nat) := (true, [([], []), ([], []), ([], []), ([1, 2], [1, 2]), ([3], [3]), ([4], [4]), ([], []), ([], []), ([6, 7], [6, 7]), ([8], [8]), ([9], [9]), ([], []), ([], []), ([11, 12], [11, 12]), ([13], [13]), ([14], [14]), ([5, 10, 15], [5, 10, 15]), ([16], [16]), ([0, 17], [0, 17]), ([18, 18, 0, 1, 2, 3, 4, 5, 6, 7, 8, 9, 10, 11, 12, 13, 14, 15, 16, 17, 18], [0, 18])])
def heptadlaw28_To.B5 : List Nat := [0, 0, 0, 6, 14, 30, 0, 0, 192, 448, 960, 0, 0, 6144, 14336, 30720, 65534, 131070, 262143, 524287]
theorem heptadlaw28_To.tab5 : rtab .any (opsOf Tryz.f29 5) = heptadlaw28_To.T5 := by kernel_rfl
theorem heptadlaw28_To.bits5 : waitsOk heptadlaw28_To.T5.2 heptadlaw28_To.B5 = true := by kernel_rfl
set_option maxHeartbeats 8000000 in
set_option maxRecDepth 100000 in
theorem heptadlaw28_To.calls (k : Nat) (A0 : Option Addr) (c0 : Nat) (l0 : List (S29)) (r : List (S62)) (w : World) (hr0 : Kd.C k29 w A0 l0.length l0) (hc0 : l0.length ≤ c0) (h : heptadlaw28_To.f k l0 = some r) :
  Calls Tryz.prog 29 #[.slice A0 l0.length c0] w fun e w' => ∃ v0_ : Value, e = .returned (v0_) ∧ Kd.R k62 62 w' w.heap.size (fun _ => True) v0_ r ∧ Below w.heap.size w w' := by
 have hu62 := Tryz.underlying62
 have HR0 := Aside0.mk hr0
 have HC0 := Aside0.mk hc0
 clear hr0 hc0
 have HB := Aside0.mk (Below.refl w.heap.size w)
 have H : (heptadlaw28_To.l0 k l0 ([] : List (S62)) 0) = some r := h
 clear h
 have H' := Aside0.mk H
 clear H
 go_enter Tryz.func29, Tryz.ntmps29
 go_wp2
 go_loopg [3, 4] k (fun kq v3 v4 w' => ∃ (x3_1 : List (S62)) (x4_1 : Int), v4 = .int .i64 x4_1 ∧ Aside0 (heptadlaw28_To.l0 kq l0 x3_1 x4_1 = some r) ∧ Aside0 (kq ≤ k) ∧ Aside0 (Kd.R k62 62 w' w.heap.size (fun _ => True) v3 x3_1) ∧ Aside0 (Below w.heap.size w w'))
 case atStart => exact ⟨(([] : List (S62))), (0), (by first | rfl | (simp; done) | (simp [*]; done)), H', ⟨Nat.le_refl _⟩, ⟨by first | exact Kd.R_nil _ _ _ _ _ | exact Kd.N_nil _ _ _ _ _ | exact Kd.V_nil _ _ _ _ _ | exact Kd.Q_nil _ _ _ _ _ | exact Kd.S_nil _ _ _ _ _⟩, ⟨by repeat (first | (with_reducible first | exact HB.out | apply below_alloc | apply pw_below_drewN | apply below_drew1) | exact HB.out)⟩⟩
 case round =>
  clear H'
  obtain ⟨x3_1, x4_1, rfl, HA, HK1, HO_3, HB⟩ := hrel
  cases gk with
  | zero => exact absurd HA.out (by simp [heptadlaw28_To.l0])
  | succ k1 =>
   have H := HA.out
   clear HA
   simp only [heptadlaw28_To.l0] at H
   by_cases c2 : x4_1 < (l0.length : Int)
   ·rw [if_pos c2] at H
    have c2b0 : decide (x4_1 < (l0.length : Int)) = true := decide_eq_true c2
    clear c2
    by_cases c3 : 0 ≤ x4_1
    ·rw [if_pos c3] at H
     have c3b0 : decide (0 ≤ x4_1) = true := decide_eq_true c3
     clear c3
     by_cases c4 : x3_1.length < 3518437208883
     ·rw [if_pos c4] at H
      have LMc4 := Aside0.mk c4
      clear c4
      obtain ⟨y133, hy133⟩ : ∃ y_ : List (S62), y_ = (x3_1 ++ [(⟨(rd_T29 l0 x4_1).f0, (rd_T29 l0 x4_1).f1, (rd_T29 l0 x4_1).f2⟩ : S62)]) := ⟨_, rfl⟩
      replace H : (heptadlaw28_To.l0 k1 l0 y133 (wrap64 (x4_1 + 1))) = some r := by first | (rw [hy133]; with_reducible exact H) | (have H2_ := (Option.bind_some _ _).symm.trans H; rw [hy133]; with_reducible exact H2_) | (have H2_ := (Option.bind_some _ _).symm.trans H; with_reducible exact H2_) | with_reducible exact H | (rw [hy133]; exact H) | exact H
      have Ny133 := Aside0.mk hy133
      clear hy133
      have H' := Aside0.mk H
      clear H
      try go_wp2
      have n0_ := Aside0.mk (Kd.R_drew HO_3.out)
      have n1_ := Aside0.mk (below_drew1 HB.out)
      clear HO_3
      clear HB
      have HO_3 := n0_
      have HB := n1_
      clear n0_ n1_
      have p130 : 0 ≤ (x4_1 : Int) := of_decide_eq_true (by first | (with_reducible assumption) | assumption)
      have q130 : x4_1 < (l0.length : Int) := of_decide_eq_true (by first | (with_reducible assumption) | assumption)
      obtain ⟨ad130, e130, hx130_0, hx130_1, hx130_2⟩ := at_T29 HR0.out x4_1 p130 q130
      have hw130_2 := hx130_2
      have hw130_1 := hx130_1
      have hw130_0 := hx130_0
      cases e130
      replace hx130_0 := (HB.out.cell (World.block_lt_of_cell? w _ hx130_0)).trans hx130_0
      replace hx130_1 := (HB.out.cell (World.block_lt_of_cell? w _ hx130_1)).trans hx130_1
      replace hx130_2 := (HB.out.cell (World.block_lt_of_cell? w _ hx130_2)).trans hx130_2
      replace p130 := eq_true p130
      replace q130 := eq_true q130
      have p131 : 0 ≤ (x4_1 : Int) := of_decide_eq_true (by first | (with_reducible assumption) | assumption)
      have q131 : x4_1 < (l0.length : Int) := of_decide_eq_true (by first | (with_reducible assumption) | assumption)
      obtain ⟨ad131, e131, hx131_0, hx131_1, hx131_2⟩ := at_T29 HR0.out x4_1 p131 q131
      have hw131_2 := hx131_2
      have hw131_1 := hx131_1
      have hw131_0 := hx131_0
      obtain rfl : ad130 = ad131 := (by injection e131)
      replace hx131_0 := (HB.out.cell (World.block_lt_of_cell? w _ hx131_0)).trans hx131_0
      replace hx131_1 := (HB.out.cell (World.block_lt_of_cell? w _ hx131_1)).trans hx131_1
      replace hx131_2 := (HB.out.cell (World.block_lt_of_cell? w _ hx131_2)).trans hx131_2
      replace p131 := eq_true p131
      replace q131 := eq_true q131
      have p132 : 0 ≤ (x4_1 : Int) := of_decide_eq_true (by first | (with_reducible assumption) | assumption)
      have q132 : x4_1 < (l0.length : Int) := of_decide_eq_true (by first | (with_reducible assumption) | assumption)
      obtain ⟨ad132, e132, hx132_0, hx132_1, hx132_2⟩ := at_T29 HR0.out x4_1 p132 q132
      have hw132_2 := hx132_2
      have hw132_1 := hx132_1
      have hw132_0 := hx132_0
      obtain rfl : ad130 = ad132 := (by injection e132)
      replace hx132_0 := (HB.out.cell (World.block_lt_of_cell? w _ hx132_0)).trans hx132_0
      replace hx132_1 := (HB.out.cell (World.block_lt_of_cell? w _ hx132_1)).trans hx132_1
      replace hx132_2 := (HB.out.cell (World.block_lt_of_cell? w _ hx132_2)).trans hx132_2
      replace p132 := eq_true p132
      replace q132 := eq_true q132
      refine start_ (n := 20) (S := fun w' => w'.cell? (ad130.add ((x4_1).toNat * 3)) = some (.string ((rd_T29 l0 x4_1).f0)) ∧ w'.cell? ⟨(ad130.add ((x4_1).toNat * 3)).block, (ad130.add ((x4_1).toNat * 3)).off + 1, none⟩ = some (.string ((rd_T29 l0 x4_1).f1)) ∧ w'.cell? ⟨(ad130.add ((x4_1).toNat * 3)).block, (ad130.add ((x4_1).toNat * 3)).off + 2, none⟩ = some (.int .i64 ((rd_T29 l0 x4_1).f2)) ∧ w'.cell? (ad130.add ((x4_1).toNat * 3)) = some (.string ((rd_T29 l0 x4_1).f0)) ∧ w'.cell? ⟨(ad130.add ((x4_1).toNat * 3)).block, (ad130.add ((x4_1).toNat * 3)).off + 1, none⟩ = some (.string ((rd_T29 l0 x4_1).f1)) ∧ w'.cell? ⟨(ad130.add ((x4_1).toNat * 3)).block, (ad130.add ((x4_1).toNat * 3)).off + 2, none⟩ = some (.int .i64 ((rd_T29 l0 x4_1).f2)) ∧ w'.cell? (ad130.add ((x4_1).toNat * 3)) = some (.string ((rd_T29 l0 x4_1).f0)) ∧ w'.cell? ⟨(ad130.add ((x4_1).toNat * 3)).block, (ad130.add ((x4_1).toNat * 3)).off + 1, none⟩ = some (.string ((rd_T29 l0 x4_1).f1)) ∧ w'.cell? ⟨(ad130.add ((x4_1).toNat * 3)).block, (ad130.add ((x4_1).toNat * 3)).off + 2, none⟩ = some (.int .i64 ((rd_T29 l0 x4_1).f2))) (ds := []) #[false, false, false, false, false, false, false, false, false, false, false, false, false, false, false, false, false, false, false, false] (by kernel_rfl) rfl rfl ⟨((HB.out.cell (World.block_lt_of_cell? w _ hw130_0)).trans hw130_0), ((HB.out.cell (World.block_lt_of_cell? w _ hw130_1)).trans hw130_1), ((HB.out.cell (World.block_lt_of_cell? w _ hw130_2)).trans hw130_2), ((HB.out.cell (World.block_lt_of_cell? w _ hw131_0)).trans hw131_0), ((HB.out.cell (World.block_lt_of_cell? w _ hw131_1)).trans hw131_1), ((HB.out.cell (World.block_lt_of_cell? w _ hw131_2)).trans hw131_2), ((HB.out.cell (World.block_lt_of_cell? w _ hw132_0)).trans hw132_0), ((HB.out.cell (World.block_lt_of_cell? w _ hw132_1)).trans hw132_1), ((HB.out.cell (World.block_lt_of_cell? w _ hw132_2)).trans hw132_2)⟩ (fun hHeld => ?_); refine with_tabW heptadlaw28_To.tab5 heptadlaw28_To.bits5 (fun HT_ HW_ => ?_)
      generalize wr.drew = w5 at HO_3 HB hx130_0 hx130_1 hx130_2 hx131_0 hx131_1 hx131_2 hx132_0 hx132_1 hx132_2 hHeld ⊢
      refine pure_ (i := 0) (N := some 11) (v := ?_) (a' := ?_) #[true, false, false, false, false, false, false, false, false, false, false, false, false, false, false, false, false, false, false, false] rfl rfl (any_of HT_.out (by kernel_rfl)) (fun _ _ _ h => h) (Or.inl ⟨by rfl, ?_⟩) ?_ ?_
      rotate_left
      ·intro w'
       go_simp
       with_reducible rfl
      rotate_left
      ·simp only [Act.put, List.setIfInBounds_toArray, List.set_cons_zero, List.set_cons_succ, i64_w, i32_w]
       rfl
      refine pure_ (i := 1) (N := some 12) (v := ?_) (a' := ?_) #[true, true, false, false, false, false, false, false, false, false, false, false, false, false, false, false, false, false, false, false] rfl rfl (any_of HT_.out (by kernel_rfl)) (fun _ _ _ h => h) (Or.inl ⟨by rfl, ?_⟩) ?_ ?_
      rotate_left
      ·intro w'
       go_simp
       with_reducible rfl
      rotate_left
      ·simp only [Act.put, List.setIfInBounds_toArray, List.set_cons_zero, List.set_cons_succ, i64_w, i32_w]
       rfl
      refine pure_ (i := 2) (N := some 13) (v := ?_) (a' := ?_) #[true, true, true, false, false, false, false, false, false, false, false, false, false, false, false, false, false, false, false, false] rfl rfl (any_of HT_.out (by kernel_rfl)) (fun _ _ _ h => h) (Or.inl ⟨by rfl, ?_⟩) ?_ ?_
      rotate_left
      ·intro w'
       go_simp
       with_reducible rfl
      rotate_left
      ·simp only [Act.put, List.setIfInBounds_toArray, List.set_cons_zero, List.set_cons_succ, i64_w, i32_w]
       rfl
      refine pure_ (i := 3) (N := some 14) (v := ?_) (a' := ?_) #[true, true, true, true, false, false, false, false, false, false, false, false, false, false, false, false, false, false, false, false] rfl rfl (any_of HT_.out (by kernel_rfl)) (fun _ _ _ h => h) (Or.inl ⟨by rfl, ?_⟩) ?_ ?_
      rotate_left
      ·intro w'
       go_simp
       with_reducible rfl
      rotate_left
      ·simp only [Act.put, List.setIfInBounds_toArray, List.set_cons_zero, List.set_cons_succ, i64_w, i32_w]
       rfl
      refine pure_ (i := 4) (N := some 15) (v := ?_) (a' := ?_) #[true, true, true, true, true, false, false, false, false, false, false, false, false, false, false, false, false, false, false, false] rfl rfl (any_of HT_.out (by kernel_rfl)) (fun _ _ _ h => h) (Or.inl ⟨by rfl, ?_⟩) ?_ ?_
      rotate_left
      ·intro w'
       go_simp
       with_reducible rfl
      rotate_left
      ·simp only [Act.put, List.setIfInBounds_toArray, List.set_cons_zero, List.set_cons_succ, i64_w, i32_w]
       rfl
      refine pure_ (i := 6) (N := some 17) (v := ?_) (a' := ?_) #[true, true, true, true, true, false, true, false, false, false, false, false, false, false, false, false, false, false, false, false] rfl rfl (any_of HT_.out (by kernel_rfl)) (fun _ _ _ h => h) (Or.inl ⟨by rfl, ?_⟩) ?_ ?_
      rotate_left
      ·intro w'
       go_simp
       with_reducible rfl
      rotate_left
      ·simp only [Act.put, List.setIfInBounds_toArray, List.set_cons_zero, List.set_cons_succ, i64_w, i32_w]
       rfl
      refine pure_ (i := 7) (N := some 18) (v := ?_) (a' := ?_) #[true, true, true, true, true, false, true, true, false, false, false, false, false, false, false, false, false, false, false, false] rfl rfl (any_of HT_.out (by kernel_rfl)) (fun _ _ _ h => h) (Or.inl ⟨by rfl, ?_⟩) ?_ ?_
      rotate_left
      ·intro w'
       go_simp
       with_reducible rfl
      rotate_left
      ·simp only [Act.put, List.setIfInBounds_toArray, List.set_cons_zero, List.set_cons_succ, i64_w, i32_w]
       rfl
      refine pure_ (i := 8) (N := some 19) (v := ?_) (a' := ?_) #[true, true, true, true, true, false, true, true, true, false, false, false, false, false, false, false, false, false, false, false] rfl rfl (any_of HT_.out (by kernel_rfl)) (fun _ _ _ h => h) (Or.inl ⟨by rfl, ?_⟩) ?_ ?_
      rotate_left
      ·intro w'
       go_simp
       with_reducible rfl
      rotate_left
      ·simp only [Act.put, List.setIfInBounds_toArray, List.set_cons_zero, List.set_cons_succ, i64_w, i32_w]
       rfl
      refine pure_ (i := 9) (N := some 20) (v := ?_) (a' := ?_) #[true, true, true, true, true, false, true, true, true, true, false, false, false, false, false, false, false, false, false, false] rfl rfl (any_of HT_.out (by kernel_rfl)) (fun _ _ _ h => h) (Or.inl ⟨by rfl, ?_⟩) ?_ ?_
      rotate_left
      ·intro w'
       go_simp
       with_reducible rfl
      rotate_left
      ·simp only [Act.put, List.setIfInBounds_toArray, List.set_cons_zero, List.set_cons_succ, i64_w, i32_w]
       rfl
      refine pure_ (i := 11) (N := some 22) (v := ?_) (a' := ?_) #[true, true, true, true, true, false, true, true, true, true, false, true, false, false, false, false, false, false, false, false] rfl rfl (any_of HT_.out (by kernel_rfl)) (fun _ _ _ h => h) (Or.inl ⟨by rfl, ?_⟩) ?_ ?_
      rotate_left
      ·intro w'
       go_simp
       with_reducible rfl
      rotate_left
      ·simp only [Act.put, List.setIfInBounds_toArray, List.set_cons_zero, List.set_cons_succ, i64_w, i32_w]
       rfl
      refine pure_ (i := 12) (N := some 23) (v := ?_) (a' := ?_) #[true, true, true, true, true, false, true, true, true, true, false, true, true, false, false, false, false, false, false, false] rfl rfl (any_of HT_.out (by kernel_rfl)) (fun _ _ _ h => h) (Or.inl ⟨by rfl, ?_⟩) ?_ ?_
      rotate_left
      ·intro w'
       go_simp
       with_reducible rfl
      rotate_left
      ·simp only [Act.put, List.setIfInBounds_toArray, List.set_cons_zero, List.set_cons_succ, i64_w, i32_w]
       rfl
      refine pure_ (i := 13) (N := some 24) (v := ?_) (a' := ?_) #[true, true, true, true, true, false, true, true, true, true, false, true, true, true, false, false, false, false, false, false] rfl rfl (any_of HT_.out (by kernel_rfl)) (fun _ _ _ h => h) (Or.inl ⟨by rfl, ?_⟩) ?_ ?_
      rotate_left
      ·intro w'
       go_simp
       with_reducible rfl
      rotate_left
      ·simp only [Act.put, List.setIfInBounds_toArray, List.set_cons_zero, List.set_cons_succ, i64_w, i32_w]
       rfl
      refine pure_ (i := 14) (N := some 25) (v := ?_) (a' := ?_) #[true, true, true, true, true, false, true, true, true, true, false, true, true, true, true, false, false, false, false, false] rfl rfl (any_of HT_.out (by kernel_rfl)) (fun _ _ _ h => h) (Or.inl ⟨by rfl, ?_⟩) ?_ ?_
      rotate_left
      ·intro w'
       go_simp
       with_reducible rfl
      rotate_left
      ·simp only [Act.put, List.setIfInBounds_toArray, List.set_cons_zero, List.set_cons_succ, i64_w, i32_w]
       rfl
      refine take_ (i := 5) (N := some 16) (v := ?_) (a' := ?_) #[true, true, true, true, true, true, true, true, true, true, false, true, true, true, true, false, false, false, false, false] rfl rfl (take_ofW HT_.out HW_.out (by kernel_rfl)) (fun _ _ _ h => h) (Or.inl ⟨by rfl, ?_⟩) hHeld ?_ ?_
      rotate_left
      ·rintro w' ⟨s0, s1, s2, s3, s4, s5, s6, s7, s8⟩
       go_simp
       with_reducible rfl
      rotate_left
      ·simp only [Act.put, List.setIfInBounds_toArray, List.set_cons_zero, List.set_cons_succ, i64_w, i32_w]
       rfl
      refine take_ (i := 10) (N := some 21) (v := ?_) (a' := ?_) #[true, true, true, true, true, true, true, true, true, true, true, true, true, true, true, false, false, false, false, false] rfl rfl (take_ofW HT_.out HW_.out (by kernel_rfl)) (fun _ _ _ h => h) (Or.inl ⟨by rfl, ?_⟩) hHeld ?_ ?_
      rotate_left
      ·rintro w' ⟨s0, s1, s2, s3, s4, s5, s6, s7, s8⟩
       go_simp
       with_reducible rfl
      rotate_left
      ·simp only [Act.put, List.setIfInBounds_toArray, List.set_cons_zero, List.set_cons_succ, i64_w, i32_w]
       rfl
      refine take_ (i := 15) (N := some 26) (v := ?_) (a' := ?_) #[true, true, true, true, true, true, true, true, true, true, true, true, true, true, true, true, false, false, false, false] rfl rfl (take_ofW HT_.out HW_.out (by kernel_rfl)) (fun _ _ _ h => h) (Or.inl ⟨by rfl, ?_⟩) hHeld ?_ ?_
      rotate_left
      ·rintro w' ⟨s0, s1, s2, s3, s4, s5, s6, s7, s8⟩
       go_simp
       with_reducible rfl
      rotate_left
      ·simp only [Act.put, List.setIfInBounds_toArray, List.set_cons_zero, List.set_cons_succ, i64_w, i32_w]
       rfl
      refine pure_ (i := 16) (N := some 27) (v := ?_) (a' := ?_) #[true, true, true, true, true, true, true, true, true, true, true, true, true, true, true, true, true, false, false, false] rfl rfl (any_of HT_.out (by kernel_rfl)) (fun _ _ _ h => h) (Or.inl ⟨by rfl, ?_⟩) ?_ ?_
      rotate_left
      ·intro w'
       go_simp
       with_reducible rfl
      rotate_left
      ·simp only [Act.put, List.setIfInBounds_toArray, List.set_cons_zero, List.set_cons_succ, i64_w, i32_w]
       rfl
      refine one_ (i := 17) (N := some 28) #[true, true, true, true, true, true, true, true, true, true, true, true, true, true, true, true, true, true, false, false] rfl rfl (one_of HT_.out (by kernel_rfl)) (by decide) (fun K hK => ?_)
      refine value_ (w1 := ?_) (v := ?_) (by rfl) rfl ?_ ?_
      rotate_left 2
      ·go_simp
       constructor
       ·rfl
       ·rfl
      refine hK.out _ _ ⟨(World.cell?_alloc_lt _ _ _ (World.block_lt_of_cell? _ _ (((HB.out.cell (World.block_lt_of_cell? w _ hw130_0)).trans hw130_0)))).trans (((HB.out.cell (World.block_lt_of_cell? w _ hw130_0)).trans hw130_0)), (World.cell?_alloc_lt _ _ _ (World.block_lt_of_cell? _ _ (((HB.out.cell (World.block_lt_of_cell? w _ hw130_1)).trans hw130_1)))).trans (((HB.out.cell (World.block_lt_of_cell? w _ hw130_1)).trans hw130_1)), (World.cell?_alloc_lt _ _ _ (World.block_lt_of_cell? _ _ (((HB.out.cell (World.block_lt_of_cell? w _ hw130_2)).trans hw130_2)))).trans (((HB.out.cell (World.block_lt_of_cell? w _ hw130_2)).trans hw130_2)), (World.cell?_alloc_lt _ _ _ (World.block_lt_of_cell? _ _ (((HB.out.cell (World.block_lt_of_cell? w _ hw131_0)).trans hw131_0)))).trans (((HB.out.cell (World.block_lt_of_cell? w _ hw131_0)).trans hw131_0)), (World.cell?_alloc_lt _ _ _ (World.block_lt_of_cell? _ _ (((HB.out.cell (World.block_lt_of_cell? w _ hw131_1)).trans hw131_1)))).trans (((HB.out.cell (World.block_lt_of_cell? w _ hw131_1)).trans hw131_1)), (World.cell?_alloc_lt _ _ _ (World.block_lt_of_cell? _ _ (((HB.out.cell (World.block_lt_of_cell? w _ hw131_2)).trans hw131_2)))).trans (((HB.out.cell (World.block_lt_of_cell? w _ hw131_2)).trans hw131_2)), (World.cell?_alloc_lt _ _ _ (World.block_lt_of_cell? _ _ (((HB.out.cell (World.block_lt_of_cell? w _ hw132_0)).trans hw132_0)))).trans (((HB.out.cell (World.block_lt_of_cell? w _ hw132_0)).trans hw132_0)), (World.cell?_alloc_lt _ _ _ (World.block_lt_of_cell? _ _ (((HB.out.cell (World.block_lt_of_cell? w _ hw132_1)).trans hw132_1)))).trans (((HB.out.cell (World.block_lt_of_cell? w _ hw132_1)).trans hw132_1)), (World.cell?_alloc_lt _ _ _ (World.block_lt_of_cell? _ _ (((HB.out.cell (World.block_lt_of_cell? w _ hw132_2)).trans hw132_2)))).trans (((HB.out.cell (World.block_lt_of_cell? w _ hw132_2)).trans hw132_2))⟩ (fun hHeld => ?_)
      clear hK K
      refine norm_ (a' := ?_) ?_ ?_
      rotate_left
      ·show Act.put _ (some 28) _ = _
       simp only [Act.put, List.setIfInBounds_toArray, List.set_cons_zero, List.set_cons_succ, i64_w, i32_w]
       rfl
      refine one_ (i := 18) (N := some 29) #[true, true, true, true, true, true, true, true, true, true, true, true, true, true, true, true, true, true, true, false] rfl rfl (one_of HT_.out (by kernel_rfl)) (by decide) (fun K hK => ?_)
      refine Kd.R_append_step k62 (w0 := w) w.heap.size (by rfl) (.tmp 11) (.tmp 28) 55 62 (.agg #[(.string ⟨#[]⟩), (.string ⟨#[]⟩), (.int .i64 0)]) 40 rfl Tryz.underlying55 info62 rfl (by decide) (by omega) u3 x3_1 (⟨(rd_T29 l0 x4_1).f0, (rd_T29 l0 x4_1).f1, (rd_T29 l0 x4_1).f2⟩ : S62) [.string ((rd_T29 l0 x4_1).f0), .string ((rd_T29 l0 x4_1).f1), .int .i64 ((rd_T29 l0 x4_1).f2)] (fun _ => True) (fun _ => False) rfl rfl ?aP (fun _ hk => hk.elim) ?aF ?aO ?aB ?aS ?aL ?_
      (case aP => exact k62_mkM _ _ _ (⟨(rd_T29 l0 x4_1).f0, (rd_T29 l0 x4_1).f1, (rd_T29 l0 x4_1).f2⟩ : S62))
      (case aB => exact (by repeat (first | (with_reducible first | exact HB.out | apply below_alloc | apply pw_below_drewN | apply below_drew1) | exact HB.out)))
      (case aF => exact (fun _ _ => trivial))
      (case aO => exact (by (with_reducible repeat (first | apply Kd.R_alloc | apply Kd.R_drewN | apply Kd.R_drew)); exact HO_3.out))
      (case aS => exact (below_size (by repeat (first | (with_reducible first | exact HB.out | apply below_alloc | apply pw_below_drewN | apply below_drew1) | exact HB.out))))
      (case aL => have := LMc4.out; omega)
      intro v134 w6 ho hb hg hat
      rw [← Ny133.out] at ho
      have n0_ := Aside0.mk (hb)
      have n1_ := Aside0.mk (ho)
      clear HB
      clear HO_3
      have HB := n0_
      have HO135 := n1_
      clear n0_ n1_
      clear ho hb hg hat
      refine hK.out _ _ ⟨((HB.out.cell (World.block_lt_of_cell? w _ hw130_0)).trans hw130_0), ((HB.out.cell (World.block_lt_of_cell? w _ hw130_1)).trans hw130_1), ((HB.out.cell (World.block_lt_of_cell? w _ hw130_2)).trans hw130_2), ((HB.out.cell (World.block_lt_of_cell? w _ hw131_0)).trans hw131_0), ((HB.out.cell (World.block_lt_of_cell? w _ hw131_1)).trans hw131_1), ((HB.out.cell (World.block_lt_of_cell? w _ hw131_2)).trans hw131_2), ((HB.out.cell (World.block_lt_of_cell? w _ hw132_0)).trans hw132_0), ((HB.out.cell (World.block_lt_of_cell? w _ hw132_1)).trans hw132_1), ((HB.out.cell (World.block_lt_of_cell? w _ hw132_2)).trans hw132_2)⟩ (fun hHeld => ?_)
      clear hK K
      refine norm_ (a' := ?_) ?_ ?_
      rotate_left
      ·show Act.put _ (some 29) _ = _
       simp only [Act.put, List.setIfInBounds_toArray, List.set_cons_zero, List.set_cons_succ, i64_w, i32_w]
       rfl
      refine pure_ (i := 19) (N := some 3) (v := ?_) (a' := ?_) #[true, true, true, true, true, true, true, true, true, true, true, true, true, true, true, true, true, true, true, true] rfl rfl (any_of HT_.out (by kernel_rfl)) (fun _ _ _ h => h) (Or.inl ⟨by rfl, ?_⟩) ?_ ?_
      rotate_left
      ·intro w'
       go_simp
       with_reducible rfl
      rotate_left
      ·simp only [Act.put, List.setIfInBounds_toArray, List.set_cons_zero, List.set_cons_succ, i64_w, i32_w]
       rfl
      refine done_ (done_of HT_.out (by kernel_rfl)) ?_
      try go_wp2
      go_roundg k1
      case measure => have := HK1.out; omega
      case rel => exact ⟨(y133), (wrap64 (x4_1 + 1)), (by first | rfl | (simp; done) | (simp [*]; done)), H', ⟨by have := HK1.out; omega⟩, ⟨by (with_reducible repeat (first | apply Kd.R_alloc | apply Kd.R_drewN | apply Kd.R_drew)); exact HO135.out⟩, ⟨by repeat (first | (with_reducible first | exact HB.out | apply below_alloc | apply pw_below_drewN | apply below_drew1) | exact HB.out)⟩⟩
     ·rw [if_neg c4] at H
      exact absurd H (by simp)
    ·rw [if_neg c3] at H
     exact absurd H (by simp)
   ·rw [if_neg c2] at H
    have c2b0 : decide (x4_1 < (l0.length : Int)) = false := decide_eq_false c2
    clear c2
    obtain rfl := Option.some.inj H
    go_wp2
    go_ret
    exact ⟨_, by first | rfl | (simp [errW_none, errW_some] <;> rfl) | (simp [*, errW_none, errW_some] <;> rfl), by (with_reducible repeat (first | apply Kd.R_alloc | apply Kd.R_drewN | apply Kd.R_drew)); exact HO_3.out, by repeat (first | (with_reducible first | exact HB.out | apply below_alloc | apply pw_below_drewN | apply below_drew1) | exact HB.out)⟩
end Go.Proofs.YtehlmkgldcfciaaGreat.F
-- Written by this repo's wip/tools/myprint.py (the kit's print program, with contracts of our own beside). Lean checks it.
namespace Go.Proofs.YtehlmkgldcfciaaGreat.F
open Go.Proofs.YtehlmkgldcfciaaGreat.Common
open Go.RowKit Go.Proofs.YtehlmkgldcfciaaGreatW.PrintWords Go.Proofs.YtehlmkgldcfciaaGreatW.PrintLast Go.Proofs.YtehlmkgldcfciaaGreatW.PrintMore
set_option linter.unusedVariables false
set_option linter.unusedSimpArgs false
def heptadlaw28_info.l0 : Nat → Int → ByteArray → Int → Int → ByteArray → ByteArray → Int → Int → List (S100) → ByteArray → Int → Int → ByteArray → ByteArray → Int → Int → List (S129) → Option (ByteArray × Int × Int × ByteArray × ByteArray × Int × Int × (List (S129)))
 | 0, _, _, _, _, _, _, _, _, _, _, _, _, _, _, _, _, _ => none
 | k + 1, x4, x152000, x152001, x152002, x152003, x152004, x152005, x152006, x152007, x154000, x154001, x154002, x154003, x154004, x154005, x154006, x154007 => if x4 < (x152007.length : Int) then (if 0 ≤ x4 then (if x154007.length < 5864062014805 then (heptadlaw28_info.l0 k (wrap64 (x4 + 1)) x152000 x152001 x152002 x152003 x152004 x152005 x152006 x152007 x154000 x154001 x154002 x154003 x154004 x154005 x154006 (x154007 ++ [(⟨(rd_T100 x152007 x4).f0, (rd_T100 x152007 x4).f1⟩ : S129)])) else (none)) else (none)) else (some (x154000, x154001, x154002, x154003, x154004, x154005, x154006, x154007))
def heptadlaw28_info.f (k : Nat) (a0_0 : ByteArray) (a0_1 : Int) (a0_2 : Int) (a0_3 : ByteArray) (a0_4 : ByteArray) (a0_5 : Int) (a0_6 : Int) (l0_7 : List (S100)) : Option (ByteArray × Int × Int × ByteArray × ByteArray × Int × Int × (List (S129))) := heptadlaw28_info.l0 k 0 a0_0 a0_1 a0_2 a0_3 a0_4 a0_5 a0_6 l0_7 a0_0 a0_1 a0_2 a0_3 a0_4 a0_5 a0_6 ([] : List (S129))
def heptadlaw28_info.T5 : Bool × List (List Nat × List Nat) := (true, [([], []), ([0], [0]), ([], []), ([2], [2]), ([], []), ([3, 4], [3, 4]), ([5], [5]), ([6], [6]), ([], []), ([8], [8]), ([], []), ([9, 10], [9, 10]), ([11], [11]), ([12], [12]), ([7, 13], [7, 13]), ([14], [14]), ([1, 15], [1, 15]), ([0, 1, 2, 3, 4, 5, 6, 7, 8, 9, 10, 11, 12, 13, 14, 15, 16], []), ([17, 16, 16, 0, 1, 2, 3, 4, 5, 6, 7, 8, 9, 10, 11, 12, 13, 14, 15, 16], [16, 17])])
def heptadlaw28_info.B5 : List Nat := [0, 1, 0, 4, 0, 28, 60, 124, 0, 256, 0, 1792, 3840, 7936, 16380, 32764, 65535, 131071, 262143]
theorem heptadlaw28_info.tab5 : rtab .any (opsOf Tryz.f41 5) = heptadlaw28_info.T5 := by kernel_rfl
theorem heptadlaw28_info.bits5 : waitsOk heptadlaw28_info.T5.2 heptadlaw28_info.B5 = true := by kernel_rfl
set_option maxHeartbeats 8000000 in
set_option maxRecDepth 100000 in
theorem heptadlaw28_info.calls (k : Nat) (a0_0 : ByteArray) (a0_1 : Int) (a0_2 : Int) (a0_3 : ByteArray) (a0_4 : ByteArray) (a0_5 : Int) (a0_6 : Int) (A0_7 : Option Addr) (c0_7 : Nat) (l0_7 : List (S100)) (r1 : ByteArray) (r2 : Int) (r3 : Int) (r4 : ByteArray) (r5 : ByteArray) (r6 : Int) (r7 : Int) (r8 : List (S129)) (w : World) (hr0_7 : Kd.C k100 w A0_7 l0_7.length l0_7) (hc0_7 : l0_7.length ≤ c0_7) (h : heptadlaw28_info.f k a0_0 a0_1 a0_2 a0_3 a0_4 a0_5 a0_6 l0_7 = some (r1, r2, r3, r4, r5, r6, r7, r8)) :
  Calls Tryz.prog 41 #[.agg #[.string a0_0, .int .i64 a0_1, .int .i64 a0_2, .string a0_3, .string a0_4, .int .i64 a0_5, .int .i64 a0_6, .slice A0_7 l0_7.length c0_7]] w fun e w' => ∃ v7_ : Value, e = .returned (.agg #[.string r1, .int .i64 r2, .int .i64 r3, .string r4, .string r5, .int .i64 r6, .int .i64 r7, v7_]) ∧ Kd.R k129 129 w' w.heap.size (fun _ => True) v7_ r8 ∧ Below w.heap.size w w' := by
 have hu66 := Tryz.underlying66
 have hu71 := Tryz.underlying71
 have hu129 := Tryz.underlying129
 have HR0_7 := Aside0.mk hr0_7
 have HC0_7 := Aside0.mk hc0_7
 clear hr0_7 hc0_7
 have HB := Aside0.mk (Below.refl w.heap.size w)
 have H : (heptadlaw28_info.l0 k 0 a0_0 a0_1 a0_2 a0_3 a0_4 a0_5 a0_6 l0_7 a0_0 a0_1 a0_2 a0_3 a0_4 a0_5 a0_6 ([] : List (S129))) = some (r1, r2, r3, r4, r5, r6, r7, r8) := h
 clear h
 have H' := Aside0.mk H
 clear H
 go_enter Tryz.func41, Tryz.ntmps41
 go_wp2_with (first | ((with_reducible refine gate_dst (N := 1) rfl ?_); refine box_event ?hg (N := 1) ?hd (cs := #[.string a0_0, .int .i64 a0_1, .int .i64 a0_2, .string a0_3, .string a0_4, .int .i64 a0_5, .int .i64 a0_6, .slice A0_7 l0_7.length c0_7]) (t := 66) ?hr ?_; (case hd => rfl); (case hg => rfl); (case hr => first | (go_simp; done) | (go_simp; rfl)); intro gb151 hg w2 hbox hb; have n0_ := Aside0.mk (below_step (by repeat (first | (with_reducible first | exact HB.out | apply below_alloc | apply pw_below_drewN | apply below_drew1) | exact HB.out)) hb); have n1_ := Aside0.mk (hbox); have n2_ := Aside0.mk ((by rw [hg]; exact (below_size (by repeat (first | (with_reducible first | exact HB.out | apply below_alloc | apply pw_below_drewN | apply below_drew1) | exact HB.out))) : w.heap.size ≤ gb151)); have n3_ := Aside0.mk ((by rw [hg]; exact (below_size (by repeat (first | (with_reducible first | exact HB.out | apply below_alloc | apply pw_below_drewN | apply below_drew1) | exact HB.out))) : w.heap.size ≤ gb151)); clear HB; have HB := n0_; have BK151 := n1_; have GW151 := n2_; have GE151 := n3_; clear n0_ n1_ n2_ n3_; clear hb hbox hg) | ((with_reducible refine gate_dst (N := 2) rfl ?_); refine box_event ?hg (N := 2) ?hd (cs := #[.string (⟨#[]⟩ : ByteArray), .int .i64 0, .int .i64 0, .string (⟨#[]⟩ : ByteArray), .string (⟨#[]⟩ : ByteArray), .int .i64 0, .int .i64 0, .slice none 0 0]) (t := 71) ?hr ?_; (case hd => rfl); (case hg => rfl); (case hr => first | (go_simp; done) | (go_simp; rfl)); intro gb152 hg w3 hbox hb; have n0_ := Aside0.mk (blk_below (g := gb151) (o := .cells #[.string a0_0, .int .i64 a0_1, .int .i64 a0_2, .string a0_3, .string a0_4, .int .i64 a0_5, .int .i64 a0_6, .slice A0_7 l0_7.length c0_7] 66 (0, 0)) (by (with_reducible repeat (first | refine blk_drewN ?_ _ | refine blk_drew ?_ | refine blk_alloc ?_ _)); exact BK151.out) hb); have n1_ := Aside0.mk (below_step (by repeat (first | (with_reducible first | exact HB.out | apply below_alloc | apply pw_below_drewN | apply below_drew1 | refine below_set ?_ GE151.out) | exact HB.out)) hb); have n2_ := Aside0.mk (hbox); have n3_ := Aside0.mk ((by rw [hg]; exact (below_size (by repeat (first | (with_reducible first | exact HB.out | apply below_alloc | apply pw_below_drewN | apply below_drew1 | refine below_set ?_ GE151.out) | exact HB.out))) : w.heap.size ≤ gb152)); have n4_ := Aside0.mk ((by rw [hg]; exact (below_size (by repeat (first | (with_reducible first | exact HB.out | apply below_alloc | apply pw_below_drewN | apply below_drew1 | refine below_set ?_ GE151.out) | exact HB.out))) : w.heap.size ≤ gb152)); have n5_ := Aside0.mk ((by rw [hg]; exact Nat.ne_of_lt (blk_lt (g := gb151) (o := .cells #[.string a0_0, .int .i64 a0_1, .int .i64 a0_2, .string a0_3, .string a0_4, .int .i64 a0_5, .int .i64 a0_6, .slice A0_7 l0_7.length c0_7] 66 (0, 0)) (by (with_reducible repeat (first | refine blk_drewN ?_ _ | refine blk_drew ?_ | refine blk_alloc ?_ _)); exact BK151.out)) : gb151 ≠ gb152)); have n6_ := Aside0.mk ((by rw [hg]; exact Nat.ne_of_gt (blk_lt (g := gb151) (o := .cells #[.string a0_0, .int .i64 a0_1, .int .i64 a0_2, .string a0_3, .string a0_4, .int .i64 a0_5, .int .i64 a0_6, .slice A0_7 l0_7.length c0_7] 66 (0, 0)) (by (with_reducible repeat (first | refine blk_drewN ?_ _ | refine blk_drew ?_ | refine blk_alloc ?_ _)); exact BK151.out)) : gb152 ≠ gb151)); clear BK151; clear HB; have BK151 := n0_; have HB := n1_; have BK152 := n2_; have GW152 := n3_; have GE152 := n4_; have NB151_152 := n5_; have NB152_151 := n6_; clear n0_ n1_ n2_ n3_ n4_ n5_ n6_; clear hb hbox hg; have hnb4 := NB151_152.out; have hnc4 := NB152_151.out; have hcz5_0 : w3.cell? ⟨gb151, 0, none⟩ = some (.string a0_0) := (blk_cell BK151.out 0).trans rfl; have hcz5_1 : w3.cell? ⟨gb151, 1, none⟩ = some (.int .i64 a0_1) := (blk_cell BK151.out 1).trans rfl; have hcz5_2 : w3.cell? ⟨gb151, 2, none⟩ = some (.int .i64 a0_2) := (blk_cell BK151.out 2).trans rfl; have hcz5_3 : w3.cell? ⟨gb151, 3, none⟩ = some (.string a0_3) := (blk_cell BK151.out 3).trans rfl; have hcz5_4 : w3.cell? ⟨gb151, 4, none⟩ = some (.string a0_4) := (blk_cell BK151.out 4).trans rfl; have hcz5_5 : w3.cell? ⟨gb151, 5, none⟩ = some (.int .i64 a0_5) := (blk_cell BK151.out 5).trans rfl; have hcz5_6 : w3.cell? ⟨gb151, 6, none⟩ = some (.int .i64 a0_6) := (blk_cell BK151.out 6).trans rfl; have hcz5_7 : w3.cell? ⟨gb151, 7, none⟩ = some (.slice A0_7 l0_7.length c0_7) := (blk_cell BK151.out 7).trans rfl; have hfz5_0 := blk_frozen BK151.out 0; have hfz5_1 := blk_frozen BK151.out 1; have hfz5_2 := blk_frozen BK151.out 2; have hfz5_3 := blk_frozen BK151.out 3; have hfz5_4 := blk_frozen BK151.out 4; have hfz5_5 := blk_frozen BK151.out 5; have hfz5_6 := blk_frozen BK151.out 6; have hfz5_7 := blk_frozen BK151.out 7) | ((with_reducible refine gate_dst (N := 3) rfl ?_); refine box_event ?hg (N := 3) ?hd (cs := #[.string (⟨#[]⟩ : ByteArray), .int .i64 0, .int .i64 0, .string (⟨#[]⟩ : ByteArray), .string (⟨#[]⟩ : ByteArray), .int .i64 0, .int .i64 0, .slice none 0 0]) (t := 71) ?hr ?_; (case hd => rfl); (case hg => rfl); (case hr => first | (go_simp; done) | (go_simp; rfl)); intro gb153 hg w6 hbox hb; have n0_ := Aside0.mk (blk_below (g := gb151) (o := .cells #[.string a0_0, .int .i64 a0_1, .int .i64 a0_2, .string a0_3, .string a0_4, .int .i64 a0_5, .int .i64 a0_6, .slice A0_7 l0_7.length c0_7] 66 (0, 0)) (by (with_reducible repeat (first | refine blk_drewN ?_ _ | refine blk_drew ?_ | refine blk_alloc ?_ _)); exact BK151.out) hb); have n1_ := Aside0.mk (blk_below (g := gb152) (o := .cells #[.string (⟨#[]⟩ : ByteArray), .int .i64 0, .int .i64 0, .string (⟨#[]⟩ : ByteArray), .string (⟨#[]⟩ : ByteArray), .int .i64 0, .int .i64 0, .slice none 0 0] 71 (0, 0)) (by (with_reducible repeat (first | refine blk_drewN ?_ _ | refine blk_drew ?_ | refine blk_alloc ?_ _)); exact BK152.out) hb); have n2_ := Aside0.mk (below_step (by repeat (first | (with_reducible first | exact HB.out | apply below_alloc | apply pw_below_drewN | apply below_drew1 | refine below_set ?_ GE151.out | refine below_set ?_ GE152.out) | exact HB.out)) hb); have n3_ := Aside0.mk (hbox); have n4_ := Aside0.mk ((by rw [hg]; exact (below_size (by repeat (first | (with_reducible first | exact HB.out | apply below_alloc | apply pw_below_drewN | apply below_drew1 | refine below_set ?_ GE151.out | refine below_set ?_ GE152.out) | exact HB.out))) : w.heap.size ≤ gb153)); have n5_ := Aside0.mk ((by rw [hg]; exact (below_size (by repeat (first | (with_reducible first | exact HB.out | apply below_alloc | apply pw_below_drewN | apply below_drew1 | refine below_set ?_ GE151.out | refine below_set ?_ GE152.out) | exact HB.out))) : w.heap.size ≤ gb153)); have n6_ := Aside0.mk ((by rw [hg]; exact Nat.ne_of_lt (blk_lt (g := gb151) (o := .cells #[.string a0_0, .int .i64 a0_1, .int .i64 a0_2, .string a0_3, .string a0_4, .int .i64 a0_5, .int .i64 a0_6, .slice A0_7 l0_7.length c0_7] 66 (0, 0)) (by (with_reducible repeat (first | refine blk_drewN ?_ _ | refine blk_drew ?_ | refine blk_alloc ?_ _)); exact BK151.out)) : gb151 ≠ gb153)); have n7_ := Aside0.mk ((by rw [hg]; exact Nat.ne_of_gt (blk_lt (g := gb151) (o := .cells #[.string a0_0, .int .i64 a0_1, .int .i64 a0_2, .string a0_3, .string a0_4, .int .i64 a0_5, .int .i64 a0_6, .slice A0_7 l0_7.length c0_7] 66 (0, 0)) (by (with_reducible repeat (first | refine blk_drewN ?_ _ | refine blk_drew ?_ | refine blk_alloc ?_ _)); exact BK151.out)) : gb153 ≠ gb151)); have n8_ := Aside0.mk ((by rw [hg]; exact Nat.ne_of_lt (blk_lt (g := gb152) (o := .cells #[.string (⟨#[]⟩ : ByteArray), .int .i64 0, .int .i64 0, .string (⟨#[]⟩ : ByteArray), .string (⟨#[]⟩ : ByteArray), .int .i64 0, .int .i64 0, .slice none 0 0] 71 (0, 0)) (by (with_reducible repeat (first | refine blk_drewN ?_ _ | refine blk_drew ?_ | refine blk_alloc ?_ _)); exact BK152.out)) : gb152 ≠ gb153)); have n9_ := Aside0.mk ((by rw [hg]; exact Nat.ne_of_gt (blk_lt (g := gb152) (o := .cells #[.string (⟨#[]⟩ : ByteArray), .int .i64 0, .int .i64 0, .string (⟨#[]⟩ : ByteArray), .string (⟨#[]⟩ : ByteArray), .int .i64 0, .int .i64 0, .slice none 0 0] 71 (0, 0)) (by (with_reducible repeat (first | refine blk_drewN ?_ _ | refine blk_drew ?_ | refine blk_alloc ?_ _)); exact BK152.out)) : gb153 ≠ gb152)); clear BK151; clear BK152; clear HB; have BK151 := n0_; have BK152 := n1_; have HB := n2_; have BK153 := n3_; have GW153 := n4_; have GE153 := n5_; have NB151_153 := n6_; have NB153_151 := n7_; have NB152_153 := n8_; have NB153_152 := n9_; clear n0_ n1_ n2_ n3_ n4_ n5_ n6_ n7_ n8_ n9_; clear hb hbox hg; have hnb7 := NB153_151.out; have hnc7 := NB151_153.out; have hnb8 := NB153_152.out; have hnc8 := NB152_153.out; have hcz9_0 : w6.cell? ⟨gb153, 0, none⟩ = some (.string (⟨#[]⟩ : ByteArray)) := (blk_cell BK153.out 0).trans rfl; have hcz9_1 : w6.cell? ⟨gb153, 1, none⟩ = some (.int .i64 0) := (blk_cell BK153.out 1).trans rfl; have hcz9_2 : w6.cell? ⟨gb153, 2, none⟩ = some (.int .i64 0) := (blk_cell BK153.out 2).trans rfl; have hcz9_3 : w6.cell? ⟨gb153, 3, none⟩ = some (.string (⟨#[]⟩ : ByteArray)) := (blk_cell BK153.out 3).trans rfl; have hcz9_4 : w6.cell? ⟨gb153, 4, none⟩ = some (.string (⟨#[]⟩ : ByteArray)) := (blk_cell BK153.out 4).trans rfl; have hcz9_5 : w6.cell? ⟨gb153, 5, none⟩ = some (.int .i64 0) := (blk_cell BK153.out 5).trans rfl; have hcz9_6 : w6.cell? ⟨gb153, 6, none⟩ = some (.int .i64 0) := (blk_cell BK153.out 6).trans rfl; have hcz9_7 : w6.cell? ⟨gb153, 7, none⟩ = some (.slice none 0 0) := (blk_cell BK153.out 7).trans rfl; have hfz9_0 := blk_frozen BK153.out 0; have hfz9_1 := blk_frozen BK153.out 1; have hfz9_2 := blk_frozen BK153.out 2; have hfz9_3 := blk_frozen BK153.out 3; have hfz9_4 := blk_frozen BK153.out 4; have hfz9_5 := blk_frozen BK153.out 5; have hfz9_6 := blk_frozen BK153.out 6; have hfz9_7 := blk_frozen BK153.out 7))
 go_loopg [4] k (fun kq v4 w' => ∃ (x4_1 : Int) (x154007_1 : List (S129)) (u154007 : Value), v4 = .int .i64 x4_1 ∧ Aside0 (heptadlaw28_info.l0 kq x4_1 a0_0 a0_1 a0_2 a0_3 a0_4 a0_5 a0_6 l0_7 a0_0 a0_1 a0_2 a0_3 a0_4 a0_5 a0_6 x154007_1 = some (r1, r2, r3, r4, r5, r6, r7, r8)) ∧ Aside0 (kq ≤ k) ∧ Aside0 (Kd.R k129 129 w' w.heap.size (fun _ => True) u154007 x154007_1) ∧ Aside0 (w'.heap[gb151]? = some (.cells #[.string a0_0, .int .i64 a0_1, .int .i64 a0_2, .string a0_3, .string a0_4, .int .i64 a0_5, .int .i64 a0_6, (.slice A0_7 l0_7.length c0_7)] 66 (0, 0))) ∧ Aside0 (w'.heap[gb152]? = some (.cells #[.string (⟨#[]⟩ : ByteArray), .int .i64 0, .int .i64 0, .string (⟨#[]⟩ : ByteArray), .string (⟨#[]⟩ : ByteArray), .int .i64 0, .int .i64 0, (.slice none 0 0)] 71 (0, 0))) ∧ Aside0 (w'.heap[gb153]? = some (.cells #[.string a0_0, .int .i64 a0_1, .int .i64 a0_2, .string a0_3, .string a0_4, .int .i64 a0_5, .int .i64 a0_6, u154007] 71 (0, 0))) ∧ Aside0 (Below w.heap.size w w'))
 case atStart => exact ⟨(0), (([] : List (S129))), (.slice none 0 0), (by first | rfl | (simp; done) | (simp [*]; done)), H', ⟨Nat.le_refl _⟩, ⟨by first | exact Kd.R_nil _ _ _ _ _ | exact Kd.N_nil _ _ _ _ _ | exact Kd.V_nil _ _ _ _ _ | exact Kd.Q_nil _ _ _ _ _ | exact Kd.S_nil _ _ _ _ _⟩, ⟨by (with_reducible repeat (first | refine blk_drewN ?_ _ | refine blk_drew ?_ | refine blk_alloc ?_ _)); refine blk_far ?_ NB151_153.out _; (with_reducible repeat (first | refine blk_drewN ?_ _ | refine blk_drew ?_ | refine blk_alloc ?_ _)); refine blk_far ?_ NB151_153.out _; (with_reducible repeat (first | refine blk_drewN ?_ _ | refine blk_drew ?_ | refine blk_alloc ?_ _)); refine blk_far ?_ NB151_153.out _; (with_reducible repeat (first | refine blk_drewN ?_ _ | refine blk_drew ?_ | refine blk_alloc ?_ _)); refine blk_far ?_ NB151_153.out _; (with_reducible repeat (first | refine blk_drewN ?_ _ | refine blk_drew ?_ | refine blk_alloc ?_ _)); refine blk_far ?_ NB151_153.out _; (with_reducible repeat (first | refine blk_drewN ?_ _ | refine blk_drew ?_ | refine blk_alloc ?_ _)); refine blk_far ?_ NB151_153.out _; (with_reducible repeat (first | refine blk_drewN ?_ _ | refine blk_drew ?_ | refine blk_alloc ?_ _)); refine blk_far ?_ NB151_153.out _; (with_reducible repeat (first | refine blk_drewN ?_ _ | refine blk_drew ?_ | refine blk_alloc ?_ _)); refine blk_far ?_ NB151_153.out _; (with_reducible repeat (first | refine blk_drewN ?_ _ | refine blk_drew ?_ | refine blk_alloc ?_ _)); exact BK151.out⟩, ⟨by (with_reducible repeat (first | refine blk_drewN ?_ _ | refine blk_drew ?_ | refine blk_alloc ?_ _)); refine blk_far ?_ NB152_153.out _; (with_reducible repeat (first | refine blk_drewN ?_ _ | refine blk_drew ?_ | refine blk_alloc ?_ _)); refine blk_far ?_ NB152_153.out _; (with_reducible repeat (first | refine blk_drewN ?_ _ | refine blk_drew ?_ | refine blk_alloc ?_ _)); refine blk_far ?_ NB152_153.out _; (with_reducible repeat (first | refine blk_drewN ?_ _ | refine blk_drew ?_ | refine blk_alloc ?_ _)); refine blk_far ?_ NB152_153.out _; (with_reducible repeat (first | refine blk_drewN ?_ _ | refine blk_drew ?_ | refine blk_alloc ?_ _)); refine blk_far ?_ NB152_153.out _; (with_reducible repeat (first | refine blk_drewN ?_ _ | refine blk_drew ?_ | refine blk_alloc ?_ _)); refine blk_far ?_ NB152_153.out _; (with_reducible repeat (first | refine blk_drewN ?_ _ | refine blk_drew ?_ | refine blk_alloc ?_ _)); refine blk_far ?_ NB152_153.out _; (with_reducible repeat (first | refine blk_drewN ?_ _ | refine blk_drew ?_ | refine blk_alloc ?_ _)); refine blk_far ?_ NB152_153.out _; (with_reducible repeat (first | refine blk_drewN ?_ _ | refine blk_drew ?_ | refine blk_alloc ?_ _)); exact BK152.out⟩, ⟨by (with_reducible repeat (first | refine blk_drewN ?_ _ | refine blk_drew ?_ | refine blk_alloc ?_ _)); refine blk_put (cs := #[.string a0_0, .int .i64 a0_1, .int .i64 a0_2, .string a0_3, .string a0_4, .int .i64 a0_5, .int .i64 a0_6, .slice none 0 0]) ?_ 7 _ rfl; (with_reducible repeat (first | refine blk_drewN ?_ _ | refine blk_drew ?_ | refine blk_alloc ?_ _)); refine blk_put (cs := #[.string a0_0, .int .i64 a0_1, .int .i64 a0_2, .string a0_3, .string a0_4, .int .i64 a0_5, .int .i64 0, .slice none 0 0]) ?_ 6 _ rfl; (with_reducible repeat (first | refine blk_drewN ?_ _ | refine blk_drew ?_ | refine blk_alloc ?_ _)); refine blk_put (cs := #[.string a0_0, .int .i64 a0_1, .int .i64 a0_2, .string a0_3, .string a0_4, .int .i64 0, .int .i64 0, .slice none 0 0]) ?_ 5 _ rfl; (with_reducible repeat (first | refine blk_drewN ?_ _ | refine blk_drew ?_ | refine blk_alloc ?_ _)); refine blk_put (cs := #[.string a0_0, .int .i64 a0_1, .int .i64 a0_2, .string a0_3, .string (⟨#[]⟩ : ByteArray), .int .i64 0, .int .i64 0, .slice none 0 0]) ?_ 4 _ rfl; (with_reducible repeat (first | refine blk_drewN ?_ _ | refine blk_drew ?_ | refine blk_alloc ?_ _)); refine blk_put (cs := #[.string a0_0, .int .i64 a0_1, .int .i64 a0_2, .string (⟨#[]⟩ : ByteArray), .string (⟨#[]⟩ : ByteArray), .int .i64 0, .int .i64 0, .slice none 0 0]) ?_ 3 _ rfl; (with_reducible repeat (first | refine blk_drewN ?_ _ | refine blk_drew ?_ | refine blk_alloc ?_ _)); refine blk_put (cs := #[.string a0_0, .int .i64 a0_1, .int .i64 0, .string (⟨#[]⟩ : ByteArray), .string (⟨#[]⟩ : ByteArray), .int .i64 0, .int .i64 0, .slice none 0 0]) ?_ 2 _ rfl; (with_reducible repeat (first | refine blk_drewN ?_ _ | refine blk_drew ?_ | refine blk_alloc ?_ _)); refine blk_put (cs := #[.string a0_0, .int .i64 0, .int .i64 0, .string (⟨#[]⟩ : ByteArray), .string (⟨#[]⟩ : ByteArray), .int .i64 0, .int .i64 0, .slice none 0 0]) ?_ 1 _ rfl; (with_reducible repeat (first | refine blk_drewN ?_ _ | refine blk_drew ?_ | refine blk_alloc ?_ _)); refine blk_put (cs := #[.string (⟨#[]⟩ : ByteArray), .int .i64 0, .int .i64 0, .string (⟨#[]⟩ : ByteArray), .string (⟨#[]⟩ : ByteArray), .int .i64 0, .int .i64 0, .slice none 0 0]) ?_ 0 _ rfl; (with_reducible repeat (first | refine blk_drewN ?_ _ | refine blk_drew ?_ | refine blk_alloc ?_ _)); exact BK153.out⟩, ⟨by repeat (first | (with_reducible first | exact HB.out | apply below_alloc | apply pw_below_drewN | apply below_drew1 | refine below_set ?_ GE151.out | refine below_set ?_ GE152.out | refine below_set ?_ GE153.out) | exact HB.out)⟩⟩
 case round =>
  clear H'
  try clear p2
  try clear c4
  try clear c7
  try clear c8
  try clear hcz5_0
  try clear hcz5_1
  try clear hcz5_2
  try clear hcz5_3
  try clear hcz5_4
  try clear hcz5_5
  try clear hcz5_6
  try clear hcz5_7
  try clear hcz9_0
  try clear hcz9_1
  try clear hcz9_2
  try clear hcz9_3
  try clear hcz9_4
  try clear hcz9_5
  try clear hcz9_6
  try clear hcz9_7
  try clear hfz5_0
  try clear hfz5_1
  try clear hfz5_2
  try clear hfz5_3
  try clear hfz5_4
  try clear hfz5_5
  try clear hfz5_6
  try clear hfz5_7
  try clear hfz9_0
  try clear hfz9_1
  try clear hfz9_2
  try clear hfz9_3
  try clear hfz9_4
  try clear hfz9_5
  try clear hfz9_6
  try clear hfz9_7
  obtain ⟨x4_1, x154007_1, u154007, rfl, HA, HK1, HO_154007, BK151, BK152, BK153, HB⟩ := hrel
  cases gk with
  | zero => exact absurd HA.out (by simp [heptadlaw28_info.l0])
  | succ k1 =>
   have H := HA.out
   clear HA
   simp only [heptadlaw28_info.l0] at H
   by_cases c10 : x4_1 < (l0_7.length : Int)
   ·rw [if_pos c10] at H
    have c10b0 : decide (x4_1 < (l0_7.length : Int)) = true := decide_eq_true c10
    clear c10
    by_cases c11 : 0 ≤ x4_1
    ·rw [if_pos c11] at H
     have c11b0 : decide (0 ≤ x4_1) = true := decide_eq_true c11
     clear c11
     by_cases c12 : x154007_1.length < 5864062014805
     ·rw [if_pos c12] at H
      have LMc12 := Aside0.mk c12
      clear c12
      obtain ⟨y156, hy156⟩ : ∃ y_ : List (S129), y_ = (x154007_1 ++ [(⟨(rd_T100 l0_7 x4_1).f0, (rd_T100 l0_7 x4_1).f1⟩ : S129)]) := ⟨_, rfl⟩
      replace H : (heptadlaw28_info.l0 k1 (wrap64 (x4_1 + 1)) a0_0 a0_1 a0_2 a0_3 a0_4 a0_5 a0_6 l0_7 a0_0 a0_1 a0_2 a0_3 a0_4 a0_5 a0_6 y156) = some (r1, r2, r3, r4, r5, r6, r7, r8) := by first | (rw [hy156]; with_reducible exact H) | (have H2_ := (Option.bind_some _ _).symm.trans H; rw [hy156]; with_reducible exact H2_) | (have H2_ := (Option.bind_some _ _).symm.trans H; with_reducible exact H2_) | with_reducible exact H | (rw [hy156]; exact H) | exact H
      have Ny156 := Aside0.mk hy156
      clear hy156
      have H' := Aside0.mk H
      clear H
      have hnb13 := NB151_152.out
      have hnc13 := NB152_151.out
      have hnb14 := NB151_153.out
      have hnc14 := NB153_151.out
      have hcz15_0 : wr.cell? ⟨gb151, 0, none⟩ = some (.string a0_0) := (blk_cell BK151.out 0).trans rfl
      have hcz15_1 : wr.cell? ⟨gb151, 1, none⟩ = some (.int .i64 a0_1) := (blk_cell BK151.out 1).trans rfl
      have hcz15_2 : wr.cell? ⟨gb151, 2, none⟩ = some (.int .i64 a0_2) := (blk_cell BK151.out 2).trans rfl
      have hcz15_3 : wr.cell? ⟨gb151, 3, none⟩ = some (.string a0_3) := (blk_cell BK151.out 3).trans rfl
      have hcz15_4 : wr.cell? ⟨gb151, 4, none⟩ = some (.string a0_4) := (blk_cell BK151.out 4).trans rfl
      have hcz15_5 : wr.cell? ⟨gb151, 5, none⟩ = some (.int .i64 a0_5) := (blk_cell BK151.out 5).trans rfl
      have hcz15_6 : wr.cell? ⟨gb151, 6, none⟩ = some (.int .i64 a0_6) := (blk_cell BK151.out 6).trans rfl
      have hcz15_7 : wr.cell? ⟨gb151, 7, none⟩ = some (.slice A0_7 l0_7.length c0_7) := (blk_cell BK151.out 7).trans rfl
      have hfz15_0 := blk_frozen BK151.out 0
      have hfz15_1 := blk_frozen BK151.out 1
      have hfz15_2 := blk_frozen BK151.out 2
      have hfz15_3 := blk_frozen BK151.out 3
      have hfz15_4 := blk_frozen BK151.out 4
      have hfz15_5 := blk_frozen BK151.out 5
      have hfz15_6 := blk_frozen BK151.out 6
      have hfz15_7 := blk_frozen BK151.out 7
      try go_wp2
      have n0_ := Aside0.mk (Kd.R_drew HO_154007.out)
      have n1_ := Aside0.mk (blk_drew BK151.out)
      have n2_ := Aside0.mk (blk_drew BK152.out)
      have n3_ := Aside0.mk (blk_drew BK153.out)
      have n4_ := Aside0.mk (below_drew1 HB.out)
      clear HO_154007
      clear BK151
      clear BK152
      clear BK153
      clear HB
      have HO_154007 := n0_
      have BK151 := n1_
      have BK152 := n2_
      have BK153 := n3_
      have HB := n4_
      clear n0_ n1_ n2_ n3_ n4_
      have p154 : 0 ≤ (x4_1 : Int) := of_decide_eq_true (by first | (with_reducible assumption) | assumption)
      have q154 : x4_1 < (l0_7.length : Int) := of_decide_eq_true (by first | (with_reducible assumption) | assumption)
      obtain ⟨ad154, e154, hx154_0, hx154_1⟩ := at_T100 HR0_7.out x4_1 p154 q154
      have hw154_1 := hx154_1
      have hw154_0 := hx154_0
      cases e154
      replace hx154_0 := (HB.out.cell (World.block_lt_of_cell? w _ hx154_0)).trans hx154_0
      replace hx154_1 := (HB.out.cell (World.block_lt_of_cell? w _ hx154_1)).trans hx154_1
      replace p154 := eq_true p154
      replace q154 := eq_true q154
      have p155 : 0 ≤ (x4_1 : Int) := of_decide_eq_true (by first | (with_reducible assumption) | assumption)
      have q155 : x4_1 < (l0_7.length : Int) := of_decide_eq_true (by first | (with_reducible assumption) | assumption)
      obtain ⟨ad155, e155, hx155_0, hx155_1⟩ := at_T100 HR0_7.out x4_1 p155 q155
      have hw155_1 := hx155_1
      have hw155_0 := hx155_0
      obtain rfl : ad154 = ad155 := (by injection e155)
      replace hx155_0 := (HB.out.cell (World.block_lt_of_cell? w _ hx155_0)).trans hx155_0
      replace hx155_1 := (HB.out.cell (World.block_lt_of_cell? w _ hx155_1)).trans hx155_1
      replace p155 := eq_true p155
      replace q155 := eq_true q155
      refine start_ (n := 19) (S := fun w' => w'.cell? ⟨gb153, 0, none⟩ = some (.string a0_0) ∧ w'.cell? ⟨gb153, 1, none⟩ = some (.int .i64 a0_1) ∧ w'.cell? ⟨gb153, 2, none⟩ = some (.int .i64 a0_2) ∧ w'.cell? ⟨gb153, 3, none⟩ = some (.string a0_3) ∧ w'.cell? ⟨gb153, 4, none⟩ = some (.string a0_4) ∧ w'.cell? ⟨gb153, 5, none⟩ = some (.int .i64 a0_5) ∧ w'.cell? ⟨gb153, 6, none⟩ = some (.int .i64 a0_6) ∧ w'.cell? ⟨gb153, 7, none⟩ = some (u154007) ∧ w'.cell? ⟨gb151, 0, none⟩ = some (.string a0_0) ∧ w'.cell? ⟨gb151, 1, none⟩ = some (.int .i64 a0_1) ∧ w'.cell? ⟨gb151, 2, none⟩ = some (.int .i64 a0_2) ∧ w'.cell? ⟨gb151, 3, none⟩ = some (.string a0_3) ∧ w'.cell? ⟨gb151, 4, none⟩ = some (.string a0_4) ∧ w'.cell? ⟨gb151, 5, none⟩ = some (.int .i64 a0_5) ∧ w'.cell? ⟨gb151, 6, none⟩ = some (.int .i64 a0_6) ∧ w'.cell? ⟨gb151, 7, none⟩ = some (.slice (some ad154) l0_7.length c0_7) ∧ w'.cell? (ad154.add ((x4_1).toNat * 2)) = some (.string ((rd_T100 l0_7 x4_1).f0)) ∧ w'.cell? ⟨(ad154.add ((x4_1).toNat * 2)).block, (ad154.add ((x4_1).toNat * 2)).off + 1, none⟩ = some (.int .i64 ((rd_T100 l0_7 x4_1).f1)) ∧ w'.cell? (ad154.add ((x4_1).toNat * 2)) = some (.string ((rd_T100 l0_7 x4_1).f0)) ∧ w'.cell? ⟨(ad154.add ((x4_1).toNat * 2)).block, (ad154.add ((x4_1).toNat * 2)).off + 1, none⟩ = some (.int .i64 ((rd_T100 l0_7 x4_1).f1))) (ds := [18]) #[false, false, false, false, false, false, false, false, false, false, false, false, false, false, false, false, false, false, false] (by kernel_rfl) rfl rfl ⟨(blk_cell BK153.out 0).trans rfl, (blk_cell BK153.out 1).trans rfl, (blk_cell BK153.out 2).trans rfl, (blk_cell BK153.out 3).trans rfl, (blk_cell BK153.out 4).trans rfl, (blk_cell BK153.out 5).trans rfl, (blk_cell BK153.out 6).trans rfl, (blk_cell BK153.out 7).trans rfl, (blk_cell BK151.out 0).trans rfl, (blk_cell BK151.out 1).trans rfl, (blk_cell BK151.out 2).trans rfl, (blk_cell BK151.out 3).trans rfl, (blk_cell BK151.out 4).trans rfl, (blk_cell BK151.out 5).trans rfl, (blk_cell BK151.out 6).trans rfl, (blk_cell BK151.out 7).trans rfl, ((HB.out.cell (World.block_lt_of_cell? w _ hw154_0)).trans hw154_0), ((HB.out.cell (World.block_lt_of_cell? w _ hw154_1)).trans hw154_1), ((HB.out.cell (World.block_lt_of_cell? w _ hw155_0)).trans hw155_0), ((HB.out.cell (World.block_lt_of_cell? w _ hw155_1)).trans hw155_1)⟩ (fun hHeld => ?_); refine with_tabW heptadlaw28_info.tab5 heptadlaw28_info.bits5 (fun HT_ HW_ => ?_)
      generalize wr.drew = w16 at HO_154007 BK151 BK152 BK153 HB hx154_0 hx154_1 hx155_0 hx155_1 hHeld ⊢
      refine pure_ (i := 0) (N := some 27) (v := ?_) (a' := ?_) #[true, false, false, false, false, false, false, false, false, false, false, false, false, false, false, false, false, false, false] rfl rfl (any_of HT_.out (by kernel_rfl)) (fun _ _ _ h => h) (Or.inl ⟨by rfl, ?_⟩) ?_ ?_
      rotate_left
      ·intro w'
       go_simp
       with_reducible rfl
      rotate_left
      ·simp only [Act.put, List.setIfInBounds_toArray, List.set_cons_zero, List.set_cons_succ, i64_w, i32_w]
       rfl
      refine pure_ (i := 2) (N := some 29) (v := ?_) (a' := ?_) #[true, false, true, false, false, false, false, false, false, false, false, false, false, false, false, false, false, false, false] rfl rfl (any_of HT_.out (by kernel_rfl)) (fun _ _ _ h => h) (Or.inl ⟨by rfl, ?_⟩) ?_ ?_
      rotate_left
      ·intro w'
       go_simp
       with_reducible rfl
      rotate_left
      ·simp only [Act.put, List.setIfInBounds_toArray, List.set_cons_zero, List.set_cons_succ, i64_w, i32_w]
       rfl
      refine pure_ (i := 4) (N := some 31) (v := ?_) (a' := ?_) #[true, false, true, false, true, false, false, false, false, false, false, false, false, false, false, false, false, false, false] rfl rfl (any_of HT_.out (by kernel_rfl)) (fun _ _ _ h => h) (Or.inl ⟨by rfl, ?_⟩) ?_ ?_
      rotate_left
      ·intro w'
       go_simp
       with_reducible rfl
      rotate_left
      ·simp only [Act.put, List.setIfInBounds_toArray, List.set_cons_zero, List.set_cons_succ, i64_w, i32_w]
       rfl
      refine pure_ (i := 8) (N := some 35) (v := ?_) (a' := ?_) #[true, false, true, false, true, false, false, false, true, false, false, false, false, false, false, false, false, false, false] rfl rfl (any_of HT_.out (by kernel_rfl)) (fun _ _ _ h => h) (Or.inl ⟨by rfl, ?_⟩) ?_ ?_
      rotate_left
      ·intro w'
       go_simp
       with_reducible rfl
      rotate_left
      ·simp only [Act.put, List.setIfInBounds_toArray, List.set_cons_zero, List.set_cons_succ, i64_w, i32_w]
       rfl
      refine pure_ (i := 10) (N := some 37) (v := ?_) (a' := ?_) #[true, false, true, false, true, false, false, false, true, false, true, false, false, false, false, false, false, false, false] rfl rfl (any_of HT_.out (by kernel_rfl)) (fun _ _ _ h => h) (Or.inl ⟨by rfl, ?_⟩) ?_ ?_
      rotate_left
      ·intro w'
       go_simp
       with_reducible rfl
      rotate_left
      ·simp only [Act.put, List.setIfInBounds_toArray, List.set_cons_zero, List.set_cons_succ, i64_w, i32_w]
       rfl
      refine take_ (i := 1) (N := some 28) (v := ?_) (a' := ?_) #[true, true, true, false, true, false, false, false, true, false, true, false, false, false, false, false, false, false, false] rfl rfl (take_ofW HT_.out HW_.out (by kernel_rfl)) (fun _ _ _ h => h) (Or.inl ⟨by rfl, ?_⟩) hHeld ?_ ?_
      rotate_left
      ·rintro w' ⟨s0, s1, s2, s3, s4, s5, s6, s7, s8, s9, s10, s11, s12, s13, s14, s15, s16, s17, s18, s19⟩
       go_simp
       with_reducible rfl
      rotate_left
      ·simp only [Act.put, List.setIfInBounds_toArray, List.set_cons_zero, List.set_cons_succ, i64_w, i32_w]
       rfl
      refine take_ (i := 3) (N := some 30) (v := ?_) (a' := ?_) #[true, true, true, true, true, false, false, false, true, false, true, false, false, false, false, false, false, false, false] rfl rfl (take_ofW HT_.out HW_.out (by kernel_rfl)) (fun _ _ _ h => h) (Or.inl ⟨by rfl, ?_⟩) hHeld ?_ ?_
      rotate_left
      ·rintro w' ⟨s0, s1, s2, s3, s4, s5, s6, s7, s8, s9, s10, s11, s12, s13, s14, s15, s16, s17, s18, s19⟩
       go_simp
       with_reducible rfl
      rotate_left
      ·simp only [Act.put, List.setIfInBounds_toArray, List.set_cons_zero, List.set_cons_succ, i64_w, i32_w]
       rfl
      refine pure_ (i := 5) (N := some 32) (v := ?_) (a' := ?_) #[true, true, true, true, true, true, false, false, true, false, true, false, false, false, false, false, false, false, false] rfl rfl (any_of HT_.out (by kernel_rfl)) (fun _ _ _ h => h) (Or.inl ⟨by rfl, ?_⟩) ?_ ?_
      rotate_left
      ·intro w'
       go_simp
       with_reducible rfl
      rotate_left
      ·simp only [Act.put, List.setIfInBounds_toArray, List.set_cons_zero, List.set_cons_succ, i64_w, i32_w]
       rfl
      refine pure_ (i := 6) (N := some 33) (v := ?_) (a' := ?_) #[true, true, true, true, true, true, true, false, true, false, true, false, false, false, false, false, false, false, false] rfl rfl (any_of HT_.out (by kernel_rfl)) (fun _ _ _ h => h) (Or.inl ⟨by rfl, ?_⟩) ?_ ?_
      rotate_left
      ·intro w'
       go_simp
       with_reducible rfl
      rotate_left
      ·simp only [Act.put, List.setIfInBounds_toArray, List.set_cons_zero, List.set_cons_succ, i64_w, i32_w]
       rfl
      refine take_ (i := 7) (N := some 34) (v := ?_) (a' := ?_) #[true, true, true, true, true, true, true, true, true, false, true, false, false, false, false, false, false, false, false] rfl rfl (take_ofW HT_.out HW_.out (by kernel_rfl)) (fun _ _ _ h => h) (Or.inl ⟨by rfl, ?_⟩) hHeld ?_ ?_
      rotate_left
      ·rintro w' ⟨s0, s1, s2, s3, s4, s5, s6, s7, s8, s9, s10, s11, s12, s13, s14, s15, s16, s17, s18, s19⟩
       go_simp
       with_reducible rfl
      rotate_left
      ·simp only [Act.put, List.setIfInBounds_toArray, List.set_cons_zero, List.set_cons_succ, i64_w, i32_w]
       rfl
      refine take_ (i := 9) (N := some 36) (v := ?_) (a' := ?_) #[true, true, true, true, true, true, true, true, true, true, true, false, false, false, false, false, false, false, false] rfl rfl (take_ofW HT_.out HW_.out (by kernel_rfl)) (fun _ _ _ h => h) (Or.inl ⟨by rfl, ?_⟩) hHeld ?_ ?_
      rotate_left
      ·rintro w' ⟨s0, s1, s2, s3, s4, s5, s6, s7, s8, s9, s10, s11, s12, s13, s14, s15, s16, s17, s18, s19⟩
       go_simp
       with_reducible rfl
      rotate_left
      ·simp only [Act.put, List.setIfInBounds_toArray, List.set_cons_zero, List.set_cons_succ, i64_w, i32_w]
       rfl
      refine pure_ (i := 11) (N := some 38) (v := ?_) (a' := ?_) #[true, true, true, true, true, true, true, true, true, true, true, true, false, false, false, false, false, false, false] rfl rfl (any_of HT_.out (by kernel_rfl)) (fun _ _ _ h => h) (Or.inl ⟨by rfl, ?_⟩) ?_ ?_
      rotate_left
      ·intro w'
       go_simp
       with_reducible rfl
      rotate_left
      ·simp only [Act.put, List.setIfInBounds_toArray, List.set_cons_zero, List.set_cons_succ, i64_w, i32_w]
       rfl
      refine pure_ (i := 12) (N := some 39) (v := ?_) (a' := ?_) #[true, true, true, true, true, true, true, true, true, true, true, true, true, false, false, false, false, false, false] rfl rfl (any_of HT_.out (by kernel_rfl)) (fun _ _ _ h => h) (Or.inl ⟨by rfl, ?_⟩) ?_ ?_
      rotate_left
      ·intro w'
       go_simp
       with_reducible rfl
      rotate_left
      ·simp only [Act.put, List.setIfInBounds_toArray, List.set_cons_zero, List.set_cons_succ, i64_w, i32_w]
       rfl
      refine take_ (i := 13) (N := some 40) (v := ?_) (a' := ?_) #[true, true, true, true, true, true, true, true, true, true, true, true, true, true, false, false, false, false, false] rfl rfl (take_ofW HT_.out HW_.out (by kernel_rfl)) (fun _ _ _ h => h) (Or.inl ⟨by rfl, ?_⟩) hHeld ?_ ?_
      rotate_left
      ·rintro w' ⟨s0, s1, s2, s3, s4, s5, s6, s7, s8, s9, s10, s11, s12, s13, s14, s15, s16, s17, s18, s19⟩
       go_simp
       with_reducible rfl
      rotate_left
      ·simp only [Act.put, List.setIfInBounds_toArray, List.set_cons_zero, List.set_cons_succ, i64_w, i32_w]
       rfl
      refine pure_ (i := 14) (N := some 41) (v := ?_) (a' := ?_) #[true, true, true, true, true, true, true, true, true, true, true, true, true, true, true, false, false, false, false] rfl rfl (any_of HT_.out (by kernel_rfl)) (fun _ _ _ h => h) (Or.inl ⟨by rfl, ?_⟩) ?_ ?_
      rotate_left
      ·intro w'
       go_simp
       with_reducible rfl
      rotate_left
      ·simp only [Act.put, List.setIfInBounds_toArray, List.set_cons_zero, List.set_cons_succ, i64_w, i32_w]
       rfl
      refine one_ (i := 15) (N := some 42) #[true, true, true, true, true, true, true, true, true, true, true, true, true, true, true, true, false, false, false] rfl rfl (one_of HT_.out (by kernel_rfl)) (by decide) (fun K hK => ?_)
      refine value_ (w1 := ?_) (v := ?_) (by rfl) rfl ?_ ?_
      rotate_left 2
      ·go_simp
       constructor
       ·rfl
       ·rfl
      refine hK.out _ _ ⟨(blk_cell (blk_alloc BK153.out _) 0).trans rfl, (blk_cell (blk_alloc BK153.out _) 1).trans rfl, (blk_cell (blk_alloc BK153.out _) 2).trans rfl, (blk_cell (blk_alloc BK153.out _) 3).trans rfl, (blk_cell (blk_alloc BK153.out _) 4).trans rfl, (blk_cell (blk_alloc BK153.out _) 5).trans rfl, (blk_cell (blk_alloc BK153.out _) 6).trans rfl, (blk_cell (blk_alloc BK153.out _) 7).trans rfl, (blk_cell (blk_alloc BK151.out _) 0).trans rfl, (blk_cell (blk_alloc BK151.out _) 1).trans rfl, (blk_cell (blk_alloc BK151.out _) 2).trans rfl, (blk_cell (blk_alloc BK151.out _) 3).trans rfl, (blk_cell (blk_alloc BK151.out _) 4).trans rfl, (blk_cell (blk_alloc BK151.out _) 5).trans rfl, (blk_cell (blk_alloc BK151.out _) 6).trans rfl, (blk_cell (blk_alloc BK151.out _) 7).trans rfl, (World.cell?_alloc_lt _ _ _ (World.block_lt_of_cell? _ _ (((HB.out.cell (World.block_lt_of_cell? w _ hw154_0)).trans hw154_0)))).trans (((HB.out.cell (World.block_lt_of_cell? w _ hw154_0)).trans hw154_0)), (World.cell?_alloc_lt _ _ _ (World.block_lt_of_cell? _ _ (((HB.out.cell (World.block_lt_of_cell? w _ hw154_1)).trans hw154_1)))).trans (((HB.out.cell (World.block_lt_of_cell? w _ hw154_1)).trans hw154_1)), (World.cell?_alloc_lt _ _ _ (World.block_lt_of_cell? _ _ (((HB.out.cell (World.block_lt_of_cell? w _ hw155_0)).trans hw155_0)))).trans (((HB.out.cell (World.block_lt_of_cell? w _ hw155_0)).trans hw155_0)), (World.cell?_alloc_lt _ _ _ (World.block_lt_of_cell? _ _ (((HB.out.cell (World.block_lt_of_cell? w _ hw155_1)).trans hw155_1)))).trans (((HB.out.cell (World.block_lt_of_cell? w _ hw155_1)).trans hw155_1))⟩ (fun hHeld => ?_)
      clear hK K
      refine norm_ (a' := ?_) ?_ ?_
      rotate_left
      ·show Act.put _ (some 42) _ = _
       simp only [Act.put, List.setIfInBounds_toArray, List.set_cons_zero, List.set_cons_succ, i64_w, i32_w]
       rfl
      refine one_ (i := 16) (N := some 43) #[true, true, true, true, true, true, true, true, true, true, true, true, true, true, true, true, true, false, false] rfl rfl (one_of HT_.out (by kernel_rfl)) (by decide) (fun K hK => ?_)
      refine Kd.R_append_step k129 (w0 := w) w.heap.size (by rfl) (.tmp 28) (.tmp 42) 69 129 (.agg #[(.string ⟨#[]⟩), (.int .i64 0)]) 24 rfl Tryz.underlying69 info129 rfl (by decide) (by omega) u154007 x154007_1 (⟨(rd_T100 l0_7 x4_1).f0, (rd_T100 l0_7 x4_1).f1⟩ : S129) [.string ((rd_T100 l0_7 x4_1).f0), .int .i64 ((rd_T100 l0_7 x4_1).f1)] (fun _ => True) (fun _ => False) rfl rfl ?aP (fun _ hk => hk.elim) ?aF ?aO ?aB ?aS ?aL ?_
      (case aP => exact k129_mkM _ _ _ (⟨(rd_T100 l0_7 x4_1).f0, (rd_T100 l0_7 x4_1).f1⟩ : S129))
      (case aB => exact (by repeat (first | (with_reducible first | exact HB.out | apply below_alloc | apply pw_below_drewN | apply below_drew1 | refine below_set ?_ GE151.out | refine below_set ?_ GE152.out | refine below_set ?_ GE153.out) | exact HB.out)))
      (case aF => exact (fun _ _ => trivial))
      (case aO => exact (by (with_reducible repeat (first | apply Kd.R_alloc | apply Kd.R_drewN | apply Kd.R_drew)); exact HO_154007.out))
      (case aS => exact (below_size (by repeat (first | (with_reducible first | exact HB.out | apply below_alloc | apply pw_below_drewN | apply below_drew1 | refine below_set ?_ GE151.out | refine below_set ?_ GE152.out | refine below_set ?_ GE153.out) | exact HB.out))))
      (case aL => have := LMc12.out; omega)
      intro v157 w17 ho hb hg hat
      rw [← Ny156.out] at ho
      have n0_ := Aside0.mk (blk_grown (g := gb151) (o := .cells #[.string a0_0, .int .i64 a0_1, .int .i64 a0_2, .string a0_3, .string a0_4, .int .i64 a0_5, .int .i64 a0_6, .slice (some ad154) l0_7.length c0_7] 66 (0, 0)) (by (with_reducible repeat (first | refine blk_drewN ?_ _ | refine blk_drew ?_ | refine blk_alloc ?_ _)); exact BK151.out) hg (Kd.R_ne HO_154007.out BK151.out (by decide)))
      have n1_ := Aside0.mk (blk_grown (g := gb152) (o := .cells #[.string (⟨#[]⟩ : ByteArray), .int .i64 0, .int .i64 0, .string (⟨#[]⟩ : ByteArray), .string (⟨#[]⟩ : ByteArray), .int .i64 0, .int .i64 0, .slice none 0 0] 71 (0, 0)) (by (with_reducible repeat (first | refine blk_drewN ?_ _ | refine blk_drew ?_ | refine blk_alloc ?_ _)); exact BK152.out) hg (Kd.R_ne HO_154007.out BK152.out (by decide)))
      have n2_ := Aside0.mk (blk_grown (g := gb153) (o := .cells #[.string a0_0, .int .i64 a0_1, .int .i64 a0_2, .string a0_3, .string a0_4, .int .i64 a0_5, .int .i64 a0_6, u154007] 71 (0, 0)) (by (with_reducible repeat (first | refine blk_drewN ?_ _ | refine blk_drew ?_ | refine blk_alloc ?_ _)); exact BK153.out) hg (Kd.R_ne HO_154007.out BK153.out (by decide)))
      have n3_ := Aside0.mk (hb)
      have n4_ := Aside0.mk (ho)
      clear BK151
      clear BK152
      clear BK153
      clear HB
      clear HO_154007
      have BK151 := n0_
      have BK152 := n1_
      have BK153 := n2_
      have HB := n3_
      have HO158 := n4_
      clear n0_ n1_ n2_ n3_ n4_
      clear ho hb hg hat
      obtain ⟨Ao18, co18, eo18⟩ := Kd.R_slice HO158.out
      (first | subst eo18 | (injection eo18 with f1_ f2_ f3_; have f4_ := f1_.symm; have f5_ := f3_.symm; clear f1_ f2_ f3_; subst f4_; subst f5_))
      refine hK.out _ _ ⟨(blk_cell BK153.out 0).trans rfl, (blk_cell BK153.out 1).trans rfl, (blk_cell BK153.out 2).trans rfl, (blk_cell BK153.out 3).trans rfl, (blk_cell BK153.out 4).trans rfl, (blk_cell BK153.out 5).trans rfl, (blk_cell BK153.out 6).trans rfl, (blk_cell BK153.out 7).trans rfl, (blk_cell BK151.out 0).trans rfl, (blk_cell BK151.out 1).trans rfl, (blk_cell BK151.out 2).trans rfl, (blk_cell BK151.out 3).trans rfl, (blk_cell BK151.out 4).trans rfl, (blk_cell BK151.out 5).trans rfl, (blk_cell BK151.out 6).trans rfl, (blk_cell BK151.out 7).trans rfl, ((HB.out.cell (World.block_lt_of_cell? w _ hw154_0)).trans hw154_0), ((HB.out.cell (World.block_lt_of_cell? w _ hw154_1)).trans hw154_1), ((HB.out.cell (World.block_lt_of_cell? w _ hw155_0)).trans hw155_0), ((HB.out.cell (World.block_lt_of_cell? w _ hw155_1)).trans hw155_1)⟩ (fun hHeld => ?_)
      clear hK K
      refine norm_ (a' := ?_) ?_ ?_
      rotate_left
      ·show Act.put _ (some 43) _ = _
       simp only [Act.put, List.setIfInBounds_toArray, List.set_cons_zero, List.set_cons_succ, i64_w, i32_w]
       rfl
      refine pure_ (i := 17) (N := some 44) (v := ?_) (a' := ?_) #[true, true, true, true, true, true, true, true, true, true, true, true, true, true, true, true, true, true, false] rfl rfl (any_of HT_.out (by kernel_rfl)) (fun _ _ _ h => h) (Or.inl ⟨by rfl, ?_⟩) ?_ ?_
      rotate_left
      ·intro w'
       go_simp
       with_reducible rfl
      rotate_left
      ·simp only [Act.put, List.setIfInBounds_toArray, List.set_cons_zero, List.set_cons_succ, i64_w, i32_w]
       rfl
      refine last_ (i := 18) (N := none) #[true, true, true, true, true, true, true, true, true, true, true, true, true, true, true, true, true, true, true] rfl rfl (one_of HT_.out (by kernel_rfl)) (by decide) (fun K hK => ?_)
      have hs19 : w17.cell? ⟨gb153, 7, none⟩ = some (u154007) := (blk_cell BK153.out 7).trans rfl
      have hfs19 := blk_frozen BK153.out 7
      have hns19_0 := NB151_153.out
      have hns19_1 := NB152_153.out
      have hms19_0 := NB153_151.out
      have hms19_1 := NB153_152.out
      refine skip_ (w1 := ?_) (by rfl) rfl ?_ ?_
      rotate_left
      ·go_simp
       rfl
      refine hK.out _ _ ?_
      clear hK K
      refine done_ (done_of HT_.out (by kernel_rfl)) ?_
      try go_wp2
      go_roundg k1
      case measure => have := HK1.out; omega
      case rel => exact ⟨(wrap64 (x4_1 + 1)), (y156), (.slice Ao18 y156.length co18), (by first | rfl | (simp; done) | (simp [*]; done)), H', ⟨by have := HK1.out; omega⟩, ⟨by (with_reducible repeat (first | apply Kd.R_alloc | apply Kd.R_drewN | apply Kd.R_drew)); exact Kd.R_mono (Kd.R_far (p := ⟨gb153, 7, none⟩) (Kd.R_types HO158.out BK153.out (by decide)) (fun _ hk => hk.2) (.slice Ao18 y156.length co18)) (fun _ hk => trivial)⟩, ⟨by (with_reducible repeat (first | refine blk_drewN ?_ _ | refine blk_drew ?_ | refine blk_alloc ?_ _)); refine blk_far ?_ NB151_153.out _; (with_reducible repeat (first | refine blk_drewN ?_ _ | refine blk_drew ?_ | refine blk_alloc ?_ _)); exact BK151.out⟩, ⟨by (with_reducible repeat (first | refine blk_drewN ?_ _ | refine blk_drew ?_ | refine blk_alloc ?_ _)); refine blk_far ?_ NB152_153.out _; (with_reducible repeat (first | refine blk_drewN ?_ _ | refine blk_drew ?_ | refine blk_alloc ?_ _)); exact BK152.out⟩, ⟨by (with_reducible repeat (first | refine blk_drewN ?_ _ | refine blk_drew ?_ | refine blk_alloc ?_ _)); refine blk_put (cs := #[.string a0_0, .int .i64 a0_1, .int .i64 a0_2, .string a0_3, .string a0_4, .int .i64 a0_5, .int .i64 a0_6, u154007]) ?_ 7 _ rfl; (with_reducible repeat (first | refine blk_drewN ?_ _ | refine blk_drew ?_ | refine blk_alloc ?_ _)); exact BK153.out⟩, ⟨by repeat (first | (with_reducible first | exact HB.out | apply below_alloc | apply pw_below_drewN | apply below_drew1 | refine below_set ?_ GE151.out | refine below_set ?_ GE152.out | refine below_set ?_ GE153.out) | exact HB.out)⟩⟩
     ·rw [if_neg c12] at H
      exact absurd H (by simp)
    ·rw [if_neg c11] at H
     exact absurd H (by simp)
   ·rw [if_neg c10] at H
    have c10b0 : decide (x4_1 < (l0_7.length : Int)) = false := decide_eq_false c10
    clear c10
    simp only [Option.some.injEq, Prod.mk.injEq] at H
    obtain ⟨rfl, rfl, rfl, rfl, rfl, rfl, rfl, rfl⟩ := H
    have hnb20 := NB151_152.out
    have hnc20 := NB152_151.out
    have hnb21 := NB151_153.out
    have hnc21 := NB153_151.out
    have hcz22_0 : wr.cell? ⟨gb151, 0, none⟩ = some (.string a0_0) := (blk_cell BK151.out 0).trans rfl
    have hcz22_1 : wr.cell? ⟨gb151, 1, none⟩ = some (.int .i64 a0_1) := (blk_cell BK151.out 1).trans rfl
    have hcz22_2 : wr.cell? ⟨gb151, 2, none⟩ = some (.int .i64 a0_2) := (blk_cell BK151.out 2).trans rfl
    have hcz22_3 : wr.cell? ⟨gb151, 3, none⟩ = some (.string a0_3) := (blk_cell BK151.out 3).trans rfl
    have hcz22_4 : wr.cell? ⟨gb151, 4, none⟩ = some (.string a0_4) := (blk_cell BK151.out 4).trans rfl
    have hcz22_5 : wr.cell? ⟨gb151, 5, none⟩ = some (.int .i64 a0_5) := (blk_cell BK151.out 5).trans rfl
    have hcz22_6 : wr.cell? ⟨gb151, 6, none⟩ = some (.int .i64 a0_6) := (blk_cell BK151.out 6).trans rfl
    have hcz22_7 : wr.cell? ⟨gb151, 7, none⟩ = some (.slice A0_7 l0_7.length c0_7) := (blk_cell BK151.out 7).trans rfl
    have hfz22_0 := blk_frozen BK151.out 0
    have hfz22_1 := blk_frozen BK151.out 1
    have hfz22_2 := blk_frozen BK151.out 2
    have hfz22_3 := blk_frozen BK151.out 3
    have hfz22_4 := blk_frozen BK151.out 4
    have hfz22_5 := blk_frozen BK151.out 5
    have hfz22_6 := blk_frozen BK151.out 6
    have hfz22_7 := blk_frozen BK151.out 7
    have hnb23 := NB153_152.out
    have hnc23 := NB152_153.out
    have hcz24_0 : wr.cell? ⟨gb153, 0, none⟩ = some (.string a0_0) := (blk_cell BK153.out 0).trans rfl
    have hcz24_1 : wr.cell? ⟨gb153, 1, none⟩ = some (.int .i64 a0_1) := (blk_cell BK153.out 1).trans rfl
    have hcz24_2 : wr.cell? ⟨gb153, 2, none⟩ = some (.int .i64 a0_2) := (blk_cell BK153.out 2).trans rfl
    have hcz24_3 : wr.cell? ⟨gb153, 3, none⟩ = some (.string a0_3) := (blk_cell BK153.out 3).trans rfl
    have hcz24_4 : wr.cell? ⟨gb153, 4, none⟩ = some (.string a0_4) := (blk_cell BK153.out 4).trans rfl
    have hcz24_5 : wr.cell? ⟨gb153, 5, none⟩ = some (.int .i64 a0_5) := (blk_cell BK153.out 5).trans rfl
    have hcz24_6 : wr.cell? ⟨gb153, 6, none⟩ = some (.int .i64 a0_6) := (blk_cell BK153.out 6).trans rfl
    have hcz24_7 : wr.cell? ⟨gb153, 7, none⟩ = some (u154007) := (blk_cell BK153.out 7).trans rfl
    have hfz24_0 := blk_frozen BK153.out 0
    have hfz24_1 := blk_frozen BK153.out 1
    have hfz24_2 := blk_frozen BK153.out 2
    have hfz24_3 := blk_frozen BK153.out 3
    have hfz24_4 := blk_frozen BK153.out 4
    have hfz24_5 := blk_frozen BK153.out 5
    have hfz24_6 := blk_frozen BK153.out 6
    have hfz24_7 := blk_frozen BK153.out 7
    have hcz25_0 : wr.cell? ⟨gb152, 0, none⟩ = some (.string (⟨#[]⟩ : ByteArray)) := (blk_cell BK152.out 0).trans rfl
    have hcz25_1 : wr.cell? ⟨gb152, 1, none⟩ = some (.int .i64 0) := (blk_cell BK152.out 1).trans rfl
    have hcz25_2 : wr.cell? ⟨gb152, 2, none⟩ = some (.int .i64 0) := (blk_cell BK152.out 2).trans rfl
    have hcz25_3 : wr.cell? ⟨gb152, 3, none⟩ = some (.string (⟨#[]⟩ : ByteArray)) := (blk_cell BK152.out 3).trans rfl
    have hcz25_4 : wr.cell? ⟨gb152, 4, none⟩ = some (.string (⟨#[]⟩ : ByteArray)) := (blk_cell BK152.out 4).trans rfl
    have hcz25_5 : wr.cell? ⟨gb152, 5, none⟩ = some (.int .i64 0) := (blk_cell BK152.out 5).trans rfl
    have hcz25_6 : wr.cell? ⟨gb152, 6, none⟩ = some (.int .i64 0) := (blk_cell BK152.out 6).trans rfl
    have hcz25_7 : wr.cell? ⟨gb152, 7, none⟩ = some (.slice none 0 0) := (blk_cell BK152.out 7).trans rfl
    have hfz25_0 := blk_frozen BK152.out 0
    have hfz25_1 := blk_frozen BK152.out 1
    have hfz25_2 := blk_frozen BK152.out 2
    have hfz25_3 := blk_frozen BK152.out 3
    have hfz25_4 := blk_frozen BK152.out 4
    have hfz25_5 := blk_frozen BK152.out 5
    have hfz25_6 := blk_frozen BK152.out 6
    have hfz25_7 := blk_frozen BK152.out 7
    obtain ⟨Ao26, co26, eo26⟩ := Kd.R_slice HO_154007.out
    subst eo26
    go_wp2
    refine bodyPost_ret (results_cell_row rfl _ _ gb152 71 #[.string a0_0, .int .i64 a0_1, .int .i64 a0_2, .string a0_3, .string a0_4, .int .i64 a0_5, .int .i64 a0_6, .slice Ao26 x154007_1.length co26] (0, 0) _ rfl (by (with_reducible repeat (first | refine blk_drewN ?_ _ | refine blk_drew ?_ | refine blk_alloc ?_ _)); refine blk_put (cs := #[.string a0_0, .int .i64 a0_1, .int .i64 a0_2, .string a0_3, .string a0_4, .int .i64 a0_5, .int .i64 a0_6, .slice none 0 0]) ?_ 7 _ rfl; (with_reducible repeat (first | refine blk_drewN ?_ _ | refine blk_drew ?_ | refine blk_alloc ?_ _)); refine blk_put (cs := #[.string a0_0, .int .i64 a0_1, .int .i64 a0_2, .string a0_3, .string a0_4, .int .i64 a0_5, .int .i64 0, .slice none 0 0]) ?_ 6 _ rfl; (with_reducible repeat (first | refine blk_drewN ?_ _ | refine blk_drew ?_ | refine blk_alloc ?_ _)); refine blk_put (cs := #[.string a0_0, .int .i64 a0_1, .int .i64 a0_2, .string a0_3, .string a0_4, .int .i64 0, .int .i64 0, .slice none 0 0]) ?_ 5 _ rfl; (with_reducible repeat (first | refine blk_drewN ?_ _ | refine blk_drew ?_ | refine blk_alloc ?_ _)); refine blk_put (cs := #[.string a0_0, .int .i64 a0_1, .int .i64 a0_2, .string a0_3, .string (⟨#[]⟩ : ByteArray), .int .i64 0, .int .i64 0, .slice none 0 0]) ?_ 4 _ rfl; (with_reducible repeat (first | refine blk_drewN ?_ _ | refine blk_drew ?_ | refine blk_alloc ?_ _)); refine blk_put (cs := #[.string a0_0, .int .i64 a0_1, .int .i64 a0_2, .string (⟨#[]⟩ : ByteArray), .string (⟨#[]⟩ : ByteArray), .int .i64 0, .int .i64 0, .slice none 0 0]) ?_ 3 _ rfl; (with_reducible repeat (first | refine blk_drewN ?_ _ | refine blk_drew ?_ | refine blk_alloc ?_ _)); refine blk_put (cs := #[.string a0_0, .int .i64 a0_1, .int .i64 0, .string (⟨#[]⟩ : ByteArray), .string (⟨#[]⟩ : ByteArray), .int .i64 0, .int .i64 0, .slice none 0 0]) ?_ 2 _ rfl; (with_reducible repeat (first | refine blk_drewN ?_ _ | refine blk_drew ?_ | refine blk_alloc ?_ _)); refine blk_put (cs := #[.string a0_0, .int .i64 0, .int .i64 0, .string (⟨#[]⟩ : ByteArray), .string (⟨#[]⟩ : ByteArray), .int .i64 0, .int .i64 0, .slice none 0 0]) ?_ 1 _ rfl; (with_reducible repeat (first | refine blk_drewN ?_ _ | refine blk_drew ?_ | refine blk_alloc ?_ _)); refine blk_put (cs := #[.string (⟨#[]⟩ : ByteArray), .int .i64 0, .int .i64 0, .string (⟨#[]⟩ : ByteArray), .string (⟨#[]⟩ : ByteArray), .int .i64 0, .int .i64 0, .slice none 0 0]) ?_ 0 _ rfl; (with_reducible repeat (first | refine blk_drewN ?_ _ | refine blk_drew ?_ | refine blk_alloc ?_ _)); exact BK152.out) Tryz.underlying71 rfl (by kernel_rfl)) rfl ?_
    exact ⟨_, by first | rfl | (simp [errW_none, errW_some] <;> rfl) | (simp [*, errW_none, errW_some] <;> rfl), by (with_reducible repeat (first | apply Kd.R_alloc | apply Kd.R_drewN | apply Kd.R_drew)); exact Kd.R_mono (Kd.R_far (p := ⟨gb152, 7, none⟩) (Kd.R_far (p := ⟨gb152, 6, none⟩) (Kd.R_far (p := ⟨gb152, 5, none⟩) (Kd.R_far (p := ⟨gb152, 4, none⟩) (Kd.R_far (p := ⟨gb152, 3, none⟩) (Kd.R_far (p := ⟨gb152, 2, none⟩) (Kd.R_far (p := ⟨gb152, 1, none⟩) (Kd.R_far (p := ⟨gb152, 0, none⟩) (Kd.R_types HO_154007.out BK152.out (by decide)) (fun _ hk => hk.2) (.string a0_0)) (fun _ hk => hk.2) (.int .i64 a0_1)) (fun _ hk => hk.2) (.int .i64 a0_2)) (fun _ hk => hk.2) (.string a0_3)) (fun _ hk => hk.2) (.string a0_4)) (fun _ hk => hk.2) (.int .i64 a0_5)) (fun _ hk => hk.2) (.int .i64 a0_6)) (fun _ hk => hk.2) (.slice Ao26 x154007_1.length co26)) (fun _ hk => trivial), by repeat (first | (with_reducible first | exact HB.out | apply below_alloc | apply pw_below_drewN | apply below_drew1 | refine below_set ?_ GE151.out | refine below_set ?_ GE152.out | refine below_set ?_ GE153.out) | exact HB.out)⟩
end Go.Proofs.YtehlmkgldcfciaaGreat.F
-- Written by this repo's wip/tools/myprint.py (the kit's print program, with contracts of our own beside). Lean checks it.
namespace Go.Proofs.YtehlmkgldcfciaaGreat.F
open Go.Proofs.YtehlmkgldcfciaaGreat.Common
open Go.RowKit Go.Proofs.YtehlmkgldcfciaaGreatW.PrintWords Go.Proofs.YtehlmkgldcfciaaGreatW.PrintLast Go.Proofs.YtehlmkgldcfciaaGreatW.PrintMore
set_option linter.unusedVariables false
set_option linter.unusedSimpArgs false
def heptadref01_Strings.l0 : Nat → List ByteArray → List ByteArray → Int → Option (Bool)
 | 0, _, _, _ => none
 | k + 1, x0, x1, x5 => if x5 < (x0.length : Int) then (if 0 ≤ x5 then (if x5 < (x1.length : Int) then (if (rdOf ByteArray.empty x0 x5).toList = (rdOf ByteArray.empty x1 x5).toList then (heptadref01_Strings.l0 k x0 x1 (wrap64 (x5 + 1))) else (some false)) else (none)) else (none)) else (some true)
def heptadref01_Strings.f (k : Nat) (l0 : List ByteArray) (l1 : List ByteArray) : Option (Bool) := if (l0.length : Int) = (l1.length : Int) then (heptadref01_Strings.l0 k l0 l1 0) else (some false)
set_option maxHeartbeats 8000000 in
set_option maxRecDepth 100000 in
theorem heptadref01_Strings.calls (k : Nat) (A0 : Option Addr) (c0 : Nat) (l0 : List ByteArray) (A1 : Option Addr) (c1 : Nat) (l1 : List ByteArray) (r : Bool) (w : World) (hr0 : Kd.C Kd.string w A0 l0.length l0) (hc0 : l0.length ≤ c0) (hr1 : Kd.C Kd.string w A1 l1.length l1) (hc1 : l1.length ≤ c1) (h : heptadref01_Strings.f k l0 l1 = some r) :
  Calls Tryz.prog 8 #[.slice A0 l0.length c0, .slice A1 l1.length c1] w fun e w' => e = .returned (.bool r) ∧ Drawn0 w w' := by
 have HR0 := Aside0.mk hr0
 have HC0 := Aside0.mk hc0
 clear hr0 hc0
 have HR1 := Aside0.mk hr1
 have HC1 := Aside0.mk hc1
 clear hr1 hc1
 have H : (if (l0.length : Int) = (l1.length : Int) then (heptadref01_Strings.l0 k l0 l1 0) else (some false)) = some r := h
 clear h
 by_cases c3 : (l0.length : Int) = (l1.length : Int)
 ·rw [if_pos c3] at H
  have c3b0 : ((l0.length : Int) == (l1.length : Int)) = true := beq_iff_eq.mpr c3
  have c3b1 : ((l0.length : Int) != (l1.length : Int)) = false := bne_eq_false_iff_eq.mpr c3
  have c3b2 : (l0.length == l1.length) = true := by first | simpa using c3 | (simp at c3 ⊢; omega)
  clear c3
  have H' := Aside0.mk H
  clear H
  go_enter Tryz.func8, Tryz.ntmps8
  go_wp2
  repeat (go_quiet (fail); try go_wp2)
  go_loopg [5] k (fun kq v5 w' => ∃ (x5_1 : Int), v5 = .int .i64 x5_1 ∧ Aside0 (heptadref01_Strings.l0 kq l0 l1 x5_1 = some r) ∧ Aside0 (kq ≤ k) ∧ Drawn0 w w')
  case atStart => exact ⟨(0), (by first | rfl | (simp; done) | (simp [*]; done)), H', ⟨Nat.le_refl _⟩, by repeat (first | exact Drawn0.refl _ | apply Drawn0.step)⟩
  case round =>
   clear H'
   try clear c1
   try clear p2
   try clear c3
   try clear c3b0
   try clear c3b1
   try clear c3b2
   obtain ⟨x5_1, rfl, HA, HK1, ⟨m1, rfl⟩⟩ := hrel
   cases gk with
   | zero => exact absurd HA.out (by simp [heptadref01_Strings.l0])
   | succ k1 =>
    have H := HA.out
    clear HA
    simp only [heptadref01_Strings.l0] at H
    by_cases c4 : x5_1 < (l0.length : Int)
    ·rw [if_pos c4] at H
     have c4b0 : decide (x5_1 < (l0.length : Int)) = true := decide_eq_true c4
     clear c4
     by_cases c5 : 0 ≤ x5_1
     ·rw [if_pos c5] at H
      have c5b0 : decide (0 ≤ x5_1) = true := decide_eq_true c5
      clear c5
      by_cases c6 : x5_1 < (l1.length : Int)
      ·rw [if_pos c6] at H
       have c6b0 : decide (x5_1 < (l1.length : Int)) = true := decide_eq_true c6
       clear c6
       by_cases c7 : (rdOf ByteArray.empty l0 x5_1).toList = (rdOf ByteArray.empty l1 x5_1).toList
       ·rw [if_pos c7] at H
        have c7b0 : ((rdOf ByteArray.empty l0 x5_1).toList == (rdOf ByteArray.empty l1 x5_1).toList) = true := beq_iff_eq.mpr c7
        have c7b1 : ((rdOf ByteArray.empty l0 x5_1).toList != (rdOf ByteArray.empty l1 x5_1).toList) = false := bne_eq_false_iff_eq.mpr c7
        clear c7
        have H' := Aside0.mk H
        clear H
        have p159 : 0 ≤ (x5_1 : Int) := of_decide_eq_true (by first | (with_reducible assumption) | assumption)
        have q159 : x5_1 < (l0.length : Int) := of_decide_eq_true (by first | (with_reducible assumption) | assumption)
        obtain ⟨ad159, e159, hx159_0⟩ := Kd.at_string HR0.out x5_1 p159 q159
        cases e159
        replace p159 := eq_true p159
        replace q159 := eq_true q159
        have p160 : 0 ≤ (x5_1 : Int) := of_decide_eq_true (by first | (with_reducible assumption) | assumption)
        have q160 : x5_1 < (l1.length : Int) := of_decide_eq_true (by first | (with_reducible assumption) | assumption)
        obtain ⟨ad160, e160, hx160_0⟩ := Kd.at_string HR1.out x5_1 p160 q160
        cases e160
        replace p160 := eq_true p160
        replace q160 := eq_true q160
        go_wp2
        repeat (go_quiet (fail); try go_wp2)
        go_roundg k1
        case measure => have := HK1.out; omega
        case rel => exact ⟨(wrap64 (x5_1 + 1)), (by first | rfl | (simp; done) | (simp [*]; done)), H', ⟨by have := HK1.out; omega⟩, by repeat (first | exact Drawn0.refl _ | apply Drawn0.step)⟩
       ·rw [if_neg c7] at H
        have c7b0 : ((rdOf ByteArray.empty l0 x5_1).toList == (rdOf ByteArray.empty l1 x5_1).toList) = false := beq_eq_false_iff_ne.mpr c7
        have c7b1 : ((rdOf ByteArray.empty l0 x5_1).toList != (rdOf ByteArray.empty l1 x5_1).toList) = true := bne_iff_ne.mpr c7
        obtain rfl := Option.some.inj H
        have p159 : 0 ≤ (x5_1 : Int) := of_decide_eq_true (by first | (with_reducible assumption) | assumption)
        have q159 : x5_1 < (l0.length : Int) := of_decide_eq_true (by first | (with_reducible assumption) | assumption)
        obtain ⟨ad159, e159, hx159_0⟩ := Kd.at_string HR0.out x5_1 p159 q159
        cases e159
        replace p159 := eq_true p159
        replace q159 := eq_true q159
        have p160 : 0 ≤ (x5_1 : Int) := of_decide_eq_true (by first | (with_reducible assumption) | assumption)
        have q160 : x5_1 < (l1.length : Int) := of_decide_eq_true (by first | (with_reducible assumption) | assumption)
        obtain ⟨ad160, e160, hx160_0⟩ := Kd.at_string HR1.out x5_1 p160 q160
        cases e160
        replace p160 := eq_true p160
        replace q160 := eq_true q160
        go_wp2
        repeat (go_quiet (fail); try go_wp2)
        go_ret
        exact ⟨by first | rfl | (simp; done) | (simp [*]; done), by repeat (first | exact Drawn0.refl _ | apply Drawn0.step)⟩
      ·rw [if_neg c6] at H
       exact absurd H (by simp)
     ·rw [if_neg c5] at H
      exact absurd H (by simp)
    ·rw [if_neg c4] at H
     have c4b0 : decide (x5_1 < (l0.length : Int)) = false := decide_eq_false c4
     clear c4
     obtain rfl := Option.some.inj H
     go_wp2
     repeat (go_quiet (fail); try go_wp2)
     go_ret
     exact ⟨by first | rfl | (simp; done) | (simp [*]; done), by repeat (first | exact Drawn0.refl _ | apply Drawn0.step)⟩
 ·rw [if_neg c3] at H
  have c3b0 : ((l0.length : Int) == (l1.length : Int)) = false := beq_eq_false_iff_ne.mpr c3
  have c3b1 : ((l0.length : Int) != (l1.length : Int)) = true := bne_iff_ne.mpr c3
  have c3b2 : (l0.length == l1.length) = false := by first | simpa using c3 | (simp at c3 ⊢; omega)
  obtain rfl := Option.some.inj H
  go_enter Tryz.func8, Tryz.ntmps8
  go_wp2
  repeat (go_quiet (fail); try go_wp2)
  go_ret
  exact ⟨by first | rfl | (simp; done) | (simp [*]; done), by repeat (first | exact Drawn0.refl _ | apply Drawn0.step)⟩
end Go.Proofs.YtehlmkgldcfciaaGreat.F
/- What the law's own helpers tell: To, Same, info, SameInfo, Strings. -/
set_option linter.unusedVariables false
set_option linter.unusedSimpArgs false
namespace Go.Proofs.YtehlmkgldcfciaaGreat.Files
open Go.Proofs.YtehlmkgldcfciaaGreat.Common Go.Maps Go.ChangeMaps Go.WideMaps Go.Lib Go.Proofs.YtehlmkgldcfciaaGreat.F
open Go.RowKit Go.Proofs.YtehlmkgldcfciaaGreatW.PrintWords Go.Proofs.YtehlmkgldcfciaaGreatW.PrintLast Go.Proofs.YtehlmkgldcfciaaGreatW.PrintMore
theorem To_l0 (l : List S29) (hl : l.length < 3518437208883) : ∀ (d j k : Nat) (acc : List S62), l.length - j = d → j ≤ l.length → d < k → acc.length = j → heptadlaw28_To.l0 k l acc (j : Int) = some (acc ++ (l.drop j).map toU)
  | 0, j, k, acc, hd, hj, hk, ha => by
    obtain ⟨k, rfl⟩ : ∃ m, k = m + 1 := ⟨k - 1, by omega⟩
    simp only [heptadlaw28_To.l0]
    rw [if_neg (by omega), show j = l.length by omega, List.drop_length]
    simp
  | d + 1, j, k, acc, hd, hj, hk, ha => by
    obtain ⟨k, rfl⟩ : ∃ m, k = m + 1 := ⟨k - 1, by omega⟩
    simp only [heptadlaw28_To.l0]
    rw [if_pos (by omega), if_pos (by omega), if_pos (by omega), wr j l.length (by omega) (by omega), To_l0 l hl d (j + 1) k _ (by omega) (by omega) (by omega) (by simp [ha]), drop_at l j (by omega), List.append_assoc]
    all_goals rfl
theorem To_c (A : Option Addr) (c : Nat) (l : List S29) (W : World) (hr : Kd.C k29 W A l.length l) (hc : l.length ≤ c) (hl : l.length ≤ 1000) :
    Calls Tryz.prog 29 #[.slice A l.length c] W fun e w' => ∃ v : Value, e = .returned v ∧ Kd.R k62 62 w' W.heap.size (fun _ => True) v (l.map toU) ∧ Below W.heap.size W w' :=
  heptadlaw28_To.calls (l.length + 1) A c l _ W hr hc (by
    unfold heptadlaw28_To.f
    have := To_l0 l (by omega) l.length 0 (l.length + 1) [] (by omega) (by omega) (by omega) rfl
    rw [List.drop_zero, List.nil_append] at this
    exact this)
theorem Same_l0 (a b : List S62) (hab : a.length = b.length) (hl : a.length ≤ 1000) : ∀ (d j k : Nat), a.length - j = d → j ≤ a.length → d < k → ∃ r, heptadref28_Same.l0 k a b (j : Int) = some r ∧ (a = b → r = true)
  | 0, j, k, hd, hj, hk => by
    obtain ⟨k, rfl⟩ : ∃ m, k = m + 1 := ⟨k - 1, by omega⟩
    simp only [heptadref28_Same.l0]
    rw [if_neg (by omega)]
    exact ⟨true, rfl, fun _ => rfl⟩
  | d + 1, j, k, hd, hj, hk => by
    obtain ⟨k, rfl⟩ : ∃ m, k = m + 1 := ⟨k - 1, by omega⟩
    simp only [heptadref28_Same.l0]
    rw [if_pos (by omega), if_pos (by omega), if_pos (by omega), wr j a.length (by omega) (by omega)]
    split
    · rename_i h
      refine ⟨false, rfl, fun e => ?_⟩
      subst e
      simp at h
    · exact Same_l0 a b hab hl d (j + 1) k (by omega) (by omega) (by omega)
theorem Same_ex (a b : List S62) (hl : a.length ≤ 1000) : ∃ r, heptadref28_Same.f (a.length + 1) a b = some r ∧ (a = b → r = true) := by
  unfold heptadref28_Same.f
  by_cases h : a.length = b.length
  · rw [if_pos (by omega)]
    exact Same_l0 a b h hl a.length 0 _ (by omega) (by omega) (by omega)
  · rw [if_neg (by omega)]
    exact ⟨false, rfl, fun e => absurd (by rw [e]) h⟩
theorem Strings_l0 (a b : List ByteArray) (hab : a.length = b.length) (hl : a.length ≤ 1000) : ∀ (d j k : Nat), a.length - j = d → j ≤ a.length → d < k → ∃ r, heptadref01_Strings.l0 k a b (j : Int) = some r ∧ (a = b → r = true)
  | 0, j, k, hd, hj, hk => by
    obtain ⟨k, rfl⟩ : ∃ m, k = m + 1 := ⟨k - 1, by omega⟩
    simp only [heptadref01_Strings.l0]
    rw [if_neg (by omega)]
    exact ⟨true, rfl, fun _ => rfl⟩
  | d + 1, j, k, hd, hj, hk => by
    obtain ⟨k, rfl⟩ : ∃ m, k = m + 1 := ⟨k - 1, by omega⟩
    simp only [heptadref01_Strings.l0]
    rw [if_pos (by omega), if_pos (by omega), if_pos (by omega), wr j a.length (by omega) (by omega)]
    split
    · exact Strings_l0 a b hab hl d (j + 1) k (by omega) (by omega) (by omega)
    · rename_i h
      refine ⟨false, rfl, fun e => ?_⟩
      subst e
      exact absurd rfl h
theorem Strings_ex (a b : List ByteArray) (hl : a.length ≤ 1000) : ∃ r, heptadref01_Strings.f (a.length + 1) a b = some r ∧ (a = b → r = true) := by
  unfold heptadref01_Strings.f
  by_cases h : a.length = b.length
  · rw [if_pos (by omega)]
    exact Strings_l0 a b h hl a.length 0 _ (by omega) (by omega) (by omega)
  · rw [if_neg (by omega)]
    exact ⟨false, rfl, fun e => absurd (by rw [e]) h⟩
theorem info_l0 (x : FS) (y : FS) (l : List S100) (hl : l.length ≤ 5864062014805) : ∀ (d j k : Nat) (acc : List S129), l.length - j = d → j ≤ l.length → d < k → acc.length = j →
    heptadlaw28_info.l0 k (j : Int) x.name x.kind x.perm x.owner x.last x.ch x.rd l y.name y.kind y.perm y.owner y.last y.ch y.rd acc = some (y.name, y.kind, y.perm, y.owner, y.last, y.ch, y.rd, acc ++ (l.drop j).map toRu)
  | 0, j, k, acc, hd, hj, hk, ha => by
    obtain ⟨k, rfl⟩ : ∃ m, k = m + 1 := ⟨k - 1, by omega⟩
    simp only [heptadlaw28_info.l0]
    rw [if_neg (by omega), show j = l.length by omega, List.drop_length]
    simp
  | d + 1, j, k, acc, hd, hj, hk, ha => by
    obtain ⟨k, rfl⟩ : ∃ m, k = m + 1 := ⟨k - 1, by omega⟩
    simp only [heptadlaw28_info.l0]
    have hdr : l.drop j = rd_T100 l (j : Int) :: l.drop (j + 1) := by
      rw [List.drop_eq_getElem_cons (by omega)]
      congr 1
      simp [rd_T100, List.getD_eq_getElem?_getD, List.getElem?_eq_getElem (show j < l.length by omega)]
    rw [if_pos (by omega), if_pos (by omega), if_pos (by omega), wr j l.length (by omega) (by omega), info_l0 x y l hl d (j + 1) k _ (by omega) (by omega) (by omega) (by simp [ha]), hdr, List.append_assoc]
    all_goals rfl
theorem info_c (x : FS) (A : Option Addr) (c : Nat) (l : List S100) (W : World) (hr : Kd.C k100 W A l.length l) (hc : l.length ≤ c) (hl : l.length ≤ 5864062014805) :
    Calls Tryz.prog 41 #[infoV x (.slice A l.length c)] W fun e w' => ∃ v : Value, e = .returned (infoV x v) ∧ Kd.R k129 129 w' W.heap.size (fun _ => True) v (l.map toRu) ∧ Below W.heap.size W w' :=
  heptadlaw28_info.calls (l.length + 1) x.name x.kind x.perm x.owner x.last x.ch x.rd A c l x.name x.kind x.perm x.owner x.last x.ch x.rd (l.map toRu) W hr hc (by
    unfold heptadlaw28_info.f
    have := info_l0 x x l hl l.length 0 (l.length + 1) [] (by omega) (by omega) (by omega) rfl
    rw [List.drop_zero, List.nil_append] at this
    exact this)
theorem To_s {W : World} {A : Option Addr} {c B : Nat} {ok : Nat → Prop} {l : List S29} (hr : Kd.R k29 29 W B ok (.slice A l.length c) l) (hl : l.length ≤ 1000) :
    Calls Tryz.prog 29 #[.slice A l.length c] W fun e w' => ∃ A' c', e = .returned (.slice A' l.length c') ∧ Kd.R k62 62 w' W.heap.size (fun _ => True) (.slice A' l.length c') (l.map toU) ∧ Below W.heap.size W w' := by
  refine (To_c A c l W (Kd.R_reads' hr).2.2 (Kd.R_reads' hr).2.1 hl).mono ?_
  rintro e w' ⟨v, rfl, h1, h2⟩
  obtain ⟨A', c', hv⟩ := Kd.R_slice h1
  rw [List.length_map] at hv
  subst hv
  exact ⟨A', c', rfl, h1, h2⟩
theorem info_s (x : FS) {W : World} {A : Option Addr} {c B : Nat} {ok : Nat → Prop} {l : List S100} (hr : Kd.R k100 100 W B ok (.slice A l.length c) l) (hl : l.length ≤ 1000) :
    Calls Tryz.prog 41 #[infoV x (.slice A l.length c)] W fun e w' => ∃ A' c', e = .returned (infoV x (.slice A' l.length c')) ∧ Kd.R k129 129 w' W.heap.size (fun _ => True) (.slice A' l.length c') (l.map toRu) ∧ Below W.heap.size W w' := by
  refine (info_c x A c l W (Kd.R_reads' hr).2.2 (Kd.R_reads' hr).2.1 (by omega)).mono ?_
  rintro e w' ⟨v, rfl, h1, h2⟩
  obtain ⟨A', c', hv⟩ := Kd.R_slice h1
  rw [List.length_map] at hv
  subst hv
  exact ⟨A', c', rfl, h1, h2⟩
theorem same_s {α : Type} {d : Kd α} {e : Nat} {W : World} {A : Option Addr} {n c B : Nat} {ok : Nat → Prop} {xs : List α} (h : Kd.R d e W B ok (.slice A n c) xs) : d.C W A xs.length xs ∧ xs.length ≤ c := by
  obtain ⟨h1, h2, h3⟩ := Kd.R_reads' h
  subst h1
  exact ⟨h3, h2⟩
theorem Same_s {W : World} {A0 A1 : Option Addr} {c0 c1 B0 B1 : Nat} {ok0 ok1 : Nat → Prop} {a b : List S29} (h0 : Kd.R k62 62 W B0 ok0 (.slice A0 a.length c0) (a.map toU)) (h1 : Kd.R k62 62 W B1 ok1 (.slice A1 b.length c1) (b.map toU)) (hl : a.length ≤ 1000) :
    ∃ r : Bool, (a = b → r = true) ∧ Calls Tryz.prog 28 #[.slice A0 a.length c0, .slice A1 b.length c1] W fun e w' => e = .returned (.bool r) ∧ Below W.heap.size W w' := by
  obtain ⟨r, hr, hrt⟩ := Same_ex (a.map toU) (b.map toU) (by rw [List.length_map]; exact hl)
  refine ⟨r, fun e => hrt (by rw [e]), ?_⟩
  have := heptadref28_Same.calls _ A0 c0 (a.map toU) A1 c1 (b.map toU) r W (same_s h0).1 (same_s h0).2 (same_s h1).1 (same_s h1).2 hr
  rw [List.length_map, List.length_map] at this
  refine this.mono ?_
  rintro e w' ⟨rfl, hd⟩
  exact ⟨rfl, hd.below⟩
theorem SameInfo_s {W : World} {A0 A1 : Option Addr} {c0 c1 B0 B1 : Nat} {ok0 ok1 : Nat → Prop} (x y : FS) {a b : List S100} (h0 : Kd.R k129 129 W B0 ok0 (.slice A0 a.length c0) (a.map toRu)) (h1 : Kd.R k129 129 W B1 ok1 (.slice A1 b.length c1) (b.map toRu)) (hl : a.length ≤ 10) {r : Bool} (hr : r = sameInfoB x y (a.map toRu) (b.map toRu)) :
    Calls Tryz.prog 40 #[infoV x (.slice A0 a.length c0), infoV y (.slice A1 b.length c1)] W fun e w' => e = .returned (.bool r) ∧ Below W.heap.size W w' := by
  have := SameInfo_c x y A0 A1 c0 c1 (a.map toRu) (b.map toRu) W (same_s h0).1 (same_s h0).2 (same_s h1).1 (same_s h1).2 (by rw [List.length_map]; omega)
  rw [List.length_map, List.length_map, ← hr] at this
  exact this
end Go.Proofs.YtehlmkgldcfciaaGreat.Files
