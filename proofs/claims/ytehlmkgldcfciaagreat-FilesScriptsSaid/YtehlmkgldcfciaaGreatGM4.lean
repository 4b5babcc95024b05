/- The parts of this proof that lie in one text. -/
import Derived.Test.YtehlmkgldcfciaaGreatGM1
import Derived.Test.YtehlmkgldcfciaaGreatGM3
import Derived.Test.YtehlmkgldcfciaaGreatGM2
import Derived.Test.YtehlmkgldcfciaaGreatWRepsOne
import Derived.BigQuiet
-- Written by this repo's wip/tools/myprint.py (the kit's print program, with contracts of our own beside). Lean checks it.
namespace Go.Proofs.YtehlmkgldcfciaaGreat.F
open Go.Proofs.YtehlmkgldcfciaaGreat.Common
open Go.RowKit Go.Proofs.YtehlmkgldcfciaaGreatW.PrintWords Go.Proofs.YtehlmkgldcfciaaGreatW.PrintLast Go.Proofs.YtehlmkgldcfciaaGreatW.PrintMore
set_option linter.unusedVariables false
set_option linter.unusedSimpArgs false
def heptadlaw28_info.l0 : Nat → Int → ByteArray → Int → Int → ByteArray → ByteArray → Int → Int → List (S100) → ByteArray → Int → Int → ByteArray → ByteArray → Int → Int → List (S129) → Option (ByteArray × Int × Int × ByteArray × ByteArray × Int × Int × (List (S129)))
 | 0, _, _, _, _, _, _, _, _, _, _, _, _, _, _, _, _, _ => none
 | k + 1, x4, x152000, x152001, x152002, x152003, x152004, x152005, x152006, x152007, x154000, x154001, x154002, x154003, x154004, x154005, x154006, x154007 => if x4 < (x152007.length : Int) then (if 0 ≤ x4 then (if x154007.length < 5864062014805 then (heptadlaw28_info.l0 k (wrap64 (x4 + 1)) x152000 x152001 x152002 x152003 x152004 x152005 x152006 x152007 x154000 x154001 x154002 x154003 x154004 x154005 x154006 (x154007 ++ [(⟨(rd_T100 x152007 x4).f0, (rd_T100 x152007 x4).f1⟩ : S129)])) else (none)) else (none)) else (some (x154000, x154001, x154002, x154003, x154004, x154005, x154006, x154007))
def heptadlaw28_info.f (k : Nat) (a0_0 : ByteArray) (a0_1 : Int) (a0_2 : Int) (a0_3 : ByteArray) (a0_4 : ByteArray) (a0_5 : Int) (a0_6 : Int) (l0_7 : List (S100)) : Option (ByteArray × Int × Int × ByteArray × ByteArray × Int × Int × (List (S129))) := heptadlaw28_info.l0 k 0 a0_0 a0_1 a0_2 a0_3 a0_4 a0_5 a0_6 l0_7 a0_0 a0_1 a0_2 a0_3 a0_4 a0_5 a0_6 ([] : List (S129))
def heptadlaw28_info.T5 : Bool × List (List Nat × List Nat) := (true, [([], []), ([0], [0]), ([], []), ([2], [2]), ([], []), ([3, 4], [3, 4]), ([5], [5]), ([6], [6]), ([], []), ([8], [8]), ([], []), ([9, 10], [9, 10]), ([11], [11]), ([12], [12]), ([7, 13], [7, 13]), ([14], [14]), ([1, 15], [1, 15]), ([0, 1, 2, 3, 4, 5, 6, 7, 8, 9, 10, 11, 12, 13, 14, 15, 16], []), ([17, 16, 16, 0, 1, 2, 3, 4, 5, 6, 7, 8, 9, 10, 11, 12, 13, 14, 15, 16], [16, 17])])
def heptadlaw28_info.B5 : List Nat := [0, 1, 0, 4, 0, 28, 60, 124, 0, 256, 0, 1792, 3840, 7936, 16380, 32764, 65535, 131071, 262143]
theorem heptadlaw28_info.tab5 : rtab .any (opsOf Tryz.f41 5) = heptadlaw28_info.T5 := by kernel_rfl
theorem heptadlaw28_info.bits5 : waitsOk heptadlaw28_info.T5.2 heptadlaw28_info.B5 = true := by kernel_rfl
set_option maxHeartbeats 8000000 in
set_option maxRecDepth 100000 in
theorem heptadlaw28_info.calls (k : Nat) (a0_0 : ByteArray) (a0_1 : Int) (a0_2 : Int) (a0_3 : ByteArray) (a0_4 : ByteArray) (a0_5 : Int) (a0_6 : Int) (A0_7 : Option Addr) (c0_7 : Nat) (l0_7 : List (S100)) (r1 : ByteArray) (r2 : Int) (r3 : Int) (r4 : ByteArray) (r5 : ByteArray) (r6 : Int) (r7 : Int) (r8 : List (S129)) (w : World) (hr0_7 : Kd.C k100 w A0_7 l0_7.length l0_7) (hc0_7 : l0_7.length ≤ c0_7) (h : heptadlaw28_info.f k a0_0 a0_1 a0_2 a0_3 a0_4 a0_5 a0_6 l0_7 = some (r1, r2, r3, r4, r5, r6, r7, r8)) :
  Calls Tryz.prog 41 #[.agg #[.string a0_0, .int .i64 a0_1, .int .i64 a0_2, .string a0_3, .string a0_4, .int .i64 a0_5, .int .i64 a0_6, .slice A0_7 l0_7.length c0_7]] w fun e w' => ∃ v7_ : Value, e = .returned (.agg #[.string r1, .int .i64 r2, .int .i64 r3, .string r4, .string r5, .int .i64 r6, .int .i64 r7, v7_]) ∧ Kd.R k129 129 w' w.heap.size (fun _ => True) v7_ r8 ∧ Below w.heap.size w w' := by
 have hu66 := Tryz.underlying66
 have hu71 := Tryz.underlying71
 have hu129 := Tryz.underlying129
 have HR0_7 := Aside0.mk hr0_7
 have HC0_7 := Aside0.mk hc0_7
 clear hr0_7 hc0_7
 have HB := Aside0.mk (Below.refl w.heap.size w)
 have H : (heptadlaw28_info.l0 k 0 a0_0 a0_1 a0_2 a0_3 a0_4 a0_5 a0_6 l0_7 a0_0 a0_1 a0_2 a0_3 a0_4 a0_5 a0_6 ([] : List (S129))) = some (r1, r2, r3, r4, r5, r6, r7, r8) := h
 clear h
 have H' := Aside0.mk H
 clear H
 go_enter Tryz.func41, Tryz.ntmps41
 go_wp2_with (first | ((with_reducible refine gate_dst (N := 1) rfl ?_); refine box_event ?hg (N := 1) ?hd (cs := #[.string a0_0, .int .i64 a0_1, .int .i64 a0_2, .string a0_3, .string a0_4, .int .i64 a0_5, .int .i64 a0_6, .slice A0_7 l0_7.length c0_7]) (t := 66) ?hr ?_; (case hd => rfl); (case hg => rfl); (case hr => first | (go_simp; done) | (go_simp; rfl)); intro gb151 hg w2 hbox hb; have n0_ := Aside0.mk (below_step (by repeat (first | (with_reducible first | exact HB.out | apply below_alloc | apply pw_below_drewN | apply below_drew1) | exact HB.out)) hb); have n1_ := Aside0.mk (hbox); have n2_ := Aside0.mk ((by rw [hg]; exact (below_size (by repeat (first | (with_reducible first | exact HB.out | apply below_alloc | apply pw_below_drewN | apply below_drew1) | exact HB.out))) : w.heap.size ≤ gb151)); have n3_ := Aside0.mk ((by rw [hg]; exact (below_size (by repeat (first | (with_reducible first | exact HB.out | apply below_alloc | apply pw_below_drewN | apply below_drew1) | exact HB.out))) : w.heap.size ≤ gb151)); clear HB; have HB := n0_; have BK151 := n1_; have GW151 := n2_; have GE151 := n3_; clear n0_ n1_ n2_ n3_; clear hb hbox hg) | ((with_reducible refine gate_dst (N := 2) rfl ?_); refine box_event ?hg (N := 2) ?hd (cs := #[.string (⟨#[]⟩ : ByteArray), .int .i64 0, .int .i64 0, .string (⟨#[]⟩ : ByteArray), .string (⟨#[]⟩ : ByteArray), .int .i64 0, .int .i64 0, .slice none 0 0]) (t := 71) ?hr ?_; (case hd => rfl); (case hg => rfl); (case hr => first | (go_simp; done) | (go_simp; rfl)); intro gb152 hg w3 hbox hb; have n0_ := Aside0.mk (blk_below (g := gb151) (o := .cells #[.string a0_0, .int .i64 a0_1, .int .i64 a0_2, .string a0_3, .string a0_4, .int .i64 a0_5, .int .i64 a0_6, .slice A0_7 l0_7.length c0_7] 66 (0, 0)) (by (with_reducible repeat (first | refine blk_drewN ?_ _ | refine blk_drew ?_ | refine blk_alloc ?_ _)); exact BK151.out) hb); have n1_ := Aside0.mk (below_step (by repeat (first | (with_reducible first | exact HB.out | apply below_alloc | apply pw_below_drewN | apply below_drew1 | refine below_set ?_ GE151.out) | exact HB.out)) hb); have n2_ := Aside0.mk (hbox); have n3_ := Aside0.mk ((by rw [hg]; exact (below_size (by repeat (first | (with_reducible first | exact HB.out | apply below_alloc | apply pw_below_drewN | apply below_drew1 | refine below_set ?_ GE151.out) | exact HB.out))) : w.heap.size ≤ gb152)); have n4_ := Aside0.mk ((by rw [hg]; exact (below_size (by repeat (first | (with_reducible first | exact HB.out | apply below_alloc | apply pw_below_drewN | apply below_drew1 | refine below_set ?_ GE151.out) | exact HB.out))) : w.heap.size ≤ gb152)); have n5_ := Aside0.mk ((by rw [hg]; exact Nat.ne_of_lt (blk_lt (g := gb151) (o := .cells #[.string a0_0, .int .i64 a0_1, .int .i64 a0_2, .string a0_3, .string a0_4, .int .i64 a0_5, .int .i64 a0_6, .slice A0_7 l0_7.length c0_7] 66 (0, 0)) (by (with_reducible repeat (first | refine blk_drewN ?_ _ | refine blk_drew ?_ | refine blk_alloc ?_ _)); exact BK151.out)) : gb151 ≠ gb152)); have n6_ := Aside0.mk ((by rw [hg]; exact Nat.ne_of_gt (blk_lt (g := gb151) (o := .cells #[.string a0_0, .int .i64 a0_1, .int .i64 a0_2, .string a0_3, .string a0_4, .int .i64 a0_5, .int .i64 a0_6, .slice A0_7 l0_7.length c0_7] 66 (0, 0)) (by (with_reducible repeat (first | refine blk_drewN ?_ _ | refine blk_drew ?_ | refine blk_alloc ?_ _)); exact BK151.out)) : gb152 ≠ gb151)); clear BK151; clear HB; have BK151 := n0_; have HB := n1_; have BK152 := n2_; have GW152 := n3_; have GE152 := n4_; have NB151_152 := n5_; have NB152_151 := n6_; clear n0_ n1_ n2_ n3_ n4_ n5_ n6_; clear hb hbox hg; have hnb4 := NB151_152.out; have hnc4 := NB152_151.out; have hcz5_0 : w3.cell? ⟨gb151, 0, none⟩ = some (.string a0_0) := (blk_cell BK151.out 0).trans rfl; have hcz5_1 : w3.cell? ⟨gb151, 1, none⟩ = some (.int .i64 a0_1) := (blk_cell BK151.out 1).trans rfl; have hcz5_2 : w3.cell? ⟨gb151, 2, none⟩ = some (.int .i64 a0_2) := (blk_cell BK151.out 2).trans rfl; have hcz5_3 : w3.cell? ⟨gb151, 3, none⟩ = some (.string a0_3) := (blk_cell BK151.out 3).trans rfl; have hcz5_4 : w3.cell? ⟨gb151, 4, none⟩ = some (.string a0_4) := (blk_cell BK151.out 4).trans rfl; have hcz5_5 : w3.cell? ⟨gb151, 5, none⟩ = some (.int .i64 a0_5) := (blk_cell BK151.out 5).trans rfl; have hcz5_6 : w3.cell? ⟨gb151, 6, none⟩ = some (.int .i64 a0_6) := (blk_cell BK151.out 6).trans rfl; have hcz5_7 : w3.cell? ⟨gb151, 7, none⟩ = some (.slice A0_7 l0_7.length c0_7) := (blk_cell BK151.out 7).trans rfl; have hfz5_0 := blk_frozen BK151.out 0; have hfz5_1 := blk_frozen BK151.out 1; have hfz5_2 := blk_frozen BK151.out 2; have hfz5_3 := blk_frozen BK151.out 3; have hfz5_4 := blk_frozen BK151.out 4; have hfz5_5 := blk_frozen BK151.out 5; have hfz5_6 := blk_frozen BK151.out 6; have hfz5_7 := blk_frozen BK151.out 7) | ((with_reducible refine gate_dst (N := 3) rfl ?_); refine box_event ?hg (N := 3) ?hd (cs := #[.string (⟨#[]⟩ : ByteArray), .int .i64 0, .int .i64 0, .string (⟨#[]⟩ : ByteArray), .string (⟨#[]⟩ : ByteArray), .int .i64 0, .int .i64 0, .slice none 0 0]) (t := 71) ?hr ?_; (case hd => rfl); (case hg => rfl); (case hr => first | (go_simp; done) | (go_simp; rfl)); intro gb153 hg w6 hbox hb; have n0_ := Aside0.mk (blk_below (g := gb151) (o := .cells #[.string a0_0, .int .i64 a0_1, .int .i64 a0_2, .string a0_3, .string a0_4, .int .i64 a0_5, .int .i64 a0_6, .slice A0_7 l0_7.length c0_7] 66 (0, 0)) (by (with_reducible repeat (first | refine blk_drewN ?_ _ | refine blk_drew ?_ | refine blk_alloc ?_ _)); exact BK151.out) hb); have n1_ := Aside0.mk (blk_below (g := gb152) (o := .cells #[.string (⟨#[]⟩ : ByteArray), .int .i64 0, .int .i64 0, .string (⟨#[]⟩ : ByteArray), .string (⟨#[]⟩ : ByteArray), .int .i64 0, .int .i64 0, .slice none 0 0] 71 (0, 0)) (by (with_reducible repeat (first | refine blk_drewN ?_ _ | refine blk_drew ?_ | refine blk_alloc ?_ _)); exact BK152.out) hb); have n2_ := Aside0.mk (below_step (by repeat (first | (with_reducible first | exact HB.out | apply below_alloc | apply pw_below_drewN | apply below_drew1 | refine below_set ?_ GE151.out | refine below_set ?_ GE152.out) | exact HB.out)) hb); have n3_ := Aside0.mk (hbox); have n4_ := Aside0.mk ((by rw [hg]; exact (below_size (by repeat (first | (with_reducible first | exact HB.out | apply below_alloc | apply pw_below_drewN | apply below_drew1 | refine below_set ?_ GE151.out | refine below_set ?_ GE152.out) | exact HB.out))) : w.heap.size ≤ gb153)); have n5_ := Aside0.mk ((by rw [hg]; exact (below_size (by repeat (first | (with_reducible first | exact HB.out | apply below_alloc | apply pw_below_drewN | apply below_drew1 | refine below_set ?_ GE151.out | refine below_set ?_ GE152.out) | exact HB.out))) : w.heap.size ≤ gb153)); have n6_ := Aside0.mk ((by rw [hg]; exact Nat.ne_of_lt (blk_lt (g := gb151) (o := .cells #[.string a0_0, .int .i64 a0_1, .int .i64 a0_2, .string a0_3, .string a0_4, .int .i64 a0_5, .int .i64 a0_6, .slice A0_7 l0_7.length c0_7] 66 (0, 0)) (by (with_reducible repeat (first | refine blk_drewN ?_ _ | refine blk_drew ?_ | refine blk_alloc ?_ _)); exact BK151.out)) : gb151 ≠ gb153)); have n7_ := Aside0.mk ((by rw [hg]; exact Nat.ne_of_gt (blk_lt (g := gb151) (o := .cells #[.string a0_0, .int .i64 a0_1, .int .i64 a0_2, .string a0_3, .string a0_4, .int .i64 a0_5, .int .i64 a0_6, .slice A0_7 l0_7.length c0_7] 66 (0, 0)) (by (with_reducible repeat (first | refine blk_drewN ?_ _ | refine blk_drew ?_ | refine blk_alloc ?_ _)); exact BK151.out)) : gb153 ≠ gb151)); have n8_ := Aside0.mk ((by rw [hg]; exact Nat.ne_of_lt (blk_lt (g := gb152) (o := .cells #[.string (⟨#[]⟩ : ByteArray), .int .i64 0, .int .i64 0, .string (⟨#[]⟩ : ByteArray), .string (⟨#[]⟩ : ByteArray), .int .i64 0, .int .i64 0, .slice none 0 0] 71 (0, 0)) (by (with_reducible repeat (first | refine blk_drewN ?_ _ | refine blk_drew ?_ | refine blk_alloc ?_ _)); exact BK152.out)) : gb152 ≠ gb153)); have n9_ := Aside0.mk ((by rw [hg]; exact Nat.ne_of_gt (blk_lt (g := gb152) (o := .cells #[.string (⟨#[]⟩ : ByteArray), .int .i64 0, .int .i64 0, .string (⟨#[]⟩ : ByteArray), .string (⟨#[]⟩ : ByteArray), .int .i64 0, .int .i64 0, .slice none 0 0] 71 (0, 0)) (by (with_reducible repeat (first | refine blk_drewN ?_ _ | refine blk_drew ?_ | refine blk_alloc ?_ _)); exact BK152.out)) : gb153 ≠ gb152)); clear BK151; clear BK152; clear HB; have BK151 := n0_; have BK152 := n1_; have HB := n2_; have BK153 := n3_; have GW153 := n4_; have GE153 := n5_; have NB151_153 := n6_; have NB153_151 := n7_; have NB152_153 := n8_; have NB153_152 := n9_; clear n0_ n1_ n2_ n3_ n4_ n5_ n6_ n7_ n8_ n9_; clear hb hbox hg; have hnb7 := NB153_151.out; have hnc7 := NB151_153.out; have hnb8 := NB153_152.out; have hnc8 := NB152_153.out; have hcz9_0 : w6.cell? ⟨gb153, 0, none⟩ = some (.string (⟨#[]⟩ : ByteArray)) := (blk_cell BK153.out 0).trans rfl; have hcz9_1 : w6.cell? ⟨gb153, 1, none⟩ = some (.int .i64 0) := (blk_cell BK153.out 1).trans rfl; have hcz9_2 : w6.cell? ⟨gb153, 2, none⟩ = some (.int .i64 0) := (blk_cell BK153.out 2).trans rfl; have hcz9_3 : w6.cell? ⟨gb153, 3, none⟩ = some (.string (⟨#[]⟩ : ByteArray)) := (blk_cell BK153.out 3).trans rfl; have hcz9_4 : w6.cell? ⟨gb153, 4, none⟩ = some (.string (⟨#[]⟩ : ByteArray)) := (blk_cell BK153.out 4).trans rfl; have hcz9_5 : w6.cell? ⟨gb153, 5, none⟩ = some (.int .i64 0) := (blk_cell BK153.out 5).trans rfl; have hcz9_6 : w6.cell? ⟨gb153, 6, none⟩ = some (.int .i64 0) := (blk_cell BK153.out 6).trans rfl; have hcz9_7 : w6.cell? ⟨gb153, 7, none⟩ = some (.slice none 0 0) := (blk_cell BK153.out 7).trans rfl; have hfz9_0 := blk_frozen BK153.out 0; have hfz9_1 := blk_frozen BK153.out 1; have hfz9_2 := blk_frozen BK153.out 2; have hfz9_3 := blk_frozen BK153.out 3; have hfz9_4 := blk_frozen BK153.out 4; have hfz9_5 := blk_frozen BK153.out 5; have hfz9_6 := blk_frozen BK153.out 6; have hfz9_7 := blk_frozen BK153.out 7))
 go_loopg [4] k (fun kq v4 w' => ∃ (x4_1 : Int) (x154007_1 : List (S129)) (u154007 : Value), v4 = .int .i64 x4_1 ∧ Aside0 (heptadlaw28_info.l0 kq x4_1 a0_0 a0_1 a0_2 a0_3 a0_4 a0_5 a0_6 l0_7 a0_0 a0_1 a0_2 a0_3 a0_4 a0_5 a0_6 x154007_1 = some (r1, r2, r3, r4, r5, r6, r7, r8)) ∧ Aside0 (kq ≤ k) ∧ Aside0 (Kd.R k129 129 w' w.heap.size (fun _ => True) u154007 x154007_1) ∧ Aside0 (w'.heap[gb151]? = some (.cells #[.string a0_0, .int .i64 a0_1, .int .i64 a0_2, .string a0_3, .string a0_4, .int .i64 a0_5, .int .i64 a0_6, (.slice A0_7 l0_7.length c0_7)] 66 (0, 0))) ∧ Aside0 (w'.heap[gb152]? = some (.cells #[.string (⟨#[]⟩ : ByteArray), .int .i64 0, .int .i64 0, .string (⟨#[]⟩ : ByteArray), .string (⟨#[]⟩ : ByteArray), .int .i64 0, .int .i64 0, (.slice none 0 0)] 71 (0, 0))) ∧ Aside0 (w'.heap[gb153]? = some (.cells #[.string a0_0, .int .i64 a0_1, .int .i64 a0_2, .string a0_3, .string a0_4, .int .i64 a0_5, .int .i64 a0_6, u154007] 71 (0, 0))) ∧ Aside0 (Below w.heap.size w w'))
 case atStart => exact ⟨(0), (([] : List (S129))), (.slice none 0 0), (by first | rfl | (simp; done) | (simp [*]; done)), H', ⟨Nat.le_refl _⟩, ⟨by first | exact Kd.R_nil _ _ _ _ _ | exact Kd.N_nil _ _ _ _ _ | exact Kd.V_nil _ _ _ _ _ | exact Kd.Q_nil _ _ _ _ _ | exact Kd.S_nil _ _ _ _ _⟩, ⟨by (with_reducible repeat (first | refine blk_drewN ?_ _ | refine blk_drew ?_ | refine blk_alloc ?_ _)); refine blk_far ?_ NB151_153.out _; (with_reducible repeat (first | refine blk_drewN ?_ _ | refine blk_drew ?_ | refine blk_alloc ?_ _)); refine blk_far ?_ NB151_153.out _; (with_reducible repeat (first | refine blk_drewN ?_ _ | refine blk_drew ?_ | refine blk_alloc ?_ _)); refine blk_far ?_ NB151_153.out _; (with_reducible repeat (first | refine blk_drewN ?_ _ | refine blk_drew ?_ | refine blk_alloc ?_ _)); refine blk_far ?_ NB151_153.out _; (with_reducible repeat (first | refine blk_drewN ?_ _ | refine blk_drew ?_ | refine blk_alloc ?_ _)); refine blk_far ?_ NB151_153.out _; (with_reducible repeat (first | refine blk_drewN ?_ _ | refine blk_drew ?_ | refine blk_alloc ?_ _)); refine blk_far ?_ NB151_153.out _; (with_reducible repeat (first | refine blk_drewN ?_ _ | refine blk_drew ?_ | refine blk_alloc ?_ _)); refine blk_far ?_ NB151_153.out _; (with_reducible repeat (first | refine blk_drewN ?_ _ | refine blk_drew ?_ | refine blk_alloc ?_ _)); refine blk_far ?_ NB151_153.out _; (with_reducible repeat (first | refine blk_drewN ?_ _ | refine blk_drew ?_ | refine blk_alloc ?_ _)); exact BK151.out⟩, ⟨by (with_reducible repeat (first | refine blk_drewN ?_ _ | refine blk_drew ?_ | refine blk_alloc ?_ _)); refine blk_far ?_ NB152_153.out _; (with_reducible repeat (first | refine blk_drewN ?_ _ | refine blk_drew ?_ | refine blk_alloc ?_ _)); refine blk_far ?_ NB152_153.out _; (with_reducible repeat (first | refine blk_drewN ?_ _ | refine blk_drew ?_ | refine blk_alloc ?_ _)); refine blk_far ?_ NB152_153.out _; (with_reducible repeat (first | refine blk_drewN ?_ _ | refine blk_drew ?_ | refine blk_alloc ?_ _)); refine blk_far ?_ NB152_153.out _; (with_reducible repeat (first | refine blk_drewN ?_ _ | refine blk_drew ?_ | refine blk_alloc ?_ _)); refine blk_far ?_ NB152_153.out _; (with_reducible repeat (first | refine blk_drewN ?_ _ | refine blk_drew ?_ | refine blk_alloc ?_ _)); refine blk_far ?_ NB152_153.out _; (with_reducible repeat (first | refine blk_drewN ?_ _ | refine blk_drew ?_ | refine blk_alloc ?_ _)); refine blk_far ?_ NB152_153.out _; (with_reducible repeat (first | refine blk_drewN ?_ _ | refine blk_drew ?_ | refine blk_alloc ?_ _)); refine blk_far ?_ NB152_153.out _; (with_reducible repeat (first | refine blk_drewN ?_ _ | refine blk_drew ?_ | refine blk_alloc ?_ _)); exact BK152.out⟩, ⟨by (with_reducible repeat (first | refine blk_drewN ?_ _ | refine blk_drew ?_ | refine blk_alloc ?_ _)); refine blk_put (cs := #[.string a0_0, .int .i64 a0_1, .int .i64 a0_2, .string a0_3, .string a0_4, .int .i64 a0_5, .int .i64 a0_6, .slice none 0 0]) ?_ 7 _ rfl; (with_reducible repeat (first | refine blk_drewN ?_ _ | refine blk_drew ?_ | refine blk_alloc ?_ _)); refine blk_put (cs := #[.string a0_0, .int .i64 a0_1, .int .i64 a0_2, .string a0_3, .string a0_4, .int .i64 a0_5, .int .i64 0, .slice none 0 0]) ?_ 6 _ rfl; (with_reducible repeat (first | refine blk_drewN ?_ _ | refine blk_drew ?_ | refine blk_alloc ?_ _)); refine blk_put (cs := #[.string a0_0, .int .i64 a0_1, .int .i64 a0_2, .string a0_3, .string a0_4, .int .i64 0, .int .i64 0, .slice none 0 0]) ?_ 5 _ rfl; (with_reducible repeat (first | refine blk_drewN ?_ _ | refine blk_drew ?_ | refine blk_alloc ?_ _)); refine blk_put (cs := #[.string a0_0, .int .i64 a0_1, .int .i64 a0_2, .string a0_3, .string (⟨#[]⟩ : ByteArray), .int .i64 0, .int .i64 0, .slice none 0 0]) ?_ 4 _ rfl; (with_reducible repeat (first | refine blk_drewN ?_ _ | refine blk_drew ?_ | refine blk_alloc ?_ _)); refine blk_put (cs := #[.string a0_0, .int .i64 a0_1, .int .i64 a0_2, .string (⟨#[]⟩ : ByteArray), .string (⟨#[]⟩ : ByteArray), .int .i64 0, .int .i64 0, .slice none 0 0]) ?_ 3 _ rfl; (with_reducible repeat (first | refine blk_drewN ?_ _ | refine blk_drew ?_ | refine blk_alloc ?_ _)); refine blk_put (cs := #[.string a0_0, .int .i64 a0_1, .int .i64 0, .string (⟨#[]⟩ : ByteArray), .string (⟨#[]⟩ : ByteArray), .int .i64 0, .int .i64 0, .slice none 0 0]) ?_ 2 _ rfl; (with_reducible repeat (first | refine blk_drewN ?_ _ | refine blk_drew ?_ | refine blk_alloc ?_ _)); refine blk_put (cs := #[.string a0_0, .int .i64 0, .int .i64 0, .string (⟨#[]⟩ : ByteArray), .string (⟨#[]⟩ : ByteArray), .int .i64 0, .int .i64 0, .slice none 0 0]) ?_ 1 _ rfl; (with_reducible repeat (first | refine blk_drewN ?_ _ | refine blk_drew ?_ | refine blk_alloc ?_ _)); refine blk_put (cs := #[.string (⟨#[]⟩ : ByteArray), .int .i64 0, .int .i64 0, .string (⟨#[]⟩ : ByteArray), .string (⟨#[]⟩ : ByteArray), .int .i64 0, .int .i64 0, .slice none 0 0]) ?_ 0 _ rfl; (with_reducible repeat (first | refine blk_drewN ?_ _ | refine blk_drew ?_ | refine blk_alloc ?_ _)); exact BK153.out⟩, ⟨by repeat (first | (with_reducible first | exact HB.out | apply below_alloc | apply pw_below_drewN | apply below_drew1 | refine below_set ?_ GE151.out | refine below_set ?_ GE152.out | refine below_set ?_ GE153.out) | exact HB.out)⟩⟩
 case round =>
  clear H'
  try clear p2
  try clear c4
  try clear c7
  try clear c8
  try clear hcz5_0
  try clear hcz5_1
  try clear hcz5_2
  try clear hcz5_3
  try clear hcz5_4
  try clear hcz5_5
  try clear hcz5_6
  try clear hcz5_7
  try clear hcz9_0
  try clear hcz9_1
  try clear hcz9_2
  try clear hcz9_3
  try clear hcz9_4
  try clear hcz9_5
  try clear hcz9_6
  try clear hcz9_7
  try clear hfz5_0
  try clear hfz5_1
  try clear hfz5_2
  try clear hfz5_3
  try clear hfz5_4
  try clear hfz5_5
  try clear hfz5_6
  try clear hfz5_7
  try clear hfz9_0
  try clear hfz9_1
  try clear hfz9_2
  try clear hfz9_3
  try clear hfz9_4
  try clear hfz9_5
  try clear hfz9_6
  try clear hfz9_7
  obtain ⟨x4_1, x154007_1, u154007, rfl, HA, HK1, HO_154007, BK151, BK152, BK153, HB⟩ := hrel
  cases gk with
  | zero => exact absurd HA.out (by simp [heptadlaw28_info.l0])
  | succ k1 =>
   have H := HA.out
   clear HA
   simp only [heptadlaw28_info.l0] at H
   by_cases c10 : x4_1 < (l0_7.length : Int)
   ·rw [if_pos c10] at H
    have c10b0 : decide (x4_1 < (l0_7.length : Int)) = true := decide_eq_true c10
    clear c10
    by_cases c11 : 0 ≤ x4_1
    ·rw [if_pos c11] at H
     have c11b0 : decide (0 ≤ x4_1) = true := decide_eq_true c11
     clear c11
     by_cases c12 : x154007_1.length < 5864062014805
     ·rw [if_pos c12] at H
      have LMc12 := Aside0.mk c12
      clear c12
      obtain ⟨y156, hy156⟩ : ∃ y_ : List (S129), y_ = (x154007_1 ++ [(⟨(rd_T100 l0_7 x4_1).f0, (rd_T100 l0_7 x4_1).f1⟩ : S129)]) := ⟨_, rfl⟩
      replace H : (heptadlaw28_info.l0 k1 (wrap64 (x4_1 + 1)) a0_0 a0_1 a0_2 a0_3 a0_4 a0_5 a0_6 l0_7 a0_0 a0_1 a0_2 a0_3 a0_4 a0_5 a0_6 y156) = some (r1, r2, r3, r4, r5, r6, r7, r8) := by first | (rw [hy156]; with_reducible exact H) | (have H2_ := (Option.bind_some _ _).symm.trans H; rw [hy156]; with_reducible exact H2_) | (have H2_ := (Option.bind_some _ _).symm.trans H; with_reducible exact H2_) | with_reducible exact H | (rw [hy156]; exact H) | exact H
      have Ny156 := Aside0.mk hy156
      clear hy156
      have H' := Aside0.mk H
      clear H
      have hnb13 := NB151_152.out
      have hnc13 := NB152_151.out
      have hnb14 := NB151_153.out
      have hnc14 := NB153_151.out
      have hcz15_0 : wr.cell? ⟨gb151, 0, none⟩ = some (.string a0_0) := (blk_cell BK151.out 0).trans rfl
      have hcz15_1 : wr.cell? ⟨gb151, 1, none⟩ = some (.int .i64 a0_1) := (blk_cell BK151.out 1).trans rfl
      have hcz15_2 : wr.cell? ⟨gb151, 2, none⟩ = some (.int .i64 a0_2) := (blk_cell BK151.out 2).trans rfl
      have hcz15_3 : wr.cell? ⟨gb151, 3, none⟩ = some (.string a0_3) := (blk_cell BK151.out 3).trans rfl
      have hcz15_4 : wr.cell? ⟨gb151, 4, none⟩ = some (.string a0_4) := (blk_cell BK151.out 4).trans rfl
      have hcz15_5 : wr.cell? ⟨gb151, 5, none⟩ = some (.int .i64 a0_5) := (blk_cell BK151.out 5).trans rfl
      have hcz15_6 : wr.cell? ⟨gb151, 6, none⟩ = some (.int .i64 a0_6) := (blk_cell BK151.out 6).trans rfl
      have hcz15_7 : wr.cell? ⟨gb151, 7, none⟩ = some (.slice A0_7 l0_7.length c0_7) := (blk_cell BK151.out 7).trans rfl
      have hfz15_0 := blk_frozen BK151.out 0
      have hfz15_1 := blk_frozen BK151.out 1
      have hfz15_2 := blk_frozen BK151.out 2
      have hfz15_3 := blk_frozen BK151.out 3
      have hfz15_4 := blk_frozen BK151.out 4
      have hfz15_5 := blk_frozen BK151.out 5
      have hfz15_6 := blk_frozen BK151.out 6
      have hfz15_7 := blk_frozen BK151.out 7
      try go_wp2
      have n0_ := Aside0.mk (Kd.R_drew HO_154007.out)
      have n1_ := Aside0.mk (blk_drew BK151.out)
      have n2_ := Aside0.mk (blk_drew BK152.out)
      have n3_ := Aside0.mk (blk_drew BK153.out)
      have n4_ := Aside0.mk (below_drew1 HB.out)
      clear HO_154007
      clear BK151
      clear BK152
      clear BK153
      clear HB
      have HO_154007 := n0_
      have BK151 := n1_
      have BK152 := n2_
      have BK153 := n3_
      have HB := n4_
      clear n0_ n1_ n2_ n3_ n4_
      have p154 : 0 ≤ (x4_1 : Int) := of_decide_eq_true (by first | (with_reducible assumption) | assumption)
      have q154 : x4_1 < (l0_7.length : Int) := of_decide_eq_true (by first | (with_reducible assumption) | assumption)
      obtain ⟨ad154, e154, hx154_0, hx154_1⟩ := at_T100 HR0_7.out x4_1 p154 q154
      have hw154_1 := hx154_1
      have hw154_0 := hx154_0
      cases e154
      replace hx154_0 := (HB.out.cell (World.block_lt_of_cell? w _ hx154_0)).trans hx154_0
      replace hx154_1 := (HB.out.cell (World.block_lt_of_cell? w _ hx154_1)).trans hx154_1
      replace p154 := eq_true p154
      replace q154 := eq_true q154
      have p155 : 0 ≤ (x4_1 : Int) := of_decide_eq_true (by first | (with_reducible assumption) | assumption)
      have q155 : x4_1 < (l0_7.length : Int) := of_decide_eq_true (by first | (with_reducible assumption) | assumption)
      obtain ⟨ad155, e155, hx155_0, hx155_1⟩ := at_T100 HR0_7.out x4_1 p155 q155
      have hw155_1 := hx155_1
      have hw155_0 := hx155_0
      obtain rfl : ad154 = ad155 := (by injection e155)
      replace hx155_0 := (HB.out.cell (World.block_lt_of_cell? w _ hx155_0)).trans hx155_0
      replace hx155_1 := (HB.out.cell (World.block_lt_of_cell? w _ hx155_1)).trans hx155_1
      replace p155 := eq_true p155
      replace q155 := eq_true q155
      refine start_ (n := 19) (S := fun w' => w'.cell? ⟨gb153, 0, none⟩ = some (.string a0_0) ∧ w'.cell? ⟨gb153, 1, none⟩ = some (.int .i64 a0_1) ∧ w'.cell? ⟨gb153, 2, none⟩ = some (.int .i64 a0_2) ∧ w'.cell? ⟨gb153, 3, none⟩ = some (.string a0_3) ∧ w'.cell? ⟨gb153, 4, none⟩ = some (.string a0_4) ∧ w'.cell? ⟨gb153, 5, none⟩ = some (.int .i64 a0_5) ∧ w'.cell? ⟨gb153, 6, none⟩ = some (.int .i64 a0_6) ∧ w'.cell? ⟨gb153, 7, none⟩ = some (u154007) ∧ w'.cell? ⟨gb151, 0, none⟩ = some (.string a0_0) ∧ w'.cell? ⟨gb151, 1, none⟩ = some (.int .i64 a0_1) ∧ w'.cell? ⟨gb151, 2, none⟩ = some (.int .i64 a0_2) ∧ w'.cell? ⟨gb151, 3, none⟩ = some (.string a0_3) ∧ w'.cell? ⟨gb151, 4, none⟩ = some (.string a0_4) ∧ w'.cell? ⟨gb151, 5, none⟩ = some (.int .i64 a0_5) ∧ w'.cell? ⟨gb151, 6, none⟩ = some (.int .i64 a0_6) ∧ w'.cell? ⟨gb151, 7, none⟩ = some (.slice (some ad154) l0_7.length c0_7) ∧ w'.cell? (ad154.add ((x4_1).toNat * 2)) = some (.string ((rd_T100 l0_7 x4_1).f0)) ∧ w'.cell? ⟨(ad154.add ((x4_1).toNat * 2)).block, (ad154.add ((x4_1).toNat * 2)).off + 1, none⟩ = some (.int .i64 ((rd_T100 l0_7 x4_1).f1)) ∧ w'.cell? (ad154.add ((x4_1).toNat * 2)) = some (.string ((rd_T100 l0_7 x4_1).f0)) ∧ w'.cell? ⟨(ad154.add ((x4_1).toNat * 2)).block, (ad154.add ((x4_1).toNat * 2)).off + 1, none⟩ = some (.int .i64 ((rd_T100 l0_7 x4_1).f1))) (ds := [18]) #[false, false, false, false, false, false, false, false, false, false, false, false, false, false, false, false, false, false, false] (by kernel_rfl) rfl rfl ⟨(blk_cell BK153.out 0).trans rfl, (blk_cell BK153.out 1).trans rfl, (blk_cell BK153.out 2).trans rfl, (blk_cell BK153.out 3).trans rfl, (blk_cell BK153.out 4).trans rfl, (blk_cell BK153.out 5).trans rfl, (blk_cell BK153.out 6).trans rfl, (blk_cell BK153.out 7).trans rfl, (blk_cell BK151.out 0).trans rfl, (blk_cell BK151.out 1).trans rfl, (blk_cell BK151.out 2).trans rfl, (blk_cell BK151.out 3).trans rfl, (blk_cell BK151.out 4).trans rfl, (blk_cell BK151.out 5).trans rfl, (blk_cell BK151.out 6).trans rfl, (blk_cell BK151.out 7).trans rfl, ((HB.out.cell (World.block_lt_of_cell? w _ hw154_0)).trans hw154_0), ((HB.out.cell (World.block_lt_of_cell? w _ hw154_1)).trans hw154_1), ((HB.out.cell (World.block_lt_of_cell? w _ hw155_0)).trans hw155_0), ((HB.out.cell (World.block_lt_of_cell? w _ hw155_1)).trans hw155_1)⟩ (fun hHeld => ?_); refine with_tabW heptadlaw28_info.tab5 heptadlaw28_info.bits5 (fun HT_ HW_ => ?_)
      generalize wr.drew = w16 at HO_154007 BK151 BK152 BK153 HB hx154_0 hx154_1 hx155_0 hx155_1 hHeld ⊢
      refine pure_ (i := 0) (N := some 27) (v := ?_) (a' := ?_) #[true, false, false, false, false, false, false, false, false, false, false, false, false, false, false, false, false, false, false] rfl rfl (any_of HT_.out (by kernel_rfl)) (fun _ _ _ h => h) (Or.inl ⟨by rfl, ?_⟩) ?_ ?_
      rotate_left
      ·intro w'
       go_simp
       with_reducible rfl
      rotate_left
      ·simp only [Act.put, List.setIfInBounds_toArray, List.set_cons_zero, List.set_cons_succ, i64_w, i32_w]
       rfl
      refine pure_ (i := 2) (N := some 29) (v := ?_) (a' := ?_) #[true, false, true, false, false, false, false, false, false, false, false, false, false, false, false, false, false, false, false] rfl rfl (any_of HT_.out (by kernel_rfl)) (fun _ _ _ h => h) (Or.inl ⟨by rfl, ?_⟩) ?_ ?_
      rotate_left
      ·intro w'
       go_simp
       with_reducible rfl
      rotate_left
      ·simp only [Act.put, List.setIfInBounds_toArray, List.set_cons_zero, List.set_cons_succ, i64_w, i32_w]
       rfl
      refine pure_ (i := 4) (N := some 31) (v := ?_) (a' := ?_) #[true, false, true, false, true, false, false, false, false, false, false, false, false, false, false, false, false, false, false] rfl rfl (any_of HT_.out (by kernel_rfl)) (fun _ _ _ h => h) (Or.inl ⟨by rfl, ?_⟩) ?_ ?_
      rotate_left
      ·intro w'
       go_simp
       with_reducible rfl
      rotate_left
      ·simp only [Act.put, List.setIfInBounds_toArray, List.set_cons_zero, List.set_cons_succ, i64_w, i32_w]
       rfl
      refine pure_ (i := 8) (N := some 35) (v := ?_) (a' := ?_) #[true, false, true, false, true, false, false, false, true, false, false, false, false, false, false, false, false, false, false] rfl rfl (any_of HT_.out (by kernel_rfl)) (fun _ _ _ h => h) (Or.inl ⟨by rfl, ?_⟩) ?_ ?_
      rotate_left
      ·intro w'
       go_simp
       with_reducible rfl
      rotate_left
      ·simp only [Act.put, List.setIfInBounds_toArray, List.set_cons_zero, List.set_cons_succ, i64_w, i32_w]
       rfl
      refine pure_ (i := 10) (N := some 37) (v := ?_) (a' := ?_) #[true, false, true, false, true, false, false, false, true, false, true, false, false, false, false, false, false, false, false] rfl rfl (any_of HT_.out (by kernel_rfl)) (fun _ _ _ h => h) (Or.inl ⟨by rfl, ?_⟩) ?_ ?_
      rotate_left
      ·intro w'
       go_simp
       with_reducible rfl
      rotate_left
      ·simp only [Act.put, List.setIfInBounds_toArray, List.set_cons_zero, List.set_cons_succ, i64_w, i32_w]
       rfl
      refine take_ (i := 1) (N := some 28) (v := ?_) (a' := ?_) #[true, true, true, false, true, false, false, false, true, false, true, false, false, false, false, false, false, false, false] rfl rfl (take_ofW HT_.out HW_.out (by kernel_rfl)) (fun _ _ _ h => h) (Or.inl ⟨by rfl, ?_⟩) hHeld ?_ ?_
      rotate_left
      ·rintro w' ⟨s0, s1, s2, s3, s4, s5, s6, s7, s8, s9, s10, s11, s12, s13, s14, s15, s16, s17, s18, s19⟩
       go_simp
       with_reducible rfl
      rotate_left
      ·simp only [Act.put, List.setIfInBounds_toArray, List.set_cons_zero, List.set_cons_succ, i64_w, i32_w]
       rfl
      refine take_ (i := 3) (N := some 30) (v := ?_) (a' := ?_) #[true, true, true, true, true, false, false, false, true, false, true, false, false, false, false, false, false, false, false] rfl rfl (take_ofW HT_.out HW_.out (by kernel_rfl)) (fun _ _ _ h => h) (Or.inl ⟨by rfl, ?_⟩) hHeld ?_ ?_
      rotate_left
      ·rintro w' ⟨s0, s1, s2, s3, s4, s5, s6, s7, s8, s9, s10, s11, s12, s13, s14, s15, s16, s17, s18, s19⟩
       go_simp
       with_reducible rfl
      rotate_left
      ·simp only [Act.put, List.setIfInBounds_toArray, List.set_cons_zero, List.set_cons_succ, i64_w, i32_w]
       rfl
      refine pure_ (i := 5) (N := some 32) (v := ?_) (a' := ?_) #[true, true, true, true, true, true, false, false, true, false, true, false, false, false, false, false, false, false, false] rfl rfl (any_of HT_.out (by kernel_rfl)) (fun _ _ _ h => h) (Or.inl ⟨by rfl, ?_⟩) ?_ ?_
      rotate_left
      ·intro w'
       go_simp
       with_reducible rfl
      rotate_left
      ·simp only [Act.put, List.setIfInBounds_toArray, List.set_cons_zero, List.set_cons_succ, i64_w, i32_w]
       rfl
      refine pure_ (i := 6) (N := some 33) (v := ?_) (a' := ?_) #[true, true, true, true, true, true, true, false, true, false, true, false, false, false, false, false, false, false, false] rfl rfl (any_of HT_.out (by kernel_rfl)) (fun _ _ _ h => h) (Or.inl ⟨by rfl, ?_⟩) ?_ ?_
      rotate_left
      ·intro w'
       go_simp
       with_reducible rfl
      rotate_left
      ·simp only [Act.put, List.setIfInBounds_toArray, List.set_cons_zero, List.set_cons_succ, i64_w, i32_w]
       rfl
      refine take_ (i := 7) (N := some 34) (v := ?_) (a' := ?_) #[true, true, true, true, true, true, true, true, true, false, true, false, false, false, false, false, false, false, false] rfl rfl (take_ofW HT_.out HW_.out (by kernel_rfl)) (fun _ _ _ h => h) (Or.inl ⟨by rfl, ?_⟩) hHeld ?_ ?_
      rotate_left
      ·rintro w' ⟨s0, s1, s2, s3, s4, s5, s6, s7, s8, s9, s10, s11, s12, s13, s14, s15, s16, s17, s18, s19⟩
       go_simp
       with_reducible rfl
      rotate_left
      ·simp only [Act.put, List.setIfInBounds_toArray, List.set_cons_zero, List.set_cons_succ, i64_w, i32_w]
       rfl
      refine take_ (i := 9) (N := some 36) (v := ?_) (a' := ?_) #[true, true, true, true, true, true, true, true, true, true, true, false, false, false, false, false, false, false, false] rfl rfl (take_ofW HT_.out HW_.out (by kernel_rfl)) (fun _ _ _ h => h) (Or.inl ⟨by rfl, ?_⟩) hHeld ?_ ?_
      rotate_left
      ·rintro w' ⟨s0, s1, s2, s3, s4, s5, s6, s7, s8, s9, s10, s11, s12, s13, s14, s15, s16, s17, s18, s19⟩
       go_simp
       with_reducible rfl
      rotate_left
      ·simp only [Act.put, List.setIfInBounds_toArray, List.set_cons_zero, List.set_cons_succ, i64_w, i32_w]
       rfl
      refine pure_ (i := 11) (N := some 38) (v := ?_) (a' := ?_) #[true, true, true, true, true, true, true, true, true, true, true, true, false, false, false, false, false, false, false] rfl rfl (any_of HT_.out (by kernel_rfl)) (fun _ _ _ h => h) (Or.inl ⟨by rfl, ?_⟩) ?_ ?_
      rotate_left
      ·intro w'
       go_simp
       with_reducible rfl
      rotate_left
      ·simp only [Act.put, List.setIfInBounds_toArray, List.set_cons_zero, List.set_cons_succ, i64_w, i32_w]
       rfl
      refine pure_ (i := 12) (N := some 39) (v := ?_) (a' := ?_) #[true, true, true, true, true, true, true, true, true, true, true, true, true, false, false, false, false, false, false] rfl rfl (any_of HT_.out (by kernel_rfl)) (fun _ _ _ h => h) (Or.inl ⟨by rfl, ?_⟩) ?_ ?_
      rotate_left
      ·intro w'
       go_simp
       with_reducible rfl
      rotate_left
      ·simp only [Act.put, List.setIfInBounds_toArray, List.set_cons_zero, List.set_cons_succ, i64_w, i32_w]
       rfl
      refine take_ (i := 13) (N := some 40) (v := ?_) (a' := ?_) #[true, true, true, true, true, true, true, true, true, true, true, true, true, true, false, false, false, false, false] rfl rfl (take_ofW HT_.out HW_.out (by kernel_rfl)) (fun _ _ _ h => h) (Or.inl ⟨by rfl, ?_⟩) hHeld ?_ ?_
      rotate_left
      ·rintro w' ⟨s0, s1, s2, s3, s4, s5, s6, s7, s8, s9, s10, s11, s12, s13, s14, s15, s16, s17, s18, s19⟩
       go_simp
       with_reducible rfl
      rotate_left
      ·simp only [Act.put, List.setIfInBounds_toArray, List.set_cons_zero, List.set_cons_succ, i64_w, i32_w]
       rfl
      refine pure_ (i := 14) (N := some 41) (v := ?_) (a' := ?_) #[true, true, true, true, true, true, true, true, true, true, true, true, true, true, true, false, false, false, false] rfl rfl (any_of HT_.out (by kernel_rfl)) (fun _ _ _ h => h) (Or.inl ⟨by rfl, ?_⟩) ?_ ?_
      rotate_left
      ·intro w'
       go_simp
       with_reducible rfl
      rotate_left
      ·simp only [Act.put, List.setIfInBounds_toArray, List.set_cons_zero, List.set_cons_succ, i64_w, i32_w]
       rfl
      refine one_ (i := 15) (N := some 42) #[true, true, true, true, true, true, true, true, true, true, true, true, true, true, true, true, false, false, false] rfl rfl (one_of HT_.out (by kernel_rfl)) (by decide) (fun K hK => ?_)
      refine value_ (w1 := ?_) (v := ?_) (by rfl) rfl ?_ ?_
      rotate_left 2
      ·go_simp
       constructor
       ·rfl
       ·rfl
      refine hK.out _ _ ⟨(blk_cell (blk_alloc BK153.out _) 0).trans rfl, (blk_cell (blk_alloc BK153.out _) 1).trans rfl, (blk_cell (blk_alloc BK153.out _) 2).trans rfl, (blk_cell (blk_alloc BK153.out _) 3).trans rfl, (blk_cell (blk_alloc BK153.out _) 4).trans rfl, (blk_cell (blk_alloc BK153.out _) 5).trans rfl, (blk_cell (blk_alloc BK153.out _) 6).trans rfl, (blk_cell (blk_alloc BK153.out _) 7).trans rfl, (blk_cell (blk_alloc BK151.out _) 0).trans rfl, (blk_cell (blk_alloc BK151.out _) 1).trans rfl, (blk_cell (blk_alloc BK151.out _) 2).trans rfl, (blk_cell (blk_alloc BK151.out _) 3).trans rfl, (blk_cell (blk_alloc BK151.out _) 4).trans rfl, (blk_cell (blk_alloc BK151.out _) 5).trans rfl, (blk_cell (blk_alloc BK151.out _) 6).trans rfl, (blk_cell (blk_alloc BK151.out _) 7).trans rfl, (World.cell?_alloc_lt _ _ _ (World.block_lt_of_cell? _ _ (((HB.out.cell (World.block_lt_of_cell? w _ hw154_0)).trans hw154_0)))).trans (((HB.out.cell (World.block_lt_of_cell? w _ hw154_0)).trans hw154_0)), (World.cell?_alloc_lt _ _ _ (World.block_lt_of_cell? _ _ (((HB.out.cell (World.block_lt_of_cell? w _ hw154_1)).trans hw154_1)))).trans (((HB.out.cell (World.block_lt_of_cell? w _ hw154_1)).trans hw154_1)), (World.cell?_alloc_lt _ _ _ (World.block_lt_of_cell? _ _ (((HB.out.cell (World.block_lt_of_cell? w _ hw155_0)).trans hw155_0)))).trans (((HB.out.cell (World.block_lt_of_cell? w _ hw155_0)).trans hw155_0)), (World.cell?_alloc_lt _ _ _ (World.block_lt_of_cell? _ _ (((HB.out.cell (World.block_lt_of_cell? w _ hw155_1)).trans hw155_1)))).trans (((HB.out.cell (World.block_lt_of_cell? w _ hw155_1)).trans hw155_1))⟩ (fun hHeld => ?_)
      clear hK K
      refine norm_ (a' := ?_) ?_ ?_
      rotate_left
      ·show Act.put _ (some 42) _ = _
       simp only [Act.put, List.setIfInBounds_toArray, List.set_cons_zero, List.set_cons_succ, i64_w, i32_w]
       rfl
      refine one_ (i := 16) (N := some 43) #[true, true, true, true, true, true, true, true, true, true, true, true, true, true, true, true, true, false, false] rfl rfl (one_of HT_.out (by kernel_rfl)) (by decide) (fun K hK => ?_)
      refine Kd.R_append_step k129 (w0 := w) w.heap.size (by rfl) (.tmp 28) (.tmp 42) 69 129 (.agg #[(.string ⟨#[]⟩), (.int .i64 0)]) 24 rfl Tryz.underlying69 info129 rfl (by decide) (by omega) u154007 x154007_1 (⟨(rd_T100 l0_7 x4_1).f0, (rd_T100 l0_7 x4_1).f1⟩ : S129) [.string ((rd_T100 l0_7 x4_1).f0), .int .i64 ((rd_T100 l0_7 x4_1).f1)] (fun _ => True) (fun _ => False) rfl rfl ?aP (fun _ hk => hk.elim) ?aF ?aO ?aB ?aS ?aL ?_
      (case aP => exact k129_mkM _ _ _ (⟨(rd_T100 l0_7 x4_1).f0, (rd_T100 l0_7 x4_1).f1⟩ : S129))
      (case aB => exact (by repeat (first | (with_reducible first | exact HB.out | apply below_alloc | apply pw_below_drewN | apply below_drew1 | refine below_set ?_ GE151.out | refine below_set ?_ GE152.out | refine below_set ?_ GE153.out) | exact HB.out)))
      (case aF => exact (fun _ _ => trivial))
      (case aO => exact (by (with_reducible repeat (first | apply Kd.R_alloc | apply Kd.R_drewN | apply Kd.R_drew)); exact HO_154007.out))
      (case aS => exact (below_size (by repeat (first | (with_reducible first | exact HB.out | apply below_alloc | apply pw_below_drewN | apply below_drew1 | refine below_set ?_ GE151.out | refine below_set ?_ GE152.out | refine below_set ?_ GE153.out) | exact HB.out))))
      (case aL => have := LMc12.out; omega)
      intro v157 w17 ho hb hg hat
      rw [← Ny156.out] at ho
      have n0_ := Aside0.mk (blk_grown (g := gb151) (o := .cells #[.string a0_0, .int .i64 a0_1, .int .i64 a0_2, .string a0_3, .string a0_4, .int .i64 a0_5, .int .i64 a0_6, .slice (some ad154) l0_7.length c0_7] 66 (0, 0)) (by (with_reducible repeat (first | refine blk_drewN ?_ _ | refine blk_drew ?_ | refine blk_alloc ?_ _)); exact BK151.out) hg (Kd.R_ne HO_154007.out BK151.out (by decide)))
      have n1_ := Aside0.mk (blk_grown (g := gb152) (o := .cells #[.string (⟨#[]⟩ : ByteArray), .int .i64 0, .int .i64 0, .string (⟨#[]⟩ : ByteArray), .string (⟨#[]⟩ : ByteArray), .int .i64 0, .int .i64 0, .slice none 0 0] 71 (0, 0)) (by (with_reducible repeat (first | refine blk_drewN ?_ _ | refine blk_drew ?_ | refine blk_alloc ?_ _)); exact BK152.out) hg (Kd.R_ne HO_154007.out BK152.out (by decide)))
      have n2_ := Aside0.mk (blk_grown (g := gb153) (o := .cells #[.string a0_0, .int .i64 a0_1, .int .i64 a0_2, .string a0_3, .string a0_4, .int .i64 a0_5, .int .i64 a0_6, u154007] 71 (0, 0)) (by (with_reducible repeat (first | refine blk_drewN ?_ _ | refine blk_drew ?_ | refine blk_alloc ?_ _)); exact BK153.out) hg (Kd.R_ne HO_154007.out BK153.out (by decide)))
      have n3_ := Aside0.mk (hb)
      have n4_ := Aside0.mk (ho)
      clear BK151
      clear BK152
      clear BK153
      clear HB
      clear HO_154007
      have BK151 := n0_
      have BK152 := n1_
      have BK153 := n2_
      have HB := n3_
      have HO158 := n4_
      clear n0_ n1_ n2_ n3_ n4_
      clear ho hb hg hat
      obtain ⟨Ao18, co18, eo18⟩ := Kd.R_slice HO158.out
      (first | subst eo18 | (injection eo18 with f1_ f2_ f3_; have f4_ := f1_.symm; have f5_ := f3_.symm; clear f1_ f2_ f3_; subst f4_; subst f5_))
      refine hK.out _ _ ⟨(blk_cell BK153.out 0).trans rfl, (blk_cell BK153.out 1).trans rfl, (blk_cell BK153.out 2).trans rfl, (blk_cell BK153.out 3).trans rfl, (blk_cell BK153.out 4).trans rfl, (blk_cell BK153.out 5).trans rfl, (blk_cell BK153.out 6).trans rfl, (blk_cell BK153.out 7).trans rfl, (blk_cell BK151.out 0).trans rfl, (blk_cell BK151.out 1).trans rfl, (blk_cell BK151.out 2).trans rfl, (blk_cell BK151.out 3).trans rfl, (blk_cell BK151.out 4).trans rfl, (blk_cell BK151.out 5).trans rfl, (blk_cell BK151.out 6).trans rfl, (blk_cell BK151.out 7).trans rfl, ((HB.out.cell (World.block_lt_of_cell? w _ hw154_0)).trans hw154_0), ((HB.out.cell (World.block_lt_of_cell? w _ hw154_1)).trans hw154_1), ((HB.out.cell (World.block_lt_of_cell? w _ hw155_0)).trans hw155_0), ((HB.out.cell (World.block_lt_of_cell? w _ hw155_1)).trans hw155_1)⟩ (fun hHeld => ?_)
      clear hK K
      refine norm_ (a' := ?_) ?_ ?_
      rotate_left
      ·show Act.put _ (some 43) _ = _
       simp only [Act.put, List.setIfInBounds_toArray, List.set_cons_zero, List.set_cons_succ, i64_w, i32_w]
       rfl
      refine pure_ (i := 17) (N := some 44) (v := ?_) (a' := ?_) #[true, true, true, true, true, true, true, true, true, true, true, true, true, true, true, true, true, true, false] rfl rfl (any_of HT_.out (by kernel_rfl)) (fun _ _ _ h => h) (Or.inl ⟨by rfl, ?_⟩) ?_ ?_
      rotate_left
      ·intro w'
       go_simp
       with_reducible rfl
      rotate_left
      ·simp only [Act.put, List.setIfInBounds_toArray, List.set_cons_zero, List.set_cons_succ, i64_w, i32_w]
       rfl
      refine last_ (i := 18) (N := none) #[true, true, true, true, true, true, true, true, true, true, true, true, true, true, true, true, true, true, true] rfl rfl (one_of HT_.out (by kernel_rfl)) (by decide) (fun K hK => ?_)
      have hs19 : w17.cell? ⟨gb153, 7, none⟩ = some (u154007) := (blk_cell BK153.out 7).trans rfl
      have hfs19 := blk_frozen BK153.out 7
      have hns19_0 := NB151_153.out
      have hns19_1 := NB152_153.out
      have hms19_0 := NB153_151.out
      have hms19_1 := NB153_152.out
      refine skip_ (w1 := ?_) (by rfl) rfl ?_ ?_
      rotate_left
      ·go_simp
       rfl
      refine hK.out _ _ ?_
      clear hK K
      refine done_ (done_of HT_.out (by kernel_rfl)) ?_
      try go_wp2
      go_roundg k1
      case measure => have := HK1.out; omega
      case rel => exact ⟨(wrap64 (x4_1 + 1)), (y156), (.slice Ao18 y156.length co18), (by first | rfl | (simp; done) | (simp [*]; done)), H', ⟨by have := HK1.out; omega⟩, ⟨by (with_reducible repeat (first | apply Kd.R_alloc | apply Kd.R_drewN | apply Kd.R_drew)); exact Kd.R_mono (Kd.R_far (p := ⟨gb153, 7, none⟩) (Kd.R_types HO158.out BK153.out (by decide)) (fun _ hk => hk.2) (.slice Ao18 y156.length co18)) (fun _ hk => trivial)⟩, ⟨by (with_reducible repeat (first | refine blk_drewN ?_ _ | refine blk_drew ?_ | refine blk_alloc ?_ _)); refine blk_far ?_ NB151_153.out _; (with_reducible repeat (first | refine blk_drewN ?_ _ | refine blk_drew ?_ | refine blk_alloc ?_ _)); exact BK151.out⟩, ⟨by (with_reducible repeat (first | refine blk_drewN ?_ _ | refine blk_drew ?_ | refine blk_alloc ?_ _)); refine blk_far ?_ NB152_153.out _; (with_reducible repeat (first | refine blk_drewN ?_ _ | refine blk_drew ?_ | refine blk_alloc ?_ _)); exact BK152.out⟩, ⟨by (with_reducible repeat (first | refine blk_drewN ?_ _ | refine blk_drew ?_ | refine blk_alloc ?_ _)); refine blk_put (cs := #[.string a0_0, .int .i64 a0_1, .int .i64 a0_2, .string a0_3, .string a0_4, .int .i64 a0_5, .int .i64 a0_6, u154007]) ?_ 7 _ rfl; (with_reducible repeat (first | refine blk_drewN ?_ _ | refine blk_drew ?_ | refine blk_alloc ?_ _)); exact BK153.out⟩, ⟨by repeat (first | (with_reducible first | exact HB.out | apply below_alloc | apply pw_below_drewN | apply below_drew1 | refine below_set ?_ GE151.out | refine below_set ?_ GE152.out | refine below_set ?_ GE153.out) | exact HB.out)⟩⟩
     ·rw [if_neg c12] at H
      exact absurd H (by simp)
    ·rw [if_neg c11] at H
     exact absurd H (by simp)
   ·rw [if_neg c10] at H
    have c10b0 : decide (x4_1 < (l0_7.length : Int)) = false := decide_eq_false c10
    clear c10
    simp only [Option.some.injEq, Prod.mk.injEq] at H
    obtain ⟨rfl, rfl, rfl, rfl, rfl, rfl, rfl, rfl⟩ := H
    have hnb20 := NB151_152.out
    have hnc20 := NB152_151.out
    have hnb21 := NB151_153.out
    have hnc21 := NB153_151.out
    have hcz22_0 : wr.cell? ⟨gb151, 0, none⟩ = some (.string a0_0) := (blk_cell BK151.out 0).trans rfl
    have hcz22_1 : wr.cell? ⟨gb151, 1, none⟩ = some (.int .i64 a0_1) := (blk_cell BK151.out 1).trans rfl
    have hcz22_2 : wr.cell? ⟨gb151, 2, none⟩ = some (.int .i64 a0_2) := (blk_cell BK151.out 2).trans rfl
    have hcz22_3 : wr.cell? ⟨gb151, 3, none⟩ = some (.string a0_3) := (blk_cell BK151.out 3).trans rfl
    have hcz22_4 : wr.cell? ⟨gb151, 4, none⟩ = some (.string a0_4) := (blk_cell BK151.out 4).trans rfl
    have hcz22_5 : wr.cell? ⟨gb151, 5, none⟩ = some (.int .i64 a0_5) := (blk_cell BK151.out 5).trans rfl
    have hcz22_6 : wr.cell? ⟨gb151, 6, none⟩ = some (.int .i64 a0_6) := (blk_cell BK151.out 6).trans rfl
    have hcz22_7 : wr.cell? ⟨gb151, 7, none⟩ = some (.slice A0_7 l0_7.length c0_7) := (blk_cell BK151.out 7).trans rfl
    have hfz22_0 := blk_frozen BK151.out 0
    have hfz22_1 := blk_frozen BK151.out 1
    have hfz22_2 := blk_frozen BK151.out 2
    have hfz22_3 := blk_frozen BK151.out 3
    have hfz22_4 := blk_frozen BK151.out 4
    have hfz22_5 := blk_frozen BK151.out 5
    have hfz22_6 := blk_frozen BK151.out 6
    have hfz22_7 := blk_frozen BK151.out 7
    have hnb23 := NB153_152.out
    have hnc23 := NB152_153.out
    have hcz24_0 : wr.cell? ⟨gb153, 0, none⟩ = some (.string a0_0) := (blk_cell BK153.out 0).trans rfl
    have hcz24_1 : wr.cell? ⟨gb153, 1, none⟩ = some (.int .i64 a0_1) := (blk_cell BK153.out 1).trans rfl
    have hcz24_2 : wr.cell? ⟨gb153, 2, none⟩ = some (.int .i64 a0_2) := (blk_cell BK153.out 2).trans rfl
    have hcz24_3 : wr.cell? ⟨gb153, 3, none⟩ = some (.string a0_3) := (blk_cell BK153.out 3).trans rfl
    have hcz24_4 : wr.cell? ⟨gb153, 4, none⟩ = some (.string a0_4) := (blk_cell BK153.out 4).trans rfl
    have hcz24_5 : wr.cell? ⟨gb153, 5, none⟩ = some (.int .i64 a0_5) := (blk_cell BK153.out 5).trans rfl
    have hcz24_6 : wr.cell? ⟨gb153, 6, none⟩ = some (.int .i64 a0_6) := (blk_cell BK153.out 6).trans rfl
    have hcz24_7 : wr.cell? ⟨gb153, 7, none⟩ = some (u154007) := (blk_cell BK153.out 7).trans rfl
    have hfz24_0 := blk_frozen BK153.out 0
    have hfz24_1 := blk_frozen BK153.out 1
    have hfz24_2 := blk_frozen BK153.out 2
    have hfz24_3 := blk_frozen BK153.out 3
    have hfz24_4 := blk_frozen BK153.out 4
    have hfz24_5 := blk_frozen BK153.out 5
    have hfz24_6 := blk_frozen BK153.out 6
    have hfz24_7 := blk_frozen BK153.out 7
    have hcz25_0 : wr.cell? ⟨gb152, 0, none⟩ = some (.string (⟨#[]⟩ : ByteArray)) := (blk_cell BK152.out 0).trans rfl
    have hcz25_1 : wr.cell? ⟨gb152, 1, none⟩ = some (.int .i64 0) := (blk_cell BK152.out 1).trans rfl
    have hcz25_2 : wr.cell? ⟨gb152, 2, none⟩ = some (.int .i64 0) := (blk_cell BK152.out 2).trans rfl
    have hcz25_3 : wr.cell? ⟨gb152, 3, none⟩ = some (.string (⟨#[]⟩ : ByteArray)) := (blk_cell BK152.out 3).trans rfl
    have hcz25_4 : wr.cell? ⟨gb152, 4, none⟩ = some (.string (⟨#[]⟩ : ByteArray)) := (blk_cell BK152.out 4).trans rfl
    have hcz25_5 : wr.cell? ⟨gb152, 5, none⟩ = some (.int .i64 0) := (blk_cell BK152.out 5).trans rfl
    have hcz25_6 : wr.cell? ⟨gb152, 6, none⟩ = some (.int .i64 0) := (blk_cell BK152.out 6).trans rfl
    have hcz25_7 : wr.cell? ⟨gb152, 7, none⟩ = some (.slice none 0 0) := (blk_cell BK152.out 7).trans rfl
    have hfz25_0 := blk_frozen BK152.out 0
    have hfz25_1 := blk_frozen BK152.out 1
    have hfz25_2 := blk_frozen BK152.out 2
    have hfz25_3 := blk_frozen BK152.out 3
    have hfz25_4 := blk_frozen BK152.out 4
    have hfz25_5 := blk_frozen BK152.out 5
    have hfz25_6 := blk_frozen BK152.out 6
    have hfz25_7 := blk_frozen BK152.out 7
    obtain ⟨Ao26, co26, eo26⟩ := Kd.R_slice HO_154007.out
    subst eo26
    go_wp2
    refine bodyPost_ret (results_cell_row rfl _ _ gb152 71 #[.string a0_0, .int .i64 a0_1, .int .i64 a0_2, .string a0_3, .string a0_4, .int .i64 a0_5, .int .i64 a0_6, .slice Ao26 x154007_1.length co26] (0, 0) _ rfl (by (with_reducible repeat (first | refine blk_drewN ?_ _ | refine blk_drew ?_ | refine blk_alloc ?_ _)); refine blk_put (cs := #[.string a0_0, .int .i64 a0_1, .int .i64 a0_2, .string a0_3, .string a0_4, .int .i64 a0_5, .int .i64 a0_6, .slice none 0 0]) ?_ 7 _ rfl; (with_reducible repeat (first | refine blk_drewN ?_ _ | refine blk_drew ?_ | refine blk_alloc ?_ _)); refine blk_put (cs := #[.string a0_0, .int .i64 a0_1, .int .i64 a0_2, .string a0_3, .string a0_4, .int .i64 a0_5, .int .i64 0, .slice none 0 0]) ?_ 6 _ rfl; (with_reducible repeat (first | refine blk_drewN ?_ _ | refine blk_drew ?_ | refine blk_alloc ?_ _)); refine blk_put (cs := #[.string a0_0, .int .i64 a0_1, .int .i64 a0_2, .string a0_3, .string a0_4, .int .i64 0, .int .i64 0, .slice none 0 0]) ?_ 5 _ rfl; (with_reducible repeat (first | refine blk_drewN ?_ _ | refine blk_drew ?_ | refine blk_alloc ?_ _)); refine blk_put (cs := #[.string a0_0, .int .i64 a0_1, .int .i64 a0_2, .string a0_3, .string (⟨#[]⟩ : ByteArray), .int .i64 0, .int .i64 0, .slice none 0 0]) ?_ 4 _ rfl; (with_reducible repeat (first | refine blk_drewN ?_ _ | refine blk_drew ?_ | refine blk_alloc ?_ _)); refine blk_put (cs := #[.string a0_0, .int .i64 a0_1, .int .i64 a0_2, .string (⟨#[]⟩ : ByteArray), .string (⟨#[]⟩ : ByteArray), .int .i64 0, .int .i64 0, .slice none 0 0]) ?_ 3 _ rfl; (with_reducible repeat (first | refine blk_drewN ?_ _ | refine blk_drew ?_ | refine blk_alloc ?_ _)); refine blk_put (cs := #[.string a0_0, .int .i64 a0_1, .int .i64 0, .string (⟨#[]⟩ : ByteArray), .string (⟨#[]⟩ : ByteArray), .int .i64 0, .int .i64 0, .slice none 0 0]) ?_ 2 _ rfl; (with_reducible repeat (first | refine blk_drewN ?_ _ | refine blk_drew ?_ | refine blk_alloc ?_ _)); refine blk_put (cs := #[.string a0_0, .int .i64 0, .int .i64 0, .string (⟨#[]⟩ : ByteArray), .string (⟨#[]⟩ : ByteArray), .int .i64 0, .int .i64 0, .slice none 0 0]) ?_ 1 _ rfl; (with_reducible repeat (first | refine blk_drewN ?_ _ | refine blk_drew ?_ | refine blk_alloc ?_ _)); refine blk_put (cs := #[.string (⟨#[]⟩ : ByteArray), .int .i64 0, .int .i64 0, .string (⟨#[]⟩ : ByteArray), .string (⟨#[]⟩ : ByteArray), .int .i64 0, .int .i64 0, .slice none 0 0]) ?_ 0 _ rfl; (with_reducible repeat (first | refine blk_drewN ?_ _ | refine blk_drew ?_ | refine blk_alloc ?_ _)); exact BK152.out) Tryz.underlying71 rfl (by kernel_rfl)) rfl ?_
    exact ⟨_, by first | rfl | (simp [errW_none, errW_some] <;> rfl) | (simp [*, errW_none, errW_some] <;> rfl), by (with_reducible repeat (first | apply Kd.R_alloc | apply Kd.R_drewN | apply Kd.R_drew)); exact Kd.R_mono (Kd.R_far (p := ⟨gb152, 7, none⟩) (Kd.R_far (p := ⟨gb152, 6, none⟩) (Kd.R_far (p := ⟨gb152, 5, none⟩) (Kd.R_far (p := ⟨gb152, 4, none⟩) (Kd.R_far (p := ⟨gb152, 3, none⟩) (Kd.R_far (p := ⟨gb152, 2, none⟩) (Kd.R_far (p := ⟨gb152, 1, none⟩) (Kd.R_far (p := ⟨gb152, 0, none⟩) (Kd.R_types HO_154007.out BK152.out (by decide)) (fun _ hk => hk.2) (.string a0_0)) (fun _ hk => hk.2) (.int .i64 a0_1)) (fun _ hk => hk.2) (.int .i64 a0_2)) (fun _ hk => hk.2) (.string a0_3)) (fun _ hk => hk.2) (.string a0_4)) (fun _ hk => hk.2) (.int .i64 a0_5)) (fun _ hk => hk.2) (.int .i64 a0_6)) (fun _ hk => hk.2) (.slice Ao26 x154007_1.length co26)) (fun _ hk => trivial), by repeat (first | (with_reducible first | exact HB.out | apply below_alloc | apply pw_below_drewN | apply below_drew1 | refine below_set ?_ GE151.out | refine below_set ?_ GE152.out | refine below_set ?_ GE153.out) | exact HB.out)⟩
end Go.Proofs.YtehlmkgldcfciaaGreat.F
-- Written by this repo's wip/tools/myprint.py (the kit's print program, with contracts of our own beside). Lean checks it.
namespace Go.Proofs.YtehlmkgldcfciaaGreat.F
open Go.Proofs.YtehlmkgldcfciaaGreat.Common
open Go.RowKit Go.Proofs.YtehlmkgldcfciaaGreatW.PrintWords Go.Proofs.YtehlmkgldcfciaaGreatW.PrintLast Go.Proofs.YtehlmkgldcfciaaGreatW.PrintMore
set_option linter.unusedVariables false
set_option linter.unusedSimpArgs false
def heptadref01_Strings.l0 : Nat → List ByteArray → List ByteArray → Int → Option (Bool)
 | 0, _, _, _ => none
 | k + 1, x0, x1, x5 => if x5 < (x0.length : Int) then (if 0 ≤ x5 then (if x5 < (x1.length : Int) then (if (rdOf ByteArray.empty x0 x5).toList = (rdOf ByteArray.empty x1 x5).toList then (heptadref01_Strings.l0 k x0 x1 (wrap64 (x5 + 1))) else (some false)) else (none)) else (none)) else (some true)
def heptadref01_Strings.f (k : Nat) (l0 : List ByteArray) (l1 : List ByteArray) : Option (Bool) := if (l0.length : Int) = (l1.length : Int) then (heptadref01_Strings.l0 k l0 l1 0) else (some false)
set_option maxHeartbeats 8000000 in
set_option maxRecDepth 100000 in
theorem heptadref01_Strings.calls (k : Nat) (A0 : Option Addr) (c0 : Nat) (l0 : List ByteArray) (A1 : Option Addr) (c1 : Nat) (l1 : List ByteArray) (r : Bool) (w : World) (hr0 : Kd.C Kd.string w A0 l0.length l0) (hc0 : l0.length ≤ c0) (hr1 : Kd.C Kd.string w A1 l1.length l1) (hc1 : l1.length ≤ c1) (h : heptadref01_Strings.f k l0 l1 = some r) :
  Calls Tryz.prog 8 #[.slice A0 l0.length c0, .slice A1 l1.length c1] w fun e w' => e = .returned (.bool r) ∧ Drawn0 w w' := by
 have HR0 := Aside0.mk hr0
 have HC0 := Aside0.mk hc0
 clear hr0 hc0
 have HR1 := Aside0.mk hr1
 have HC1 := Aside0.mk hc1
 clear hr1 hc1
 have H : (if (l0.length : Int) = (l1.length : Int) then (heptadref01_Strings.l0 k l0 l1 0) else (some false)) = some r := h
 clear h
 by_cases c3 : (l0.length : Int) = (l1.length : Int)
 ·rw [if_pos c3] at H
  have c3b0 : ((l0.length : Int) == (l1.length : Int)) = true := beq_iff_eq.mpr c3
  have c3b1 : ((l0.length : Int) != (l1.length : Int)) = false := bne_eq_false_iff_eq.mpr c3
  have c3b2 : (l0.length == l1.length) = true := by first | simpa using c3 | (simp at c3 ⊢; omega)
  clear c3
  have H' := Aside0.mk H
  clear H
  go_enter Tryz.func8, Tryz.ntmps8
  go_wp2
  repeat (go_quiet (fail); try go_wp2)
  go_loopg [5] k (fun kq v5 w' => ∃ (x5_1 : Int), v5 = .int .i64 x5_1 ∧ Aside0 (heptadref01_Strings.l0 kq l0 l1 x5_1 = some r) ∧ Aside0 (kq ≤ k) ∧ Drawn0 w w')
  case atStart => exact ⟨(0), (by first | rfl | (simp; done) | (simp [*]; done)), H', ⟨Nat.le_refl _⟩, by repeat (first | exact Drawn0.refl _ | apply Drawn0.step)⟩
  case round =>
   clear H'
   try clear c1
   try clear p2
   try clear c3
   try clear c3b0
   try clear c3b1
   try clear c3b2
   obtain ⟨x5_1, rfl, HA, HK1, ⟨m1, rfl⟩⟩ := hrel
   cases gk with
   | zero => exact absurd HA.out (by simp [heptadref01_Strings.l0])
   | succ k1 =>
    have H := HA.out
    clear HA
    simp only [heptadref01_Strings.l0] at H
    by_cases c4 : x5_1 < (l0.length : Int)
    ·rw [if_pos c4] at H
     have c4b0 : decide (x5_1 < (l0.length : Int)) = true := decide_eq_true c4
     clear c4
     by_cases c5 : 0 ≤ x5_1
     ·rw [if_pos c5] at H
      have c5b0 : decide (0 ≤ x5_1) = true := decide_eq_true c5
      clear c5
      by_cases c6 : x5_1 < (l1.length : Int)
      ·rw [if_pos c6] at H
       have c6b0 : decide (x5_1 < (l1.length : Int)) = true := decide_eq_true c6
       clear c6
       by_cases c7 : (rdOf ByteArray.empty l0 x5_1).toList = (rdOf ByteArray.empty l1 x5_1).toList
       ·rw [if_pos c7] at H
        have c7b0 : ((rdOf ByteArray.empty l0 x5_1).toList == (rdOf ByteArray.empty l1 x5_1).toList) = true := beq_iff_eq.mpr c7
        have c7b1 : ((rdOf ByteArray.empty l0 x5_1).toList != (rdOf ByteArray.empty l1 x5_1).toList) = false := bne_eq_false_iff_eq.mpr c7
        clear c7
        have H' := Aside0.mk H
        clear H
        have p159 : 0 ≤ (x5_1 : Int) := of_decide_eq_true (by first | (with_reducible assumption) | assumption)
        have q159 : x5_1 < (l0.length : Int) := of_decide_eq_true (by first | (with_reducible assumption) | assumption)
        obtain ⟨ad159, e159, hx159_0⟩ := Kd.at_string HR0.out x5_1 p159 q159
        cases e159
        replace p159 := eq_true p159
        replace q159 := eq_true q159
        have p160 : 0 ≤ (x5_1 : Int) := of_decide_eq_true (by first | (with_reducible assumption) | assumption)
        have q160 : x5_1 < (l1.length : Int) := of_decide_eq_true (by first | (with_reducible assumption) | assumption)
        obtain ⟨ad160, e160, hx160_0⟩ := Kd.at_string HR1.out x5_1 p160 q160
        cases e160
        replace p160 := eq_true p160
        replace q160 := eq_true q160
        go_wp2
        repeat (go_quiet (fail); try go_wp2)
        go_roundg k1
        case measure => have := HK1.out; omega
        case rel => exact ⟨(wrap64 (x5_1 + 1)), (by first | rfl | (simp; done) | (simp [*]; done)), H', ⟨by have := HK1.out; omega⟩, by repeat (first | exact Drawn0.refl _ | apply Drawn0.step)⟩
       ·rw [if_neg c7] at H
        have c7b0 : ((rdOf ByteArray.empty l0 x5_1).toList == (rdOf ByteArray.empty l1 x5_1).toList) = false := beq_eq_false_iff_ne.mpr c7
        have c7b1 : ((rdOf ByteArray.empty l0 x5_1).toList != (rdOf ByteArray.empty l1 x5_1).toList) = true := bne_iff_ne.mpr c7
        obtain rfl := Option.some.inj H
        have p159 : 0 ≤ (x5_1 : Int) := of_decide_eq_true (by first | (with_reducible assumption) | assumption)
        have q159 : x5_1 < (l0.length : Int) := of_decide_eq_true (by first | (with_reducible assumption) | assumption)
        obtain ⟨ad159, e159, hx159_0⟩ := Kd.at_string HR0.out x5_1 p159 q159
        cases e159
        replace p159 := eq_true p159
        replace q159 := eq_true q159
        have p160 : 0 ≤ (x5_1 : Int) := of_decide_eq_true (by first | (with_reducible assumption) | assumption)
        have q160 : x5_1 < (l1.length : Int) := of_decide_eq_true (by first | (with_reducible assumption) | assumption)
        obtain ⟨ad160, e160, hx160_0⟩ := Kd.at_string HR1.out x5_1 p160 q160
        cases e160
        replace p160 := eq_true p160
        replace q160 := eq_true q160
        go_wp2
        repeat (go_quiet (fail); try go_wp2)
        go_ret
        exact ⟨by first | rfl | (simp; done) | (simp [*]; done), by repeat (first | exact Drawn0.refl _ | apply Drawn0.step)⟩
      ·rw [if_neg c6] at H
       exact absurd H (by simp)
     ·rw [if_neg c5] at H
      exact absurd H (by simp)
    ·rw [if_neg c4] at H
     have c4b0 : decide (x5_1 < (l0.length : Int)) = false := decide_eq_false c4
     clear c4
     obtain rfl := Option.some.inj H
     go_wp2
     repeat (go_quiet (fail); try go_wp2)
     go_ret
     exact ⟨by first | rfl | (simp; done) | (simp [*]; done), by repeat (first | exact Drawn0.refl _ | apply Drawn0.step)⟩
 ·rw [if_neg c3] at H
  have c3b0 : ((l0.length : Int) == (l1.length : Int)) = false := beq_eq_false_iff_ne.mpr c3
  have c3b1 : ((l0.length : Int) != (l1.length : Int)) = true := bne_iff_ne.mpr c3
  have c3b2 : (l0.length == l1.length) = false := by first | simpa using c3 | (simp at c3 ⊢; omega)
  obtain rfl := Option.some.inj H
  go_enter Tryz.func8, Tryz.ntmps8
  go_wp2
  repeat (go_quiet (fail); try go_wp2)
  go_ret
  exact ⟨by first | rfl | (simp; done) | (simp [*]; done), by repeat (first | exact Drawn0.refl _ | apply Drawn0.step)⟩
end Go.Proofs.YtehlmkgldcfciaaGreat.F
/- What the law's own helpers tell: To, Same, info, SameInfo, Strings. -/
set_option linter.unusedVariables false
set_option linter.unusedSimpArgs false
namespace Go.Proofs.YtehlmkgldcfciaaGreat.Files
open Go.Proofs.YtehlmkgldcfciaaGreat.Common Go.Maps Go.ChangeMaps Go.WideMaps Go.Lib Go.Proofs.YtehlmkgldcfciaaGreat.F
open Go.RowKit Go.Proofs.YtehlmkgldcfciaaGreatW.PrintWords Go.Proofs.YtehlmkgldcfciaaGreatW.PrintLast Go.Proofs.YtehlmkgldcfciaaGreatW.PrintMore
theorem To_l0 (l : List S29) (hl : l.length < 3518437208883) : ∀ (d j k : Nat) (acc : List S62), l.length - j = d → j ≤ l.length → d < k → acc.length = j → heptadlaw28_To.l0 k l acc (j : Int) = some (acc ++ (l.drop j).map toU)
  | 0, j, k, acc, hd, hj, hk, ha => by
    obtain ⟨k, rfl⟩ : ∃ m, k = m + 1 := ⟨k - 1, by omega⟩
    simp only [heptadlaw28_To.l0]
    rw [if_neg (by omega), show j = l.length by omega, List.drop_length]
    simp
  | d + 1, j, k, acc, hd, hj, hk, ha => by
    obtain ⟨k, rfl⟩ : ∃ m, k = m + 1 := ⟨k - 1, by omega⟩
    simp only [heptadlaw28_To.l0]
    rw [if_pos (by omega), if_pos (by omega), if_pos (by omega), wr j l.length (by omega) (by omega), To_l0 l hl d (j + 1) k _ (by omega) (by omega) (by omega) (by simp [ha]), drop_at l j (by omega), List.append_assoc]
    all_goals rfl
theorem To_c (A : Option Addr) (c : Nat) (l : List S29) (W : World) (hr : Kd.C k29 W A l.length l) (hc : l.length ≤ c) (hl : l.length ≤ 1000) :
    Calls Tryz.prog 29 #[.slice A l.length c] W fun e w' => ∃ v : Value, e = .returned v ∧ Kd.R k62 62 w' W.heap.size (fun _ => True) v (l.map toU) ∧ Below W.heap.size W w' :=
  heptadlaw28_To.calls (l.length + 1) A c l _ W hr hc (by
    unfold heptadlaw28_To.f
    have := To_l0 l (by omega) l.length 0 (l.length + 1) [] (by omega) (by omega) (by omega) rfl
    rw [List.drop_zero, List.nil_append] at this
    exact this)
theorem Same_l0 (a b : List S62) (hab : a.length = b.length) (hl : a.length ≤ 1000) : ∀ (d j k : Nat), a.length - j = d → j ≤ a.length → d < k → ∃ r, heptadref28_Same.l0 k a b (j : Int) = some r ∧ (a = b → r = true)
  | 0, j, k, hd, hj, hk => by
    obtain ⟨k, rfl⟩ : ∃ m, k = m + 1 := ⟨k - 1, by omega⟩
    simp only [heptadref28_Same.l0]
    rw [if_neg (by omega)]
    exact ⟨true, rfl, fun _ => rfl⟩
  | d + 1, j, k, hd, hj, hk => by
    obtain ⟨k, rfl⟩ : ∃ m, k = m + 1 := ⟨k - 1, by omega⟩
    simp only [heptadref28_Same.l0]
    rw [if_pos (by omega), if_pos (by omega), if_pos (by omega), wr j a.length (by omega) (by omega)]
    split
    · rename_i h
      refine ⟨false, rfl, fun e => ?_⟩
      subst e
      simp at h
    · exact Same_l0 a b hab hl d (j + 1) k (by omega) (by omega) (by omega)
theorem Same_ex (a b : List S62) (hl : a.length ≤ 1000) : ∃ r, heptadref28_Same.f (a.length + 1) a b = some r ∧ (a = b → r = true) := by
  unfold heptadref28_Same.f
  by_cases h : a.length = b.length
  · rw [if_pos (by omega)]
    exact Same_l0 a b h hl a.length 0 _ (by omega) (by omega) (by omega)
  · rw [if_neg (by omega)]
    exact ⟨false, rfl, fun e => absurd (by rw [e]) h⟩
theorem Strings_l0 (a b : List ByteArray) (hab : a.length = b.length) (hl : a.length ≤ 1000) : ∀ (d j k : Nat), a.length - j = d → j ≤ a.length → d < k → ∃ r, heptadref01_Strings.l0 k a b (j : Int) = some r ∧ (a = b → r = true)
  | 0, j, k, hd, hj, hk => by
    obtain ⟨k, rfl⟩ : ∃ m, k = m + 1 := ⟨k - 1, by omega⟩
    simp only [heptadref01_Strings.l0]
    rw [if_neg (by omega)]
    exact ⟨true, rfl, fun _ => rfl⟩
  | d + 1, j, k, hd, hj, hk => by
    obtain ⟨k, rfl⟩ : ∃ m, k = m + 1 := ⟨k - 1, by omega⟩
    simp only [heptadref01_Strings.l0]
    rw [if_pos (by omega), if_pos (by omega), if_pos (by omega), wr j a.length (by omega) (by omega)]
    split
    · exact Strings_l0 a b hab hl d (j + 1) k (by omega) (by omega) (by omega)
    · rename_i h
      refine ⟨false, rfl, fun e => ?_⟩
      subst e
      exact absurd rfl h
theorem Strings_ex (a b : List ByteArray) (hl : a.length ≤ 1000) : ∃ r, heptadref01_Strings.f (a.length + 1) a b = some r ∧ (a = b → r = true) := by
  unfold heptadref01_Strings.f
  by_cases h : a.length = b.length
  · rw [if_pos (by omega)]
    exact Strings_l0 a b h hl a.length 0 _ (by omega) (by omega) (by omega)
  · rw [if_neg (by omega)]
    exact ⟨false, rfl, fun e => absurd (by rw [e]) h⟩
theorem info_l0 (x : FS) (y : FS) (l : List S100) (hl : l.length ≤ 5864062014805) : ∀ (d j k : Nat) (acc : List S129), l.length - j = d → j ≤ l.length → d < k → acc.length = j →
    heptadlaw28_info.l0 k (j : Int) x.name x.kind x.perm x.owner x.last x.ch x.rd l y.name y.kind y.perm y.owner y.last y.ch y.rd acc = some (y.name, y.kind, y.perm, y.owner, y.last, y.ch, y.rd, acc ++ (l.drop j).map toRu)
  | 0, j, k, acc, hd, hj, hk, ha => by
    obtain ⟨k, rfl⟩ : ∃ m, k = m + 1 := ⟨k - 1, by omega⟩
    simp only [heptadlaw28_info.l0]
    rw [if_neg (by omega), show j = l.length by omega, List.drop_length]
    simp
  | d + 1, j, k, acc, hd, hj, hk, ha => by
    obtain ⟨k, rfl⟩ : ∃ m, k = m + 1 := ⟨k - 1, by omega⟩
    simp only [heptadlaw28_info.l0]
    have hdr : l.drop j = rd_T100 l (j : Int) :: l.drop (j + 1) := by
      rw [List.drop_eq_getElem_cons (by omega)]
      congr 1
      simp [rd_T100, List.getD_eq_getElem?_getD, List.getElem?_eq_getElem (show j < l.length by omega)]
    rw [if_pos (by omega), if_pos (by omega), if_pos (by omega), wr j l.length (by omega) (by omega), info_l0 x y l hl d (j + 1) k _ (by omega) (by omega) (by omega) (by simp [ha]), hdr, List.append_assoc]
    all_goals rfl
theorem info_c (x : FS) (A : Option Addr) (c : Nat) (l : List S100) (W : World) (hr : Kd.C k100 W A l.length l) (hc : l.length ≤ c) (hl : l.length ≤ 5864062014805) :
    Calls Tryz.prog 41 #[infoV x (.slice A l.length c)] W fun e w' => ∃ v : Value, e = .returned (infoV x v) ∧ Kd.R k129 129 w' W.heap.size (fun _ => True) v (l.map toRu) ∧ Below W.heap.size W w' :=
  heptadlaw28_info.calls (l.length + 1) x.name x.kind x.perm x.owner x.last x.ch x.rd A c l x.name x.kind x.perm x.owner x.last x.ch x.rd (l.map toRu) W hr hc (by
    unfold heptadlaw28_info.f
    have := info_l0 x x l hl l.length 0 (l.length + 1) [] (by omega) (by omega) (by omega) rfl
    rw [List.drop_zero, List.nil_append] at this
    exact this)
theorem To_s {W : World} {A : Option Addr} {c B : Nat} {ok : Nat → Prop} {l : List S29} (hr : Kd.R k29 29 W B ok (.slice A l.length c) l) (hl : l.length ≤ 1000) :
    Calls Tryz.prog 29 #[.slice A l.length c] W fun e w' => ∃ A' c', e = .returned (.slice A' l.length c') ∧ Kd.R k62 62 w' W.heap.size (fun _ => True) (.slice A' l.length c') (l.map toU) ∧ Below W.heap.size W w' := by
  refine (To_c A c l W (Kd.R_reads' hr).2.2 (Kd.R_reads' hr).2.1 hl).mono ?_
  rintro e w' ⟨v, rfl, h1, h2⟩
  obtain ⟨A', c', hv⟩ := Kd.R_slice h1
  rw [List.length_map] at hv
  subst hv
  exact ⟨A', c', rfl, h1, h2⟩
theorem info_s (x : FS) {W : World} {A : Option Addr} {c B : Nat} {ok : Nat → Prop} {l : List S100} (hr : Kd.R k100 100 W B ok (.slice A l.length c) l) (hl : l.length ≤ 1000) :
    Calls Tryz.prog 41 #[infoV x (.slice A l.length c)] W fun e w' => ∃ A' c', e = .returned (infoV x (.slice A' l.length c')) ∧ Kd.R k129 129 w' W.heap.size (fun _ => True) (.slice A' l.length c') (l.map toRu) ∧ Below W.heap.size W w' := by
  refine (info_c x A c l W (Kd.R_reads' hr).2.2 (Kd.R_reads' hr).2.1 (by omega)).mono ?_
  rintro e w' ⟨v, rfl, h1, h2⟩
  obtain ⟨A', c', hv⟩ := Kd.R_slice h1
  rw [List.length_map] at hv
  subst hv
  exact ⟨A', c', rfl, h1, h2⟩
theorem same_s {α : Type} {d : Kd α} {e : Nat} {W : World} {A : Option Addr} {n c B : Nat} {ok : Nat → Prop} {xs : List α} (h : Kd.R d e W B ok (.slice A n c) xs) : d.C W A xs.length xs ∧ xs.length ≤ c := by
  obtain ⟨h1, h2, h3⟩ := Kd.R_reads' h
  subst h1
  exact ⟨h3, h2⟩
theorem Same_s {W : World} {A0 A1 : Option Addr} {c0 c1 B0 B1 : Nat} {ok0 ok1 : Nat → Prop} {a b : List S29} (h0 : Kd.R k62 62 W B0 ok0 (.slice A0 a.length c0) (a.map toU)) (h1 : Kd.R k62 62 W B1 ok1 (.slice A1 b.length c1) (b.map toU)) (hl : a.length ≤ 1000) :
    ∃ r : Bool, (a = b → r = true) ∧ Calls Tryz.prog 28 #[.slice A0 a.length c0, .slice A1 b.length c1] W fun e w' => e = .returned (.bool r) ∧ Below W.heap.size W w' := by
  obtain ⟨r, hr, hrt⟩ := Same_ex (a.map toU) (b.map toU) (by rw [List.length_map]; exact hl)
  refine ⟨r, fun e => hrt (by rw [e]), ?_⟩
  have := heptadref28_Same.calls _ A0 c0 (a.map toU) A1 c1 (b.map toU) r W (same_s h0).1 (same_s h0).2 (same_s h1).1 (same_s h1).2 hr
  rw [List.length_map, List.length_map] at this
  refine this.mono ?_
  rintro e w' ⟨rfl, hd⟩
  exact ⟨rfl, hd.below⟩
theorem SameInfo_s {W : World} {A0 A1 : Option Addr} {c0 c1 B0 B1 : Nat} {ok0 ok1 : Nat → Prop} (x y : FS) {a b : List S100} (h0 : Kd.R k129 129 W B0 ok0 (.slice A0 a.length c0) (a.map toRu)) (h1 : Kd.R k129 129 W B1 ok1 (.slice A1 b.length c1) (b.map toRu)) (hl : a.length ≤ 10) {r : Bool} (hr : r = sameInfoB x y (a.map toRu) (b.map toRu)) :
    Calls Tryz.prog 40 #[infoV x (.slice A0 a.length c0), infoV y (.slice A1 b.length c1)] W fun e w' => e = .returned (.bool r) ∧ Below W.heap.size W w' := by
  have := SameInfo_c x y A0 A1 c0 c1 (a.map toRu) (b.map toRu) W (same_s h0).1 (same_s h0).2 (same_s h1).1 (same_s h1).2 (by rw [List.length_map]; omega)
  rw [List.length_map, List.length_map, ← hr] at this
  exact this
end Go.Proofs.YtehlmkgldcfciaaGreat.Files
/- The reference's store: Erase. -/
set_option linter.unusedVariables false
set_option linter.unusedSimpArgs false
namespace Go.Proofs.YtehlmkgldcfciaaGreat.Files
open Go.Proofs.YtehlmkgldcfciaaGreat.Common Go.Maps Go.ChangeMaps Go.WideMaps Go.Proofs.YtehlmkgldcfciaaGreat.F
open Go.RowKit Go.Proofs.YtehlmkgldcfciaaGreatW.PrintWords Go.Proofs.YtehlmkgldcfciaaGreatW.PrintLast Go.Proofs.YtehlmkgldcfciaaGreatW.PrintMore
set_option maxRecDepth 100000 in
set_option maxHeartbeats 4000000 in
theorem rErase_c (rb c : Nat) (ok : Nat → Prop) (st : Fs) (A : Option Addr) (u n : ByteArray) (at_ : Int) (W : World) (h : RParts W ok rb st A c) (hI : RInv st) :
    Calls Tryz.prog 37 #[.pointer (some ⟨rb, 0, none⟩), .string u, .string n, .int .i64 at_] W (ROut W ok rb (.int .i64 (mErase st u n at_).1) (mErase st u n at_).2) := by
  have C56 := Aside0.mk (rbad_c rb u n W h.c0)
  have CB := Aside0.mk (begin_c rb c ok st A u n W h)
  have HRR := Aside0.mk (show RRep W ok rb st from ⟨A, c, h⟩)
  cases hbad : (userB u && nameB n) with
  | false =>
    rw [hbad] at C56
    have HM := Aside0.mk (show mErase st u n at_ = (1, st) by unfold mErase; rw [mUnit_bad hbad])
    clear h hbad CB hI
    go_enter Tryz.func37, Tryz.ntmps37
    go_wp2_with first | (go_at_call 56; refine C56.out.mono ?_; rintro e w' ⟨rfl, rfl⟩)
    refine bodyPost_ret (v := .int .i64 1) (by simp [results, Tryz.f37, go_sem]) rfl ?_
    exact ROut.stay HRR.out (Below.refl _ _) (by rw [HM.out]) (by rw [HM.out])
  | true =>
   rw [hbad] at C56
   by_cases hr : at_ < 0
   · have g1 : decide (at_ < 0) = true := decide_eq_true hr
     have HM := Aside0.mk (show mErase st u n at_ = (1, st) by unfold mErase; rw [mUnit_neg hr])
     clear h hbad CB hr hI
     go_enter Tryz.func37, Tryz.ntmps37
     go_wp2_with first | (go_at_call 56; refine C56.out.mono ?_; rintro e w' ⟨rfl, rfl⟩)
     refine bodyPost_ret (v := .int .i64 1) (by simp [results, Tryz.f37, go_sem]) rfl ?_
     exact ROut.stay HRR.out (Below.refl _ _) (by rw [HM.out]) (by rw [HM.out])
   have g1 : decide (at_ < 0) = false := decide_eq_false hr
   have HN0 := Aside0.mk hr
   clear hr
   cases hB : mBegin st u n with
   | error E =>
     rw [hB] at CB
     have hE := mBegin_E hB
     have HM := Aside0.mk (show mErase st u n at_ = (E, st) by unfold mErase; rw [mUnit_err HN0.out (mOpened_err hbad hB 16)])
     clear h hbad hB hI
     go_enter Tryz.func37, Tryz.ntmps37
     go_wp2_with first | (go_at_call 56; refine C56.out.mono ?_; rintro e w' ⟨rfl, rfl⟩) | (go_at_call 67; refine CB.out.mono ?_; rintro e w2 ⟨hb2, rfl⟩)
     refine bodyPost_ret (v := .int .i64 E) (by simp [results, Tryz.f37, go_sem]) rfl ?_
     exact ROut.stay HRR.out (hb2) (by rw [HM.out]) (by rw [HM.out])
   | ok p =>
     obtain ⟨k, f, a⟩ := p
     rw [hB] at CB
     obtain ⟨hk, hnm⟩ := mBegin_at hB
     have HMU := Aside0.mk (mOpened_ok hbad hB 16)
     have HDD := Aside0.mk (denied_cases a 16)
     have HWI := Aside0.mk (within_den a 16 4 (by decide) rfl)
     have HU := Aside0.mk (hI.units f (List.mem_of_getElem? hk))
     have HR := Aside0.mk h
     have HHK := Aside0.mk hk
     clear hB hnm hk hI h
     by_cases hpl : (f.units.length : Int) ≤ at_
     · have g3 : decide ((f.units.length : Int) ≤ at_) = true := decide_eq_true hpl
       have HM := Aside0.mk (show mErase st u n at_ = (3, st) by unfold mErase; rw [mUnit_none HN0.out HMU.out hpl])
       clear hpl
       go_enter Tryz.func37, Tryz.ntmps37
       go_wp2_with first | (go_at_call 56; refine C56.out.mono ?_; rintro e w' ⟨rfl, rfl⟩)
       refine CB.out.mono ?_
       rintro e w2 ⟨hb2, rfl⟩
       have h := HR.out
       have hk := HHK.out
       have R2 := h.below hb2
       obtain ⟨g, Ar, cr, Au, cu, Ao, co, T⟩ := R2.row hk
       have hil : k < st.length := (List.getElem?_eq_some_iff.1 hk).1
       have hlz : (k : Int) < (st.length : Int) := by omega
       have hk0 : decide ((k : Int) < 0) = false := decide_eq_false (by omega)
       have c1 := R2.c1
       have hA := T.hA
       subst hA
       obtain ⟨x0, x1, x2, x3, x4, x5, x6, x7, x8, x9⟩ := T.x
       have HH := Aside0.mk R2
       have HT := Aside0.mk T
       have HK := Aside0.mk hk
       have hrb := R2.lt rb R2.okr
       have hgl := R2.glt T
       have hne : g ≠ rb := T.okg.2
       have hne2 : rb ≠ g := Ne.symm hne
       have HB2 := Aside0.mk hb2
       clear R2 T h hk hb2
       go_wp2
       refine bodyPost_ret (v := .int .i64 3) (by simp [results, Tryz.f37, go_sem]) rfl ?_
       exact ROut.stay HRR.out HB2.out (by rw [HM.out]) (by rw [HM.out])
     · have g3 : decide ((f.units.length : Int) ≤ at_) = false := decide_eq_false hpl
       have HMK := Aside0.mk (mUnit_ok HN0.out HMU.out hpl)
       obtain ⟨i, rfl⟩ : ∃ i : Nat, at_ = (i : Int) := ⟨at_.toNat, by have := HN0.out; omega⟩
       have hil2 : i < f.units.length := by omega
       rw [Int.toNat_natCast] at HMK
       clear hpl
       rcases HDD.out with hd0 | hd12
       · have gW : decide (bits .and .i64 16 a = 16) = true := by rw [HWI.out, hd0]; rfl
         have HM := Aside0.mk (show mErase st u n (i : Int) = (0, st.set k (f.erased u i)) by unfold mErase; rw [HMK.out]; simp only [hd0, if_pos])
         clear hd0
         rcases Nat.eq_zero_or_pos i with rfl | hpos
         · go_enter Tryz.func37, Tryz.ntmps37
           go_wp2_with first | (go_at_call 56; refine C56.out.mono ?_; rintro e w' ⟨rfl, rfl⟩)
           refine CB.out.mono ?_
           rintro e w2 ⟨hb2, rfl⟩
           have h := HR.out
           have hk := HHK.out
           have R2 := h.below hb2
           obtain ⟨g, Ar, cr, Au, cu, Ao, co, T⟩ := R2.row hk
           have hil : k < st.length := (List.getElem?_eq_some_iff.1 hk).1
           have hlz : (k : Int) < (st.length : Int) := by omega
           have hk0 : decide ((k : Int) < 0) = false := decide_eq_false (by omega)
           have c1 := R2.c1
           have hA := T.hA
           subst hA
           obtain ⟨x0, x1, x2, x3, x4, x5, x6, x7, x8, x9⟩ := T.x
           have HH := Aside0.mk R2
           have HT := Aside0.mk T
           have HK := Aside0.mk hk
           have hrb := R2.lt rb R2.okr
           have hgl := R2.glt T
           have hne : g ≠ rb := T.okg.2
           have hne2 : rb ≠ g := Ne.symm hne
           have HB2 := Aside0.mk hb2
           have HTK := Aside0.mk (fun (m : Nat) w (hb : Below w2.heap.size w2 w) (hm : m < f.units.length) => take_row (m := m) (Kd.C_below T.In.uC.2 hb) (n := f.units.length) (by simp) (Nat.le_of_lt hm))
           have HDR := Aside0.mk (fun (m : Nat) w (hb : Below w2.heap.size w2 w) (hm : m ≤ f.units.length) => drop_row (m := m) (c := cu) (Kd.C_below T.In.uC.2 hb) (n := f.units.length) (by simp) hm T.In.uC.1)
           have HCU := Aside0.mk (fun (i : Nat) w (hb : Below w2.heap.size w2 w) (hi : i < f.units.length) => under_c Au cu i f.units w (Kd.C_below T.In.uC.2 hb) T.In.uC.1 hi)
           have hul := HU.out.1.len
           have hcu := T.In.uC.1
           have hicu : 0 ≤ cu := by omega
           obtain ⟨E, hE⟩ : ∃ E, E = endOf f.units 0 := ⟨_, rfl⟩
           have HE := Aside0.mk hE
           have HEL := Aside0.mk (show E ≤ f.units.length by rw [hE]; exact (endOf_le hil2).2)
           have hEz : (E : Int) ≤ (f.units.length : Int) := by have := HEL.out; omega
           have hE0 : (0 : Int) ≤ (E : Int) := by omega
           have HRT := Aside0.mk (show (f.units[0]'hil2).f0 = ⟨#[]⟩ by have := HU.out.2.2.1; unfold nm at this; rwa [rd_get _ _ hil2] at this)
           have g30 : decide ((f.units.length : Int) ≤ 0) = false := decide_eq_false (by omega)
           have g31 : ¬ (f.units.length : Int) ≤ 0 := by omega
           have hlen0 : (0 : Int) < (f.units.length : Int) := by omega
           have g32 : ¬ f.units.length = 0 := by omega
           have g33 : ¬ f.units = [] := fun e => by rw [e] at hil2; simp at hil2
           obtain ⟨N, hN⟩ : ∃ N, N = (f.erased u 0).units.length := ⟨_, rfl⟩
           have HN := Aside0.mk hN
           have HEQ := Aside0.mk (show (f.erased u 0).units.map toU = ([⟨⟨#[]⟩, ⟨#[]⟩, 0⟩] : List S62) ++ (f.units.map toU).drop E by
             have h1 : E = f.units.length := by rw [hE]; exact endOf_root HU.out.2.2.2 HU.out.1.pos
             rw [h1, List.drop_eq_nil_of_le (by simp)]
             rfl)
           have HLEN := Aside0.mk (show (([⟨⟨#[]⟩, ⟨#[]⟩, 0⟩] : List S62) ++ (f.units.map toU).drop E).length = N by rw [hN, ← List.length_map (f := toU), HEQ.out])
           clear R2 T h hk hb2 hE hN x0 x1 x2 x3 x4 x5 x6 x7 x9 hcu
           go_wp2_with fail
           refine (rwithin_c 16 a _).mono ?_
           rintro e w' ⟨rfl, rfl⟩
           obtain ⟨adu, hAu, y0, _, _⟩ := at_units HT.out.In.uC.2 0 hil2
           have HAU := Aside0.mk hAu
           have y0 : w2.cell? (adu.add 0) = some (.string f.units[0].f0) := y0
           subst hAu
           rw [HRT.out] at y0
           have HY0 := Aside0.mk y0
           clear y0
           go_wp2_with (first
             | ((with_reducible refine gate_dst (N := 48) rfl ?_); refine Kd.R_lit k62 (w0 := w2) w2.heap.size 62 ?hg (N := 48) ?hd (xs := ([] : List S62)) (inner := []) (ok := fun _ => True) (okp := fun _ => True) ?hr ?hp (fun _ hk => hk) trivial (Below.refl _ _) (Nat.le_refl _) (by simp) ?_; (case hd => rfl); (case hg => rfl); (case hr => first | (go_simp; done) | (go_simp; rfl)); (case hp => exact (Reps.none _ _)); intro v1 x1 ho hb _ _; have HO1 := Aside0.mk ho; have HB1 := Aside0.mk hb; clear ho hb)
             | ((with_reducible refine gate_builtin (b := .append) (xs := #[.tmp 48, .tmp 51]) rfl ?_); at_builtin; refine Kd.R_append_rows k62 (Rr := k62.K x1) (w0 := w2) w2.heap.size rfl (.tmp 48) (.tmp 51) 55 62 (.agg #[.string ⟨#[]⟩, .string ⟨#[]⟩, .int .i64 0]) 40 rfl Tryz.underlying55 (by kernel_rfl) rfl (by decide) (by omega) v1 [] ((f.units.map toU).take 0) _ 0 _ (fun _ => True) (fun _ => False) rfl rfl HO1.out (HTK.out 0 _ HB1.out hil2) (fun x cs h => by rw [k62_open h]; exact k62_mkM _ _ _ _) (fun _ h => h.elim) (fun _ _ => trivial) HB1.out HB1.out.size (by simp only [List.length_nil]; omega) ?_; intro v3 x3 ho hb _ _; rw [List.nil_append] at ho; have HB3 := Aside0.mk hb; have HO3 := Aside0.mk ho; clear ho hb; have y3 := pw_cell_below HB3.out HY0.out; have y3b := add_zero' y3)
             | ((with_reducible refine gate_dst (N := 60) rfl ?_); refine Kd.R_lit k62 (w0 := w2) w2.heap.size 62 ?hg (N := 60) ?hd (xs := ([⟨⟨#[]⟩, ⟨#[]⟩, 0⟩] : List S62)) (inner := [.string ⟨#[]⟩, .string ⟨#[]⟩, .int .i64 0]) (ok := fun _ => True) (okp := fun _ => True) ?hr ?hp (fun _ hk => hk) trivial HB3.out HB3.out.size (by simp) ?_; (case hd => rfl); (case hg => rfl); (case hr => first | (go_simp; done) | (go_simp; rfl)); (case hp => exact (Reps.c3 (k62_mkM _ _ _ _) (Reps.none _ _))); intro v4 x4 ho hb _ _; have HO4 := Aside0.mk ho; have HB4 := Aside0.mk hb; clear ho hb))
           refine (HCU.out 0 _ HB4.out hil2).mono ?_
           rintro e xu ⟨rfl, ⟨mu, rfl⟩⟩
           have HBU := Aside0.mk (pw_below_drewN HB4.out mu)
           rw [← HE.out]
           go_wp2_with (first
             | ((with_reducible refine gate_builtin (b := .append) (xs := #[.tmp 64, .tmp 69]) rfl ?_); at_builtin; refine Kd.R_append_rows k62 (Rr := k62.K (x4.drewN mu)) (w0 := w2) w2.heap.size rfl (.tmp 64) (.tmp 69) 55 62 (.agg #[.string ⟨#[]⟩, .string ⟨#[]⟩, .int .i64 0]) 40 rfl Tryz.underlying55 (by kernel_rfl) rfl (by decide) (by omega) v4 [⟨⟨#[]⟩, ⟨#[]⟩, 0⟩] ((f.units.map toU).drop E) _ (f.units.length - E) _ (fun _ => True) (fun _ => False) rfl rfl (Kd.R_drewN HO4.out mu) (HDR.out E _ HBU.out HEL.out) (fun x cs h => by rw [k62_open h]; exact k62_mkM _ _ _ _) (fun _ h => h.elim) (fun _ _ => trivial) HBU.out HBU.out.size (by simp only [List.length_cons, List.length_nil]; omega) ?_; intro v5 x5 ho hb _ _; have HB5 := Aside0.mk hb; obtain ⟨A5, c5, hv5⟩ := Kd.R_slice ho; rw [HLEN.out] at hv5; subst hv5; have HO5 := Aside0.mk ho; clear ho hb))
           all_goals
             have CC := rchanged_out (who := u) (l := (f.erased u 0).units) (Al := A5) (cl := c5) HH.out HK.out HT.out HB5.out (by rw [HEQ.out, ← HN.out]; exact HO5.out)
             rw [← HN.out] at CC
             refine CC.mono ?_
             rintro e w7 ⟨rfl, hR'⟩
             have HR7 := Aside0.mk hR'
             clear hR' CC
             go_wp2
             refine bodyPost_ret (v := .int .i64 0) (by simp [results, Tryz.f37, go_sem]) rfl ?_
             rw [HM.out]
             exact ROut.from_ HB2.out ⟨rfl, HR7.out⟩

         · go_enter Tryz.func37, Tryz.ntmps37
           go_wp2_with first | (go_at_call 56; refine C56.out.mono ?_; rintro e w' ⟨rfl, rfl⟩)
           refine CB.out.mono ?_
           rintro e w2 ⟨hb2, rfl⟩
           have h := HR.out
           have hk := HHK.out
           have R2 := h.below hb2
           obtain ⟨g, Ar, cr, Au, cu, Ao, co, T⟩ := R2.row hk
           have hil : k < st.length := (List.getElem?_eq_some_iff.1 hk).1
           have hlz : (k : Int) < (st.length : Int) := by omega
           have hk0 : decide ((k : Int) < 0) = false := decide_eq_false (by omega)
           have c1 := R2.c1
           have hA := T.hA
           subst hA
           obtain ⟨x0, x1, x2, x3, x4, x5, x6, x7, x8, x9⟩ := T.x
           have HH := Aside0.mk R2
           have HT := Aside0.mk T
           have HK := Aside0.mk hk
           have hrb := R2.lt rb R2.okr
           have hgl := R2.glt T
           have hne : g ≠ rb := T.okg.2
           have hne2 : rb ≠ g := Ne.symm hne
           have HB2 := Aside0.mk hb2
           have HTK := Aside0.mk (fun (m : Nat) w (hb : Below w2.heap.size w2 w) (hm : m < f.units.length) => take_row (m := m) (Kd.C_below T.In.uC.2 hb) (n := f.units.length) (by simp) (Nat.le_of_lt hm))
           have HDR := Aside0.mk (fun (m : Nat) w (hb : Below w2.heap.size w2 w) (hm : m ≤ f.units.length) => drop_row (m := m) (c := cu) (Kd.C_below T.In.uC.2 hb) (n := f.units.length) (by simp) hm T.In.uC.1)
           have HCU := Aside0.mk (fun (i : Nat) w (hb : Below w2.heap.size w2 w) (hi : i < f.units.length) => under_c Au cu i f.units w (Kd.C_below T.In.uC.2 hb) T.In.uC.1 hi)
           have hul := HU.out.1.len
           have hcu := T.In.uC.1
           have hicu : i ≤ cu := by omega
           obtain ⟨E, hE⟩ : ∃ E, E = endOf f.units i := ⟨_, rfl⟩
           have HE := Aside0.mk hE
           have HEL := Aside0.mk (show E ≤ f.units.length by rw [hE]; exact (endOf_le hil2).2)
           have hEz : (E : Int) ≤ (f.units.length : Int) := by have := HEL.out; omega
           have hE0 : (0 : Int) ≤ (E : Int) := by omega
           obtain ⟨N, hN⟩ : ∃ N, N = (f.erased u i).units.length := ⟨_, rfl⟩
           have HN := Aside0.mk hN
           have HEQ := Aside0.mk (show (f.erased u i).units.map toU = (f.units.map toU).take i ++ (f.units.map toU).drop E by
             unfold AF.erased
             simp only [if_neg (show ¬ i = 0 by omega)]
             rw [List.map_append, List.map_take, List.map_drop, hE])
           have gz : ((i : Int) == 0) = false := by simp; omega
           have HLEN := Aside0.mk (show ((f.units.map toU).take i ++ (f.units.map toU).drop E).length = N by rw [hN, ← List.length_map (f := toU), HEQ.out])
           clear R2 T h hk hb2 hE hN x0 x1 x2 x3 x4 x5 x6 x7 x9 hcu
           go_wp2_with fail
           refine (rwithin_c 16 a _).mono ?_
           rintro e w' ⟨rfl, rfl⟩
           go_wp2_with (first
             | ((with_reducible refine gate_dst (N := 48) rfl ?_); refine Kd.R_lit k62 (w0 := w2) w2.heap.size 62 ?hg (N := 48) ?hd (xs := ([] : List S62)) (inner := []) (ok := fun _ => True) (okp := fun _ => True) ?hr ?hp (fun _ hk => hk) trivial (Below.refl _ _) (Nat.le_refl _) (by simp) ?_; (case hd => rfl); (case hg => rfl); (case hr => first | (go_simp; done) | (go_simp; rfl)); (case hp => exact (Reps.none _ _)); intro v1 x1 ho hb _ _; have HO1 := Aside0.mk ho; have HB1 := Aside0.mk hb; clear ho hb)
             | ((with_reducible refine gate_builtin (b := .append) (xs := #[.tmp 48, .tmp 51]) rfl ?_); at_builtin; refine Kd.R_append_rows k62 (Rr := k62.K x1) (w0 := w2) w2.heap.size rfl (.tmp 48) (.tmp 51) 55 62 (.agg #[.string ⟨#[]⟩, .string ⟨#[]⟩, .int .i64 0]) 40 rfl Tryz.underlying55 (by kernel_rfl) rfl (by decide) (by omega) v1 [] ((f.units.map toU).take i) _ i _ (fun _ => True) (fun _ => False) rfl rfl HO1.out (HTK.out i _ HB1.out hil2) (fun x cs h => by rw [k62_open h]; exact k62_mkM _ _ _ _) (fun _ h => h.elim) (fun _ _ => trivial) HB1.out HB1.out.size (by simp only [List.length_nil]; omega) ?_; intro v3 x3 ho hb _ _; rw [List.nil_append] at ho; have HB3 := Aside0.mk hb; have HO3 := Aside0.mk ho; clear ho hb))
           refine (HCU.out i _ HB3.out hil2).mono ?_
           rintro e xu ⟨rfl, ⟨mu, rfl⟩⟩
           have HBU := Aside0.mk (pw_below_drewN HB3.out mu)
           rw [← HE.out]
           go_wp2_with (first
             | ((with_reducible refine gate_builtin (b := .append) (xs := #[.tmp 64, .tmp 69]) rfl ?_); at_builtin; refine Kd.R_append_rows k62 (Rr := k62.K (x3.drewN mu)) (w0 := w2) w2.heap.size rfl (.tmp 64) (.tmp 69) 55 62 (.agg #[.string ⟨#[]⟩, .string ⟨#[]⟩, .int .i64 0]) 40 rfl Tryz.underlying55 (by kernel_rfl) rfl (by decide) (by omega) v3 ((f.units.map toU).take i) ((f.units.map toU).drop E) _ (f.units.length - E) _ (fun _ => True) (fun _ => False) rfl rfl (Kd.R_drewN HO3.out mu) (HDR.out E _ HBU.out HEL.out) (fun x cs h => by rw [k62_open h]; exact k62_mkM _ _ _ _) (fun _ h => h.elim) (fun _ _ => trivial) HBU.out HBU.out.size (by rw [List.length_take, List.length_map]; omega) ?_; intro v5 x5 ho hb _ _; have HB5 := Aside0.mk hb; obtain ⟨A5, c5, hv5⟩ := Kd.R_slice ho; rw [HLEN.out] at hv5; subst hv5; have HO5 := Aside0.mk ho; clear ho hb))
           all_goals
             have CC := rchanged_out (who := u) (l := (f.erased u i).units) (Al := A5) (cl := c5) HH.out HK.out HT.out HB5.out (by rw [HEQ.out, ← HN.out]; exact HO5.out)
             rw [← HN.out] at CC
             refine CC.mono ?_
             rintro e w7 ⟨rfl, hR'⟩
             have HR7 := Aside0.mk hR'
             clear hR' CC
             go_wp2
             refine bodyPost_ret (v := .int .i64 0) (by simp [results, Tryz.f37, go_sem]) rfl ?_
             rw [HM.out]
             exact ROut.from_ HB2.out ⟨rfl, HR7.out⟩

       · have gW : decide (bits .and .i64 16 a = 16) = false := by rw [HWI.out, hd12]; rfl
         have HM := Aside0.mk (show mErase st u n (i : Int) = (12, st) by unfold mErase; rw [HMK.out]; simp only [hd12]; rfl)
         clear hd12
         go_enter Tryz.func37, Tryz.ntmps37
         go_wp2_with first | (go_at_call 56; refine C56.out.mono ?_; rintro e w' ⟨rfl, rfl⟩)
         refine CB.out.mono ?_
         rintro e w2 ⟨hb2, rfl⟩
         have h := HR.out
         have hk := HHK.out
         have R2 := h.below hb2
         obtain ⟨g, Ar, cr, Au, cu, Ao, co, T⟩ := R2.row hk
         have hil : k < st.length := (List.getElem?_eq_some_iff.1 hk).1
         have hlz : (k : Int) < (st.length : Int) := by omega
         have hk0 : decide ((k : Int) < 0) = false := decide_eq_false (by omega)
         have c1 := R2.c1
         have hA := T.hA
         subst hA
         obtain ⟨x0, x1, x2, x3, x4, x5, x6, x7, x8, x9⟩ := T.x
         have HH := Aside0.mk R2
         have HT := Aside0.mk T
         have HK := Aside0.mk hk
         have hrb := R2.lt rb R2.okr
         have hgl := R2.glt T
         have hne : g ≠ rb := T.okg.2
         have hne2 : rb ≠ g := Ne.symm hne
         have HB2 := Aside0.mk hb2
         clear R2 T h hk hb2
         go_wp2_with fail
         refine (rwithin_c 16 a _).mono ?_
         rintro e w' ⟨rfl, rfl⟩
         go_wp2
         refine bodyPost_ret (v := .int .i64 12) (by simp [results, Tryz.f37, go_sem]) rfl ?_
         exact ROut.stay HRR.out HB2.out (by rw [HM.out]) (by rw [HM.out])
end Go.Proofs.YtehlmkgldcfciaaGreat.Files
/- The reference's store: Change. -/
set_option linter.unusedVariables false
set_option linter.unusedSimpArgs false
namespace Go.Proofs.YtehlmkgldcfciaaGreat.Files
open Go.Proofs.YtehlmkgldcfciaaGreat.Common Go.Maps Go.ChangeMaps Go.WideMaps Go.Proofs.YtehlmkgldcfciaaGreat.F
open Go.RowKit Go.Proofs.YtehlmkgldcfciaaGreatW.PrintWords Go.Proofs.YtehlmkgldcfciaaGreatW.PrintLast Go.Proofs.YtehlmkgldcfciaaGreatW.PrintMore
def RChange.T14 : Bool × List (List Nat × List Nat) := (true, [([], []), ([0], [0]), ([1], [1]), ([2], [2]), ([], []), ([], []), ([], []), ([5, 6], [5, 6]), ([3, 4, 0, 1, 2, 3, 4, 5, 6, 7], [3, 4]), ([8, 0, 1, 2, 3, 4, 5, 6, 7], [8]), ([9, 0, 1, 2, 3, 4, 5, 6, 7], [9]), ([10, 7, 7, 0, 1, 2, 3, 4, 5, 6, 7], [7, 10])])
def RChange.B14 : List Nat := [0, 1, 3, 7, 0, 0, 0, 96, 255, 511, 1023, 2047]
theorem RChange.tab14 : rtab .any (opsOf Tryz.f43 14) = RChange.T14 := by kernel_rfl
theorem RChange.bits14 : waitsOk RChange.T14.2 RChange.B14 = true := by kernel_rfl
set_option maxRecDepth 100000 in
set_option maxHeartbeats 4000000 in
theorem rChange_c (rb c : Nat) (ok : Nat → Prop) (st : Fs) (A : Option Addr) (u n : ByteArray) (perm : Int) (Aq : Option Addr) (cq : Nat) (rules : List S100) (W : World) (h : RParts W ok rb st A c) (B : Nat) (hrules : k129.R 129 W B (fun _ => True) (.slice Aq rules.length cq) (rules.map toRu)) (hBo : ∀ k, ok k → k < B) :
    Calls Tryz.prog 43 #[.pointer (some ⟨rb, 0, none⟩), .string u, .string n, .int .i64 perm, .slice Aq rules.length cq] W (ROut W ok rb (.int .i64 (mChange st u n perm rules).1) (mChange st u n perm rules).2) := by
  have C56 := Aside0.mk (rbad_c rb u n W h.c0)
  have CB := Aside0.mk (begin_c rb c ok st A u n W h)
  have HRR := Aside0.mk (show RRep W ok rb st from ⟨A, c, h⟩)
  have CS := Aside0.mk (rset_c perm W)
  have HRR2 := Aside0.mk (Kd.R_reads' hrules).2.2
  have HRU := Aside0.mk hrules
  have HBO := Aside0.mk hBo
  have hcq : rules.length ≤ cq := (Kd.R_reads' hrules).2.1
  clear hBo
  cases hbad : (userB u && nameB n) with
  | false =>
    rw [hbad] at C56
    have HM := Aside0.mk (show mChange st u n perm rules = (1, st) by unfold mChange; split <;> first | rfl | rw [mOpened_bad hbad])
    clear h hbad CB hrules
    go_enter Tryz.func43, Tryz.ntmps43
    go_wp2_with first | (go_at_call 56; refine C56.out.mono ?_; rintro e w' ⟨rfl, rfl⟩)
    refine bodyPost_ret (v := .int .i64 1) (by simp [results, Tryz.f43, go_sem]) rfl ?_
    exact ROut.stay HRR.out (Below.refl _ _) (by rw [HM.out]) (by rw [HM.out])
  | true =>
   rw [hbad] at C56
   by_cases hr : setB perm = false
   · rw [hr] at CS
     have HM := Aside0.mk (show mChange st u n perm rules = (1, st) by unfold mChange changeOk; rw [hr]; rfl)
     clear h hbad CB hr hrules
     go_enter Tryz.func43, Tryz.ntmps43
     go_wp2_with first | (go_at_call 56; refine C56.out.mono ?_; rintro e w' ⟨rfl, rfl⟩) | (go_at_call 57; refine CS.out.mono ?_; rintro e w' ⟨rfl, rfl⟩)
     refine bodyPost_ret (v := .int .i64 1) (by simp [results, Tryz.f43, go_sem]) rfl ?_
     exact ROut.stay HRR.out (Below.refl _ _) (by rw [HM.out]) (by rw [HM.out])
   simp only [Bool.not_eq_false] at hr
   rw [hr] at CS
   have HSB := Aside0.mk hr
   clear hr
   by_cases hr : 10 < rules.length
   · have g2 : decide ((10 : Int) < (rules.length : Int)) = true := decide_eq_true (by omega)
     have HM := Aside0.mk (show mChange st u n perm rules = (1, st) by unfold mChange changeOk; rw [decide_eq_false (show ¬ rules.length ≤ 10 by omega)]; simp)
     clear h hbad CB hr hrules
     go_enter Tryz.func43, Tryz.ntmps43
     go_wp2_with first | (go_at_call 56; refine C56.out.mono ?_; rintro e w' ⟨rfl, rfl⟩) | (go_at_call 57; refine CS.out.mono ?_; rintro e w' ⟨rfl, rfl⟩)
     refine bodyPost_ret (v := .int .i64 1) (by simp [results, Tryz.f43, go_sem]) rfl ?_
     exact ROut.stay HRR.out (Below.refl _ _) (by rw [HM.out]) (by rw [HM.out])
   have g2 : decide ((10 : Int) < (rules.length : Int)) = false := decide_eq_false (by omega)
   have HL0 := Aside0.mk hr
   clear hr
   have HR := Aside0.mk h
   clear h hrules
   go_enter Tryz.func43, Tryz.ntmps43
   have hl10 : rules.length ≤ 10 := by have := HL0.out; omega
   go_wp2_with first | (go_at_call 56; refine C56.out.mono ?_; rintro e w' ⟨rfl, rfl⟩) | (go_at_call 57; refine CS.out.mono ?_; rintro e w' ⟨rfl, rfl⟩)
   go_loopw [11] (fun s wr => ∃ j : Nat, s = .int .i64 j ∧ j ≤ rules.length ∧ W = wr ∧ Aside0 (∀ q, q < j → badRule (rules.getD q z100) = false)) (fun s _ => rules.length - (intOf s).toNat)
   case atStart => exact ⟨0, rfl, by omega, rfl, ⟨fun q hq => absurd hq (by omega)⟩⟩
   case round =>
     obtain ⟨j, rfl, hj, rfl, HF⟩ := hrel
     by_cases hlt : j < rules.length
     · have hltz : (j : Int) < (rules.length : Int) := by omega
       have hj0 : decide ((j : Int) < 0) = false := decide_eq_false (by omega)
       obtain ⟨ad, rfl, y0, y1⟩ := at_rules HRR2.out j hlt
       have HG := Aside0.mk (show rules.getD j z100 = rules[j] by rw [List.getD_eq_getElem?_getD, List.getElem?_eq_getElem hlt]; rfl)
       have HME := Aside0.mk (List.getElem_mem hlt)
       generalize rules[j] = p at y0 y1 HG HME
       have CU := Aside0.mk (ruser_c p.f0 W)
       have CV := Aside0.mk (rset_c p.f1 W)
       cases hbr : badRule p with
       | true =>
         have HM := Aside0.mk (show mChange st u n perm rules = (1, st) by unfold mChange changeOk; rw [List.any_eq_true.2 ⟨p, HME.out, hbr⟩]; simp)
         unfold badRule at hbr
         by_cases hu : userB p.f0 = true
         · have hs : setB p.f1 = false := by rw [hu] at hbr; simpa using hbr
           rw [hu] at CU
           rw [hs] at CV
           clear hbr hu hs
           go_wp2_with first | (go_at_call 80; refine CU.out.mono ?_; rintro e w' ⟨rfl, rfl⟩) | (go_at_call 57; refine CV.out.mono ?_; rintro e w' ⟨rfl, rfl⟩)
           refine bodyPost_ret (v := .int .i64 1) (by simp [results, Tryz.f43, go_sem]) rfl ?_
           exact ROut.stay HRR.out (Below.refl _ _) (by rw [HM.out]) (by rw [HM.out])
         · have hu2 : userB p.f0 = false := by simpa using hu
           rw [hu2] at CU
           clear hbr hu hu2
           go_wp2_with first | (go_at_call 80; refine CU.out.mono ?_; rintro e w' ⟨rfl, rfl⟩)
           refine bodyPost_ret (v := .int .i64 1) (by simp [results, Tryz.f43, go_sem]) rfl ?_
           exact ROut.stay HRR.out (Below.refl _ _) (by rw [HM.out]) (by rw [HM.out])
       | false =>
         have HF2 := Aside0.mk (show ∀ q, q < j + 1 → badRule (rules.getD q z100) = false from fun q hq => by
           by_cases hqj : q = j
           · subst hqj
             rw [HG.out]; exact hbr
           · exact HF.out q (by omega))
         unfold badRule at hbr
         have hu : userB p.f0 = true := by cases h1 : userB p.f0 <;> simp_all
         have hs : setB p.f1 = true := by cases h1 : setB p.f1 <;> simp_all
         rw [hu] at CU
         rw [hs] at CV
         clear hbr hu hs
         go_wp2_with first | (go_at_call 80; refine CU.out.mono ?_; rintro e w' ⟨rfl, rfl⟩) | (go_at_call 57; refine CV.out.mono ?_; rintro e w' ⟨rfl, rfl⟩)
         go_roundw
         case rel => exact ⟨j + 1, by go_num, by omega, by trivial, HF2⟩
         case measure => (simp [intOf]; try omega)
     · have hltz : ¬ (j : Int) < (rules.length : Int) := by omega
       have HCO := Aside0.mk (show changeOk perm rules = true by
         unfold changeOk
         rw [HSB.out, decide_eq_true (show rules.length ≤ 10 by have := HL0.out; omega)]
         have : rules.any badRule = false := by
           rw [List.any_eq_false]
           intro x hx
           obtain ⟨q, hq, rfl⟩ := List.getElem_of_mem hx
           have := HF.out q (by omega)
           rw [List.getD_eq_getElem?_getD, List.getElem?_eq_getElem hq] at this
           simpa using this
         rw [this]; rfl)
       cases hB : mBegin st u n with
       | error E =>
         rw [hB] at CB
         have hE := mBegin_E hB
         have HM := Aside0.mk (show mChange st u n perm rules = (E, st) by unfold mChange; rw [if_neg (by rw [HCO.out]; simp), mOpened_err hbad hB 64])
         clear hB
         go_wp2_with first | (go_at_call 67; refine CB.out.mono ?_; rintro e w2 ⟨hb2, rfl⟩)
         refine bodyPost_ret (v := .int .i64 E) (by simp [results, Tryz.f43, go_sem]) rfl ?_
         exact ROut.stay HRR.out hb2 (by rw [HM.out]) (by rw [HM.out])
       | ok p =>
         obtain ⟨k, f, a⟩ := p
         rw [hB] at CB
         obtain ⟨hk, hnm⟩ := mBegin_at hB
         have HMO := Aside0.mk (mOpened_ok hbad hB 64)
         have HWI := Aside0.mk (within_den a 64 6 (by decide) rfl)
         have HHK := Aside0.mk hk
         clear hnm hB hk
         go_wp2_with fail
         refine CB.out.mono ?_
         rintro e w2 ⟨hb2, rfl⟩
         have h := HR.out
         have hk := HHK.out
         have R2 := h.below hb2
         obtain ⟨g, Ar, cr, Au, cu, Ao, co, T⟩ := R2.row hk
         have hil : k < st.length := (List.getElem?_eq_some_iff.1 hk).1
         have hlz : (k : Int) < (st.length : Int) := by omega
         have hk0 : decide ((k : Int) < 0) = false := decide_eq_false (by omega)
         have c1 := R2.c1
         have hA := T.hA
         subst hA
         obtain ⟨x0, x1, x2, x3, x4, x5, x6, x7, x8, x9⟩ := T.x
         have HH := Aside0.mk R2
         have HT := Aside0.mk T
         have HK := Aside0.mk hk
         have hrb := R2.lt rb R2.okr
         have hgl := R2.glt T
         have hne : g ≠ rb := T.okg.2
         have hne2 : rb ≠ g := Ne.symm hne
         have HB2 := Aside0.mk hb2
         have f2 := T.fz (k * 10 + 2)
         have HX7 := Aside0.mk x7
         rcases denied_cases a 64 with hd0 | hd12
         · have gW : decide (bits .and .i64 64 a = 64) = true := by rw [HWI.out, hd0]; rfl
           have HM := Aside0.mk (show mChange st u n perm rules = (0, st.set k (f.change perm rules)) by unfold mChange; rw [if_neg (by rw [HCO.out]; simp), HMO.out]; simp only [hd0, if_pos])
           -- THE FIRST STORE
           have h1 := R2.set T hk 2 (.int .i64 perm) (f' := { f with F := { f.F with perm := perm } }) (by decide) rfl ⟨T.In.r, T.In.u, T.In.o⟩
           obtain ⟨R3, hc3⟩ := h1
           obtain ⟨g3, Ar3, cr3, Au3, cu3, Ao3, co3, T3⟩ := R3.row (set_at hk)
           obtain rfl : g = g3 := by have := T.hA.symm.trans T3.hA; injection this with this; injection this
           have HR3 := Aside0.mk R3
           have HT3 := Aside0.mk T3
           have HK3 := Aside0.mk (set_at (y := { f with F := { f.F with perm := perm } }) hk)
           have HC3 := Aside0.mk hc3
           have HRC3 := Aside0.mk (fun w (hb : Below (w2.setCell ⟨g, k * 10 + 2, none⟩ (.int .i64 perm)).heap.size (w2.setCell ⟨g, k * 10 + 2, none⟩ (.int .i64 perm)) w) => (show Kd.C k129 w Aq rules.length (rules.map toRu) by
             have h1 := Kd.R_step (Kd.R_bound (Kd.R_below HRU.out hb2)) (fun k hk hlt => hc3.block k hlt (fun e => by have := HBO.out g T.okg.1; have := hk.2.1; omega))
             have := (Kd.R_reads' (Kd.R_below h1 hb)).2.2
             rwa [List.length_map] at this))
           have HOK := Aside0.mk T.okg.1
           have d1 := R3.c1
           rw [List.length_set] at d1
           have HY7 := Aside0.mk T3.x.2.2.2.2.2.2.2.1
           have HZ7 := Aside0.mk T3.fz
           have HGS := Aside0.mk (R3.glt T3)
           clear hd0 R2 T h hk x0 x1 x3 x4 x5 x6 x7 x8 x9 R3 T3 hc3 hb2
           go_wp2_with fail
           refine (rwithin_c 64 a _).mono ?_
           rintro e w' ⟨rfl, rfl⟩
           go_wp2_with fail
           generalize hW3 : w2.setCell ⟨g, k * 10 + 2, none⟩ (.int .i64 perm) = W3 at *
           refine start_ (n := 12) (S := fun w' => w'.cell? ⟨rb, 1, none⟩ = some (.slice (some ⟨g, 0, none⟩) st.length c)) (ds := [11]) #[false, false, false, false, false, false, false, false, false, false, false, false] (by kernel_rfl) rfl rfl (d1) (fun hHeld => ?_)
           refine with_tabW RChange.tab14 RChange.bits14 (fun HT_ HW_ => ?_)
           have HWD := Aside0.mk (show Below W3.heap.size W3 W3.drew from (Below.refl _ _).drew)
           generalize W3.drew = wd at HWD hHeld ⊢
           have HF0 := Aside0.mk hHeld
           refine pure_ (i := 0) (N := some 74) (v := ?_) (a' := ?_) #[true, false, false, false, false, false, false, false, false, false, false, false] rfl rfl (any_of HT_.out (by kernel_rfl)) (fun _ _ _ h => h) (Or.inl ⟨by rfl, ?_⟩) ?_ ?_
           rotate_left
           · intro w'
             go_simp
             with_reducible rfl
           rotate_left
           · simp only [Act.put, List.setIfInBounds_toArray, List.set_cons_zero, List.set_cons_succ, i64_w, i32_w]
             rfl
           refine pure_ (i := 1) (N := some 75) (v := ?_) (a' := ?_) #[true, true, false, false, false, false, false, false, false, false, false, false] rfl rfl (any_of HT_.out (by kernel_rfl)) (fun _ _ _ h => h) (Or.inl ⟨by rfl, ?_⟩) ?_ ?_
           rotate_left
           · intro w'
             go_simp
             with_reducible rfl
           rotate_left
           · simp only [Act.put, List.setIfInBounds_toArray, List.set_cons_zero, List.set_cons_succ, i64_w, i32_w]
             rfl
           refine pure_ (i := 2) (N := some 76) (v := ?_) (a' := ?_) #[true, true, true, false, false, false, false, false, false, false, false, false] rfl rfl (any_of HT_.out (by kernel_rfl)) (fun _ _ _ h => h) (Or.inl ⟨by rfl, ?_⟩) ?_ ?_
           rotate_left
           · intro w'
             go_simp
             with_reducible rfl
           rotate_left
           · simp only [Act.put, List.setIfInBounds_toArray, List.set_cons_zero, List.set_cons_succ, i64_w, i32_w]
             rfl
           refine pure_ (i := 4) (N := some 78) (v := ?_) (a' := ?_) #[true, true, true, false, true, false, false, false, false, false, false, false] rfl rfl (any_of HT_.out (by kernel_rfl)) (fun _ _ _ h => h) (Or.inl ⟨by rfl, ?_⟩) ?_ ?_
           rotate_left
           · intro w'
             go_simp
             with_reducible rfl
           rotate_left
           · simp only [Act.put, List.setIfInBounds_toArray, List.set_cons_zero, List.set_cons_succ, i64_w, i32_w]
             rfl
           refine pure_ (i := 6) (N := some 80) (v := ?_) (a' := ?_) #[true, true, true, false, true, false, true, false, false, false, false, false] rfl rfl (any_of HT_.out (by kernel_rfl)) (fun _ _ _ h => h) (Or.inl ⟨by rfl, ?_⟩) ?_ ?_
           rotate_left
           · intro w'
             go_simp
             with_reducible rfl
           rotate_left
           · simp only [Act.put, List.setIfInBounds_toArray, List.set_cons_zero, List.set_cons_succ, i64_w, i32_w]
             rfl
           refine take_ (i := 3) (N := some 77) (v := ?_) (a' := ?_) #[true, true, true, true, true, false, true, false, false, false, false, false] rfl rfl (take_ofW HT_.out HW_.out (by kernel_rfl)) (fun _ _ _ h => h) (Or.inl ⟨by rfl, ?_⟩) hHeld ?_ ?_
           rotate_left
           · intro w' s0
             go_simp
             with_reducible rfl
           rotate_left
           · simp only [Act.put, List.setIfInBounds_toArray, List.set_cons_zero, List.set_cons_succ, i64_w, i32_w]
             rfl
           refine one_ (i := 5) (N := some 79) #[true, true, true, true, true, true, true, false, false, false, false, false] rfl rfl (one_of HT_.out (by kernel_rfl)) (by decide) (fun K hK => ?_)
           refine Kd.R_lit_step k129 (w0 := wd) wd.heap.size 129 ?hg (N := 79) ?hd (xs := ([] : List S129)) (inner := []) (ok := fun _ => True) (okp := fun _ => True) ?hr ?hp (fun _ hk => hk) trivial (Below.refl _ _) (Nat.le_refl _) (by simp) ?_; (case hd => rfl); (case hg => rfl); (case hr => first | (go_simp; done) | (go_simp; rfl)); (case hp => exact (Reps.none _ _))
           intro v1 x1 ho hb _ _
           have HO1 := Aside0.mk ho
           have HB1 := Aside0.mk hb
           clear ho hb
           refine hK.out _ _ (pw_cell_below HB1.out HF0.out) (fun hHeld => ?_)
           clear hK K
           refine norm_ (a' := ?_) ?_ ?_
           rotate_left
           · show Act.put _ (some 79) _ = _
             simp only [Act.put, List.setIfInBounds_toArray, List.set_cons_zero, List.set_cons_succ, i64_w, i32_w]
             rfl
           refine one_ (i := 7) (N := some 81) #[true, true, true, true, true, true, true, true, false, false, false, false] rfl rfl (one_of HT_.out (by kernel_rfl)) (by decide) (fun K hK => ?_)
           refine Kd.R_append_rows_step k129 (Rr := k129.K x1) (w0 := wd) wd.heap.size (by rfl) (.tmp 79) (.tmp 80) 69 129 (.agg #[.string ⟨#[]⟩, .int .i64 0]) 24 rfl Tryz.underlying69 (by kernel_rfl) rfl (by decide) (by omega) v1 [] (rules.map toRu) Aq rules.length cq (fun _ => True) (fun _ => False) rfl rfl HO1.out (HRC3.out _ (HWD.out.trans (HB1.out.mono HWD.out.size))) (fun x cs h => by rw [k129_open h]; exact k129_mkM _ _ _ _) (fun _ h => h.elim) (fun _ _ => trivial) HB1.out HB1.out.size (by simp only [List.length_nil]; omega) ?_
           intro v2 x2 ho hb _ _
           rw [List.nil_append] at ho
           have HB2' := Aside0.mk hb
           obtain ⟨A2, c2, hv2⟩ := Kd.R_slice ho
           rw [List.length_map] at hv2
           subst hv2
           have HBW2 := Aside0.mk (HWD.out.trans (HB2'.out.mono HWD.out.size))
           have y_2 := (HBW2.out.cell (p := ⟨g, k * 10 + 7, none⟩) HGS.out).trans HY7.out
           have z_2 : x2.frozen? ⟨g, k * 10 + 7, none⟩ = false := by rw [World.frozen?_of_block (HBW2.out.block g HGS.out)]; exact HZ7.out _
           have HO2 := Aside0.mk ho
           clear ho hb
           refine hK.out _ _ (pw_cell_below HB2'.out HF0.out) (fun hHeld => ?_)
           clear hK K
           refine norm_ (a' := ?_) ?_ ?_
           rotate_left
           · show Act.put _ (some 81) _ = _
             simp only [Act.put, List.setIfInBounds_toArray, List.set_cons_zero, List.set_cons_succ, i64_w, i32_w]
             rfl
           refine pure_ (i := 8) (N := some 82) (v := ?_) (a' := ?_) #[true, true, true, true, true, true, true, true, true, false, false, false] rfl rfl (any_of HT_.out (by kernel_rfl)) (fun _ _ _ h => h) (Or.inl ⟨by rfl, ?_⟩) ?_ ?_
           rotate_left
           · intro w'
             go_simp
             with_reducible rfl
           rotate_left
           · simp only [Act.put, List.setIfInBounds_toArray, List.set_cons_zero, List.set_cons_succ, i64_w, i32_w]
             rfl
           refine pure_ (i := 9) (N := some 83) (v := ?_) (a' := ?_) #[true, true, true, true, true, true, true, true, true, true, false, false] rfl rfl (any_of HT_.out (by kernel_rfl)) (fun _ _ _ h => h) (Or.inl ⟨by rfl, ?_⟩) ?_ ?_
           rotate_left
           · intro w'
             go_simp
             with_reducible rfl
           rotate_left
           · simp only [Act.put, List.setIfInBounds_toArray, List.set_cons_zero, List.set_cons_succ, i64_w, i32_w]
             rfl
           refine pure_ (i := 10) (N := some 84) (v := ?_) (a' := ?_) #[true, true, true, true, true, true, true, true, true, true, true, false] rfl rfl (any_of HT_.out (by kernel_rfl)) (fun _ _ _ h => h) (Or.inl ⟨by rfl, ?_⟩) ?_ ?_
           rotate_left
           · intro w'
             go_simp
             with_reducible rfl
           rotate_left
           · simp only [Act.put, List.setIfInBounds_toArray, List.set_cons_zero, List.set_cons_succ, i64_w, i32_w]
             rfl
           refine last_ (i := 11) (N := none) #[true, true, true, true, true, true, true, true, true, true, true, true] rfl rfl (one_of HT_.out (by kernel_rfl)) (by decide) (fun K hK => ?_)
           refine skip_ (w1 := ?_) (by rfl) rfl ?_ ?_
           rotate_left
           · go_simp
             rfl
           refine hK.out _ _ ?_
           clear hK K
           refine done_ (done_of HT_.out (by kernel_rfl)) ?_
           have HBX2 := Aside0.mk HBW2.out
           go_wp2
           refine bodyPost_ret (v := .int .i64 0) (by simp [results, Tryz.f43, go_sem]) rfl ?_
           rw [HM.out]
           obtain ⟨_, ok', hR, hC, hq⟩ := HR3.out.put HT3.out HK3.out HBX2.out 7 (.slice A2 rules.length c2) (f' := f.change perm rules) (by decide) rfl ⟨R_made (Kd.R_lower HO2.out HWD.out.size) HBX2.out HR3.out HT3.out, (InR.old HR3.out HT3.out.In HBX2.out).u, (InR.old HR3.out HT3.out.In HBX2.out).o⟩ (.int .i64 0)
           rw [List.set_set] at hR
           exact ROut.from_ HB2.out ⟨rfl, ok', hR, (HC3.out.mono (T := ok) (fun q hq => by rw [hq]; exact HOK.out)).trans hC (fun i hi => .inl hi), fun q h => (hq q h).elim .inl (fun e => .inr (Nat.le_trans HC3.out.size e))⟩
         · have gW : decide (bits .and .i64 64 a = 64) = false := by rw [HWI.out, hd12]; rfl
           have HM := Aside0.mk (show mChange st u n perm rules = (12, st) by unfold mChange; rw [if_neg (by rw [HCO.out]; simp), HMO.out]; simp only [hd12]; rfl)
           clear hd12 R2 T h hk hb2
           go_wp2_with fail
           refine (rwithin_c 64 a _).mono ?_
           rintro e w' ⟨rfl, rfl⟩
           go_wp2
           refine bodyPost_ret (v := .int .i64 12) (by simp [results, Tryz.f43, go_sem]) rfl ?_
           exact ROut.stay HRR.out HB2.out (by rw [HM.out]) (by rw [HM.out])
end Go.Proofs.YtehlmkgldcfciaaGreat.Files
/- The reference's store: the row of files made anew. -/
set_option linter.unusedVariables false
set_option linter.unusedSimpArgs false
namespace Go.Proofs.YtehlmkgldcfciaaGreat.Files
open Go.Proofs.YtehlmkgldcfciaaGreat.Common Go.Maps Go.ChangeMaps Go.WideMaps Go.Proofs.YtehlmkgldcfciaaGreat.F
open Go.RowKit Go.Proofs.YtehlmkgldcfciaaGreatW.PrintWords Go.Proofs.YtehlmkgldcfciaaGreatW.PrintLast Go.Proofs.YtehlmkgldcfciaaGreatW.PrintMore
theorem below_of_grown {B : Nat} {w x y : World} {row : Option Nat} (hb : Below B w x) (hB : B ≤ w.heap.size) (hg : x.grownBy y row) (hrow : ∀ k, row = some k → B ≤ k) : Below B w y :=
  ⟨hg.os.trans hb.os, hg.tape.trans hb.tape, hg.output.trans hb.output, Nat.le_trans hb.size hg.size, fun k hk => (hg.block k (Nat.lt_of_lt_of_le (Nat.lt_of_lt_of_le hk hB) hb.size) (fun e => by have := hrow k e.symm; omega)).trans (hb.block k hk)⟩
theorem ReadsRow.take' {α : Type} {R : α → List Value → Prop} {size : Nat} {w : World} {A : Option Addr} {n m : Nat} {ps : List α} (h : ReadsRow R size w A n ps) (hm : m ≤ n) : ReadsRow R size w A m (ps.take m) := by
  obtain ⟨h1, h2, h3⟩ := h
  refine ⟨by rw [List.length_take]; omega, by omega, fun hp => ?_⟩
  obtain ⟨ad, e, hc⟩ := h3 (by omega)
  refine ⟨ad, e, fun j p hj => hc j p ?_⟩
  rw [List.getElem?_take] at hj
  split at hj
  · exact hj
  · cases hj
theorem ReadsRow.drop' {α : Type} {R : α → List Value → Prop} {size : Nat} {w : World} {A : Option Addr} {n m c : Nat} {ps : List α} (h : ReadsRow R size w A n ps) (hm : m ≤ n) (hc : n ≤ c) : ReadsRow R size w (if c = m then A else A.map (·.add (m * size))) (n - m) (ps.drop m) := by
  obtain ⟨h1, h2, h3⟩ := h
  refine ⟨by rw [List.length_drop]; omega, by omega, fun hp => ?_⟩
  obtain ⟨ad, rfl, hcell⟩ := h3 (by omega)
  rw [if_neg (by omega)]
  refine ⟨ad.add (m * size), rfl, fun j p hj => ?_⟩
  rw [List.getElem?_drop] at hj
  obtain ⟨c', hl, hR, hu⟩ := hcell (m + j) p hj
  refine ⟨c', hl, hR, fun i u hi => ?_⟩
  rw [add_add, show m * size + (j * size + i) = (m + j) * size + i by rw [Nat.add_mul]; omega]
  exact hu i u hi
theorem ReadsRow.drop0 {α : Type} {R : α → List Value → Prop} {size : Nat} {w : World} {g n m c : Nat} {ps : List α} (h : ReadsRow R size w (some ⟨g, 0, none⟩) n ps) (hm : m ≤ n) (hc : n ≤ c) : ReadsRow R size w (if c = m then some ⟨g, 0, none⟩ else some ⟨g, m * size, none⟩) (n - m) (ps.drop m) := by
  have h1 := ReadsRow.drop' h hm hc
  rw [show (some (⟨g, 0, none⟩ : Addr)).map (·.add (m * size)) = some ⟨g, m * size, none⟩ from congrArg some (add_plain g (m * size))] at h1
  exact h1
section
variable {W X : World} {ok : Nat → Prop} {rb c : Nat} {st : Fs} {A : Option Addr}
theorem RParts.made (h : RParts W ok rb st A c) (hb : Below W.heap.size W X) : ReadsRow (k85.M X 0 (fun k => (ok k ∧ k ≠ rb) ∧ some k ≠ (Value.slice A st.length c).ownBlock)) 10 X A st.length (rows st) := by
  have h2 := h.below hb
  obtain ⟨_, hown⟩ := h2.F
  obtain ⟨A', c', hv, _, hr⟩ := OwnRow.reads (R := k85.M X 0 (fun k => (ok k ∧ k ≠ rb) ∧ some k ≠ (Value.slice A st.length c).ownBlock)) (e := 85) (size := 10) hown
  injection hv with hv _ _
  subst hv
  rw [rows_len] at hr
  exact hr
theorem RParts.files (h : RParts W ok rb st A c) (hb : Below W.heap.size W X) {st' : Fs} {A' : Option Addr} {c' : Nat} (hr : k85.R 85 X 0 (fun k => (ok k ∧ k ≠ rb) ∨ W.heap.size ≤ k) (.slice A' st'.length c') (rows st')) (v : Value) :
    ROut W ok rb v st' (.returned v) (X.setCell ⟨rb, 1, none⟩ (.slice A' st'.length c')) := by
  have hS : (X.setCell ⟨rb, 1, none⟩ (.slice A' st'.length c')).heap[rb]? = some (.cells #[.bool true, .slice A' st'.length c'] 46 (0, 0)) := by
    have := blk_set (h.below hb).S 1 (.slice A' st'.length c')
    exact this
  have hC : Chg X (X.setCell ⟨rb, 1, none⟩ (.slice A' st'.length c')) ok := Chg.of_set X ⟨rb, 1, none⟩ _ h.okr
  have hne : ∀ k, ((ok k ∧ k ≠ rb) ∨ W.heap.size ≤ k) → k ≠ rb := fun k hk e => by
    rcases hk with hk | hk
    · exact hk.2 e
    · have := h.lt rb h.okr; omega
  refine ⟨rfl, okP ok W X, ⟨A', c', ⟨⟨.inl h.okr, Nat.lt_of_lt_of_le (h.lt rb h.okr) hb.size⟩, hS, ?_, fun k hk => Nat.lt_of_lt_of_le hk.2 hC.size⟩⟩, ((Chg.of_below hb (fun _ => False)).mono (fun _ h => h.elim)).trans hC (fun i hi => .inl hi), fun q hq => hq.1⟩
  refine Kd.R_mono (Kd.R_far (p := ⟨rb, 1, none⟩) (Kd.R_bound hr) (fun k hk => hne k hk.1) _) (fun k hk => ⟨⟨hk.1.elim (fun h => .inl h.1) .inr, hk.2.2.1⟩, hne k hk.1⟩)
end
theorem reads_one {X : World} {okq : Nat → Prop} {A : Option Addr} {n c : Nat} {xs : List S85} (h : k85.R 85 X 0 okq (.slice A n c) xs) : ReadsRow (k85.M X 0 (fun q => okq q ∧ some q ≠ (Value.slice A n c).ownBlock)) 10 X A n xs := by
  obtain ⟨_, hown⟩ := h
  obtain ⟨A', c', hv, _, hr⟩ := OwnRow.reads (R := k85.M X 0 (fun q => okq q ∧ some q ≠ (Value.slice A n c).ownBlock)) (e := 85) (size := 10) hown
  injection hv with hv h2 _
  subst hv
  subst h2
  exact hr
theorem filter_at : ∀ (st : Fs) (n : ByteArray) (k : Nat) (f : AF), posF st n = some (k, f) → (st.map (·.key)).Nodup → st.filter (fun g => !decide (g.F.name = n)) = st.take k ++ st.drop (k + 1)
  | [], n, k, f, h, _ => by simp [posF] at h
  | a :: l, n, k, f, h, hn => by
    simp only [List.map_cons, List.nodup_cons] at hn
    rw [posF_cons] at h
    by_cases ha : a.F.name = n
    · rw [if_pos ha] at h
      injection h with h
      injection h with h1 h2
      subst h1
      rw [List.filter_cons_of_neg (by simp [ha])]
      simp only [List.take_zero, List.nil_append, Nat.zero_add, List.drop_succ_cons, List.drop_zero]
      refine List.filter_eq_self.2 fun x hx => ?_
      have : ¬ x.F.name = n := fun e => hn.1 (List.mem_map.2 ⟨x, hx, by unfold AF.key; rw [e, ha]⟩)
      simp [this]
    · rw [if_neg ha] at h
      cases hp : posF l n with
      | none => rw [hp] at h; cases h
      | some p =>
        rw [hp] at h
        injection h with h
        injection h with h1 h2
        rw [List.filter_cons_of_pos (by simp [ha]), filter_at l n p.1 p.2 hp hn.2, ← h1]
        simp
end Go.Proofs.YtehlmkgldcfciaaGreat.Files
/- The reference's store: Delete. -/
set_option linter.unusedVariables false
set_option linter.unusedSimpArgs false
namespace Go.Proofs.YtehlmkgldcfciaaGreat.Files
open Go.Proofs.YtehlmkgldcfciaaGreat.Common Go.Maps Go.ChangeMaps Go.WideMaps Go.Proofs.YtehlmkgldcfciaaGreat.F
open Go.RowKit Go.Proofs.YtehlmkgldcfciaaGreatW.PrintWords Go.Proofs.YtehlmkgldcfciaaGreatW.PrintLast Go.Proofs.YtehlmkgldcfciaaGreatW.PrintMore
def RDelete.T10 : Bool × List (List Nat × List Nat) := (true, [([], []), ([], []), ([], []), ([2], [2]), ([3], [3]), ([4], [4]), ([], []), ([5, 6], [5, 6]), ([1, 7], [1, 7]), ([], []), ([9], [9]), ([10], [10]), ([11], [11]), ([], []), ([13], [13]), ([12, 14], [12, 14]), ([8, 15, 8], [8, 15]), ([0, 0, 1, 2, 3, 4, 5, 6, 7, 8, 9, 10, 11, 12, 13, 14, 15, 16], [0]), ([17, 0, 1, 2, 3, 4, 5, 6, 7, 8, 9, 10, 11, 12, 13, 14, 15, 16], [17]), ([18, 16, 16, 0, 1, 2, 3, 4, 5, 6, 7, 8, 9, 10, 11, 12, 13, 14, 15, 16], [16, 18])])
def RDelete.B10 : List Nat := [0, 0, 0, 4, 12, 28, 0, 124, 254, 0, 512, 1536, 3584, 0, 8192, 32256, 65534, 131071, 262143, 524287]
theorem RDelete.tab10 : rtab .any (opsOf Tryz.f19 10) = RDelete.T10 := by kernel_rfl
theorem RDelete.bits10 : waitsOk RDelete.T10.2 RDelete.B10 = true := by kernel_rfl
set_option maxRecDepth 100000 in
set_option maxHeartbeats 4000000 in
theorem rDelete_c (rb c : Nat) (ok : Nat → Prop) (st : Fs) (A : Option Addr) (u n : ByteArray) (W : World) (h : RParts W ok rb st A c) (hI : RInv st) :
    Calls Tryz.prog 19 #[.pointer (some ⟨rb, 0, none⟩), .string u, .string n] W (ROut W ok rb (.int .i64 (mDelete st u n).1) (mDelete st u n).2) := by
  have C56 := Aside0.mk (rbad_c rb u n W h.c0)
  have CF := Aside0.mk (find_c rb c ok st A n W h)
  have HRR := Aside0.mk (show RRep W ok rb st from ⟨A, c, h⟩)
  have c1 := h.c1
  cases hbad : (userB u && nameB n) with
  | false =>
    rw [hbad] at C56
    have HM := Aside0.mk (show mDelete st u n = (1, st) by unfold mDelete; rw [mFound_bad hbad])
    clear h hbad c1 CF hI
    go_enter Tryz.func19, Tryz.ntmps19
    go_wp2_with first | (go_at_call 56; refine C56.out.mono ?_; rintro e w' ⟨rfl, rfl⟩)
    refine bodyPost_ret (v := .int .i64 1) (by simp [results, Tryz.f19, go_sem]) rfl ?_
    exact ROut.stay HRR.out (Below.refl _ _) (by rw [HM.out]) (by rw [HM.out])
  | true =>
    rw [hbad] at C56
    rcases posI_range st n with ⟨hp, hpf⟩ | ⟨k, f, hp, hpf, hk, hnm⟩
    · rw [hp] at CF
      have HM := Aside0.mk (show mDelete st u n = (3, st) by unfold mDelete; rw [mFound_none hbad hpf])
      clear h hbad c1 hI hp hpf
      go_enter Tryz.func19, Tryz.ntmps19
      go_wp2_with first | (go_at_call 56; refine C56.out.mono ?_; rintro e w' ⟨rfl, rfl⟩) | (go_at_call 49; refine CF.out.mono ?_; rintro e w' ⟨rfl, rfl⟩)
      refine bodyPost_ret (v := .int .i64 3) (by simp [results, Tryz.f19, go_sem]) rfl ?_
      exact ROut.stay HRR.out (Below.refl _ _) (by rw [HM.out]) (by rw [HM.out])
    · rw [hp] at CF
      obtain ⟨g, Ar, cr, Au, cu, Ao, co, T⟩ := h.row hk
      have hil : k < st.length := (List.getElem?_eq_some_iff.1 hk).1
      have hlz : (k : Int) < (st.length : Int) := by omega
      have hk0 : decide ((k : Int) < 0) = false := decide_eq_false (by omega)
      have hA := T.hA
      subst hA
      obtain ⟨x0, x1, x2, x3, x4, x5, x6, x7, x8, x9⟩ := T.x
      have HH := Aside0.mk h
      have HT := Aside0.mk T
      have HK := Aside0.mk hk
      have hrb := h.lt rb h.okr
      have hgl := h.glt T
      have hne : g ≠ rb := T.okg.2
      have hne2 : rb ≠ g := Ne.symm hne
      have hst := hI.count
      have hcap := h.cap.1
      have HOL := Aside0.mk h.lt
      have HNM := Aside0.mk (filter_at st n k f hpf hI.names)
      have HC1 := Aside0.mk c1
      have HMD := Aside0.mk (fun {X : World} (hb : Below W.heap.size W X) => h.made hb)
      have CM := Aside0.mk (fun W' (hb : Below W.heap.size W W') => rmay_c _ f Ar Au Ao cr cu co u 128 W' (T.In.step (Chg.of_below hb (fun _ => False)) (fun _ _ h => h)))
      unfold RowIs at CM
      have HMF := Aside0.mk (mFound_ok hbad hpf)
      clear h T hnm hpf hp hbad hI hk
      by_cases hl : 0 < f.users.length
      · have HM := Aside0.mk (show mDelete st u n = (8, st) by unfold mDelete; rw [HMF.out]; simp only [if_pos hl])
        have g1 : decide (0 < f.users.length) = true := decide_eq_true hl
        have g2 : (0 : Int) < (f.users.length : Int) := by omega
        clear hl
        go_enter Tryz.func19, Tryz.ntmps19
        go_wp2_with first | (go_at_call 56; refine C56.out.mono ?_; rintro e w' ⟨rfl, rfl⟩) | (go_at_call 49; refine CF.out.mono ?_; rintro e w' ⟨rfl, rfl⟩)
        refine bodyPost_ret (v := .int .i64 8) (by simp [results, Tryz.f19, go_sem]) rfl ?_
        exact ROut.stay HRR.out (Below.refl _ _) (by rw [HM.out]) (by rw [HM.out])
      · have g1 : decide (0 < f.users.length) = false := decide_eq_false hl
        have g2 : ¬ (0 : Int) < (f.users.length : Int) := by omega
        cases hmay : mayB f.F f.rules u 128 with
        | false =>
          rw [hmay] at CM
          have HM := Aside0.mk (show mDelete st u n = (12, st) by unfold mDelete; rw [HMF.out]; simp only [if_neg hl, hmay, if_pos])
          clear hl hmay
          go_enter Tryz.func19, Tryz.ntmps19
          go_wp2_with first | (go_at_call 56; refine C56.out.mono ?_; rintro e w' ⟨rfl, rfl⟩) | (go_at_call 49; refine CF.out.mono ?_; rintro e w' ⟨rfl, rfl⟩)
          refine (CM.out _ (Below.refl _ _)).mono ?_
          rintro e w3 ⟨rfl, hb3⟩
          go_wp2
          refine bodyPost_ret (v := .int .i64 12) (by simp [results, Tryz.f19, go_sem]) rfl ?_
          exact ROut.stay HRR.out hb3 (by rw [HM.out]) (by rw [HM.out])
        | true =>
        rw [hmay] at CM
        have HM := Aside0.mk (show mDelete st u n = (0, st.filter fun g => !decide (g.F.name = n)) by unfold mDelete; rw [HMF.out]; simp only [if_neg hl, hmay]; rfl)
        obtain ⟨N, hN⟩ : ∃ N, N = (st.take k ++ st.drop (k + 1)).length := ⟨_, rfl⟩
        have HN := Aside0.mk hN
        have HLEN := Aside0.mk (show ((rows st).take k ++ (rows st).drop (k + 1)).length = N by rw [hN]; simp [rows])
        have hkc : k ≤ c := by omega
        have hkw : wrap64 ((k : Int) + 1) = ((k + 1 : Nat) : Int) := by unfold wrap64; omega
        have hkn : ((k + 1 : Nat) : Int) ≤ (st.length : Int) := by omega
        have hkn2 : (k : Int) + 1 ≤ (st.length : Int) := by omega
        have hkm : (0 : Int) ≤ (k : Int) + 1 := by omega
        clear hl hmay hN
        go_enter Tryz.func19, Tryz.ntmps19
        go_wp2_with first | (go_at_call 56; refine C56.out.mono ?_; rintro e w' ⟨rfl, rfl⟩) | (go_at_call 49; refine CF.out.mono ?_; rintro e w' ⟨rfl, rfl⟩)
        refine (CM.out _ (Below.refl _ _)).mono ?_
        rintro e w3 ⟨rfl, hb3⟩
        have HB := Aside0.mk hb3
        have c1' := (hb3.cell (p := ⟨rb, 1, none⟩) hrb).trans c1
        clear hb3 x0 x1 x2 x3 x4 x5 x6 x7 x8 x9 c1
        go_wp2_with fail
        refine start_ (n := 20) (S := fun w' => w'.cell? ⟨rb, 1, none⟩ = some (.slice (some ⟨g, 0, none⟩) st.length c)) (ds := [19]) #[false, false, false, false, false, false, false, false, false, false, false, false, false, false, false, false, false, false, false, false] (by kernel_rfl) rfl rfl (c1') (fun hHeld => ?_)
        refine with_tabW RDelete.tab10 RDelete.bits10 (fun HT_ HW_ => ?_)
        have HWD := Aside0.mk (show Below W.heap.size W w3.drew from HB.out.drew)
        generalize w3.drew = wd at HWD hHeld ⊢
        have HF0 := Aside0.mk hHeld
        refine pure_ (i := 0) (N := some 40) (v := ?_) (a' := ?_) #[true, false, false, false, false, false, false, false, false, false, false, false, false, false, false, false, false, false, false, false] rfl rfl (any_of HT_.out (by kernel_rfl)) (fun _ _ _ h => h) (Or.inl ⟨by rfl, ?_⟩) ?_ ?_
        rotate_left
        · intro w'
          go_simp
          with_reducible rfl
        rotate_left
        · simp only [Act.put, List.setIfInBounds_toArray, List.set_cons_zero, List.set_cons_succ, i64_w, i32_w]
          rfl
        refine pure_ (i := 2) (N := some 42) (v := ?_) (a' := ?_) #[true, false, true, false, false, false, false, false, false, false, false, false, false, false, false, false, false, false, false, false] rfl rfl (any_of HT_.out (by kernel_rfl)) (fun _ _ _ h => h) (Or.inl ⟨by rfl, ?_⟩) ?_ ?_
        rotate_left
        · intro w'
          go_simp
          with_reducible rfl
        rotate_left
        · simp only [Act.put, List.setIfInBounds_toArray, List.set_cons_zero, List.set_cons_succ, i64_w, i32_w]
          rfl
        refine pure_ (i := 3) (N := some 43) (v := ?_) (a' := ?_) #[true, false, true, true, false, false, false, false, false, false, false, false, false, false, false, false, false, false, false, false] rfl rfl (any_of HT_.out (by kernel_rfl)) (fun _ _ _ h => h) (Or.inl ⟨by rfl, ?_⟩) ?_ ?_
        rotate_left
        · intro w'
          go_simp
          with_reducible rfl
        rotate_left
        · simp only [Act.put, List.setIfInBounds_toArray, List.set_cons_zero, List.set_cons_succ, i64_w, i32_w]
          rfl
        refine pure_ (i := 4) (N := some 44) (v := ?_) (a' := ?_) #[true, false, true, true, true, false, false, false, false, false, false, false, false, false, false, false, false, false, false, false] rfl rfl (any_of HT_.out (by kernel_rfl)) (fun _ _ _ h => h) (Or.inl ⟨by rfl, ?_⟩) ?_ ?_
        rotate_left
        · intro w'
          go_simp
          with_reducible rfl
        rotate_left
        · simp only [Act.put, List.setIfInBounds_toArray, List.set_cons_zero, List.set_cons_succ, i64_w, i32_w]
          rfl
        refine pure_ (i := 6) (N := some 46) (v := ?_) (a' := ?_) #[true, false, true, true, true, false, true, false, false, false, false, false, false, false, false, false, false, false, false, false] rfl rfl (any_of HT_.out (by kernel_rfl)) (fun _ _ _ h => h) (Or.inl ⟨by rfl, ?_⟩) ?_ ?_
        rotate_left
        · intro w'
          go_simp
          with_reducible rfl
        rotate_left
        · simp only [Act.put, List.setIfInBounds_toArray, List.set_cons_zero, List.set_cons_succ, i64_w, i32_w]
          rfl
        refine pure_ (i := 9) (N := some 49) (v := ?_) (a' := ?_) #[true, false, true, true, true, false, true, false, false, true, false, false, false, false, false, false, false, false, false, false] rfl rfl (any_of HT_.out (by kernel_rfl)) (fun _ _ _ h => h) (Or.inl ⟨by rfl, ?_⟩) ?_ ?_
        rotate_left
        · intro w'
          go_simp
          with_reducible rfl
        rotate_left
        · simp only [Act.put, List.setIfInBounds_toArray, List.set_cons_zero, List.set_cons_succ, i64_w, i32_w]
          rfl
        refine pure_ (i := 10) (N := some 50) (v := ?_) (a' := ?_) #[true, false, true, true, true, false, true, false, false, true, true, false, false, false, false, false, false, false, false, false] rfl rfl (any_of HT_.out (by kernel_rfl)) (fun _ _ _ h => h) (Or.inl ⟨by rfl, ?_⟩) ?_ ?_
        rotate_left
        · intro w'
          go_simp
          with_reducible rfl
        rotate_left
        · simp only [Act.put, List.setIfInBounds_toArray, List.set_cons_zero, List.set_cons_succ, i64_w, i32_w]
          rfl
        refine pure_ (i := 11) (N := some 51) (v := ?_) (a' := ?_) #[true, false, true, true, true, false, true, false, false, true, true, true, false, false, false, false, false, false, false, false] rfl rfl (any_of HT_.out (by kernel_rfl)) (fun _ _ _ h => h) (Or.inl ⟨by rfl, ?_⟩) ?_ ?_
        rotate_left
        · intro w'
          go_simp
          with_reducible rfl
        rotate_left
        · simp only [Act.put, List.setIfInBounds_toArray, List.set_cons_zero, List.set_cons_succ, i64_w, i32_w]
          rfl
        refine pure_ (i := 13) (N := some 53) (v := ?_) (a' := ?_) #[true, false, true, true, true, false, true, false, false, true, true, true, false, true, false, false, false, false, false, false] rfl rfl (any_of HT_.out (by kernel_rfl)) (fun _ _ _ h => h) (Or.inl ⟨by rfl, ?_⟩) ?_ ?_
        rotate_left
        · intro w'
          go_simp
          with_reducible rfl
        rotate_left
        · simp only [Act.put, List.setIfInBounds_toArray, List.set_cons_zero, List.set_cons_succ, i64_w, i32_w]
          rfl
        refine pure_ (i := 14) (N := some 54) (v := ?_) (a' := ?_) #[true, false, true, true, true, false, true, false, false, true, true, true, false, true, true, false, false, false, false, false] rfl rfl (any_of HT_.out (by kernel_rfl)) (fun _ _ _ h => h) (Or.inl ⟨by rfl, ?_⟩) ?_ ?_
        rotate_left
        · intro w'
          go_simp
          with_reducible rfl
        rotate_left
        · simp only [Act.put, List.setIfInBounds_toArray, List.set_cons_zero, List.set_cons_succ, i64_w, i32_w]
          rfl
        refine take_ (i := 5) (N := some 45) (v := ?_) (a' := ?_) #[true, false, true, true, true, true, true, false, false, true, true, true, false, true, true, false, false, false, false, false] rfl rfl (take_ofW HT_.out HW_.out (by kernel_rfl)) (fun _ _ _ h => h) (Or.inl ⟨by rfl, ?_⟩) hHeld ?_ ?_
        rotate_left
        · intro w' s0
          go_simp
          with_reducible rfl
        rotate_left
        · simp only [Act.put, List.setIfInBounds_toArray, List.set_cons_zero, List.set_cons_succ, i64_w, i32_w]
          rfl
        refine pure_ (i := 7) (N := some 47) (v := ?_) (a' := ?_) #[true, false, true, true, true, true, true, true, false, true, true, true, false, true, true, false, false, false, false, false] rfl rfl (any_of HT_.out (by kernel_rfl)) (fun _ _ _ h => h) (Or.inl ⟨by rfl, ?_⟩) ?_ ?_
        rotate_left
        · intro w'
          go_simp
          with_reducible rfl
        rotate_left
        · simp only [Act.put, List.setIfInBounds_toArray, List.set_cons_zero, List.set_cons_succ, i64_w, i32_w]
          rfl
        refine take_ (i := 12) (N := some 52) (v := ?_) (a' := ?_) #[true, false, true, true, true, true, true, true, false, true, true, true, true, true, true, false, false, false, false, false] rfl rfl (take_ofW HT_.out HW_.out (by kernel_rfl)) (fun _ _ _ h => h) (Or.inl ⟨by rfl, ?_⟩) hHeld ?_ ?_
        rotate_left
        · intro w' s0
          go_simp
          with_reducible rfl
        rotate_left
        · simp only [Act.put, List.setIfInBounds_toArray, List.set_cons_zero, List.set_cons_succ, i64_w, i32_w]
          rfl
        refine pure_ (i := 15) (N := some 55) (v := ?_) (a' := ?_) #[true, false, true, true, true, true, true, true, false, true, true, true, true, true, true, true, false, false, false, false] rfl rfl (any_of HT_.out (by kernel_rfl)) (fun _ _ _ h => h) (Or.inl ⟨by rfl, ?_⟩) ?_ ?_
        rotate_left
        · intro w'
          go_simp
          with_reducible rfl
        rotate_left
        · simp only [Act.put, List.setIfInBounds_toArray, List.set_cons_zero, List.set_cons_succ, i64_w, i32_w]
          rfl
        refine one_ (i := 1) (N := some 41) #[true, true, true, true, true, true, true, true, false, true, true, true, true, true, true, true, false, false, false, false] rfl rfl (one_of HT_.out (by kernel_rfl)) (by decide) (fun K hK => ?_)
        refine Kd.R_lit_step k85 (w0 := W) 0 85 ?hg (N := 41) ?hd (xs := ([] : List S85)) (inner := []) (ok := (fun q => (ok q ∧ q ≠ rb) ∨ W.heap.size ≤ q)) (okp := (fun _ => False)) ?hr ?hp (fun _ h => h.elim) (.inr HWD.out.size) (Below.mono HWD.out (Nat.zero_le _)) (Nat.zero_le _) (by simp) ?_; (case hd => rfl); (case hg => rfl); (case hr => first | (go_simp; done) | (go_simp; rfl)); (case hp => exact (Reps.none _ _))
        intro v1 x1 ho hb hgr hfr
        have HO1 := Aside0.mk ho
        have HB1 := Aside0.mk (below_of_grown HWD.out (Nat.le_refl _) hgr (fun _ h => by cases h))
        have HF1 := Aside0.mk (fun q (h : v1.ownBlock = some q) => (show W.heap.size ≤ q by obtain ⟨b, h1, h2⟩ := hfr; rw [h1] at h; injection h with h; have := HWD.out.size; omega))
        clear ho hb hgr hfr
        refine hK.out _ _ ((HB1.out.cell (p := ⟨rb, 1, none⟩) hrb).trans HC1.out) (fun hHeld => ?_)
        clear hK K
        refine norm_ (a' := ?_) ?_ ?_
        rotate_left
        · show Act.put _ (some 41) _ = _
          simp only [Act.put, List.setIfInBounds_toArray, List.set_cons_zero, List.set_cons_succ, i64_w, i32_w]
          rfl
        refine one_ (i := 8) (N := some 48) #[true, true, true, true, true, true, true, true, true, true, true, true, true, true, true, true, false, false, false, false] rfl rfl (one_of HT_.out (by kernel_rfl)) (by decide) (fun K hK => ?_)
        refine Kd.R_append_rows_step k85 (Rr := k85.M x1 0 (fun q => (ok q ∧ q ≠ rb) ∧ some q ≠ (Value.slice (some ⟨g, 0, none⟩) st.length c).ownBlock)) (w0 := W) 0 (by rfl) (.tmp 41) (.tmp 47) 44 85 (.agg #[.string ⟨#[]⟩, .int .i64 0, .int .i64 0, .string ⟨#[]⟩, .string ⟨#[]⟩, .int .i64 0, .int .i64 0, .slice none 0 0, .slice none 0 0, .slice none 0 0]) 152 rfl Tryz.underlying44 (by kernel_rfl) rfl (by decide) (by omega) v1 [] ((rows st).take k) _ k _ (fun q => (ok q ∧ q ≠ rb) ∨ W.heap.size ≤ q) (fun q => (ok q ∧ q ≠ rb) ∧ some q ≠ (Value.slice (some ⟨g, 0, none⟩) st.length c).ownBlock) rfl rfl HO1.out (ReadsRow.take' (HMD.out HB1.out) (Nat.le_of_lt hil)) (fun _ _ h => h) (fun q hq => ⟨.inl hq.1, fun e => by have h1 := HF1.out q e.symm; have h2 := HOL.out q hq.1.1; omega⟩) (fun q hq => .inr (Nat.le_trans HB1.out.size hq)) (Below.mono HB1.out (Nat.zero_le _)) (Nat.zero_le _) (by simp only [List.length_nil]; omega) ?_
        intro v2 x2 ho hb hgr hfr
        rw [List.nil_append] at ho
        have HB2 := Aside0.mk (below_of_grown HB1.out (Nat.le_refl _) hgr (fun q h => HF1.out q h))
        have HF2 := Aside0.mk (fun q (h : v2.ownBlock = some q) => (show W.heap.size ≤ q by rcases hfr with hfr | ⟨b, h1, h2⟩; (rw [hfr] at h; exact HF1.out q h); (rw [h1] at h; injection h with h; have := HB1.out.size; omega)))
        have HO2 := Aside0.mk ho
        clear ho hb hgr hfr
        refine hK.out _ _ ((HB2.out.cell (p := ⟨rb, 1, none⟩) hrb).trans HC1.out) (fun hHeld => ?_)
        clear hK K
        refine norm_ (a' := ?_) ?_ ?_
        rotate_left
        · show Act.put _ (some 48) _ = _
          simp only [Act.put, List.setIfInBounds_toArray, List.set_cons_zero, List.set_cons_succ, i64_w, i32_w]
          rfl
        refine one_ (i := 16) (N := some 56) #[true, true, true, true, true, true, true, true, true, true, true, true, true, true, true, true, true, false, false, false] rfl rfl (one_of HT_.out (by kernel_rfl)) (by decide) (fun K hK => ?_)
        refine Kd.R_append_rows_step k85 (Rr := k85.M x2 0 (fun q => (ok q ∧ q ≠ rb) ∧ some q ≠ (Value.slice (some ⟨g, 0, none⟩) st.length c).ownBlock)) (w0 := W) 0 (by rfl) (.tmp 48) (.tmp 55) 44 85 (.agg #[.string ⟨#[]⟩, .int .i64 0, .int .i64 0, .string ⟨#[]⟩, .string ⟨#[]⟩, .int .i64 0, .int .i64 0, .slice none 0 0, .slice none 0 0, .slice none 0 0]) 152 rfl Tryz.underlying44 (by kernel_rfl) rfl (by decide) (by omega) v2 ((rows st).take k) ((rows st).drop (k + 1)) _ (st.length - (k + 1)) _ (fun q => (ok q ∧ q ≠ rb) ∨ W.heap.size ≤ q) (fun q => (ok q ∧ q ≠ rb) ∧ some q ≠ (Value.slice (some ⟨g, 0, none⟩) st.length c).ownBlock) rfl rfl HO2.out (ReadsRow.drop0 (m := k + 1) (c := c) (HMD.out HB2.out) hil hcap) (fun _ _ h => h) (fun q hq => ⟨.inl hq.1, fun e => by have h1 := HF2.out q e.symm; have h2 := HOL.out q hq.1.1; omega⟩) (fun q hq => .inr (Nat.le_trans HB2.out.size hq)) (Below.mono HB2.out (Nat.zero_le _)) (Nat.zero_le _) (by rw [List.length_take, rows_len]; omega) ?_
        intro v3 x3 ho hb hgr hfr
        have HB3 := Aside0.mk (below_of_grown HB2.out (Nat.le_refl _) hgr (fun q h => HF2.out q h))
        have HF3 := Aside0.mk (fun q (h : v3.ownBlock = some q) => (show W.heap.size ≤ q by rcases hfr with hfr | ⟨b, h1, h2⟩; (rw [hfr] at h; exact HF2.out q h); (rw [h1] at h; injection h with h; have := HB2.out.size; omega)))
        obtain ⟨A3, c3, hv3⟩ := Kd.R_slice ho
        rw [HLEN.out] at hv3
        subst hv3
        have y_3 := (HB3.out.cell (p := ⟨rb, 1, none⟩) hrb).trans HC1.out
        have z_3 : x3.frozen? ⟨rb, 1, none⟩ = false := blk_frozen (HH.out.below HB3.out).S 1
        have HO3 := Aside0.mk ho
        clear ho hb hgr hfr
        refine hK.out _ _ ((HB3.out.cell (p := ⟨rb, 1, none⟩) hrb).trans HC1.out) (fun hHeld => ?_)
        clear hK K
        refine norm_ (a' := ?_) ?_ ?_
        rotate_left
        · show Act.put _ (some 56) _ = _
          simp only [Act.put, List.setIfInBounds_toArray, List.set_cons_zero, List.set_cons_succ, i64_w, i32_w]
          rfl
        refine pure_ (i := 17) (N := some 57) (v := ?_) (a' := ?_) #[true, true, true, true, true, true, true, true, true, true, true, true, true, true, true, true, true, true, false, false] rfl rfl (any_of HT_.out (by kernel_rfl)) (fun _ _ _ h => h) (Or.inl ⟨by rfl, ?_⟩) ?_ ?_
        rotate_left
        · intro w'
          go_simp
          with_reducible rfl
        rotate_left
        · simp only [Act.put, List.setIfInBounds_toArray, List.set_cons_zero, List.set_cons_succ, i64_w, i32_w]
          rfl
        refine pure_ (i := 18) (N := some 58) (v := ?_) (a' := ?_) #[true, true, true, true, true, true, true, true, true, true, true, true, true, true, true, true, true, true, true, false] rfl rfl (any_of HT_.out (by kernel_rfl)) (fun _ _ _ h => h) (Or.inl ⟨by rfl, ?_⟩) ?_ ?_
        rotate_left
        · intro w'
          go_simp
          with_reducible rfl
        rotate_left
        · simp only [Act.put, List.setIfInBounds_toArray, List.set_cons_zero, List.set_cons_succ, i64_w, i32_w]
          rfl
        refine last_ (i := 19) (N := none) #[true, true, true, true, true, true, true, true, true, true, true, true, true, true, true, true, true, true, true, true] rfl rfl (one_of HT_.out (by kernel_rfl)) (by decide) (fun K hK => ?_)
        refine skip_ (w1 := ?_) (by rfl) rfl ?_ ?_
        rotate_left
        · go_simp
          rfl
        refine hK.out _ _ ?_
        clear hK K
        refine done_ (done_of HT_.out (by kernel_rfl)) ?_
        go_wp2
        all_goals
          refine bodyPost_ret (v := .int .i64 0) (by simp [results, Tryz.f19, go_sem]) rfl ?_
          rw [HM.out, HNM.out]
          have hN := HN.out
          subst hN
          exact HH.out.files HB3.out (by unfold rows; rw [List.map_append, List.map_take, List.map_drop]; exact HO3.out) _
end Go.Proofs.YtehlmkgldcfciaaGreat.Files
/- The reference's store: Create. -/
set_option linter.unusedVariables false
set_option linter.unusedSimpArgs false
namespace Go.Proofs.YtehlmkgldcfciaaGreat.Files
open Go.Proofs.YtehlmkgldcfciaaGreat.Common Go.Maps Go.ChangeMaps Go.WideMaps Go.Proofs.YtehlmkgldcfciaaGreat.F
open Go.RowKit Go.Proofs.YtehlmkgldcfciaaGreatW.PrintWords Go.Proofs.YtehlmkgldcfciaaGreatW.PrintLast Go.Proofs.YtehlmkgldcfciaaGreatW.PrintMore
set_option maxRecDepth 100000 in
set_option maxHeartbeats 4000000 in
theorem rCreate_c (rb c : Nat) (ok : Nat → Prop) (st : Fs) (A : Option Addr) (u n : ByteArray) (kind perm : Int) (W : World) (h : RParts W ok rb st A c) (hI : RInv st) :
    Calls Tryz.prog 17 #[.pointer (some ⟨rb, 0, none⟩), .string u, .string n, .int .i64 kind, .int .i64 perm] W (ROut W ok rb (.int .i64 (mCreate st u n kind perm).1) (mCreate st u n kind perm).2) := by
  have C56 := Aside0.mk (rbad_c rb u n W h.c0)
  have CF := Aside0.mk (find_c rb c ok st A n W h)
  have HRR := Aside0.mk (show RRep W ok rb st from ⟨A, c, h⟩)
  have c1 := h.c1
  have CS := Aside0.mk (rset_c perm W)
  have hrb := h.lt rb h.okr
  have hst := hI.count
  have HC1 := Aside0.mk c1
  have HH := Aside0.mk h
  have HOL := Aside0.mk h.lt
  have HMD := Aside0.mk (fun {X : World} (hb : Below W.heap.size W X) => h.made hb)
  clear h hI
  cases hbad : (userB u && nameB n) with
  | false =>
    rw [hbad] at C56
    have HM := Aside0.mk (show mCreate st u n kind perm = (1, st) by unfold mCreate createB; rw [hbad]; rfl)
    clear hbad c1 CF
    go_enter Tryz.func17, Tryz.ntmps17
    go_wp2_with first | (go_at_call 56; refine C56.out.mono ?_; rintro e w' ⟨rfl, rfl⟩)
    refine bodyPost_ret (v := .int .i64 1) (by simp [results, Tryz.f17, go_sem]) rfl ?_
    exact ROut.stay HRR.out (Below.refl _ _) (by rw [HM.out]) (by rw [HM.out])
  | true =>
    rw [hbad] at C56
    by_cases hk1 : kind < 0
    · have g1 : decide (kind < 0) = true := decide_eq_true hk1
      have HM := Aside0.mk (show mCreate st u n kind perm = (1, st) by unfold mCreate createB; rw [decide_eq_false (show ¬ 0 ≤ kind by omega)]; simp)
      clear hbad c1 CF hk1
      go_enter Tryz.func17, Tryz.ntmps17
      go_wp2_with first | (go_at_call 56; refine C56.out.mono ?_; rintro e w' ⟨rfl, rfl⟩)
      refine bodyPost_ret (v := .int .i64 1) (by simp [results, Tryz.f17, go_sem]) rfl ?_
      exact ROut.stay HRR.out (Below.refl _ _) (by rw [HM.out]) (by rw [HM.out])
    have g1 : decide (kind < 0) = false := decide_eq_false hk1
    by_cases hk2 : 2 < kind
    · have g2 : decide (2 < kind) = true := decide_eq_true hk2
      have HM := Aside0.mk (show mCreate st u n kind perm = (1, st) by unfold mCreate createB; rw [decide_eq_false (show ¬ kind ≤ 2 by omega)]; simp)
      clear hbad c1 CF hk1 hk2
      go_enter Tryz.func17, Tryz.ntmps17
      go_wp2_with first | (go_at_call 56; refine C56.out.mono ?_; rintro e w' ⟨rfl, rfl⟩)
      refine bodyPost_ret (v := .int .i64 1) (by simp [results, Tryz.f17, go_sem]) rfl ?_
      exact ROut.stay HRR.out (Below.refl _ _) (by rw [HM.out]) (by rw [HM.out])
    have g2 : decide (2 < kind) = false := decide_eq_false hk2
    cases hs : setB perm with
    | false =>
      rw [hs] at CS
      have HM := Aside0.mk (show mCreate st u n kind perm = (1, st) by unfold mCreate createB; rw [hs]; simp)
      clear hbad c1 CF hk1 hk2 hs
      go_enter Tryz.func17, Tryz.ntmps17
      go_wp2_with first | (go_at_call 56; refine C56.out.mono ?_; rintro e w' ⟨rfl, rfl⟩) | (go_at_call 57; refine CS.out.mono ?_; rintro e w' ⟨rfl, rfl⟩)
      refine bodyPost_ret (v := .int .i64 1) (by simp [results, Tryz.f17, go_sem]) rfl ?_
      exact ROut.stay HRR.out (Below.refl _ _) (by rw [HM.out]) (by rw [HM.out])
    | true =>
      rw [hs] at CS
      have HCB := Aside0.mk (show createB u n kind perm = true by unfold createB; rw [hbad, hs, decide_eq_true (show 0 ≤ kind by omega), decide_eq_true (show kind ≤ 2 by omega)]; rfl)
      rcases posI_range st n with ⟨hp, hpf⟩ | ⟨k, f, hp, hpf, hk, hnm⟩
      · rw [hp] at CF
        by_cases hfull : st.length = 30
        · have g3 : ((st.length : Int) == 30) = true := by rw [hfull]; rfl
          have HM := Aside0.mk (show mCreate st u n kind perm = (9, st) by unfold mCreate; rw [if_neg (by rw [HCB.out]; simp), hpf, if_neg (by simp), if_pos (by omega)])
          clear hbad hp hpf hk1 hk2 hs hfull
          go_enter Tryz.func17, Tryz.ntmps17
          go_wp2_with first | (go_at_call 56; refine C56.out.mono ?_; rintro e w' ⟨rfl, rfl⟩) | (go_at_call 57; refine CS.out.mono ?_; rintro e w' ⟨rfl, rfl⟩) | (go_at_call 49; refine CF.out.mono ?_; rintro e w' ⟨rfl, rfl⟩)
          refine bodyPost_ret (v := .int .i64 9) (by simp [results, Tryz.f17, go_sem]) rfl ?_
          exact ROut.stay HRR.out (Below.refl _ _) (by rw [HM.out]) (by rw [HM.out])
        · have g3 : ((st.length : Int) == 30) = false := by simp; omega
          have g4 : ¬ (st.length : Int) = 30 := by omega
          have HM := Aside0.mk (show mCreate st u n kind perm = (0, st ++ [newF u n kind perm]) by unfold mCreate; rw [if_neg (by rw [HCB.out]; simp), hpf, if_neg (by simp), if_neg (by omega)])
          obtain ⟨N, hN⟩ : ∃ N, N = (st ++ [newF u n kind perm]).length := ⟨_, rfl⟩
          have HN := Aside0.mk hN
          have HLEN := Aside0.mk (show (rows st ++ [toR (newF u n kind perm)]).length = N by rw [hN]; simp [rows])
          clear hbad hp hpf hk1 hk2 hs hfull hN
          go_enter Tryz.func17, Tryz.ntmps17
          go_wp2_with (first
            | (go_at_call 56; refine C56.out.mono ?_; rintro e w' ⟨rfl, rfl⟩)
            | (go_at_call 57; refine CS.out.mono ?_; rintro e w' ⟨rfl, rfl⟩)
            | (go_at_call 49; refine CF.out.mono ?_; rintro e w' ⟨rfl, rfl⟩)
            | ((with_reducible refine gate_dst (N := 39) rfl ?_); refine Kd.R_lit k85 (w0 := W) 0 85 ?hg (N := 39) ?hd (xs := ([] : List S85)) (inner := []) (ok := (fun q => (ok q ∧ q ≠ rb) ∨ W.heap.size ≤ q)) (okp := (fun _ => False)) ?hr ?hp (fun _ h => h.elim) (.inr (Below.refl W.heap.size W).size) (Below.mono (Below.refl W.heap.size W) (Nat.zero_le _)) (Nat.zero_le _) (by simp) ?_; (case hd => rfl); (case hg => rfl); (case hr => first | (go_simp; done) | (go_simp; rfl)); (case hp => exact (Reps.none _ _)); intro v1 x1 ho hb hgr hfr; have HO1 := Aside0.mk ho; have HB1 := Aside0.mk (below_of_grown (Below.refl W.heap.size W) (Nat.le_refl _) hgr (fun _ h => by cases h)); have HF1 := Aside0.mk (fun q (h : v1.ownBlock = some q) => (show W.heap.size ≤ q by obtain ⟨b, h1, h2⟩ := hfr; rw [h1] at h; injection h with h; have := (Below.refl W.heap.size W).size; omega)); clear ho hb hgr hfr; have d1 := (HB1.out.cell (p := ⟨rb, 1, none⟩) hrb).trans c1)
            | ((with_reducible refine gate_builtin (b := .append) (xs := #[.tmp 39, .tmp 43]) rfl ?_); at_builtin; refine Kd.R_append_rows k85 (Rr := k85.M x1 0 (fun q => (ok q ∧ q ≠ rb) ∧ some q ≠ (Value.slice A st.length c).ownBlock)) (w0 := W) 0 rfl (.tmp 39) (.tmp 43) 44 85 (.agg #[.string ⟨#[]⟩, .int .i64 0, .int .i64 0, .string ⟨#[]⟩, .string ⟨#[]⟩, .int .i64 0, .int .i64 0, .slice none 0 0, .slice none 0 0, .slice none 0 0]) 152 rfl Tryz.underlying44 (by kernel_rfl) rfl (by decide) (by omega) v1 [] (rows st) A st.length c (fun q => (ok q ∧ q ≠ rb) ∨ W.heap.size ≤ q) (fun q => (ok q ∧ q ≠ rb) ∧ some q ≠ (Value.slice A st.length c).ownBlock) rfl rfl HO1.out (HMD.out HB1.out) (fun _ _ h => h) (fun q hq => ⟨.inl hq.1, fun e => by have h1 := HF1.out q e.symm; have h2 := HOL.out q hq.1.1; omega⟩) (fun q hq => .inr (Nat.le_trans HB1.out.size hq)) (Below.mono HB1.out (Nat.zero_le _)) (Nat.zero_le _) (by simp only [List.length_nil]; omega) ?_; intro v2 x2 ho hb hgr hfr; rw [List.nil_append] at ho; have HB2 := Aside0.mk (below_of_grown HB1.out (Nat.le_refl _) hgr (fun q h => HF1.out q h)); have HF2 := Aside0.mk (fun q (h : v2.ownBlock = some q) => (show W.heap.size ≤ q by rcases hfr with hfr | ⟨b, h1, h2⟩; (rw [hfr] at h; exact HF1.out q h); (rw [h1] at h; injection h with h; have := HB1.out.size; omega))); have HV2 := Aside0.mk (fun q (h : v2.ownBlock = some q) => (show q < x2.heap.size by obtain ⟨_, inner, hown, _⟩ := ho; exact own_lt hown q h)); have HO2 := Aside0.mk ho; clear ho hb hgr hfr)
            | ((with_reducible refine gate_dst (N := 51) rfl ?_); refine Kd.R_lit k62 (w0 := W) 0 62 ?hg (N := 51) ?hd (xs := ([⟨⟨#[]⟩, ⟨#[]⟩, 0⟩] : List S62)) (inner := [.string ⟨#[]⟩, .string ⟨#[]⟩, .int .i64 0]) (ok := (fun q => x2.heap.size ≤ q)) (okp := (fun _ => False)) ?hr ?hp (fun _ h => h.elim) ?hfr_ (Below.mono HB2.out (Nat.zero_le _)) (Nat.zero_le _) (by simp) ?_; (case hd => rfl); (case hg => rfl); (case hr => first | (go_simp; done) | (go_simp; rfl)); (case hp => exact (Reps.c3 (k62_mkM _ _ (fun _ => False) _) (Reps.none _ _))); (case hfr_ => exact Nat.le_refl _); intro v3 x3 ho hb hgr hfr; have HB3 := Aside0.mk (below_of_grown HB2.out (Nat.le_refl _) hgr (fun _ h => by cases h)); have HX3 := Aside0.mk (below_of_grown (Below.refl _ x2) (Nat.le_refl _) hgr (fun _ h => by cases h)); obtain ⟨Az, cz, hvz⟩ := Kd.R_slice ho; have hvz : v3 = .slice Az 1 cz := hvz; subst hvz; have HO3 := Aside0.mk ho; clear ho hb hgr hfr)
            | ((with_reducible refine gate_dst (N := 53) rfl ?_); refine Kd.R_lit k85 (w0 := W) 0 85 ?hg (N := 53) ?hd (xs := ([(toR (newF u n kind perm))] : List S85)) (inner := [.string n, .int .i64 kind, .int .i64 perm, .string u, .string ⟨#[]⟩, .int .i64 0, .int .i64 0, .slice none 0 0, .slice Az 1 cz, .slice none 0 0]) (ok := (fun q => x2.heap.size ≤ q)) (okp := (fun q => x2.heap.size ≤ q)) ?hr ?hp (fun _ h => h) ?hfr_ (Below.mono HB3.out (Nat.zero_le _)) (Nat.zero_le _) (by simp) ?_; (case hd => rfl); (case hg => rfl); (case hr => first | (go_simp; done) | (go_simp; rfl)); (case hp => exact (Reps.c10 (k85_mkM _ 0 (fun q => x2.heap.size ≤ q) (toR (newF u n kind perm)) (Kd.R_nil _ _ _ _ _) HO3.out (Kd.R_nil _ _ _ _ _)) (Reps.none _ _))); (case hfr_ => exact HX3.out.size); intro v4 x4 ho hb hgr hfr; have HB4 := Aside0.mk (below_of_grown HB3.out (Nat.le_refl _) hgr (fun _ h => by cases h)); have HX4 := Aside0.mk (below_of_grown HX3.out (Nat.le_refl _) hgr (fun _ h => by cases h)); obtain ⟨A4, c4, hv4⟩ := Kd.R_slice ho; have hv4 : v4 = .slice A4 1 c4 := hv4; subst hv4; have HO4 := Aside0.mk ho; clear ho hb hgr hfr)
            | ((with_reducible refine gate_builtin (b := .append) (xs := #[.tmp 44, .tmp 53]) rfl ?_); at_builtin; refine Kd.R_append_rows k85 (Rr := k85.M x4 0 (fun q => x2.heap.size ≤ q ∧ some q ≠ (Value.slice A4 1 c4).ownBlock)) (w0 := W) 0 rfl (.tmp 44) (.tmp 53) 44 85 (.agg #[.string ⟨#[]⟩, .int .i64 0, .int .i64 0, .string ⟨#[]⟩, .string ⟨#[]⟩, .int .i64 0, .int .i64 0, .slice none 0 0, .slice none 0 0, .slice none 0 0]) 152 rfl Tryz.underlying44 (by kernel_rfl) rfl (by decide) (by omega) v2 (rows st) [(toR (newF u n kind perm))] A4 1 c4 (fun q => (ok q ∧ q ≠ rb) ∨ W.heap.size ≤ q) (fun q => x2.heap.size ≤ q ∧ some q ≠ (Value.slice A4 1 c4).ownBlock) rfl rfl (Kd.R_below HO2.out HX4.out) (reads_one HO4.out) (fun _ _ h => h) (fun q hq => ⟨.inr (Nat.le_trans HB2.out.size hq.1), fun e => by have := HV2.out q e.symm; have := hq.1; omega⟩) (fun q hq => .inr (Nat.le_trans HB4.out.size hq)) (Below.mono HB4.out (Nat.zero_le _)) (Nat.zero_le _) (by rw [rows_len]; omega) ?_; intro v5 x5 ho hb hgr hfr; have HB5 := Aside0.mk (below_of_grown HB4.out (Nat.le_refl _) hgr (fun q h => HF2.out q h)); have HF5 := Aside0.mk (fun q (h : v5.ownBlock = some q) => (show W.heap.size ≤ q by rcases hfr with hfr | ⟨b, h1, h2⟩; (rw [hfr] at h; exact HF2.out q h); (rw [h1] at h; injection h with h; have := HB4.out.size; omega))); obtain ⟨A5, c5, hv5⟩ := Kd.R_slice ho; rw [HLEN.out] at hv5; subst hv5; have y_5 := (HB5.out.cell (p := ⟨rb, 1, none⟩) hrb).trans HC1.out; have z_5 : x5.frozen? ⟨rb, 1, none⟩ = false := blk_frozen (HH.out.below HB5.out).S 1; have HO5 := Aside0.mk ho; clear ho hb hgr hfr))
          refine bodyPost_ret (v := .int .i64 0) (by simp [results, Tryz.f17, go_sem]) rfl ?_
          rw [HM.out]
          have hN := HN.out
          subst hN
          exact HH.out.files HB5.out (by unfold rows; rw [List.map_append]; exact HO5.out) _
      · rw [hp] at CF
        have hk0 : (0 : Int) ≤ (k : Int) := by omega
        have HM := Aside0.mk (show mCreate st u n kind perm = (7, st) by unfold mCreate; rw [if_neg (by rw [HCB.out]; simp), hpf]; rfl)
        clear hbad hp hpf hk1 hk2 hs hk hnm
        go_enter Tryz.func17, Tryz.ntmps17
        go_wp2_with first | (go_at_call 56; refine C56.out.mono ?_; rintro e w' ⟨rfl, rfl⟩) | (go_at_call 57; refine CS.out.mono ?_; rintro e w' ⟨rfl, rfl⟩) | (go_at_call 49; refine CF.out.mono ?_; rintro e w' ⟨rfl, rfl⟩)
        refine bodyPost_ret (v := .int .i64 7) (by simp [results, Tryz.f17, go_sem]) rfl ?_
        exact ROut.stay HRR.out (Below.refl _ _) (by rw [HM.out]) (by rw [HM.out])
end Go.Proofs.YtehlmkgldcfciaaGreat.Files
/- The reference's store: Open. -/
set_option linter.unusedVariables false
set_option linter.unusedSimpArgs false
namespace Go.Proofs.YtehlmkgldcfciaaGreat.Files
open Go.Proofs.YtehlmkgldcfciaaGreat.Common Go.Maps Go.ChangeMaps Go.WideMaps Go.Proofs.YtehlmkgldcfciaaGreat.F
open Go.RowKit Go.Proofs.YtehlmkgldcfciaaGreatW.PrintWords Go.Proofs.YtehlmkgldcfciaaGreatW.PrintLast Go.Proofs.YtehlmkgldcfciaaGreatW.PrintMore
def freeP (a x : Int) (p : ByteArray × (Int × Int)) : Bool := decide (bits .and .i64 p.2.2 a = 0) && decide (bits .and .i64 x p.2.1 = 0)
theorem sub_within (x a : Int) (hx : setB x = true) : decide (bits .and .i64 x a = x) = decide (bits .andNot .i64 x a = 0) := by
  unfold setB at hx
  simp only [Bool.and_eq_true, decide_eq_true_eq] at hx
  obtain ⟨m, rfl⟩ : ∃ m : Nat, x = (m : Int) := ⟨x.toNat, by omega⟩
  have e1 : bits .and .i64 (m : Int) a = IntKind.i64.wrap ((BitVec.ofInt 64 (m : Int) &&& BitVec.ofInt 64 a).toNat : Int) := rfl
  have e2 : bits .andNot .i64 (m : Int) a = IntKind.i64.wrap ((BitVec.ofInt 64 (m : Int) &&& ~~~ (BitVec.ofInt 64 a)).toNat : Int) := rfl
  have hm : (BitVec.ofInt 64 (m : Int)).toNat = m := by rw [BitVec.ofInt_natCast, BitVec.toNat_ofNat, Nat.mod_eq_of_lt (by omega)]
  have h1 : (BitVec.ofInt 64 (m : Int) &&& BitVec.ofInt 64 a).toNat ≤ m := by rw [BitVec.toNat_and, hm]; exact Nat.and_le_left
  have h2 : (BitVec.ofInt 64 (m : Int) &&& ~~~ (BitVec.ofInt 64 a)).toNat ≤ m := by rw [BitVec.toNat_and, hm]; exact Nat.and_le_left
  rw [e1, e2, wrap_small _ (by omega), wrap_small _ (by omega)]
  generalize BitVec.ofInt 64 a = Y at *
  generalize hX : BitVec.ofInt 64 (m : Int) = X at *
  rw [decide_eq_decide]
  constructor
  · intro h
    have h3 : X &&& Y = X := BitVec.eq_of_toNat_eq (by omega)
    have h4 : X &&& ~~~ Y = 0#64 := by
      rw [← h3]
      apply BitVec.eq_of_getLsbD_eq
      intro i hi
      simp only [BitVec.getLsbD_and, BitVec.getLsbD_not, BitVec.getLsbD_zero, hi, decide_true, Bool.true_and]
      cases X.getLsbD i <;> cases Y.getLsbD i <;> rfl
    rw [h4]; rfl
  · intro h
    have h3 : X &&& ~~~ Y = 0#64 := BitVec.eq_of_toNat_eq (by rw [show (0#64).toNat = 0 from rfl]; omega)
    have h4 : X &&& Y = X := by
      apply BitVec.eq_of_getLsbD_eq
      intro i hi
      have := congrArg (fun z => z.getLsbD i) h3
      simp only [BitVec.getLsbD_and, BitVec.getLsbD_not, BitVec.getLsbD_zero, hi, decide_true, Bool.true_and] at this ⊢
      cases h5 : X.getLsbD i <;> cases h6 : Y.getLsbD i <;> simp_all
    rw [h4, hm]
theorem k95_own {W : World} {base : Nat} {ok ok' : Nat → Prop} {v : Value} {xs : List S95} (h : k95.R 95 W base ok v xs) (h' : ∀ q, v.ownBlock = some q → ok' q) : k95.R 95 W base ok' v xs :=
  ⟨h', h.2.imp_ (fun x cs h => by rw [k95_openM h]; exact k95_mkM _ _ _ _)⟩
theorem R_ltx {α : Type} {d : Kd α} {e : Nat} {w : World} {base : Nat} {ok : Nat → Prop} {v : Value} {xs : List α} (h : d.R e w base ok v xs) : ∀ q, v.ownBlock = some q → q < w.heap.size := by
  obtain ⟨_, inner, hown, _⟩ := h
  exact fun q hq => own_lt hown q hq
def ROpen.T16 : Bool × List (List Nat × List Nat) := (true, [([], []), ([0], [0]), ([1], [1]), ([2], [2]), ([], []), ([], []), ([], []), ([6], [6]), ([5, 7], [5, 7]), ([], []), ([], []), ([], []), ([9, 10, 11], [9, 10, 11]), ([12], [12]), ([8, 13, 8], [8, 13]), ([3, 4, 0, 1, 2, 3, 4, 5, 6, 7, 8, 9, 10, 11, 12, 13, 14], [3, 4]), ([15, 0, 1, 2, 3, 4, 5, 6, 7, 8, 9, 10, 11, 12, 13, 14], [15]), ([16, 14, 14, 0, 1, 2, 3, 4, 5, 6, 7, 8, 9, 10, 11, 12, 13, 14], [14, 16])])
def ROpen.B16 : List Nat := [0, 1, 3, 7, 0, 0, 0, 64, 224, 0, 0, 0, 3584, 7680, 16352, 32767, 65535, 131071]
theorem ROpen.tab16 : rtab .any (opsOf Tryz.f21 16) = ROpen.T16 := by kernel_rfl
theorem ROpen.bits16 : waitsOk ROpen.T16.2 ROpen.B16 = true := by kernel_rfl
set_option maxRecDepth 100000 in
set_option maxHeartbeats 4000000 in
theorem rOpen_c (rb c : Nat) (ok : Nat → Prop) (st : Fs) (A : Option Addr) (u n : ByteArray) (a x : Int) (W : World) (h : RParts W ok rb st A c) (hI : RInv st) :
    Calls Tryz.prog 21 #[.pointer (some ⟨rb, 0, none⟩), .string u, .string n, .int .i64 a, .int .i64 x] W (ROut W ok rb (.int .i64 (mOpen st u n a x).1) (mOpen st u n a x).2) := by
  have C56 := Aside0.mk (rbad_c rb u n W h.c0)
  have CF := Aside0.mk (find_c rb c ok st A n W h)
  have HRR := Aside0.mk (show RRep W ok rb st from ⟨A, c, h⟩)
  have c1 := h.c1
  have CA := Aside0.mk (rset_c a W)
  have CX := Aside0.mk (rset_c x W)
  have CW := Aside0.mk (rwithin_c x a W)
  cases hbad : (userB u && nameB n) with
  | false =>
    rw [hbad] at C56
    have HM := Aside0.mk (show mOpen st u n a x = (1, st) by unfold mOpen; split <;> first | rfl | rw [mFound_bad hbad])
    clear h hbad c1 CF hI
    go_enter Tryz.func21, Tryz.ntmps21
    go_wp2_with first | (go_at_call 56; refine C56.out.mono ?_; rintro e w' ⟨rfl, rfl⟩)
    refine bodyPost_ret (v := .int .i64 1) (by simp [results, Tryz.f21, go_sem]) rfl ?_
    exact ROut.stay HRR.out (Below.refl _ _) (by rw [HM.out]) (by rw [HM.out])
  | true =>
    rw [hbad] at C56
    cases ha : setB a with
    | false =>
      rw [ha] at CA
      have HM := Aside0.mk (show mOpen st u n a x = (1, st) by unfold mOpen okSets; rw [ha]; rfl)
      clear h hbad c1 CF hI CX
      go_enter Tryz.func21, Tryz.ntmps21
      go_wp2_with first | (go_at_call 56; refine C56.out.mono ?_; rintro e w' ⟨rfl, rfl⟩) | (go_at_call 57; first | (with_reducible refine CA.out.mono ?_; rintro e w' ⟨rfl, rfl⟩) | (with_reducible refine CA.out.mono ?_; rintro e w' ⟨rfl, rfl⟩) | (refine CA.out.mono ?_; rintro e w' ⟨rfl, rfl⟩) | (refine CA.out.mono ?_; rintro e w' ⟨rfl, rfl⟩))
      refine bodyPost_ret (v := .int .i64 1) (by simp [results, Tryz.f21, go_sem]) rfl ?_
      exact ROut.stay HRR.out (Below.refl _ _) (by rw [HM.out]) (by rw [HM.out])
    | true =>
    rw [ha] at CA
    cases hx : setB x with
    | false =>
      rw [hx] at CX
      have HM := Aside0.mk (show mOpen st u n a x = (1, st) by unfold mOpen okSets; rw [ha, hx]; rfl)
      clear h hbad c1 CF hI
      go_enter Tryz.func21, Tryz.ntmps21
      go_wp2_with first | (go_at_call 56; refine C56.out.mono ?_; rintro e w' ⟨rfl, rfl⟩) | (go_at_call 57; first | (with_reducible refine CA.out.mono ?_; rintro e w' ⟨rfl, rfl⟩) | (with_reducible refine CX.out.mono ?_; rintro e w' ⟨rfl, rfl⟩) | (refine CA.out.mono ?_; rintro e w' ⟨rfl, rfl⟩) | (refine CX.out.mono ?_; rintro e w' ⟨rfl, rfl⟩))
      refine bodyPost_ret (v := .int .i64 1) (by simp [results, Tryz.f21, go_sem]) rfl ?_
      exact ROut.stay HRR.out (Below.refl _ _) (by rw [HM.out]) (by rw [HM.out])
    | true =>
    rw [hx] at CX
    have HSW := Aside0.mk (sub_within x a hx)
    cases hw : decide (bits .and .i64 x a = x) with
    | false =>
      rw [hw] at CW
      have HM := Aside0.mk (show mOpen st u n a x = (1, st) by unfold mOpen okSets; rw [ha, hx, ← HSW.out, hw]; rfl)
      clear h hbad c1 CF hI
      go_enter Tryz.func21, Tryz.ntmps21
      go_wp2_with first | (go_at_call 56; refine C56.out.mono ?_; rintro e w' ⟨rfl, rfl⟩) | (go_at_call 57; first | (with_reducible refine CA.out.mono ?_; rintro e w' ⟨rfl, rfl⟩) | (with_reducible refine CX.out.mono ?_; rintro e w' ⟨rfl, rfl⟩) | (refine CA.out.mono ?_; rintro e w' ⟨rfl, rfl⟩) | (refine CX.out.mono ?_; rintro e w' ⟨rfl, rfl⟩)) | (go_at_call 61; refine CW.out.mono ?_; rintro e w' ⟨rfl, rfl⟩)
      refine bodyPost_ret (v := .int .i64 1) (by simp [results, Tryz.f21, go_sem]) rfl ?_
      exact ROut.stay HRR.out (Below.refl _ _) (by rw [HM.out]) (by rw [HM.out])
    | true =>
    rw [hw] at CW
    have HOS := Aside0.mk (show okSets a x = true by unfold okSets; rw [ha, hx, ← HSW.out, hw]; rfl)
    clear ha hx hw
    rcases posI_range st n with ⟨hp, hpf⟩ | ⟨k, f, hp, hpf, hk, hnm⟩
    · rw [hp] at CF
      have HM := Aside0.mk (show mOpen st u n a x = (3, st) by unfold mOpen; rw [if_neg (by rw [HOS.out]; simp), mFound_none hbad hpf])
      clear h hbad c1 hI hp hpf
      go_enter Tryz.func21, Tryz.ntmps21
      go_wp2_with first | (go_at_call 56; refine C56.out.mono ?_; rintro e w' ⟨rfl, rfl⟩) | (go_at_call 57; first | (with_reducible refine CA.out.mono ?_; rintro e w' ⟨rfl, rfl⟩) | (with_reducible refine CX.out.mono ?_; rintro e w' ⟨rfl, rfl⟩) | (refine CA.out.mono ?_; rintro e w' ⟨rfl, rfl⟩) | (refine CX.out.mono ?_; rintro e w' ⟨rfl, rfl⟩)) | (go_at_call 61; refine CW.out.mono ?_; rintro e w' ⟨rfl, rfl⟩) | (go_at_call 49; refine CF.out.mono ?_; rintro e w' ⟨rfl, rfl⟩)
      refine bodyPost_ret (v := .int .i64 3) (by simp [results, Tryz.f21, go_sem]) rfl ?_
      exact ROut.stay HRR.out (Below.refl _ _) (by rw [HM.out]) (by rw [HM.out])
    · rw [hp] at CF
      obtain ⟨g, Ar, cr, Au, cu, Ao, co, T⟩ := h.row hk
      have hil : k < st.length := (List.getElem?_eq_some_iff.1 hk).1
      have hlz : (k : Int) < (st.length : Int) := by omega
      have hk0 : decide ((k : Int) < 0) = false := decide_eq_false (by omega)
      have hA := T.hA
      subst hA
      obtain ⟨x0, x1, x2, x3, x4, x5, x6, x7, x8, x9⟩ := T.x
      have HH := Aside0.mk h
      have HT := Aside0.mk T
      have HK := Aside0.mk hk
      have hrb := h.lt rb h.okr
      have hgl := h.glt T
      have hne : g ≠ rb := T.okg.2
      have hne2 : rb ≠ g := Ne.symm hne
      have hul := (hI.users f (List.mem_of_getElem? hk)).1
      have CH := Aside0.mk (fun W' (hb : Below W.heap.size W W') => has_c _ f Ar Au Ao cr cu co u W' (T.In.step (Chg.of_below hb (fun _ => False)) (fun _ _ h => h)))
      have CM := Aside0.mk (fun W' (hb : Below W.heap.size W W') => rmay_c _ f Ar Au Ao cr cu co u a W' (T.In.step (Chg.of_below hb (fun _ => False)) (fun _ _ h => h)))
      unfold RowIs at CH CM
      have HMF := Aside0.mk (mFound_ok hbad hpf)
      have HBX := Aside0.mk (show Below W.heap.size W (W.alloc (.cells #[.string f.F.name, .int .i64 f.F.kind, .int .i64 f.F.perm, .string f.F.owner, .string f.F.last, .int .i64 f.F.ch, .int .i64 f.F.rd, .slice Ar f.rules.length cr, .slice Au f.units.length cu, .slice Ao f.users.length co] 85)) from (Below.refl _ _).alloc (Nat.le_refl _) _)
      have HBK := Aside0.mk (show (W.alloc (.cells #[.string f.F.name, .int .i64 f.F.kind, .int .i64 f.F.perm, .string f.F.owner, .string f.F.last, .int .i64 f.F.ch, .int .i64 f.F.rd, .slice Ar f.rules.length cr, .slice Au f.units.length cu, .slice Ao f.users.length co] 85)).heap[W.heap.size]? = some (.cells #[.string f.F.name, .int .i64 f.F.kind, .int .i64 f.F.perm, .string f.F.owner, .string f.F.last, .int .i64 f.F.ch, .int .i64 f.F.rd, .slice Ar f.rules.length cr, .slice Au f.units.length cu, .slice Ao f.users.length co] 85 (0, 0)) by simpa using heap_alloc_new W _)
      have HUC := Aside0.mk (fun w (hb : Below W.heap.size W w) => (show Kd.C k95 w Ao f.users.length (f.users.map toO) by have := Kd.C_below T.In.oC.2 hb; rwa [List.length_map] at this))
      have HX9 := Aside0.mk x9
      have HC1 := Aside0.mk c1
      have hulz : (f.users.length : Int) ≤ 9223372036854775807 := by omega
      clear h T hnm hpf hp hbad hI hk
      rcases hasI_lookU f.users u with ⟨hh, hlu⟩ | ⟨q, p, hh, hql, hq, hlu⟩
      · have HMH := Aside0.mk (show mOpen st u n a x = if mayB f.F f.rules u a = false then (12, st) else if freeB f.users a x then (0, st.set k (f.opened u a x)) else (12, st) by unfold mOpen; rw [if_neg (by rw [HOS.out]; simp), HMF.out]; simp only [hlu]; rfl)
        rw [hh] at CH
        clear hlu hh
        cases hmay : mayB f.F f.rules u a with
        | false =>
          rw [hmay] at CM
          have HM := Aside0.mk (show mOpen st u n a x = (12, st) by rw [HMH.out, hmay]; rfl)
          clear hmay
          go_enter Tryz.func21, Tryz.ntmps21
          go_wp2_with first | (go_at_call 56; refine C56.out.mono ?_; rintro e w' ⟨rfl, rfl⟩) | (go_at_call 57; first | (with_reducible refine CA.out.mono ?_; rintro e w' ⟨rfl, rfl⟩) | (with_reducible refine CX.out.mono ?_; rintro e w' ⟨rfl, rfl⟩) | (refine CA.out.mono ?_; rintro e w' ⟨rfl, rfl⟩) | (refine CX.out.mono ?_; rintro e w' ⟨rfl, rfl⟩)) | (go_at_call 61; refine CW.out.mono ?_; rintro e w' ⟨rfl, rfl⟩) | (go_at_call 49; refine CF.out.mono ?_; rintro e w' ⟨rfl, rfl⟩)
          refine (CH.out _ HBX.out).mono ?_
          rintro e w2 ⟨rfl, hb2⟩
          have HB2 := Aside0.mk (HBX.out.trans (hb2.mono HBX.out.size))
          have hbk2 := (hb2.block W.heap.size (by simp)).trans HBK.out
          have e0 : w2.cell? ⟨W.heap.size, 0, none⟩ = _ := (blk_cell hbk2 0).trans rfl
          have e1 : w2.cell? ⟨W.heap.size, 1, none⟩ = _ := (blk_cell hbk2 1).trans rfl
          have e2 : w2.cell? ⟨W.heap.size, 2, none⟩ = _ := (blk_cell hbk2 2).trans rfl
          have e3 : w2.cell? ⟨W.heap.size, 3, none⟩ = _ := (blk_cell hbk2 3).trans rfl
          have e4 : w2.cell? ⟨W.heap.size, 4, none⟩ = _ := (blk_cell hbk2 4).trans rfl
          have e5 : w2.cell? ⟨W.heap.size, 5, none⟩ = _ := (blk_cell hbk2 5).trans rfl
          have e6 : w2.cell? ⟨W.heap.size, 6, none⟩ = _ := (blk_cell hbk2 6).trans rfl
          have e7 : w2.cell? ⟨W.heap.size, 7, none⟩ = _ := (blk_cell hbk2 7).trans rfl
          have e8 : w2.cell? ⟨W.heap.size, 8, none⟩ = _ := (blk_cell hbk2 8).trans rfl
          have e9 : w2.cell? ⟨W.heap.size, 9, none⟩ = _ := (blk_cell hbk2 9).trans rfl
          have HBK2 := Aside0.mk hbk2
          clear hb2 hbk2 x0 x1 x2 x3 x4 x5 x6 x7 x8 x9
          go_wp2_with fail
          refine (CM.out _ HB2.out).mono ?_
          rintro e w3 ⟨rfl, hb3⟩
          go_wp2
          refine bodyPost_ret (v := .int .i64 12) (by simp [results, Tryz.f21, go_sem]) rfl ?_
          exact ROut.stay HRR.out (HB2.out.trans (hb3.mono HB2.out.size)) (by rw [HM.out]) (by rw [HM.out])
        | true =>
          rw [hmay] at CM
          have HMY := Aside0.mk (show mOpen st u n a x = if freeB f.users a x then (0, st.set k (f.opened u a x)) else (12, st) by rw [HMH.out, hmay]; rfl)
          clear hmay HMH
          go_enter Tryz.func21, Tryz.ntmps21
          go_wp2_with first | (go_at_call 56; refine C56.out.mono ?_; rintro e w' ⟨rfl, rfl⟩) | (go_at_call 57; first | (with_reducible refine CA.out.mono ?_; rintro e w' ⟨rfl, rfl⟩) | (with_reducible refine CX.out.mono ?_; rintro e w' ⟨rfl, rfl⟩) | (refine CA.out.mono ?_; rintro e w' ⟨rfl, rfl⟩) | (refine CX.out.mono ?_; rintro e w' ⟨rfl, rfl⟩)) | (go_at_call 61; refine CW.out.mono ?_; rintro e w' ⟨rfl, rfl⟩) | (go_at_call 49; refine CF.out.mono ?_; rintro e w' ⟨rfl, rfl⟩)
          refine (CH.out _ HBX.out).mono ?_
          rintro e w2 ⟨rfl, hb2⟩
          have HB2 := Aside0.mk (HBX.out.trans (hb2.mono HBX.out.size))
          have hbk2 := (hb2.block W.heap.size (by simp)).trans HBK.out
          have e0 : w2.cell? ⟨W.heap.size, 0, none⟩ = _ := (blk_cell hbk2 0).trans rfl
          have e1 : w2.cell? ⟨W.heap.size, 1, none⟩ = _ := (blk_cell hbk2 1).trans rfl
          have e2 : w2.cell? ⟨W.heap.size, 2, none⟩ = _ := (blk_cell hbk2 2).trans rfl
          have e3 : w2.cell? ⟨W.heap.size, 3, none⟩ = _ := (blk_cell hbk2 3).trans rfl
          have e4 : w2.cell? ⟨W.heap.size, 4, none⟩ = _ := (blk_cell hbk2 4).trans rfl
          have e5 : w2.cell? ⟨W.heap.size, 5, none⟩ = _ := (blk_cell hbk2 5).trans rfl
          have e6 : w2.cell? ⟨W.heap.size, 6, none⟩ = _ := (blk_cell hbk2 6).trans rfl
          have e7 : w2.cell? ⟨W.heap.size, 7, none⟩ = _ := (blk_cell hbk2 7).trans rfl
          have e8 : w2.cell? ⟨W.heap.size, 8, none⟩ = _ := (blk_cell hbk2 8).trans rfl
          have e9 : w2.cell? ⟨W.heap.size, 9, none⟩ = _ := (blk_cell hbk2 9).trans rfl
          have HBK2 := Aside0.mk hbk2
          clear hb2 hbk2 x0 x1 x2 x3 x4 x5 x6 x7 x8 x9
          go_wp2_with fail
          refine (CM.out _ HB2.out).mono ?_
          rintro e w3 ⟨rfl, hb3⟩
          have HB := Aside0.mk (HB2.out.trans (hb3.mono HB2.out.size))
          have hbk3 := (hb3.block W.heap.size (Nat.lt_of_lt_of_le (blk_lt HBK2.out) (Nat.le_refl _))).trans HBK2.out
          have d9 : w3.cell? ⟨W.heap.size, 9, none⟩ = some (.slice Ao f.users.length co) := (blk_cell hbk3 9).trans rfl
          have d1 : w3.cell? ⟨rb, 1, none⟩ = some (.slice (some ⟨g, 0, none⟩) st.length c) := (HB.out.cell (p := ⟨rb, 1, none⟩) hrb).trans HC1.out
          clear hb3 hbk3 e0 e1 e2 e3 e4 e5 e6 e7 e8 e9 c1
          go_wp2_with fail
          go_loopw [13] (fun s wr => ∃ j : Nat, s = .int .i64 j ∧ j ≤ f.users.length ∧ w3 = wr ∧ Aside0 (∀ q, q < j → freeP a x (f.users.getD q (⟨#[]⟩, 0, 0)) = true)) (fun s _ => f.users.length - (intOf s).toNat)
          case atStart => exact ⟨0, rfl, by omega, rfl, ⟨fun q hq => absurd hq (by omega)⟩⟩
          case round =>
           obtain ⟨j, rfl, hj, rfl, HF⟩ := hrel
           by_cases hlt : j < f.users.length
           · have hltz : (j : Int) < (f.users.length : Int) := by omega
             have hj0 : decide ((j : Int) < 0) = false := decide_eq_false (by omega)
             obtain ⟨ad, rfl, y0, y1, y2⟩ := at_users (by have := HUC.out w3 HB.out; rw [← List.length_map (f := toO)] at this; exact this) j hlt
             have HG := Aside0.mk (show f.users.getD j (⟨#[]⟩, 0, 0) = f.users[j] by rw [List.getD_eq_getElem?_getD, List.getElem?_eq_getElem hlt]; rfl)
             have HME := Aside0.mk (List.getElem_mem hlt)
             generalize f.users[j] = p at y0 y1 y2 HG HME
             cases hfp : freeP a x p with
             | false =>
               have HM := Aside0.mk (show mOpen st u n a x = (12, st) by
                 rw [HMY.out, if_neg]
                 intro hc
                 have := List.all_eq_true.1 hc p HME.out
                 unfold freeP at hfp
                 rw [hfp] at this
                 cases this)
               unfold freeP at hfp
               by_cases h1 : bits .and .i64 p.2.2 a = 0
               · have g1 : (bits .and .i64 p.2.2 a == 0) = true := by simpa using h1
                 have g2 : (bits .and .i64 x p.2.1 == 0) = false := by
                   rw [decide_eq_true h1] at hfp
                   simpa using hfp
                 have g3 : ¬ bits .and .i64 x p.2.1 = 0 := by simpa using g2
                 clear hfp
                 go_wp2
                 refine bodyPost_ret (v := .int .i64 12) (by simp [results, Tryz.f21, go_sem]) rfl ?_
                 exact ROut.stay HRR.out HB.out (by rw [HM.out]) (by rw [HM.out])
               · have g1 : (bits .and .i64 p.2.2 a == 0) = false := by simpa using h1
                 clear hfp
                 go_wp2
                 refine bodyPost_ret (v := .int .i64 12) (by simp [results, Tryz.f21, go_sem]) rfl ?_
                 exact ROut.stay HRR.out HB.out (by rw [HM.out]) (by rw [HM.out])
             | true =>
               have HF2 := Aside0.mk (show ∀ q, q < j + 1 → freeP a x (f.users.getD q (⟨#[]⟩, 0, 0)) = true from fun q hq => by
                 by_cases hqj : q = j
                 · subst hqj
                   rw [HG.out]; exact hfp
                 · exact HF.out q (by omega))
               unfold freeP at hfp
               simp only [Bool.and_eq_true, decide_eq_true_eq] at hfp
               have g1 : (bits .and .i64 p.2.2 a == 0) = true := by simpa using hfp.1
               have g2 : (bits .and .i64 x p.2.1 == 0) = true := by simpa using hfp.2
               have g3 := hfp.1
               have g4 := hfp.2
               clear hfp
               go_wp2_with fail
               go_roundw
               case rel => exact ⟨j + 1, by go_num, by omega, by trivial, HF2⟩
               case measure => (simp [intOf]; try omega)
           · have hltz : ¬ (j : Int) < (f.users.length : Int) := by omega
             have HM := Aside0.mk (show mOpen st u n a x = (0, st.set k (f.opened u a x)) by
               rw [HMY.out, if_pos]
               unfold freeB
               rw [List.all_eq_true]
               intro p hp
               obtain ⟨q, hq, rfl⟩ := List.getElem_of_mem hp
               have := HF.out q (by omega)
               rw [List.getD_eq_getElem?_getD, List.getElem?_eq_getElem hq] at this
               exact this)
             obtain ⟨N, hN⟩ : ∃ N, N = (f.opened u a x).users.length := ⟨_, rfl⟩
             have HN := Aside0.mk hN
             have HLEN := Aside0.mk (show (f.users.map toO ++ [(⟨u, a, x⟩ : S95)]).length = N by rw [hN]; simp [AF.opened])
             clear hN
             go_wp2_with fail
             refine start_ (n := 18) (S := fun w' => w'.cell? ⟨rb, 1, none⟩ = some (.slice (some ⟨g, 0, none⟩) st.length c) ∧ w'.cell? ⟨W.heap.size, 9, none⟩ = some (.slice Ao f.users.length co)) (ds := [17]) #[false, false, false, false, false, false, false, false, false, false, false, false, false, false, false, false, false, false] (by kernel_rfl) rfl rfl ⟨d1, d9⟩ (fun hHeld => ?_)
             refine with_tabW ROpen.tab16 ROpen.bits16 (fun HT_ HW_ => ?_)
             have HWD := Aside0.mk (show Below W.heap.size W w3.drew from HB.out.drew)
             generalize w3.drew = wd at HWD hHeld ⊢
             have HF0 := Aside0.mk hHeld
             refine pure_ (i := 0) (N := some 82) (v := ?_) (a' := ?_) #[true, false, false, false, false, false, false, false, false, false, false, false, false, false, false, false, false, false] rfl rfl (any_of HT_.out (by kernel_rfl)) (fun _ _ _ h => h) (Or.inl ⟨by rfl, ?_⟩) ?_ ?_
             rotate_left
             · intro w'
               go_simp
               with_reducible rfl
             rotate_left
             · simp only [Act.put, List.setIfInBounds_toArray, List.set_cons_zero, List.set_cons_succ, i64_w, i32_w]
               rfl
             refine pure_ (i := 1) (N := some 83) (v := ?_) (a' := ?_) #[true, true, false, false, false, false, false, false, false, false, false, false, false, false, false, false, false, false] rfl rfl (any_of HT_.out (by kernel_rfl)) (fun _ _ _ h => h) (Or.inl ⟨by rfl, ?_⟩) ?_ ?_
             rotate_left
             · intro w'
               go_simp
               with_reducible rfl
             rotate_left
             · simp only [Act.put, List.setIfInBounds_toArray, List.set_cons_zero, List.set_cons_succ, i64_w, i32_w]
               rfl
             refine pure_ (i := 2) (N := some 84) (v := ?_) (a' := ?_) #[true, true, true, false, false, false, false, false, false, false, false, false, false, false, false, false, false, false] rfl rfl (any_of HT_.out (by kernel_rfl)) (fun _ _ _ h => h) (Or.inl ⟨by rfl, ?_⟩) ?_ ?_
             rotate_left
             · intro w'
               go_simp
               with_reducible rfl
             rotate_left
             · simp only [Act.put, List.setIfInBounds_toArray, List.set_cons_zero, List.set_cons_succ, i64_w, i32_w]
               rfl
             refine pure_ (i := 4) (N := some 86) (v := ?_) (a' := ?_) #[true, true, true, false, true, false, false, false, false, false, false, false, false, false, false, false, false, false] rfl rfl (any_of HT_.out (by kernel_rfl)) (fun _ _ _ h => h) (Or.inl ⟨by rfl, ?_⟩) ?_ ?_
             rotate_left
             · intro w'
               go_simp
               with_reducible rfl
             rotate_left
             · simp only [Act.put, List.setIfInBounds_toArray, List.set_cons_zero, List.set_cons_succ, i64_w, i32_w]
               rfl
             refine pure_ (i := 6) (N := some 88) (v := ?_) (a' := ?_) #[true, true, true, false, true, false, true, false, false, false, false, false, false, false, false, false, false, false] rfl rfl (any_of HT_.out (by kernel_rfl)) (fun _ _ _ h => h) (Or.inl ⟨by rfl, ?_⟩) ?_ ?_
             rotate_left
             · intro w'
               go_simp
               with_reducible rfl
             rotate_left
             · simp only [Act.put, List.setIfInBounds_toArray, List.set_cons_zero, List.set_cons_succ, i64_w, i32_w]
               rfl
             refine pure_ (i := 9) (N := some 91) (v := ?_) (a' := ?_) #[true, true, true, false, true, false, true, false, false, true, false, false, false, false, false, false, false, false] rfl rfl (any_of HT_.out (by kernel_rfl)) (fun _ _ _ h => h) (Or.inl ⟨by rfl, ?_⟩) ?_ ?_
             rotate_left
             · intro w'
               go_simp
               with_reducible rfl
             rotate_left
             · simp only [Act.put, List.setIfInBounds_toArray, List.set_cons_zero, List.set_cons_succ, i64_w, i32_w]
               rfl
             refine pure_ (i := 10) (N := some 92) (v := ?_) (a' := ?_) #[true, true, true, false, true, false, true, false, false, true, true, false, false, false, false, false, false, false] rfl rfl (any_of HT_.out (by kernel_rfl)) (fun _ _ _ h => h) (Or.inl ⟨by rfl, ?_⟩) ?_ ?_
             rotate_left
             · intro w'
               go_simp
               with_reducible rfl
             rotate_left
             · simp only [Act.put, List.setIfInBounds_toArray, List.set_cons_zero, List.set_cons_succ, i64_w, i32_w]
               rfl
             refine pure_ (i := 11) (N := some 93) (v := ?_) (a' := ?_) #[true, true, true, false, true, false, true, false, false, true, true, true, false, false, false, false, false, false] rfl rfl (any_of HT_.out (by kernel_rfl)) (fun _ _ _ h => h) (Or.inl ⟨by rfl, ?_⟩) ?_ ?_
             rotate_left
             · intro w'
               go_simp
               with_reducible rfl
             rotate_left
             · simp only [Act.put, List.setIfInBounds_toArray, List.set_cons_zero, List.set_cons_succ, i64_w, i32_w]
               rfl
             refine pure_ (i := 12) (N := some 94) (v := ?_) (a' := ?_) #[true, true, true, false, true, false, true, false, false, true, true, true, true, false, false, false, false, false] rfl rfl (any_of HT_.out (by kernel_rfl)) (fun _ _ _ h => h) (Or.inl ⟨by rfl, ?_⟩) ?_ ?_
             rotate_left
             · intro w'
               go_simp
               with_reducible rfl
             rotate_left
             · simp only [Act.put, List.setIfInBounds_toArray, List.set_cons_zero, List.set_cons_succ, i64_w, i32_w]
               rfl
             refine take_ (i := 3) (N := some 85) (v := ?_) (a' := ?_) #[true, true, true, true, true, false, true, false, false, true, true, true, true, false, false, false, false, false] rfl rfl (take_ofW HT_.out HW_.out (by kernel_rfl)) (fun _ _ _ h => h) (Or.inl ⟨by rfl, ?_⟩) hHeld ?_ ?_
             rotate_left
             · rintro w' ⟨s0, s1⟩
               go_simp
               with_reducible rfl
             rotate_left
             · simp only [Act.put, List.setIfInBounds_toArray, List.set_cons_zero, List.set_cons_succ, i64_w, i32_w]
               rfl
             refine take_ (i := 7) (N := some 89) (v := ?_) (a' := ?_) #[true, true, true, true, true, false, true, true, false, true, true, true, true, false, false, false, false, false] rfl rfl (take_ofW HT_.out HW_.out (by kernel_rfl)) (fun _ _ _ h => h) (Or.inl ⟨by rfl, ?_⟩) hHeld ?_ ?_
             rotate_left
             · rintro w' ⟨s0, s1⟩
               go_simp
               with_reducible rfl
             rotate_left
             · simp only [Act.put, List.setIfInBounds_toArray, List.set_cons_zero, List.set_cons_succ, i64_w, i32_w]
               rfl
             refine join_ (σ := Value × Value × Value) 4 #[true, true, true, true, true, true, true, true, true, true, true, true, true, true, false, false, false, false] (fun s => [(87, s.1), (90, s.2.1), (95, s.2.2)]) (fun s w' => Below wd.heap.size wd w' ∧ k95.R 95 w' wd.heap.size (fun _ => True) s.2.1 (f.users.map toO) ∧ k95.R 95 w' wd.heap.size (fun _ => True) s.2.2 [(⟨u, a, x⟩ : S95)] ∧ w'.cell? ⟨rb, 1, none⟩ = some (.slice (some ⟨g, 0, none⟩) st.length c) ∧ w'.cell? ⟨W.heap.size, 9, none⟩ = some (.slice Ao f.users.length co)) ?_ ?_
             rotate_left
             · intro hCont
               refine two_ (i := 5) (j := 13) (Ni := some 87) (Nj := some 95) #[true, true, true, true, true, true, true, true, false, true, true, true, true, false, false, false, false, false] #[true, true, true, true, true, false, true, true, false, true, true, true, true, true, false, false, false, false] rfl rfl rfl rfl (two_of HT_.out (by kernel_rfl)) (by decide) (by decide) (fun K hK => ?_) (fun K hK => ?_)
               · skip
                 refine Kd.R_lit_step k95 (w0 := wd) wd.heap.size 95 ?hg (N := 87) ?hd (xs := ([] : List S95)) (inner := []) (ok := fun q => wd.heap.size ≤ q) (okp := fun _ => False) ?hr ?hp (fun _ h => h.elim) (Nat.le_refl _) (Below.refl _ _) (Nat.le_refl _) (by simp) ?_; (case hd => rfl); (case hg => rfl); (case hr => first | (go_simp; done) | (go_simp; rfl)); (case hp => exact (Reps.none _ _))
                 intro v1 x1 ho hb hgr hfr
                 have HB1 := Aside0.mk hb
                 have HO1 := Aside0.mk ho
                 have HG1 := Aside0.mk hgr
                 have HL1 := Aside0.mk (R_ltx ho)
                 clear ho hb hgr hfr
                 refine hK.out _ _ ⟨pw_cell_below HB1.out HF0.out.1, pw_cell_below HB1.out HF0.out.2⟩ (fun hHeld => ?_)
                 clear hK K
                 refine norm_ (a' := ?_) ?_ ?_
                 rotate_left
                 · show Act.put _ (some 87) _ = _
                   simp only [Act.put, List.setIfInBounds_toArray, List.set_cons_zero, List.set_cons_succ, i64_w, i32_w]
                   rfl
                 refine two_ (i := 8) (j := 13) (Ni := some 90) (Nj := some 95) #[true, true, true, true, true, true, true, true, true, true, true, true, true, false, false, false, false, false] #[true, true, true, true, true, true, true, true, false, true, true, true, true, true, false, false, false, false] rfl rfl rfl rfl (two_of HT_.out (by kernel_rfl)) (by decide) (by decide) (fun K hK => ?_) (fun K hK => ?_)
                 · skip
                   refine Kd.R_append_rows_step k95 (Rr := k95.K x1) (w0 := wd) wd.heap.size (by rfl) (.tmp 87) (.tmp 89) 83 95 (.agg #[.string ⟨#[]⟩, .int .i64 0, .int .i64 0]) 32 rfl Tryz.underlying83 (by kernel_rfl) rfl (by decide) (by omega) v1 [] (f.users.map toO) Ao f.users.length co (fun q => wd.heap.size ≤ q) (fun _ => False) rfl rfl HO1.out (HUC.out _ (HWD.out.trans (HB1.out.mono HWD.out.size))) (fun x cs h => by rw [k95_open h]; exact k95_mkM _ _ _ _) (fun _ h => h.elim) (fun q hq => Nat.le_trans HB1.out.size hq) HB1.out HB1.out.size (by simp only [List.length_nil]; omega) ?_
                   intro v2 x2 ho hb hgr hfr
                   rw [List.nil_append] at ho
                   have HB2 := Aside0.mk hb
                   have HO2 := Aside0.mk (Kd.R_mono ho (fun _ _ => trivial) : k95.R 95 x2 wd.heap.size (fun _ => True) v2 (f.users.map toO))
                   clear ho hb hgr hfr
                   refine hK.out _ _ ⟨pw_cell_below HB2.out HF0.out.1, pw_cell_below HB2.out HF0.out.2⟩ (fun hHeld => ?_)
                   clear hK K
                   refine norm_ (a' := ?_) ?_ ?_
                   rotate_left
                   · show Act.put _ (some 90) _ = _
                     simp only [Act.put, List.setIfInBounds_toArray, List.set_cons_zero, List.set_cons_succ, i64_w, i32_w]
                     rfl
                   refine one_ (i := 13) (N := some 95) #[true, true, true, true, true, true, true, true, true, true, true, true, true, true, false, false, false, false] rfl rfl (one_of HT_.out (by kernel_rfl)) (by decide) (fun K hK => ?_)
                   refine Kd.R_lit_step k95 (w0 := wd) wd.heap.size 95 ?hg (N := 95) ?hd (xs := ([(⟨u, a, x⟩ : S95)] : List S95)) (inner := [.string u, .int .i64 a, .int .i64 x]) (ok := fun q => x2.heap.size ≤ q) (okp := fun _ => False) ?hr ?hp (fun _ h => h.elim) (Nat.le_refl _) HB2.out HB2.out.size (by simp) ?_; (case hd => rfl); (case hg => rfl); (case hr => first | (go_simp; done) | (go_simp; rfl)); (case hp => exact (Reps.c3 (k95_mkM _ _ (fun _ => False) (⟨u, a, x⟩ : S95)) (Reps.none _ _)))
                   intro v3 x3 ho hb hgr hfr
                   have HB3 := Aside0.mk hb
                   have HO3 := Aside0.mk ho
                   have HG3 := Aside0.mk hgr
                   have HL3 := Aside0.mk (R_ltx ho)
                   have HO2' := Aside0.mk (Kd.R_grown HO2.out hgr (fun _ _ e => by cases e))
                   clear HO2
                   have HO2 := HO2'
                   clear HO2'
                   clear ho hb hgr hfr
                   refine hK.out _ _ ⟨pw_cell_below HB3.out HF0.out.1, pw_cell_below HB3.out HF0.out.2⟩ (fun hHeld => ?_)
                   clear hK K
                   refine norm_ (a' := ?_) ?_ ?_
                   rotate_left
                   · show Act.put _ (some 95) _ = _
                     simp only [Act.put, List.setIfInBounds_toArray, List.set_cons_zero, List.set_cons_succ, i64_w, i32_w]
                     rfl
                   exact norm_ (by simp only [putAll, Act.put, List.setIfInBounds_toArray, List.set_cons_zero, List.set_cons_succ]) (hCont (v1, v2, v3) _ ⟨HB3.out, HO2.out, Kd.R_mono HO3.out (fun _ _ => trivial), pw_cell_below HB3.out HF0.out.1, pw_cell_below HB3.out HF0.out.2⟩)
                 · skip
                   refine Kd.R_lit_step k95 (w0 := wd) wd.heap.size 95 ?hg (N := 95) ?hd (xs := ([(⟨u, a, x⟩ : S95)] : List S95)) (inner := [.string u, .int .i64 a, .int .i64 x]) (ok := fun q => x1.heap.size ≤ q) (okp := fun _ => False) ?hr ?hp (fun _ h => h.elim) (Nat.le_refl _) HB1.out HB1.out.size (by simp) ?_; (case hd => rfl); (case hg => rfl); (case hr => first | (go_simp; done) | (go_simp; rfl)); (case hp => exact (Reps.c3 (k95_mkM _ _ (fun _ => False) (⟨u, a, x⟩ : S95)) (Reps.none _ _)))
                   intro v3 x3 ho hb hgr hfr
                   have HB3 := Aside0.mk hb
                   have HO3 := Aside0.mk ho
                   have HG3 := Aside0.mk hgr
                   have HL3 := Aside0.mk (R_ltx ho)
                   have HO1' := Aside0.mk (Kd.R_grown HO1.out hgr (fun _ _ e => by cases e))
                   clear HO1
                   have HO1 := HO1'
                   clear HO1'
                   clear ho hb hgr hfr
                   refine hK.out _ _ ⟨pw_cell_below HB3.out HF0.out.1, pw_cell_below HB3.out HF0.out.2⟩ (fun hHeld => ?_)
                   clear hK K
                   refine norm_ (a' := ?_) ?_ ?_
                   rotate_left
                   · show Act.put _ (some 95) _ = _
                     simp only [Act.put, List.setIfInBounds_toArray, List.set_cons_zero, List.set_cons_succ, i64_w, i32_w]
                     rfl
                   refine one_ (i := 8) (N := some 90) #[true, true, true, true, true, true, true, true, true, true, true, true, true, true, false, false, false, false] rfl rfl (one_of HT_.out (by kernel_rfl)) (by decide) (fun K hK => ?_)
                   refine Kd.R_append_rows_step k95 (Rr := k95.K x3) (w0 := wd) wd.heap.size (by rfl) (.tmp 87) (.tmp 89) 83 95 (.agg #[.string ⟨#[]⟩, .int .i64 0, .int .i64 0]) 32 rfl Tryz.underlying83 (by kernel_rfl) rfl (by decide) (by omega) v1 [] (f.users.map toO) Ao f.users.length co (fun q => wd.heap.size ≤ q ∧ (q < x1.heap.size ∨ x3.heap.size ≤ q)) (fun _ => False) rfl rfl (k95_own HO1.out (fun q hq => ⟨HO1.out.1 q hq, .inl (HL1.out q hq)⟩)) (HUC.out _ (HWD.out.trans (HB3.out.mono HWD.out.size))) (fun x cs h => by rw [k95_open h]; exact k95_mkM _ _ _ _) (fun _ h => h.elim) (fun q hq => ⟨Nat.le_trans HB3.out.size hq, .inr hq⟩) HB3.out HB3.out.size (by simp only [List.length_nil]; omega) ?_
                   intro v2 x2 ho hb hgr hfr
                   rw [List.nil_append] at ho
                   have HB2 := Aside0.mk hb
                   have HO2 := Aside0.mk (Kd.R_mono ho (fun _ _ => trivial) : k95.R 95 x2 wd.heap.size (fun _ => True) v2 (f.users.map toO))
                   have HO3' := Aside0.mk (Kd.R_grown HO3.out hgr (fun q hq e => by have h1 := HL1.out q e.symm; omega))
                   clear HO3
                   have HO3 := HO3'
                   clear HO3'
                   clear ho hb hgr hfr
                   refine hK.out _ _ ⟨pw_cell_below HB2.out HF0.out.1, pw_cell_below HB2.out HF0.out.2⟩ (fun hHeld => ?_)
                   clear hK K
                   refine norm_ (a' := ?_) ?_ ?_
                   rotate_left
                   · show Act.put _ (some 90) _ = _
                     simp only [Act.put, List.setIfInBounds_toArray, List.set_cons_zero, List.set_cons_succ, i64_w, i32_w]
                     rfl
                   exact norm_ (by simp only [putAll, Act.put, List.setIfInBounds_toArray, List.set_cons_zero, List.set_cons_succ]) (hCont (v1, v2, v3) _ ⟨HB2.out, HO2.out, Kd.R_mono HO3.out (fun _ _ => trivial), pw_cell_below HB2.out HF0.out.1, pw_cell_below HB2.out HF0.out.2⟩)
               · skip
                 refine Kd.R_lit_step k95 (w0 := wd) wd.heap.size 95 ?hg (N := 95) ?hd (xs := ([(⟨u, a, x⟩ : S95)] : List S95)) (inner := [.string u, .int .i64 a, .int .i64 x]) (ok := fun q => wd.heap.size ≤ q) (okp := fun _ => False) ?hr ?hp (fun _ h => h.elim) (Nat.le_refl _) (Below.refl _ _) (Nat.le_refl _) (by simp) ?_; (case hd => rfl); (case hg => rfl); (case hr => first | (go_simp; done) | (go_simp; rfl)); (case hp => exact (Reps.c3 (k95_mkM _ _ (fun _ => False) (⟨u, a, x⟩ : S95)) (Reps.none _ _)))
                 intro v3 x3 ho hb hgr hfr
                 have HB3 := Aside0.mk hb
                 have HO3 := Aside0.mk ho
                 have HG3 := Aside0.mk hgr
                 have HL3 := Aside0.mk (R_ltx ho)
                 clear ho hb hgr hfr
                 refine hK.out _ _ ⟨pw_cell_below HB3.out HF0.out.1, pw_cell_below HB3.out HF0.out.2⟩ (fun hHeld => ?_)
                 clear hK K
                 refine norm_ (a' := ?_) ?_ ?_
                 rotate_left
                 · show Act.put _ (some 95) _ = _
                   simp only [Act.put, List.setIfInBounds_toArray, List.set_cons_zero, List.set_cons_succ, i64_w, i32_w]
                   rfl
                 refine one_ (i := 5) (N := some 87) #[true, true, true, true, true, true, true, true, false, true, true, true, true, true, false, false, false, false] rfl rfl (one_of HT_.out (by kernel_rfl)) (by decide) (fun K hK => ?_)
                 refine Kd.R_lit_step k95 (w0 := wd) wd.heap.size 95 ?hg (N := 87) ?hd (xs := ([] : List S95)) (inner := []) (ok := fun q => x3.heap.size ≤ q) (okp := fun _ => False) ?hr ?hp (fun _ h => h.elim) (Nat.le_refl _) HB3.out HB3.out.size (by simp) ?_; (case hd => rfl); (case hg => rfl); (case hr => first | (go_simp; done) | (go_simp; rfl)); (case hp => exact (Reps.none _ _))
                 intro v1 x1 ho hb hgr hfr
                 have HB1 := Aside0.mk hb
                 have HO1 := Aside0.mk ho
                 have HG1 := Aside0.mk hgr
                 have HL1 := Aside0.mk (R_ltx ho)
                 have HO3' := Aside0.mk (Kd.R_grown HO3.out hgr (fun _ _ e => by cases e))
                 clear HO3
                 have HO3 := HO3'
                 clear HO3'
                 clear ho hb hgr hfr
                 refine hK.out _ _ ⟨pw_cell_below HB1.out HF0.out.1, pw_cell_below HB1.out HF0.out.2⟩ (fun hHeld => ?_)
                 clear hK K
                 refine norm_ (a' := ?_) ?_ ?_
                 rotate_left
                 · show Act.put _ (some 87) _ = _
                   simp only [Act.put, List.setIfInBounds_toArray, List.set_cons_zero, List.set_cons_succ, i64_w, i32_w]
                   rfl
                 refine one_ (i := 8) (N := some 90) #[true, true, true, true, true, true, true, true, true, true, true, true, true, true, false, false, false, false] rfl rfl (one_of HT_.out (by kernel_rfl)) (by decide) (fun K hK => ?_)
                 refine Kd.R_append_rows_step k95 (Rr := k95.K x1) (w0 := wd) wd.heap.size (by rfl) (.tmp 87) (.tmp 89) 83 95 (.agg #[.string ⟨#[]⟩, .int .i64 0, .int .i64 0]) 32 rfl Tryz.underlying83 (by kernel_rfl) rfl (by decide) (by omega) v1 [] (f.users.map toO) Ao f.users.length co (fun q => x3.heap.size ≤ q) (fun _ => False) rfl rfl HO1.out (HUC.out _ (HWD.out.trans (HB1.out.mono HWD.out.size))) (fun x cs h => by rw [k95_open h]; exact k95_mkM _ _ _ _) (fun _ h => h.elim) (fun q hq => Nat.le_trans HG1.out.size hq) HB1.out HB1.out.size (by simp only [List.length_nil]; omega) ?_
                 intro v2 x2 ho hb hgr hfr
                 rw [List.nil_append] at ho
                 have HB2 := Aside0.mk hb
                 have HO2 := Aside0.mk (Kd.R_mono ho (fun _ _ => trivial) : k95.R 95 x2 wd.heap.size (fun _ => True) v2 (f.users.map toO))
                 have HO3' := Aside0.mk (Kd.R_grown (k95_own (ok' := fun q => v3.ownBlock = some q) HO3.out (fun q h => h)) hgr (fun q hq e => by have h1 := HO1.out.1 q e.symm; have h2 := HL3.out q hq; omega))
                 clear HO3
                 have HO3 := HO3'
                 clear HO3'
                 clear ho hb hgr hfr
                 refine hK.out _ _ ⟨pw_cell_below HB2.out HF0.out.1, pw_cell_below HB2.out HF0.out.2⟩ (fun hHeld => ?_)
                 clear hK K
                 refine norm_ (a' := ?_) ?_ ?_
                 rotate_left
                 · show Act.put _ (some 90) _ = _
                   simp only [Act.put, List.setIfInBounds_toArray, List.set_cons_zero, List.set_cons_succ, i64_w, i32_w]
                   rfl
                 exact norm_ (by simp only [putAll, Act.put, List.setIfInBounds_toArray, List.set_cons_zero, List.set_cons_succ]) (hCont (v1, v2, v3) _ ⟨HB2.out, HO2.out, Kd.R_mono HO3.out (fun _ _ => trivial), pw_cell_below HB2.out HF0.out.1, pw_cell_below HB2.out HF0.out.2⟩)
             rintro ⟨v1, v2, v3⟩ x4 ⟨hb4, ho2, ho3, hs0, hs1⟩
             have hHeld : x4.cell? ⟨rb, 1, none⟩ = some (.slice (some ⟨g, 0, none⟩) st.length c) ∧ x4.cell? ⟨W.heap.size, 9, none⟩ = some (.slice Ao f.users.length co) := ⟨hs0, hs1⟩
             have HB4 := Aside0.mk hb4
             have HO4 := Aside0.mk ho2
             obtain ⟨A3, c3, hv3⟩ := Kd.R_slice ho3
             have hv3 : v3 = .slice A3 1 c3 := hv3
             subst hv3
             have HO5 := Aside0.mk ho3
             clear hb4 ho2 ho3 hs0 hs1
             refine norm_ (a' := ?_) ?_ ?_
             rotate_left
             · simp only [putAll, Act.put, List.setIfInBounds_toArray, List.set_cons_zero, List.set_cons_succ]
               rfl
             refine one_ (i := 14) (N := some 96) #[true, true, true, true, true, true, true, true, true, true, true, true, true, true, true, false, false, false] rfl rfl (one_of HT_.out (by kernel_rfl)) (by decide) (fun K hK => ?_)
             refine Kd.R_append_rows_step k95 (Rr := k95.K x4) (w0 := wd) wd.heap.size (by rfl) (.tmp 90) (.tmp 95) 83 95 (.agg #[.string ⟨#[]⟩, .int .i64 0, .int .i64 0]) 32 rfl Tryz.underlying83 (by kernel_rfl) rfl (by decide) (by omega) v2 (f.users.map toO) [(⟨u, a, x⟩ : S95)] A3 1 c3 (fun _ => True) (fun _ => False) rfl rfl HO4.out (Kd.R_reads' HO5.out).2.2 (fun x cs h => by rw [k95_open h]; exact k95_mkM _ _ _ _) (fun _ h => h.elim) (fun _ _ => trivial) HB4.out HB4.out.size (by rw [List.length_map]; omega) ?_
             intro v6 x6 ho hb _ _
             have HB6 := Aside0.mk hb
             obtain ⟨A6, c6, hv6⟩ := Kd.R_slice ho
             rw [HLEN.out] at hv6
             subst hv6
             have HBW6 := Aside0.mk (HWD.out.trans (HB6.out.mono HWD.out.size))
             have y_6 := (HBW6.out.cell (p := ⟨g, k * 10 + 9, none⟩) hgl).trans HX9.out
             have z_6 : x6.frozen? ⟨g, k * 10 + 9, none⟩ = false := by rw [World.frozen?_of_block (HBW6.out.block g hgl)]; exact HT.out.fz _
             have HO6 := Aside0.mk ho
             clear ho hb
             refine hK.out _ _ ⟨pw_cell_below HB6.out HF0.out.1, pw_cell_below HB6.out HF0.out.2⟩ (fun hHeld => ?_)
             clear hK K
             refine norm_ (a' := ?_) ?_ ?_
             rotate_left
             · show Act.put _ (some 96) _ = _
               simp only [Act.put, List.setIfInBounds_toArray, List.set_cons_zero, List.set_cons_succ, i64_w, i32_w]
               rfl
             refine pure_ (i := 15) (N := some 97) (v := ?_) (a' := ?_) #[true, true, true, true, true, true, true, true, true, true, true, true, true, true, true, true, false, false] rfl rfl (any_of HT_.out (by kernel_rfl)) (fun _ _ _ h => h) (Or.inl ⟨by rfl, ?_⟩) ?_ ?_
             rotate_left
             · intro w'
               go_simp
               with_reducible rfl
             rotate_left
             · simp only [Act.put, List.setIfInBounds_toArray, List.set_cons_zero, List.set_cons_succ, i64_w, i32_w]
               rfl
             refine pure_ (i := 16) (N := some 98) (v := ?_) (a' := ?_) #[true, true, true, true, true, true, true, true, true, true, true, true, true, true, true, true, true, false] rfl rfl (any_of HT_.out (by kernel_rfl)) (fun _ _ _ h => h) (Or.inl ⟨by rfl, ?_⟩) ?_ ?_
             rotate_left
             · intro w'
               go_simp
               with_reducible rfl
             rotate_left
             · simp only [Act.put, List.setIfInBounds_toArray, List.set_cons_zero, List.set_cons_succ, i64_w, i32_w]
               rfl
             refine last_ (i := 17) (N := none) #[true, true, true, true, true, true, true, true, true, true, true, true, true, true, true, true, true, true] rfl rfl (one_of HT_.out (by kernel_rfl)) (by decide) (fun K hK => ?_)
             refine skip_ (w1 := ?_) (by rfl) rfl ?_ ?_
             rotate_left
             · go_simp
               rfl
             refine hK.out _ _ ?_
             clear hK K
             refine done_ (done_of HT_.out (by kernel_rfl)) ?_
             go_wp2
             refine bodyPost_ret (v := .int .i64 0) (by simp [results, Tryz.f21, go_sem]) rfl ?_
             rw [HM.out]
             have hN := HN.out
             subst hN
             exact HH.out.put HT.out HK.out HBW6.out 9 _ (f' := f.opened u a x) (by decide) rfl ⟨(InR.old HH.out HT.out.In HBW6.out).r, (InR.old HH.out HT.out.In HBW6.out).u, R_made (Kd.R_lower (by unfold AF.opened; rw [List.map_append]; exact HO6.out) HWD.out.size) HBW6.out HH.out HT.out⟩ _
      · have HM := Aside0.mk (show mOpen st u n a x = (8, st) by unfold mOpen; rw [if_neg (by rw [HOS.out]; simp), HMF.out]; simp only [hlu]; rfl)
        rw [hh] at CH
        have hq0 : (0 : Int) ≤ (q : Int) := by omega
        clear hlu hh hq
        go_enter Tryz.func21, Tryz.ntmps21
        go_wp2_with first | (go_at_call 56; refine C56.out.mono ?_; rintro e w' ⟨rfl, rfl⟩) | (go_at_call 57; first | (with_reducible refine CA.out.mono ?_; rintro e w' ⟨rfl, rfl⟩) | (with_reducible refine CX.out.mono ?_; rintro e w' ⟨rfl, rfl⟩) | (refine CA.out.mono ?_; rintro e w' ⟨rfl, rfl⟩) | (refine CX.out.mono ?_; rintro e w' ⟨rfl, rfl⟩)) | (go_at_call 61; refine CW.out.mono ?_; rintro e w' ⟨rfl, rfl⟩) | (go_at_call 49; refine CF.out.mono ?_; rintro e w' ⟨rfl, rfl⟩)
        refine (CH.out _ HBX.out).mono ?_
        rintro e w2 ⟨rfl, hb2⟩
        have HB2 := Aside0.mk (HBX.out.trans (hb2.mono HBX.out.size))
        have hbk2 := (hb2.block W.heap.size (by simp)).trans HBK.out
        have e0 : w2.cell? ⟨W.heap.size, 0, none⟩ = _ := (blk_cell hbk2 0).trans rfl
        have e1 : w2.cell? ⟨W.heap.size, 1, none⟩ = _ := (blk_cell hbk2 1).trans rfl
        have e2 : w2.cell? ⟨W.heap.size, 2, none⟩ = _ := (blk_cell hbk2 2).trans rfl
        have e3 : w2.cell? ⟨W.heap.size, 3, none⟩ = _ := (blk_cell hbk2 3).trans rfl
        have e4 : w2.cell? ⟨W.heap.size, 4, none⟩ = _ := (blk_cell hbk2 4).trans rfl
        have e5 : w2.cell? ⟨W.heap.size, 5, none⟩ = _ := (blk_cell hbk2 5).trans rfl
        have e6 : w2.cell? ⟨W.heap.size, 6, none⟩ = _ := (blk_cell hbk2 6).trans rfl
        have e7 : w2.cell? ⟨W.heap.size, 7, none⟩ = _ := (blk_cell hbk2 7).trans rfl
        have e8 : w2.cell? ⟨W.heap.size, 8, none⟩ = _ := (blk_cell hbk2 8).trans rfl
        have e9 : w2.cell? ⟨W.heap.size, 9, none⟩ = _ := (blk_cell hbk2 9).trans rfl
        have HBK2 := Aside0.mk hbk2
        clear hb2 hbk2 x0 x1 x2 x3 x4 x5 x6 x7 x8 x9
        go_wp2
        refine bodyPost_ret (v := .int .i64 8) (by simp [results, Tryz.f21, go_sem]) rfl ?_
        exact ROut.stay HRR.out HB2.out (by rw [HM.out]) (by rw [HM.out])
end Go.Proofs.YtehlmkgldcfciaaGreat.Files
/- The reference's store: Insert. -/
set_option linter.unusedVariables false
set_option linter.unusedSimpArgs false
namespace Go.Proofs.YtehlmkgldcfciaaGreat.Files
open Go.Proofs.YtehlmkgldcfciaaGreat.Common Go.Maps Go.ChangeMaps Go.WideMaps Go.Proofs.YtehlmkgldcfciaaGreat.F
open Go.RowKit Go.Proofs.YtehlmkgldcfciaaGreatW.PrintWords Go.Proofs.YtehlmkgldcfciaaGreatW.PrintLast Go.Proofs.YtehlmkgldcfciaaGreatW.PrintMore
def RIns.T17 : Bool × List (List Nat × List Nat) := (true, [([], []), ([], []), ([1], [1]), ([0, 2], [0, 2]), ([], []), ([], []), ([4, 5], [4, 5]), ([3, 6, 3], [3, 6]), ([7, 7, 0, 1, 2, 3, 4, 5, 6, 7], [0, 7])])
def RIns.B17 : List Nat := [0, 0, 2, 7, 0, 0, 48, 127, 255]
theorem RIns.tab17 : rtab .any (opsOf Tryz.f31 17) = RIns.T17 := by kernel_rfl
theorem RIns.bits17 : waitsOk RIns.T17.2 RIns.B17 = true := by kernel_rfl
set_option maxRecDepth 100000 in
set_option maxHeartbeats 8000000 in
theorem rInsert_c (rb c : Nat) (ok : Nat → Prop) (st : Fs) (A : Option Addr) (u n : ByteArray) (at_ : Int) (child : Bool) (a b : ByteArray) (lev0 : Int) (W : World) (h : RParts W ok rb st A c) (hI : RInv st) :
    Calls Tryz.prog 31 #[.pointer (some ⟨rb, 0, none⟩), .string u, .string n, .int .i64 at_, .bool child, .agg #[.string a, .string b, .int .i64 lev0]] W (ROut W ok rb (.int .i64 (mInsert st u n at_ child a b).1) (mInsert st u n at_ child a b).2) := by
  have HBX := Aside0.mk (show Below W.heap.size W (W.alloc (.cells #[.string a, .string b, .int .i64 lev0] 62)) from (Below.refl _ _).alloc (Nat.le_refl _) _)
  have HKX := Aside0.mk (show (W.alloc (.cells #[.string a, .string b, .int .i64 lev0] 62)).heap[W.heap.size]? = some (.cells #[.string a, .string b, .int .i64 lev0] 62 (0, 0)) by simpa using heap_alloc_new W _)
  have C56 := Aside0.mk (rbad_c rb u n (W.alloc (.cells #[.string a, .string b, .int .i64 lev0] 62)) (h.below HBX.out).c0)
  have CB := Aside0.mk (fun W' (hb : Below W.heap.size W W') => begin_c rb c ok st A u n W' (h.below hb))
  have CU := Aside0.mk (fun W' (hb : Below W.heap.size W W') => runit_c a b lev0 W')
  have HRR := Aside0.mk (show RRep W ok rb st from ⟨A, c, h⟩)
  cases hbad : (userB u && nameB n) with
  | false =>
    rw [hbad] at C56
    have HM := Aside0.mk (show mInsert st u n at_ child a b = (1, st) by unfold mInsert; split <;> first | rfl | rw [mUnit_bad hbad])
    clear h hbad CB hI
    go_enter Tryz.func31, Tryz.ntmps31
    go_wp2_with first | (go_at_call 56; refine C56.out.mono ?_; rintro e w' ⟨rfl, rfl⟩)
    refine bodyPost_ret (v := .int .i64 1) (by simp [results, Tryz.f31, go_sem]) rfl ?_
    exact ROut.stay HRR.out HBX.out (by rw [HM.out]) (by rw [HM.out])
  | true =>
    rw [hbad] at C56
    by_cases hr : at_ < 0
    · have g1 : decide (at_ < 0) = true := decide_eq_true hr
      have HM := Aside0.mk (show mInsert st u n at_ child a b = (1, st) by unfold mInsert; split <;> first | rfl | rw [mUnit_neg hr])
      clear h hbad CB hI hr
      go_enter Tryz.func31, Tryz.ntmps31
      go_wp2_with first | (go_at_call 56; refine C56.out.mono ?_; rintro e w' ⟨rfl, rfl⟩)
      refine bodyPost_ret (v := .int .i64 1) (by simp [results, Tryz.f31, go_sem]) rfl ?_
      exact ROut.stay HRR.out HBX.out (by rw [HM.out]) (by rw [HM.out])
    have g1 : decide (at_ < 0) = false := decide_eq_false hr
    have HN0 := Aside0.mk hr
    clear hr
    cases hun : (decide (a.size ≤ 30) && decide (b.size ≤ 400)) with
    | false =>
      rw [hun] at CU
      have HM := Aside0.mk (show mInsert st u n at_ child a b = (1, st) by unfold mInsert; rw [if_pos hun])
      clear h hbad CB hI hun
      go_enter Tryz.func31, Tryz.ntmps31
      go_wp2_with first | (go_at_call 56; refine C56.out.mono ?_; rintro e w' ⟨rfl, rfl⟩) | (go_at_call 74; refine (CU.out _ HBX.out).mono ?_; rintro e w1 ⟨rfl, hbu⟩; have HBU := Aside0.mk (HBX.out.trans (hbu.mono HBX.out.size)); have HKU := Aside0.mk ((hbu.block W.heap.size (by simp)).trans HKX.out); clear hbu)
      refine bodyPost_ret (v := .int .i64 1) (by simp [results, Tryz.f31, go_sem]) rfl ?_
      exact ROut.stay HRR.out HBU.out (by rw [HM.out]) (by rw [HM.out])
    | true =>
    rw [hun] at CU
    have HMS := Aside0.mk (show mInsert st u n at_ child a b = _ from if_neg (by rw [hun]; simp))
    clear hun
    cases hB : mBegin st u n with
    | error E =>
      rw [hB] at CB
      have hE := mBegin_E hB
      have HM := Aside0.mk (show mInsert st u n at_ child a b = (E, st) by rw [HMS.out, mUnit_err HN0.out (mOpened_err hbad hB 2)])
      clear h hbad hI hB
      go_enter Tryz.func31, Tryz.ntmps31
      go_wp2_with first | (go_at_call 56; refine C56.out.mono ?_; rintro e w' ⟨rfl, rfl⟩) | (go_at_call 74; refine (CU.out _ HBX.out).mono ?_; rintro e w1 ⟨rfl, hbu⟩; have HBU := Aside0.mk (HBX.out.trans (hbu.mono HBX.out.size)); have HKU := Aside0.mk ((hbu.block W.heap.size (by simp)).trans HKX.out); clear hbu)
      refine (CB.out _ HBU.out).mono ?_
      rintro e w2 ⟨hb2, rfl⟩
      have HB2 := Aside0.mk (HBU.out.trans (hb2.mono HBU.out.size))
      clear hb2
      go_wp2
      refine bodyPost_ret (v := .int .i64 E) (by simp [results, Tryz.f31, go_sem]) rfl ?_
      exact ROut.stay HRR.out HB2.out (by rw [HM.out]) (by rw [HM.out])
    | ok p =>
    obtain ⟨k, f, ac⟩ := p
    rw [hB] at CB
    obtain ⟨hk, hnm⟩ := mBegin_at hB
    have HMU := Aside0.mk (mOpened_ok hbad hB 2)
    obtain ⟨g, Ar, cr, Au, cu, Ao, co, T⟩ := h.row hk
    have hil : k < st.length := (List.getElem?_eq_some_iff.1 hk).1
    have hlz : (k : Int) < (st.length : Int) := by omega
    have hk0 : decide ((k : Int) < 0) = false := decide_eq_false (by omega)
    have HC1 := Aside0.mk h.c1
    have hA := T.hA
    subst hA
    have HX1 := Aside0.mk T.x.2.1
    have HX8 := Aside0.mk T.x.2.2.2.2.2.2.2.2.1
    have HH := Aside0.mk h
    have HT := Aside0.mk T
    have HK := Aside0.mk hk
    have hrb := h.lt rb h.okr
    have hgl := h.glt T
    have HUI := Aside0.mk (hI.units f (List.mem_of_getElem? hk))
    have HKI := Aside0.mk (hI.kinds f (List.mem_of_getElem? hk))
    have HUC := Aside0.mk (fun X (hb : Below W.heap.size W X) => Kd.C_below T.In.uC.2 hb)
    have hcu := T.In.uC.1
    have hul := HUI.out.1.len
    clear h hbad hI hB hk hnm T
    by_cases hpl : (f.units.length : Int) ≤ at_
    · have g3 : decide ((f.units.length : Int) ≤ at_) = true := decide_eq_true hpl
      have HM := Aside0.mk (show mInsert st u n at_ child a b = (3, st) by rw [HMS.out, mUnit_none HN0.out HMU.out hpl])
      clear hpl
      go_enter Tryz.func31, Tryz.ntmps31
      go_wp2_with first | (go_at_call 56; refine C56.out.mono ?_; rintro e w' ⟨rfl, rfl⟩) | (go_at_call 74; refine (CU.out _ HBX.out).mono ?_; rintro e w1 ⟨rfl, hbu⟩; have HBU := Aside0.mk (HBX.out.trans (hbu.mono HBX.out.size)); have HKU := Aside0.mk ((hbu.block W.heap.size (by simp)).trans HKX.out); clear hbu)
      refine (CB.out _ HBU.out).mono ?_
      rintro e w2 ⟨hb2, rfl⟩
      have HB2 := Aside0.mk (HBU.out.trans (hb2.mono HBU.out.size))
      have hbk := (hb2.block W.heap.size (blk_lt HKU.out)).trans HKU.out
      have HKB := Aside0.mk hbk
      have q0 : w2.cell? ⟨W.heap.size, 0, none⟩ = some (.string a) := (blk_cell hbk 0).trans rfl
      have q1 : w2.cell? ⟨W.heap.size, 1, none⟩ = some (.string b) := (blk_cell hbk 1).trans rfl
      have q2 : w2.cell? ⟨W.heap.size, 2, none⟩ = some (.int .i64 lev0) := (blk_cell hbk 2).trans rfl
      have qf := blk_frozen hbk 2
      have d1 := (HB2.out.cell (p := ⟨rb, 1, none⟩) hrb).trans HC1.out
      have dk := (HB2.out.cell (p := ⟨g, k * 10 + 1, none⟩) hgl).trans HX1.out
      have d8 := (HB2.out.cell (p := ⟨g, k * 10 + 8, none⟩) hgl).trans HX8.out
      clear hb2 hbk
      go_wp2
      refine bodyPost_ret (v := .int .i64 3) (by simp [results, Tryz.f31, go_sem]) rfl ?_
      exact ROut.stay HRR.out HB2.out (by rw [HM.out]) (by rw [HM.out])
    have g3 : decide ((f.units.length : Int) ≤ at_) = false := decide_eq_false hpl
    have HMK := Aside0.mk (mUnit_ok HN0.out HMU.out hpl)
    obtain ⟨i, rfl⟩ : ∃ i : Nat, at_ = (i : Int) := ⟨at_.toNat, by have := HN0.out; omega⟩
    have hil2 : i < f.units.length := by omega
    rw [Int.toNat_natCast] at HMK
    have hiz : (i : Int) < (f.units.length : Int) := by omega
    have hi0 : decide ((i : Int) < 0) = false := decide_eq_false (by omega)
    clear hpl
    obtain ⟨lev, hlev⟩ : ∃ lev, lev = insLev f.units i child := ⟨_, rfl⟩
    have HLV := Aside0.mk hlev
    have HLB := Aside0.mk (HUI.out.1.lev)
    have HMI := Aside0.mk (show mInsert st u n (i : Int) child a b = if insBad f.F.kind lev then (1, st) else if clashB f.units (kids f.units (aboveOf f.units lev i)) a = true ∨ denied ac 2 = 12 ∨ 100 ≤ f.units.length then (insErr (clashB f.units (kids f.units (aboveOf f.units lev i)) a) (denied ac 2), st) else (0, st.set k (f.ins u i ⟨a, b, lev⟩)) by rw [HMS.out, HMK.out, hlev])
    obtain ⟨lv0, hlv0⟩ : ∃ x, x = lv f.units i := ⟨_, rfl⟩
    have HLV0 := Aside0.mk hlv0
    have hl0 : 0 ≤ lv0 ∧ lv0 ≤ 1000 := by rw [hlv0]; exact HLB.out i
    have hlvw : wrap64 (lv0 + 1) = lv0 + 1 := by unfold wrap64; omega
    have hlev2 : lev = lv0 + (if child then 1 else 0) := by rw [hlev, hlv0]; rfl
    clear hlev hlv0
    -- THE LEVEL NOTED, THE KIND READ: the tests
    have HGO := Aside0.mk (fun (X : World) (hb : Below W.heap.size W X) => (show ∃ ad, Au = some ad ∧ X.cell? ⟨(ad.add (i * 3)).block, (ad.add (i * 3)).off + 2, none⟩ = some (.int .i64 lv0) by
      obtain ⟨ad, e, _, _, h2⟩ := at_units (HUC.out X hb) i hil2
      refine ⟨ad, e, ?_⟩
      rw [h2, HLV0.out]
      unfold lv
      rw [rd_get _ _ hil2]))
    have HBADT := Aside0.mk (bad_tests f.F.kind lev HKI.out (by rw [hlev2]; split <;> omega))
    by_cases h1 : lev = 0
    · have HM := Aside0.mk (show mInsert st u n (i : Int) child a b = (1, st) by rw [HMI.out, if_pos (HBADT.out.2 (Or.inl h1))])
      cases child with
      | false =>
        have hlev3 : lev = lv0 := by rw [hlev2]; simp
        subst hlev3
        have t1 : (lev == 0) = true := by simpa using h1
        clear h1 hlev2
        go_enter Tryz.func31, Tryz.ntmps31
        go_wp2_with first | (go_at_call 56; refine C56.out.mono ?_; rintro e w' ⟨rfl, rfl⟩) | (go_at_call 74; refine (CU.out _ HBX.out).mono ?_; rintro e w1 ⟨rfl, hbu⟩; have HBU := Aside0.mk (HBX.out.trans (hbu.mono HBX.out.size)); have HKU := Aside0.mk ((hbu.block W.heap.size (by simp)).trans HKX.out); clear hbu)
        refine (CB.out _ HBU.out).mono ?_
        rintro e w2 ⟨hb2, rfl⟩
        have HB2 := Aside0.mk (HBU.out.trans (hb2.mono HBU.out.size))
        have hbk := (hb2.block W.heap.size (blk_lt HKU.out)).trans HKU.out
        have HKB := Aside0.mk hbk
        have q0 : w2.cell? ⟨W.heap.size, 0, none⟩ = some (.string a) := (blk_cell hbk 0).trans rfl
        have q1 : w2.cell? ⟨W.heap.size, 1, none⟩ = some (.string b) := (blk_cell hbk 1).trans rfl
        have q2 : w2.cell? ⟨W.heap.size, 2, none⟩ = some (.int .i64 lev0) := (blk_cell hbk 2).trans rfl
        have qf := blk_frozen hbk 2
        have d1 := (HB2.out.cell (p := ⟨rb, 1, none⟩) hrb).trans HC1.out
        have dk := (HB2.out.cell (p := ⟨g, k * 10 + 1, none⟩) hgl).trans HX1.out
        have d8 := (HB2.out.cell (p := ⟨g, k * 10 + 8, none⟩) hgl).trans HX8.out
        clear hb2 hbk
        obtain ⟨ad, hAd, y2⟩ := HGO.out w2 HB2.out
        subst hAd
        go_wp2
        refine bodyPost_ret (v := .int .i64 1) (by simp [results, Tryz.f31, go_sem]) rfl ?_
        exact ROut.stay HRR.out (below_box HB2.out _ _) (by rw [HM.out]) (by rw [HM.out])
      | true =>
        have hlev3 : lev = lv0 + 1 := by rw [hlev2]; simp
        subst hlev3
        have t1 : (lv0 + 1 == 0) = true := by simpa using h1
        clear h1 hlev2
        go_enter Tryz.func31, Tryz.ntmps31
        go_wp2_with first | (go_at_call 56; refine C56.out.mono ?_; rintro e w' ⟨rfl, rfl⟩) | (go_at_call 74; refine (CU.out _ HBX.out).mono ?_; rintro e w1 ⟨rfl, hbu⟩; have HBU := Aside0.mk (HBX.out.trans (hbu.mono HBX.out.size)); have HKU := Aside0.mk ((hbu.block W.heap.size (by simp)).trans HKX.out); clear hbu)
        refine (CB.out _ HBU.out).mono ?_
        rintro e w2 ⟨hb2, rfl⟩
        have HB2 := Aside0.mk (HBU.out.trans (hb2.mono HBU.out.size))
        have hbk := (hb2.block W.heap.size (blk_lt HKU.out)).trans HKU.out
        have HKB := Aside0.mk hbk
        have q0 : w2.cell? ⟨W.heap.size, 0, none⟩ = some (.string a) := (blk_cell hbk 0).trans rfl
        have q1 : w2.cell? ⟨W.heap.size, 1, none⟩ = some (.string b) := (blk_cell hbk 1).trans rfl
        have q2 : w2.cell? ⟨W.heap.size, 2, none⟩ = some (.int .i64 lev0) := (blk_cell hbk 2).trans rfl
        have qf := blk_frozen hbk 2
        have d1 := (HB2.out.cell (p := ⟨rb, 1, none⟩) hrb).trans HC1.out
        have dk := (HB2.out.cell (p := ⟨g, k * 10 + 1, none⟩) hgl).trans HX1.out
        have d8 := (HB2.out.cell (p := ⟨g, k * 10 + 8, none⟩) hgl).trans HX8.out
        clear hb2 hbk
        obtain ⟨ad, hAd, y2⟩ := HGO.out w2 HB2.out
        subst hAd
        go_wp2
        refine bodyPost_ret (v := .int .i64 1) (by simp [results, Tryz.f31, go_sem]) rfl ?_
        exact ROut.stay HRR.out (below_box (below_box HB2.out _ _) _ _) (by rw [HM.out]) (by rw [HM.out])
    by_cases h2 : f.F.kind = 0
    · have HM := Aside0.mk (show mInsert st u n (i : Int) child a b = (1, st) by rw [HMI.out, if_pos (HBADT.out.2 (Or.inr (Or.inl h2)))])
      cases child with
      | false =>
        have hlev3 : lev = lv0 := by rw [hlev2]; simp
        subst hlev3
        have t1 : (lev == 0) = false := by simpa using h1
        have t2 : (f.F.kind == 0) = true := by simpa using h2
        clear h1 h2 hlev2
        go_enter Tryz.func31, Tryz.ntmps31
        go_wp2_with first | (go_at_call 56; refine C56.out.mono ?_; rintro e w' ⟨rfl, rfl⟩) | (go_at_call 74; refine (CU.out _ HBX.out).mono ?_; rintro e w1 ⟨rfl, hbu⟩; have HBU := Aside0.mk (HBX.out.trans (hbu.mono HBX.out.size)); have HKU := Aside0.mk ((hbu.block W.heap.size (by simp)).trans HKX.out); clear hbu)
        refine (CB.out _ HBU.out).mono ?_
        rintro e w2 ⟨hb2, rfl⟩
        have HB2 := Aside0.mk (HBU.out.trans (hb2.mono HBU.out.size))
        have hbk := (hb2.block W.heap.size (blk_lt HKU.out)).trans HKU.out
        have HKB := Aside0.mk hbk
        have q0 : w2.cell? ⟨W.heap.size, 0, none⟩ = some (.string a) := (blk_cell hbk 0).trans rfl
        have q1 : w2.cell? ⟨W.heap.size, 1, none⟩ = some (.string b) := (blk_cell hbk 1).trans rfl
        have q2 : w2.cell? ⟨W.heap.size, 2, none⟩ = some (.int .i64 lev0) := (blk_cell hbk 2).trans rfl
        have qf := blk_frozen hbk 2
        have d1 := (HB2.out.cell (p := ⟨rb, 1, none⟩) hrb).trans HC1.out
        have dk := (HB2.out.cell (p := ⟨g, k * 10 + 1, none⟩) hgl).trans HX1.out
        have d8 := (HB2.out.cell (p := ⟨g, k * 10 + 8, none⟩) hgl).trans HX8.out
        clear hb2 hbk
        obtain ⟨ad, hAd, y2⟩ := HGO.out w2 HB2.out
        subst hAd
        go_wp2
        refine bodyPost_ret (v := .int .i64 1) (by simp [results, Tryz.f31, go_sem]) rfl ?_
        exact ROut.stay HRR.out (below_box HB2.out _ _) (by rw [HM.out]) (by rw [HM.out])
      | true =>
        have hlev3 : lev = lv0 + 1 := by rw [hlev2]; simp
        subst hlev3
        have t1 : (lv0 + 1 == 0) = false := by simpa using h1
        have t2 : (f.F.kind == 0) = true := by simpa using h2
        clear h1 h2 hlev2
        go_enter Tryz.func31, Tryz.ntmps31
        go_wp2_with first | (go_at_call 56; refine C56.out.mono ?_; rintro e w' ⟨rfl, rfl⟩) | (go_at_call 74; refine (CU.out _ HBX.out).mono ?_; rintro e w1 ⟨rfl, hbu⟩; have HBU := Aside0.mk (HBX.out.trans (hbu.mono HBX.out.size)); have HKU := Aside0.mk ((hbu.block W.heap.size (by simp)).trans HKX.out); clear hbu)
        refine (CB.out _ HBU.out).mono ?_
        rintro e w2 ⟨hb2, rfl⟩
        have HB2 := Aside0.mk (HBU.out.trans (hb2.mono HBU.out.size))
        have hbk := (hb2.block W.heap.size (blk_lt HKU.out)).trans HKU.out
        have HKB := Aside0.mk hbk
        have q0 : w2.cell? ⟨W.heap.size, 0, none⟩ = some (.string a) := (blk_cell hbk 0).trans rfl
        have q1 : w2.cell? ⟨W.heap.size, 1, none⟩ = some (.string b) := (blk_cell hbk 1).trans rfl
        have q2 : w2.cell? ⟨W.heap.size, 2, none⟩ = some (.int .i64 lev0) := (blk_cell hbk 2).trans rfl
        have qf := blk_frozen hbk 2
        have d1 := (HB2.out.cell (p := ⟨rb, 1, none⟩) hrb).trans HC1.out
        have dk := (HB2.out.cell (p := ⟨g, k * 10 + 1, none⟩) hgl).trans HX1.out
        have d8 := (HB2.out.cell (p := ⟨g, k * 10 + 8, none⟩) hgl).trans HX8.out
        clear hb2 hbk
        obtain ⟨ad, hAd, y2⟩ := HGO.out w2 HB2.out
        subst hAd
        go_wp2
        refine bodyPost_ret (v := .int .i64 1) (by simp [results, Tryz.f31, go_sem]) rfl ?_
        exact ROut.stay HRR.out (below_box (below_box HB2.out _ _) _ _) (by rw [HM.out]) (by rw [HM.out])
    by_cases h3 : f.F.kind = 1 ∧ 1 < lev
    · have HM := Aside0.mk (show mInsert st u n (i : Int) child a b = (1, st) by rw [HMI.out, if_pos (HBADT.out.2 (Or.inr (Or.inr h3)))])
      cases child with
      | false =>
        have hlev3 : lev = lv0 := by rw [hlev2]; simp
        subst hlev3
        have t1 : (lev == 0) = false := by simpa using h1
        have t2 : (f.F.kind == 0) = false := by simpa using h2
        have t3 : (f.F.kind == 1) = true := by simpa using h3.1
        have t4 : decide (1 < lev) = true := decide_eq_true h3.2
        have t5 : 1 < lev := h3.2
        clear h1 h2 h3 hlev2
        go_enter Tryz.func31, Tryz.ntmps31
        go_wp2_with first | (go_at_call 56; refine C56.out.mono ?_; rintro e w' ⟨rfl, rfl⟩) | (go_at_call 74; refine (CU.out _ HBX.out).mono ?_; rintro e w1 ⟨rfl, hbu⟩; have HBU := Aside0.mk (HBX.out.trans (hbu.mono HBX.out.size)); have HKU := Aside0.mk ((hbu.block W.heap.size (by simp)).trans HKX.out); clear hbu)
        refine (CB.out _ HBU.out).mono ?_
        rintro e w2 ⟨hb2, rfl⟩
        have HB2 := Aside0.mk (HBU.out.trans (hb2.mono HBU.out.size))
        have hbk := (hb2.block W.heap.size (blk_lt HKU.out)).trans HKU.out
        have HKB := Aside0.mk hbk
        have q0 : w2.cell? ⟨W.heap.size, 0, none⟩ = some (.string a) := (blk_cell hbk 0).trans rfl
        have q1 : w2.cell? ⟨W.heap.size, 1, none⟩ = some (.string b) := (blk_cell hbk 1).trans rfl
        have q2 : w2.cell? ⟨W.heap.size, 2, none⟩ = some (.int .i64 lev0) := (blk_cell hbk 2).trans rfl
        have qf := blk_frozen hbk 2
        have d1 := (HB2.out.cell (p := ⟨rb, 1, none⟩) hrb).trans HC1.out
        have dk := (HB2.out.cell (p := ⟨g, k * 10 + 1, none⟩) hgl).trans HX1.out
        have d8 := (HB2.out.cell (p := ⟨g, k * 10 + 8, none⟩) hgl).trans HX8.out
        clear hb2 hbk
        obtain ⟨ad, hAd, y2⟩ := HGO.out w2 HB2.out
        subst hAd
        go_wp2
        refine bodyPost_ret (v := .int .i64 1) (by simp [results, Tryz.f31, go_sem]) rfl ?_
        exact ROut.stay HRR.out (below_box HB2.out _ _) (by rw [HM.out]) (by rw [HM.out])
      | true =>
        have hlev3 : lev = lv0 + 1 := by rw [hlev2]; simp
        subst hlev3
        have t1 : (lv0 + 1 == 0) = false := by simpa using h1
        have t2 : (f.F.kind == 0) = false := by simpa using h2
        have t3 : (f.F.kind == 1) = true := by simpa using h3.1
        have t4 : decide (1 < lv0 + 1) = true := decide_eq_true h3.2
        have t5 : 1 < lv0 + 1 := h3.2
        clear h1 h2 h3 hlev2
        go_enter Tryz.func31, Tryz.ntmps31
        go_wp2_with first | (go_at_call 56; refine C56.out.mono ?_; rintro e w' ⟨rfl, rfl⟩) | (go_at_call 74; refine (CU.out _ HBX.out).mono ?_; rintro e w1 ⟨rfl, hbu⟩; have HBU := Aside0.mk (HBX.out.trans (hbu.mono HBX.out.size)); have HKU := Aside0.mk ((hbu.block W.heap.size (by simp)).trans HKX.out); clear hbu)
        refine (CB.out _ HBU.out).mono ?_
        rintro e w2 ⟨hb2, rfl⟩
        have HB2 := Aside0.mk (HBU.out.trans (hb2.mono HBU.out.size))
        have hbk := (hb2.block W.heap.size (blk_lt HKU.out)).trans HKU.out
        have HKB := Aside0.mk hbk
        have q0 : w2.cell? ⟨W.heap.size, 0, none⟩ = some (.string a) := (blk_cell hbk 0).trans rfl
        have q1 : w2.cell? ⟨W.heap.size, 1, none⟩ = some (.string b) := (blk_cell hbk 1).trans rfl
        have q2 : w2.cell? ⟨W.heap.size, 2, none⟩ = some (.int .i64 lev0) := (blk_cell hbk 2).trans rfl
        have qf := blk_frozen hbk 2
        have d1 := (HB2.out.cell (p := ⟨rb, 1, none⟩) hrb).trans HC1.out
        have dk := (HB2.out.cell (p := ⟨g, k * 10 + 1, none⟩) hgl).trans HX1.out
        have d8 := (HB2.out.cell (p := ⟨g, k * 10 + 8, none⟩) hgl).trans HX8.out
        clear hb2 hbk
        obtain ⟨ad, hAd, y2⟩ := HGO.out w2 HB2.out
        subst hAd
        go_wp2
        refine bodyPost_ret (v := .int .i64 1) (by simp [results, Tryz.f31, go_sem]) rfl ?_
        exact ROut.stay HRR.out (below_box (below_box HB2.out _ _) _ _) (by rw [HM.out]) (by rw [HM.out])
    have HNB := Aside0.mk (show ¬ insBad f.F.kind lev = true from fun hb => by rcases HBADT.out.1 hb with h | h | h; exact h1 h; exact h2 h; exact h3 h)
    have t1 : (lev == 0) = false := by simpa using h1
    have t2 : (f.F.kind == 0) = false := by simpa using h2
    have hlev1 : 1 ≤ lev := by have : 0 ≤ lev := by rw [hlev2]; split <;> omega
                               omega
    have HLE := Aside0.mk (show lev ≤ lv f.units i + 1 by rw [← HLV0.out, hlev2]; split <;> omega)
    obtain ⟨E, hE⟩ : ∃ E, E = endOf f.units i := ⟨_, rfl⟩
    have HE := Aside0.mk hE
    have HEL := Aside0.mk (show E ≤ f.units.length by rw [hE]; exact (endOf_le hil2).2)
    have hEz : (E : Int) ≤ (f.units.length : Int) := by have := HEL.out; omega
    have hEc : E ≤ cu := by have := HEL.out; omega
    have hE0 : (0 : Int) ≤ (E : Int) := by omega
    have HTK := Aside0.mk (fun (m : Nat) w (hb : Below W.heap.size W w) (hm : m ≤ f.units.length) => take_row (m := m) (HUC.out w hb) (n := f.units.length) (by simp) hm)
    have HDR := Aside0.mk (fun (m : Nat) w (hb : Below W.heap.size W w) (hm : m ≤ f.units.length) => drop_row (m := m) (c := cu) (HUC.out w hb) (n := f.units.length) (by simp) hm hcu)
    obtain ⟨N, hN⟩ : ∃ N, N = (f.ins u i ⟨a, b, lev⟩).units.length := ⟨_, rfl⟩
    have HN := Aside0.mk hN
    have HLEN := Aside0.mk (show ((f.units.map toU).take E ++ [(⟨a, b, lev⟩ : S62)] ++ (f.units.map toU).drop E).length = N by rw [hN, hE]; unfold AF.ins; simp)
    obtain ⟨P, hP⟩ : ∃ P, P = aboveOf f.units lev i := ⟨_, rfl⟩
    have HPE := Aside0.mk hP.symm
    have HPI := Aside0.mk (show P ≤ i by rw [hP]; exact aboveOf_le' _ _ _)
    have HPL := Aside0.mk (show P < f.units.length by have := HPI.out; omega)
    have HPV := Aside0.mk (show lv f.units P = lev - 1 by rw [hP]; exact aboveOf_lv HUI.out.2.2.2 hlev1 hil2 HLE.out)
    obtain ⟨EP, hEP⟩ : ∃ EP, EP = endOf f.units P := ⟨_, rfl⟩
    have HEP := Aside0.mk hEP
    have HEP1 := Aside0.mk (show P + 1 ≤ EP by rw [hEP]; exact (endOf_le HPL.out).1)
    have HEPL := Aside0.mk (show EP ≤ f.units.length by rw [hEP]; exact (endOf_le HPL.out).2)
    have hEP100 : EP ≤ 100 := by have := HEPL.out; omega
    have hPw : wrap64 ((P : Int) + 1) = ((P + 1 : Nat) : Int) := by have := HPI.out; unfold wrap64; omega
    have HH3 := Aside0.mk h3
    have HROOT := Aside0.mk HUI.out.1.root
    clear hE hN hP hEP h1 h2 h3
    have t34 : (f.F.kind == 1) = false ∨ ((f.F.kind == 1) = true ∧ decide (1 < lev) = false) := by
      by_cases hk1 : f.F.kind = 1
      · exact .inr ⟨by simpa using hk1, decide_eq_false (fun h => HH3.out ⟨hk1, h⟩)⟩
      · exact .inl (by simpa using hk1)
    have HT34 := Aside0.mk t34
    clear t34
    cases child with
    | false =>
      have hlv : lv0 = lev := by rw [hlev2]; simp
      clear hlvw
      have HLV2 := Aside0.mk hlev2
      clear hlev2
      go_enter Tryz.func31, Tryz.ntmps31
      go_wp2_with first | (go_at_call 56; refine C56.out.mono ?_; rintro e w' ⟨rfl, rfl⟩) | (go_at_call 74; refine (CU.out _ HBX.out).mono ?_; rintro e w1 ⟨rfl, hbu⟩; have HBU := Aside0.mk (HBX.out.trans (hbu.mono HBX.out.size)); have HKU := Aside0.mk ((hbu.block W.heap.size (by simp)).trans HKX.out); clear hbu)
      refine (CB.out _ HBU.out).mono ?_
      rintro e w2 ⟨hb2, rfl⟩
      have HB2 := Aside0.mk (HBU.out.trans (hb2.mono HBU.out.size))
      have hbk := (hb2.block W.heap.size (blk_lt HKU.out)).trans HKU.out
      have HKB := Aside0.mk hbk
      have q0 : w2.cell? ⟨W.heap.size, 0, none⟩ = some (.string a) := (blk_cell hbk 0).trans rfl
      have q1 : w2.cell? ⟨W.heap.size, 1, none⟩ = some (.string b) := (blk_cell hbk 1).trans rfl
      have q2 : w2.cell? ⟨W.heap.size, 2, none⟩ = some (.int .i64 lev0) := (blk_cell hbk 2).trans rfl
      have qf := blk_frozen hbk 2
      have d1 := (HB2.out.cell (p := ⟨rb, 1, none⟩) hrb).trans HC1.out
      have dk := (HB2.out.cell (p := ⟨g, k * 10 + 1, none⟩) hgl).trans HX1.out
      have d8 := (HB2.out.cell (p := ⟨g, k * 10 + 8, none⟩) hgl).trans HX8.out
      clear hb2 hbk
      obtain ⟨ad, hAd, y2⟩ := HGO.out w2 HB2.out
      subst hAd
      rw [hlv] at y2
      clear hlv
      rcases HT34.out with t3 | ⟨t3, t4⟩
      all_goals
        go_wp2_with fail
        refine (under_c (some ad) cu i f.units _ (HUC.out _ (below_box HB2.out 2 (.int .i64 lev))) hcu hil2).mono ?_
        rintro e W4 ⟨rfl, ⟨mu, rfl⟩⟩
        have HB4W := Aside0.mk (pw_below_drewN (below_box HB2.out 2 (.int .i64 lev)) mu)
        have HK4W := Aside0.mk (show ((w2.setCell ⟨W.heap.size, 2, none⟩ (.int .i64 lev)).drewN mu).heap[W.heap.size]? = some (.cells #[.string a, .string b, .int .i64 lev] 62 (0, 0)) from blk_set HKB.out 2 (.int .i64 lev))
        rw [← HE.out]
        generalize (w2.setCell ⟨W.heap.size, 2, none⟩ (.int .i64 lev)).drewN mu = W4 at HB4W HK4W ⊢
        clear q0 q1 q2 qf d1 dk d8 y2
        go_wp2_with (first
          | ((with_reducible refine gate_dst (N := 97) rfl ?_); refine Kd.R_lit k62 (w0 := W) W.heap.size 62 ?hg (N := 97) ?hd (xs := ([] : List S62)) (inner := []) (ok := fun _ => True) (okp := fun _ => True) ?hr ?hp (fun _ hk => hk) trivial HB4W.out HB4W.out.size (by simp) ?_; (case hd => rfl); (case hg => rfl); (case hr => first | (go_simp; done) | (go_simp; rfl)); (case hp => exact (Reps.none _ _)); intro v1 x1 ho hb hgr hfr; have HB1 := Aside0.mk hb; have HK1 := Aside0.mk ((hgr.block W.heap.size (blk_lt HK4W.out) (by simp)).trans HK4W.out); have HN1 := Aside0.mk (fun q (h : v1.ownBlock = some q) (e : q = W.heap.size) => (show False by obtain ⟨b_, h1, h2⟩ := hfr; rw [h1] at h; injection h with h; have := blk_lt HK4W.out; omega)); have HO1 := Aside0.mk ho; clear ho hb hgr hfr)
          | ((with_reducible refine gate_builtin (b := .append) (xs := #[.tmp 97, .tmp 100]) rfl ?_); at_builtin; refine Kd.R_append_rows k62 (Rr := k62.K x1) (w0 := W) W.heap.size rfl (.tmp 97) (.tmp 100) 55 62 (.agg #[.string ⟨#[]⟩, .string ⟨#[]⟩, .int .i64 0]) 40 rfl Tryz.underlying55 (by kernel_rfl) rfl (by decide) (by omega) v1 [] ((f.units.map toU).take E) _ E _ (fun _ => True) (fun _ => False) rfl rfl HO1.out (HTK.out E _ HB1.out HEL.out) (fun x cs h => by rw [k62_open h]; exact k62_mkM _ _ _ _) (fun _ h => h.elim) (fun _ _ => trivial) HB1.out HB1.out.size (by simp only [List.length_nil]; omega) ?_; intro v3 x3 ho hb hgr hfr; rw [List.nil_append] at ho; have HB3 := Aside0.mk hb; have HK3 := Aside0.mk ((hgr.block W.heap.size (blk_lt HK1.out) (fun e => HN1.out _ e.symm rfl)).trans HK1.out); have HN3 := Aside0.mk (fun q (h : v3.ownBlock = some q) (e : q = W.heap.size) => (show False by rcases hfr with hfr | ⟨b_, h1, h2⟩; (rw [hfr] at h; exact HN1.out q h e); (rw [h1] at h; injection h with h; have := blk_lt HK1.out; omega))); have HO3 := Aside0.mk ho; clear ho hb hgr hfr))
        have b0 : x3.cell? ⟨W.heap.size, 0, none⟩ = some (.string a) := (blk_cell HK3.out 0).trans rfl
        have b1 : x3.cell? ⟨W.heap.size, 1, none⟩ = some (.string b) := (blk_cell HK3.out 1).trans rfl
        have b2 : x3.cell? ⟨W.heap.size, 2, none⟩ = some (.int .i64 lev) := (blk_cell HK3.out 2).trans rfl
        refine start_ (n := 9) (S := fun w' => w'.cell? ⟨W.heap.size, 0, none⟩ = some (.string a) ∧ w'.cell? ⟨W.heap.size, 1, none⟩ = some (.string b) ∧ w'.cell? ⟨W.heap.size, 2, none⟩ = some (.int .i64 lev)) (ds := []) #[false, false, false, false, false, false, false, false, false] (by kernel_rfl) rfl rfl ⟨b0, b1, b2⟩ (fun hHeld => ?_)
        refine with_tabW RIns.tab17 RIns.bits17 (fun HT_ HW_ => ?_)
        have HWD := Aside0.mk (show Below W.heap.size W x3.drew from HB3.out.drew)
        have HKD := Aside0.mk (show x3.drew.heap[W.heap.size]? = _ from HK3.out)
        have HOD := Aside0.mk (Kd.R_drew HO3.out)
        generalize x3.drew = wd at HWD HKD HOD hHeld ⊢
        refine pure_ (i := 0) (N := some 102) (v := ?_) (a' := ?_) #[true, false, false, false, false, false, false, false, false] rfl rfl (any_of HT_.out (by kernel_rfl)) (fun _ _ _ h => h) (Or.inl ⟨by rfl, ?_⟩) ?_ ?_
        rotate_left
        · intro w'
          go_simp
          with_reducible rfl
        rotate_left
        · simp only [Act.put, List.setIfInBounds_toArray, List.set_cons_zero, List.set_cons_succ, i64_w, i32_w]
          rfl
        refine pure_ (i := 4) (N := some 106) (v := ?_) (a' := ?_) #[true, false, false, false, true, false, false, false, false] rfl rfl (any_of HT_.out (by kernel_rfl)) (fun _ _ _ h => h) (Or.inl ⟨by rfl, ?_⟩) ?_ ?_
        rotate_left
        · intro w'
          go_simp
          with_reducible rfl
        rotate_left
        · simp only [Act.put, List.setIfInBounds_toArray, List.set_cons_zero, List.set_cons_succ, i64_w, i32_w]
          rfl
        refine pure_ (i := 5) (N := some 107) (v := ?_) (a' := ?_) #[true, false, false, false, true, true, false, false, false] rfl rfl (any_of HT_.out (by kernel_rfl)) (fun _ _ _ h => h) (Or.inl ⟨by rfl, ?_⟩) ?_ ?_
        rotate_left
        · intro w'
          go_simp
          with_reducible rfl
        rotate_left
        · simp only [Act.put, List.setIfInBounds_toArray, List.set_cons_zero, List.set_cons_succ, i64_w, i32_w]
          rfl
        refine pure_ (i := 6) (N := some 108) (v := ?_) (a' := ?_) #[true, false, false, false, true, true, true, false, false] rfl rfl (any_of HT_.out (by kernel_rfl)) (fun _ _ _ h => h) (Or.inl ⟨by rfl, ?_⟩) ?_ ?_
        rotate_left
        · intro w'
          go_simp
          with_reducible rfl
        rotate_left
        · simp only [Act.put, List.setIfInBounds_toArray, List.set_cons_zero, List.set_cons_succ, i64_w, i32_w]
          rfl
        refine take_ (i := 1) (N := some 103) (v := ?_) (a' := ?_) #[true, true, false, false, true, true, true, false, false] rfl rfl (take_ofW HT_.out HW_.out (by kernel_rfl)) (fun _ _ _ h => h) (Or.inl ⟨by rfl, ?_⟩) hHeld ?_ ?_
        rotate_left
        · rintro w' ⟨s0, s1, s2⟩
          go_simp
          with_reducible rfl
        rotate_left
        · simp only [Act.put, List.setIfInBounds_toArray, List.set_cons_zero, List.set_cons_succ, i64_w, i32_w]
          rfl
        refine one_ (i := 2) (N := some 104) #[true, true, true, false, true, true, true, false, false] rfl rfl (one_of HT_.out (by kernel_rfl)) (by decide) (fun K hK => ?_)
        refine Kd.R_lit_step k62 (w0 := W) W.heap.size 62 ?hg (N := 104) ?hd (xs := ([(⟨a, b, lev⟩ : S62)] : List S62)) (inner := [.string a, .string b, .int .i64 lev]) (ok := fun _ => True) (okp := fun _ => True) ?hr ?hp (fun _ hk => hk) trivial HWD.out HWD.out.size (by simp) ?_; (case hd => rfl); (case hg => rfl); (case hr => first | (go_simp; done) | (go_simp; rfl)); (case hp => exact (Reps.c3 (k62_mkM _ _ _ (⟨a, b, lev⟩ : S62)) (Reps.none _ _)))
        intro v4 x4 ho hb hgr hfr
        have HB4 := Aside0.mk hb
        have HK4 := Aside0.mk ((hgr.block W.heap.size (blk_lt HKD.out) (by simp)).trans HKD.out)
        have HO3b := Aside0.mk (Kd.R_grown HOD.out hgr (fun q _ e => by cases e))
        have HS4 := Aside0.mk hgr.size
        obtain ⟨A4, c4, hv4⟩ := Kd.R_slice ho
        have hv4 : v4 = .slice A4 1 c4 := hv4
        subst hv4
        have HO4 := Aside0.mk ho
        clear ho hb hgr hfr
        refine hK.out _ _ ⟨(blk_cell HK4.out 0).trans rfl, (blk_cell HK4.out 1).trans rfl, (blk_cell HK4.out 2).trans rfl⟩ (fun hHeld => ?_)
        clear hK K
        refine norm_ (a' := ?_) ?_ ?_
        rotate_left
        · show Act.put _ (some 104) _ = _
          simp only [Act.put, List.setIfInBounds_toArray, List.set_cons_zero, List.set_cons_succ, i64_w, i32_w]
          rfl
        refine one_ (i := 3) (N := some 105) #[true, true, true, true, true, true, true, false, false] rfl rfl (one_of HT_.out (by kernel_rfl)) (by decide) (fun K hK => ?_)
        refine Kd.R_append_rows_step k62 (Rr := k62.K x4) (w0 := W) W.heap.size (by rfl) (.tmp 102) (.tmp 104) 55 62 (.agg #[.string ⟨#[]⟩, .string ⟨#[]⟩, .int .i64 0]) 40 rfl Tryz.underlying55 (by kernel_rfl) rfl (by decide) (by omega) v3 ((f.units.map toU).take E) [(⟨a, b, lev⟩ : S62)] A4 1 c4 (fun _ => True) (fun _ => False) rfl rfl HO3b.out (Kd.R_reads' HO4.out).2.2 (fun x cs h => by rw [k62_open h]; exact k62_mkM _ _ _ _) (fun _ h => h.elim) (fun _ _ => trivial) HB4.out HB4.out.size (by rw [List.length_take, List.length_map]; omega) ?_
        intro v5 x5 ho hb hgr hfr
        have HB5 := Aside0.mk hb
        have HK5 := Aside0.mk ((hgr.block W.heap.size (blk_lt HK4.out) (fun e => HN3.out _ e.symm rfl)).trans HK4.out)
        have HN5 := Aside0.mk (fun q (h : v5.ownBlock = some q) (e : q = W.heap.size) => (show False by rcases hfr with hfr | ⟨b_, h1, h2⟩; (rw [hfr] at h; exact HN3.out q h e); (rw [h1] at h; injection h with h; have := blk_lt HK4.out; omega)))
        have HO5 := Aside0.mk ho
        clear ho hb hgr hfr
        refine hK.out _ _ ⟨(blk_cell HK5.out 0).trans rfl, (blk_cell HK5.out 1).trans rfl, (blk_cell HK5.out 2).trans rfl⟩ (fun hHeld => ?_)
        clear hK K
        refine norm_ (a' := ?_) ?_ ?_
        rotate_left
        · show Act.put _ (some 105) _ = _
          simp only [Act.put, List.setIfInBounds_toArray, List.set_cons_zero, List.set_cons_succ, i64_w, i32_w]
          rfl
        refine one_ (i := 7) (N := some 109) #[true, true, true, true, true, true, true, true, false] rfl rfl (one_of HT_.out (by kernel_rfl)) (by decide) (fun K hK => ?_)
        refine Kd.R_append_rows_step k62 (Rr := k62.K x5) (w0 := W) W.heap.size (by rfl) (.tmp 105) (.tmp 108) 55 62 (.agg #[.string ⟨#[]⟩, .string ⟨#[]⟩, .int .i64 0]) 40 rfl Tryz.underlying55 (by kernel_rfl) rfl (by decide) (by omega) v5 ((f.units.map toU).take E ++ [(⟨a, b, lev⟩ : S62)]) ((f.units.map toU).drop E) _ (f.units.length - E) _ (fun _ => True) (fun _ => False) rfl rfl HO5.out (HDR.out E _ HB5.out HEL.out) (fun x cs h => by rw [k62_open h]; exact k62_mkM _ _ _ _) (fun _ h => h.elim) (fun _ _ => trivial) HB5.out HB5.out.size (by rw [List.length_append, List.length_take, List.length_map]; simp only [List.length_cons, List.length_nil]; omega) ?_
        intro v6 x6 ho hb hgr hfr
        have HB6 := Aside0.mk hb
        have HK6 := Aside0.mk ((hgr.block W.heap.size (blk_lt HK5.out) (fun e => HN5.out _ e.symm rfl)).trans HK5.out)
        obtain ⟨A6, c6, hv6⟩ := Kd.R_slice ho
        rw [HLEN.out] at hv6
        subst hv6
        have HO6 := Aside0.mk ho
        clear ho hb hgr hfr
        refine hK.out _ _ ⟨(blk_cell HK6.out 0).trans rfl, (blk_cell HK6.out 1).trans rfl, (blk_cell HK6.out 2).trans rfl⟩ (fun hHeld => ?_)
        clear hK K
        refine norm_ (a' := ?_) ?_ ?_
        rotate_left
        · show Act.put _ (some 109) _ = _
          simp only [Act.put, List.setIfInBounds_toArray, List.set_cons_zero, List.set_cons_succ, i64_w, i32_w]
          rfl
        refine pure_ (i := 8) (N := some 19) (v := ?_) (a' := ?_) #[true, true, true, true, true, true, true, true, true] rfl rfl (any_of HT_.out (by kernel_rfl)) (fun _ _ _ h => h) (Or.inl ⟨by rfl, ?_⟩) ?_ ?_
        rotate_left
        · intro w'
          go_simp
          with_reducible rfl
        rotate_left
        · simp only [Act.put, List.setIfInBounds_toArray, List.set_cons_zero, List.set_cons_succ, i64_w, i32_w]
          rfl
        refine done_ (done_of HT_.out (by kernel_rfl)) ?_
        generalize (if cu = E then some ad else some (ad.add (E * 3))) = pE
        go_wp2_with fail
        go_loopw [20] (fun s wr => ∃ j : Nat, s = .int .i64 j ∧ j ≤ i ∧ Aside0 (aboveOf f.units lev j = P) ∧ Aside0 (Below x6.heap.size x6 wr)) (fun s _ => (intOf s).toNat)
        case atStart => exact ⟨i, rfl, Nat.le_refl _, HPE, ⟨Below.refl _ _⟩⟩
        case round =>
          obtain ⟨j, rfl, hji, HJ, HBX20⟩ := hrel
          have HBW := Aside0.mk (HB6.out.trans (HBX20.out.mono HB6.out.size))
          have hjl : j < f.units.length := by omega
          have hjz : (j : Int) < (f.units.length : Int) := by omega
          have hj0 : decide ((j : Int) < 0) = false := decide_eq_false (by omega)
          obtain ⟨ad', he', _, _, z2⟩ := at_units (HUC.out _ HBW.out) j hjl
          injection he' with he'
          subst he'
          have hbk7 := (HBX20.out.block W.heap.size (blk_lt HK6.out)).trans HK6.out
          have e2 : wr.cell? ⟨W.heap.size, 2, none⟩ = some (.int .i64 lev) := (blk_cell hbk7 2).trans rfl
          have HLJ := Aside0.mk (show lv f.units j = f.units[j].f2 by unfold lv; rw [rd_get _ _ hjl])
          generalize f.units[j].f2 = lj at z2 HLJ
          clear hbk7
          by_cases hc : lev ≤ lj
          · have gc : decide (lev ≤ lj) = true := decide_eq_true hc
            obtain ⟨j', rfl⟩ : ∃ j', j = j' + 1 := by
              rcases j with _ | j'
              · exfalso
                have := HLJ.out
                rw [HROOT.out] at this
                omega
              · exact ⟨j', rfl⟩
            have HJ2 := Aside0.mk (show aboveOf f.units lev j' = P by rw [← HJ.out]; exact (aboveOf_step (by rw [HLJ.out]; exact hc)).symm)
            have hjw : wrap64 (((j' + 1 : Nat) : Int) - 1) = (j' : Int) := by unfold wrap64; omega
            have hjw2 : wrap64 (((j' : Int) + 1) - 1) = (j' : Int) := by unfold wrap64; omega
            have HBX21 := Aside0.mk (pw_below_drewN HBX20.out 1)
            go_wp2_with fail
            go_region
            go_wp2_with fail
            go_roundw
            case rel => exact ⟨j', by first | rfl | go_num, by omega, HJ2, HBX21⟩
            case measure => (simp [intOf]; try omega)
          · have gc : decide (lev ≤ lj) = false := decide_eq_false hc
            have hjP := HJ.out
            rw [aboveOf_here (show lv f.units j < lev by rw [HLJ.out]; omega)] at hjP
            have hjP := hjP.symm
            subst hjP
            have HBX20' := Aside0.mk (pw_below_drewN HBX20.out 1)
            clear HBX20 HBW
            have HBX20 := HBX20'
            clear HBX20'
            go_wp2_with fail
            go_region
            go_wp2_with fail
            go_loopw [21] (fun s wr => ∃ t : Nat, s = .int .i64 t ∧ P + 1 ≤ t ∧ t ≤ EP ∧ Aside0 (Below x6.heap.size x6 wr) ∧ Aside0 (∀ q, P < q → q < t → dupAt f.units lev a q = false)) (fun s _ => EP - (intOf s).toNat)
            case atStart => exact ⟨P + 1, by go_num, by omega, HEP1.out, HBX20, ⟨fun q h1 h2 => by omega⟩⟩
            case round =>
              obtain ⟨t, rfl, ht1, ht2, HBX6, HND⟩ := hrel
              have HBW := Aside0.mk (HB6.out.trans (HBX6.out.mono HB6.out.size))
              go_wp2_with fail
              refine (under_c (some ad) cu P f.units _ (HUC.out _ HBW.out) hcu HPL.out).mono ?_
              rintro e w7 ⟨rfl, ⟨m7, rfl⟩⟩
              rw [← HEP.out]
              have HBX7 := Aside0.mk (pw_below_drewN HBX6.out m7)
              generalize wr.drewN m7 = w7 at HBX7 ⊢
              have HBW7 := Aside0.mk (HB6.out.trans (HBX7.out.mono HB6.out.size))
              have hbk7 := (HBX7.out.block W.heap.size (blk_lt HK6.out)).trans HK6.out
              clear HBX6 HBW
              by_cases hlt : t < EP
              · have hltz : (t : Int) < (EP : Int) := by omega
                have htl : t < f.units.length := by have := HEPL.out; omega
                have htz : (t : Int) < (f.units.length : Int) := by omega
                have ht0 : decide ((t : Int) < 0) = false := decide_eq_false (by omega)
                obtain ⟨ad', he', z0, _, z2⟩ := at_units (HUC.out _ HBW7.out) t htl
                injection he' with he'
                subst he'
                have e2 : w7.cell? ⟨W.heap.size, 2, none⟩ = some (.int .i64 lev) := (blk_cell hbk7 2).trans rfl
                have e0 : w7.cell? ⟨W.heap.size, 0, none⟩ = some (.string a) := (blk_cell hbk7 0).trans rfl
                have HDUP := Aside0.mk (show dupAt f.units lev a t = (decide (f.units[t].f2 = lev) && !decide (a = ⟨#[]⟩) && decide (f.units[t].f0 = a)) by unfold dupAt lv nm; rw [rd_get _ _ htl])
                generalize hl_ : f.units[t].f2 = lt_ at z2 HDUP
                generalize hn_ : f.units[t].f0 = nt_ at z0 HDUP
                clear hl_ hn_ hbk7
                by_cases c1 : lt_ = lev
                · have s1 : (lt_ == lev) = true := by simpa using c1
                  by_cases c2 : a = ⟨#[]⟩
                  · have s2 : (a.toList == []) = true := by rw [c2, ByteArray.toList_eq]; rfl
                    have HND2 := Aside0.mk (nodup_next HND.out (show dupAt f.units lev a t = false by rw [HDUP.out, decide_eq_true c2]; simp))
                    clear c1 c2
                    go_wp2_with fail
                    go_quiet (fail)
                    go_wp2_with fail
                    go_roundw
                    case rel => exact ⟨t + 1, by go_num, by omega, by omega, ⟨pw_below_drewN HBX7.out _⟩, HND2⟩
                    case measure => (simp [intOf]; try omega)
                  · have s2 : (a.toList == []) = false := by
                      have := beq_no c2
                      rw [ByteArray.toList_eq ⟨#[]⟩] at this
                      exact this
                    by_cases c3 : nt_ = a
                    · have s3 : (nt_.toList == a.toList) = true := by rw [c3]; exact beq_yes _
                      have HM := Aside0.mk (show mInsert st u n (i : Int) false a b = (7, st) by
                        have := HMI.out
                        rw [HPE.out, clash_yes (t := t) HPL.out HPV.out (by omega) (by rw [← HEP.out]; exact hlt) (by rw [HDUP.out, decide_eq_true c1, decide_eq_false c2, decide_eq_true c3]; rfl), if_neg (HNB.out)] at this
                        rw [this, if_pos (.inl rfl)]
                        rfl)
                      clear c1 c2 c3
                      go_wp2_with fail
                      go_quiet (fail)
                      go_wp2
                      refine bodyPost_ret (v := .int .i64 7) (by simp [results, Tryz.f31, go_sem]) rfl ?_
                      exact ROut.stay HRR.out (pw_below_drewN HBW7.out _) (by rw [HM.out]) (by rw [HM.out])
                    · have s3 := beq_no c3
                      have HND2 := Aside0.mk (nodup_next HND.out (show dupAt f.units lev a t = false by rw [HDUP.out, decide_eq_false c3]; simp))
                      clear c1 c2 c3
                      go_wp2_with fail
                      go_quiet (fail)
                      go_wp2_with fail
                      go_roundw
                      case rel => exact ⟨t + 1, by go_num, by omega, by omega, ⟨pw_below_drewN HBX7.out _⟩, HND2⟩
                      case measure => (simp [intOf]; try omega)
                · have s1 : (lt_ == lev) = false := by simpa using c1
                  have HND2 := Aside0.mk (nodup_next HND.out (show dupAt f.units lev a t = false by rw [HDUP.out, decide_eq_false c1]; rfl))
                  clear c1
                  go_wp2_with fail
                  go_quiet (fail)
                  go_wp2_with fail
                  go_roundw
                  case rel => exact ⟨t + 1, by go_num, by omega, by omega, ⟨pw_below_drewN HBX7.out _⟩, HND2⟩
                  case measure => (simp [intOf]; try omega)
              · have hltz : ¬ (t : Int) < (EP : Int) := by omega
                have hcb := clash_none HPL.out HPV.out (fun q h1 h2 => HND.out q h1 (by rw [← HEP.out] at h2; omega))
                have HMI2 := Aside0.mk (show mInsert st u n (i : Int) false a b = if denied ac 2 = 12 ∨ 100 ≤ f.units.length then (insErr false (denied ac 2), st) else (0, st.set k (f.ins u i ⟨a, b, lev⟩)) by
                  have := HMI.out
                  rw [HPE.out, hcb, if_neg HNB.out] at this
                  rw [this]
                  simp)
                clear hcb
                rcases denied_cases ac 2 with hd0 | hd12
                · have gW : decide (bits .and .i64 2 ac = 2) = true := by rw [within_den ac 2 1 (by decide) rfl, hd0]; rfl
                  by_cases hfull : f.units.length = 100
                  · have HM := Aside0.mk (show mInsert st u n (i : Int) false a b = (9, st) by rw [HMI2.out, if_pos (.inr (by omega)), hd0]; rfl)
                    have s9 : ((f.units.length : Int) == 100) = true := by rw [hfull]; rfl
                    clear hd0 hfull hlt
                    go_wp2_with fail
                    refine (rwithin_c 2 ac _).mono ?_
                    rintro e w' ⟨rfl, rfl⟩
                    go_wp2
                    refine bodyPost_ret (v := .int .i64 9) (by simp [results, Tryz.f31, go_sem]) rfl ?_
                    exact ROut.stay HRR.out HBW7.out (by rw [HM.out]) (by rw [HM.out])
                  · have HM := Aside0.mk (show mInsert st u n (i : Int) false a b = (0, st.set k (f.ins u i ⟨a, b, lev⟩)) by rw [HMI2.out, if_neg (by omega)])
                    have s9 : ((f.units.length : Int) == 100) = false := by simp; omega
                    have s9b : ¬ (f.units.length : Int) = 100 := by omega
                    have CC := Aside0.mk (show Calls Tryz.prog 75 #[.pointer (some ⟨rb, 0, none⟩), .int .i64 (k : Int), .string u, .slice A6 N c6] w7 (ROut W ok rb (.int .i64 0) (st.set k (f.ins u i ⟨a, b, lev⟩))) by
                      have := rchanged_out (who := u) (l := (f.ins u i ⟨a, b, lev⟩).units) (Al := A6) (cl := c6) HH.out HK.out HT.out HBW7.out (by
                        rw [← HN.out]
                        have h := Kd.R_below HO6.out HBX7.out
                        unfold AF.ins
                        simp only [List.map_append, List.map_cons, List.map_take, List.map_drop]
                        rw [← HE.out]
                        rw [List.append_assoc] at h
                        exact h)
                      rw [← HN.out] at this
                      exact this)
                    clear hd0 hfull hlt
                    go_wp2_with fail
                    refine (rwithin_c 2 ac _).mono ?_
                    rintro e w' ⟨rfl, rfl⟩
                    go_wp2_with fail
                    refine CC.out.mono ?_
                    rintro e w9 ⟨rfl, hR'⟩
                    have HR9 := Aside0.mk hR'
                    clear hR'
                    go_wp2
                    refine bodyPost_ret (v := .int .i64 0) (by simp [results, Tryz.f31, go_sem]) rfl ?_
                    rw [HM.out]
                    exact ⟨rfl, HR9.out⟩
                · have gW : decide (bits .and .i64 2 ac = 2) = false := by rw [within_den ac 2 1 (by decide) rfl, hd12]; rfl
                  have HM := Aside0.mk (show mInsert st u n (i : Int) false a b = (12, st) by rw [HMI2.out, if_pos (.inl hd12), hd12]; rfl)
                  clear hd12 hlt
                  go_wp2_with fail
                  refine (rwithin_c 2 ac _).mono ?_
                  rintro e w' ⟨rfl, rfl⟩
                  go_wp2
                  refine bodyPost_ret (v := .int .i64 12) (by simp [results, Tryz.f31, go_sem]) rfl ?_
                  exact ROut.stay HRR.out HBW7.out (by rw [HM.out]) (by rw [HM.out])
    | true =>
      have hlvw : wrap64 (lv0 + 1) = lev := by rw [hlvw, hlev2]; rfl
      have HLV2 := Aside0.mk hlev2
      clear hlev2
      go_enter Tryz.func31, Tryz.ntmps31
      go_wp2_with first | (go_at_call 56; refine C56.out.mono ?_; rintro e w' ⟨rfl, rfl⟩) | (go_at_call 74; refine (CU.out _ HBX.out).mono ?_; rintro e w1 ⟨rfl, hbu⟩; have HBU := Aside0.mk (HBX.out.trans (hbu.mono HBX.out.size)); have HKU := Aside0.mk ((hbu.block W.heap.size (by simp)).trans HKX.out); clear hbu)
      refine (CB.out _ HBU.out).mono ?_
      rintro e w2 ⟨hb2, rfl⟩
      have HB2 := Aside0.mk (HBU.out.trans (hb2.mono HBU.out.size))
      have hbk := (hb2.block W.heap.size (blk_lt HKU.out)).trans HKU.out
      have HKB := Aside0.mk hbk
      have q0 : w2.cell? ⟨W.heap.size, 0, none⟩ = some (.string a) := (blk_cell hbk 0).trans rfl
      have q1 : w2.cell? ⟨W.heap.size, 1, none⟩ = some (.string b) := (blk_cell hbk 1).trans rfl
      have q2 : w2.cell? ⟨W.heap.size, 2, none⟩ = some (.int .i64 lev0) := (blk_cell hbk 2).trans rfl
      have qf := blk_frozen hbk 2
      have d1 := (HB2.out.cell (p := ⟨rb, 1, none⟩) hrb).trans HC1.out
      have dk := (HB2.out.cell (p := ⟨g, k * 10 + 1, none⟩) hgl).trans HX1.out
      have d8 := (HB2.out.cell (p := ⟨g, k * 10 + 8, none⟩) hgl).trans HX8.out
      clear hb2 hbk
      obtain ⟨ad, hAd, y2⟩ := HGO.out w2 HB2.out
      subst hAd
      have HT35 := Aside0.mk (show (f.F.kind == 1) = false ∨ ((f.F.kind == 1) = true ∧ decide (1 < lv0 + 1) = false) by have := HLV2.out; simp at this; rw [← this]; exact HT34.out)
      rcases HT35.out with t3 | ⟨t3, t4⟩
      all_goals
        go_wp2_with fail
        rw [show lv0 + 1 = lev by have := HLV2.out; simp at this; omega]
        refine (under_c (some ad) cu i f.units _ (HUC.out _ (below_box (below_box HB2.out 2 (.int .i64 lv0)) 2 (.int .i64 lev))) hcu hil2).mono ?_
        rintro e W4 ⟨rfl, ⟨mu, rfl⟩⟩
        have HB4W := Aside0.mk (pw_below_drewN (below_box (below_box HB2.out 2 (.int .i64 lv0)) 2 (.int .i64 lev)) mu)
        have HK4W := Aside0.mk (show (((w2.setCell ⟨W.heap.size, 2, none⟩ (.int .i64 lv0)).setCell ⟨W.heap.size, 2, none⟩ (.int .i64 lev)).drewN mu).heap[W.heap.size]? = some (.cells #[.string a, .string b, .int .i64 lev] 62 (0, 0)) from blk_set (blk_set HKB.out 2 (.int .i64 lv0)) 2 (.int .i64 lev))
        rw [← HE.out]
        generalize ((w2.setCell ⟨W.heap.size, 2, none⟩ (.int .i64 lv0)).setCell ⟨W.heap.size, 2, none⟩ (.int .i64 lev)).drewN mu = W4 at HB4W HK4W ⊢
        clear q0 q1 q2 qf d1 dk d8 y2
        go_wp2_with (first
          | ((with_reducible refine gate_dst (N := 97) rfl ?_); refine Kd.R_lit k62 (w0 := W) W.heap.size 62 ?hg (N := 97) ?hd (xs := ([] : List S62)) (inner := []) (ok := fun _ => True) (okp := fun _ => True) ?hr ?hp (fun _ hk => hk) trivial HB4W.out HB4W.out.size (by simp) ?_; (case hd => rfl); (case hg => rfl); (case hr => first | (go_simp; done) | (go_simp; rfl)); (case hp => exact (Reps.none _ _)); intro v1 x1 ho hb hgr hfr; have HB1 := Aside0.mk hb; have HK1 := Aside0.mk ((hgr.block W.heap.size (blk_lt HK4W.out) (by simp)).trans HK4W.out); have HN1 := Aside0.mk (fun q (h : v1.ownBlock = some q) (e : q = W.heap.size) => (show False by obtain ⟨b_, h1, h2⟩ := hfr; rw [h1] at h; injection h with h; have := blk_lt HK4W.out; omega)); have HO1 := Aside0.mk ho; clear ho hb hgr hfr)
          | ((with_reducible refine gate_builtin (b := .append) (xs := #[.tmp 97, .tmp 100]) rfl ?_); at_builtin; refine Kd.R_append_rows k62 (Rr := k62.K x1) (w0 := W) W.heap.size rfl (.tmp 97) (.tmp 100) 55 62 (.agg #[.string ⟨#[]⟩, .string ⟨#[]⟩, .int .i64 0]) 40 rfl Tryz.underlying55 (by kernel_rfl) rfl (by decide) (by omega) v1 [] ((f.units.map toU).take E) _ E _ (fun _ => True) (fun _ => False) rfl rfl HO1.out (HTK.out E _ HB1.out HEL.out) (fun x cs h => by rw [k62_open h]; exact k62_mkM _ _ _ _) (fun _ h => h.elim) (fun _ _ => trivial) HB1.out HB1.out.size (by simp only [List.length_nil]; omega) ?_; intro v3 x3 ho hb hgr hfr; rw [List.nil_append] at ho; have HB3 := Aside0.mk hb; have HK3 := Aside0.mk ((hgr.block W.heap.size (blk_lt HK1.out) (fun e => HN1.out _ e.symm rfl)).trans HK1.out); have HN3 := Aside0.mk (fun q (h : v3.ownBlock = some q) (e : q = W.heap.size) => (show False by rcases hfr with hfr | ⟨b_, h1, h2⟩; (rw [hfr] at h; exact HN1.out q h e); (rw [h1] at h; injection h with h; have := blk_lt HK1.out; omega))); have HO3 := Aside0.mk ho; clear ho hb hgr hfr))
        have b0 : x3.cell? ⟨W.heap.size, 0, none⟩ = some (.string a) := (blk_cell HK3.out 0).trans rfl
        have b1 : x3.cell? ⟨W.heap.size, 1, none⟩ = some (.string b) := (blk_cell HK3.out 1).trans rfl
        have b2 : x3.cell? ⟨W.heap.size, 2, none⟩ = some (.int .i64 lev) := (blk_cell HK3.out 2).trans rfl
        refine start_ (n := 9) (S := fun w' => w'.cell? ⟨W.heap.size, 0, none⟩ = some (.string a) ∧ w'.cell? ⟨W.heap.size, 1, none⟩ = some (.string b) ∧ w'.cell? ⟨W.heap.size, 2, none⟩ = some (.int .i64 lev)) (ds := []) #[false, false, false, false, false, false, false, false, false] (by kernel_rfl) rfl rfl ⟨b0, b1, b2⟩ (fun hHeld => ?_)
        refine with_tabW RIns.tab17 RIns.bits17 (fun HT_ HW_ => ?_)
        have HWD := Aside0.mk (show Below W.heap.size W x3.drew from HB3.out.drew)
        have HKD := Aside0.mk (show x3.drew.heap[W.heap.size]? = _ from HK3.out)
        have HOD := Aside0.mk (Kd.R_drew HO3.out)
        generalize x3.drew = wd at HWD HKD HOD hHeld ⊢
        refine pure_ (i := 0) (N := some 102) (v := ?_) (a' := ?_) #[true, false, false, false, false, false, false, false, false] rfl rfl (any_of HT_.out (by kernel_rfl)) (fun _ _ _ h => h) (Or.inl ⟨by rfl, ?_⟩) ?_ ?_
        rotate_left
        · intro w'
          go_simp
          with_reducible rfl
        rotate_left
        · simp only [Act.put, List.setIfInBounds_toArray, List.set_cons_zero, List.set_cons_succ, i64_w, i32_w]
          rfl
        refine pure_ (i := 4) (N := some 106) (v := ?_) (a' := ?_) #[true, false, false, false, true, false, false, false, false] rfl rfl (any_of HT_.out (by kernel_rfl)) (fun _ _ _ h => h) (Or.inl ⟨by rfl, ?_⟩) ?_ ?_
        rotate_left
        · intro w'
          go_simp
          with_reducible rfl
        rotate_left
        · simp only [Act.put, List.setIfInBounds_toArray, List.set_cons_zero, List.set_cons_succ, i64_w, i32_w]
          rfl
        refine pure_ (i := 5) (N := some 107) (v := ?_) (a' := ?_) #[true, false, false, false, true, true, false, false, false] rfl rfl (any_of HT_.out (by kernel_rfl)) (fun _ _ _ h => h) (Or.inl ⟨by rfl, ?_⟩) ?_ ?_
        rotate_left
        · intro w'
          go_simp
          with_reducible rfl
        rotate_left
        · simp only [Act.put, List.setIfInBounds_toArray, List.set_cons_zero, List.set_cons_succ, i64_w, i32_w]
          rfl
        refine pure_ (i := 6) (N := some 108) (v := ?_) (a' := ?_) #[true, false, false, false, true, true, true, false, false] rfl rfl (any_of HT_.out (by kernel_rfl)) (fun _ _ _ h => h) (Or.inl ⟨by rfl, ?_⟩) ?_ ?_
        rotate_left
        · intro w'
          go_simp
          with_reducible rfl
        rotate_left
        · simp only [Act.put, List.setIfInBounds_toArray, List.set_cons_zero, List.set_cons_succ, i64_w, i32_w]
          rfl
        refine take_ (i := 1) (N := some 103) (v := ?_) (a' := ?_) #[true, true, false, false, true, true, true, false, false] rfl rfl (take_ofW HT_.out HW_.out (by kernel_rfl)) (fun _ _ _ h => h) (Or.inl ⟨by rfl, ?_⟩) hHeld ?_ ?_
        rotate_left
        · rintro w' ⟨s0, s1, s2⟩
          go_simp
          with_reducible rfl
        rotate_left
        · simp only [Act.put, List.setIfInBounds_toArray, List.set_cons_zero, List.set_cons_succ, i64_w, i32_w]
          rfl
        refine one_ (i := 2) (N := some 104) #[true, true, true, false, true, true, true, false, false] rfl rfl (one_of HT_.out (by kernel_rfl)) (by decide) (fun K hK => ?_)
        refine Kd.R_lit_step k62 (w0 := W) W.heap.size 62 ?hg (N := 104) ?hd (xs := ([(⟨a, b, lev⟩ : S62)] : List S62)) (inner := [.string a, .string b, .int .i64 lev]) (ok := fun _ => True) (okp := fun _ => True) ?hr ?hp (fun _ hk => hk) trivial HWD.out HWD.out.size (by simp) ?_; (case hd => rfl); (case hg => rfl); (case hr => first | (go_simp; done) | (go_simp; rfl)); (case hp => exact (Reps.c3 (k62_mkM _ _ _ (⟨a, b, lev⟩ : S62)) (Reps.none _ _)))
        intro v4 x4 ho hb hgr hfr
        have HB4 := Aside0.mk hb
        have HK4 := Aside0.mk ((hgr.block W.heap.size (blk_lt HKD.out) (by simp)).trans HKD.out)
        have HO3b := Aside0.mk (Kd.R_grown HOD.out hgr (fun q _ e => by cases e))
        have HS4 := Aside0.mk hgr.size
        obtain ⟨A4, c4, hv4⟩ := Kd.R_slice ho
        have hv4 : v4 = .slice A4 1 c4 := hv4
        subst hv4
        have HO4 := Aside0.mk ho
        clear ho hb hgr hfr
        refine hK.out _ _ ⟨(blk_cell HK4.out 0).trans rfl, (blk_cell HK4.out 1).trans rfl, (blk_cell HK4.out 2).trans rfl⟩ (fun hHeld => ?_)
        clear hK K
        refine norm_ (a' := ?_) ?_ ?_
        rotate_left
        · show Act.put _ (some 104) _ = _
          simp only [Act.put, List.setIfInBounds_toArray, List.set_cons_zero, List.set_cons_succ, i64_w, i32_w]
          rfl
        refine one_ (i := 3) (N := some 105) #[true, true, true, true, true, true, true, false, false] rfl rfl (one_of HT_.out (by kernel_rfl)) (by decide) (fun K hK => ?_)
        refine Kd.R_append_rows_step k62 (Rr := k62.K x4) (w0 := W) W.heap.size (by rfl) (.tmp 102) (.tmp 104) 55 62 (.agg #[.string ⟨#[]⟩, .string ⟨#[]⟩, .int .i64 0]) 40 rfl Tryz.underlying55 (by kernel_rfl) rfl (by decide) (by omega) v3 ((f.units.map toU).take E) [(⟨a, b, lev⟩ : S62)] A4 1 c4 (fun _ => True) (fun _ => False) rfl rfl HO3b.out (Kd.R_reads' HO4.out).2.2 (fun x cs h => by rw [k62_open h]; exact k62_mkM _ _ _ _) (fun _ h => h.elim) (fun _ _ => trivial) HB4.out HB4.out.size (by rw [List.length_take, List.length_map]; omega) ?_
        intro v5 x5 ho hb hgr hfr
        have HB5 := Aside0.mk hb
        have HK5 := Aside0.mk ((hgr.block W.heap.size (blk_lt HK4.out) (fun e => HN3.out _ e.symm rfl)).trans HK4.out)
        have HN5 := Aside0.mk (fun q (h : v5.ownBlock = some q) (e : q = W.heap.size) => (show False by rcases hfr with hfr | ⟨b_, h1, h2⟩; (rw [hfr] at h; exact HN3.out q h e); (rw [h1] at h; injection h with h; have := blk_lt HK4.out; omega)))
        have HO5 := Aside0.mk ho
        clear ho hb hgr hfr
        refine hK.out _ _ ⟨(blk_cell HK5.out 0).trans rfl, (blk_cell HK5.out 1).trans rfl, (blk_cell HK5.out 2).trans rfl⟩ (fun hHeld => ?_)
        clear hK K
        refine norm_ (a' := ?_) ?_ ?_
        rotate_left
        · show Act.put _ (some 105) _ = _
          simp only [Act.put, List.setIfInBounds_toArray, List.set_cons_zero, List.set_cons_succ, i64_w, i32_w]
          rfl
        refine one_ (i := 7) (N := some 109) #[true, true, true, true, true, true, true, true, false] rfl rfl (one_of HT_.out (by kernel_rfl)) (by decide) (fun K hK => ?_)
        refine Kd.R_append_rows_step k62 (Rr := k62.K x5) (w0 := W) W.heap.size (by rfl) (.tmp 105) (.tmp 108) 55 62 (.agg #[.string ⟨#[]⟩, .string ⟨#[]⟩, .int .i64 0]) 40 rfl Tryz.underlying55 (by kernel_rfl) rfl (by decide) (by omega) v5 ((f.units.map toU).take E ++ [(⟨a, b, lev⟩ : S62)]) ((f.units.map toU).drop E) _ (f.units.length - E) _ (fun _ => True) (fun _ => False) rfl rfl HO5.out (HDR.out E _ HB5.out HEL.out) (fun x cs h => by rw [k62_open h]; exact k62_mkM _ _ _ _) (fun _ h => h.elim) (fun _ _ => trivial) HB5.out HB5.out.size (by rw [List.length_append, List.length_take, List.length_map]; simp only [List.length_cons, List.length_nil]; omega) ?_
        intro v6 x6 ho hb hgr hfr
        have HB6 := Aside0.mk hb
        have HK6 := Aside0.mk ((hgr.block W.heap.size (blk_lt HK5.out) (fun e => HN5.out _ e.symm rfl)).trans HK5.out)
        obtain ⟨A6, c6, hv6⟩ := Kd.R_slice ho
        rw [HLEN.out] at hv6
        subst hv6
        have HO6 := Aside0.mk ho
        clear ho hb hgr hfr
        refine hK.out _ _ ⟨(blk_cell HK6.out 0).trans rfl, (blk_cell HK6.out 1).trans rfl, (blk_cell HK6.out 2).trans rfl⟩ (fun hHeld => ?_)
        clear hK K
        refine norm_ (a' := ?_) ?_ ?_
        rotate_left
        · show Act.put _ (some 109) _ = _
          simp only [Act.put, List.setIfInBounds_toArray, List.set_cons_zero, List.set_cons_succ, i64_w, i32_w]
          rfl
        refine pure_ (i := 8) (N := some 19) (v := ?_) (a' := ?_) #[true, true, true, true, true, true, true, true, true] rfl rfl (any_of HT_.out (by kernel_rfl)) (fun _ _ _ h => h) (Or.inl ⟨by rfl, ?_⟩) ?_ ?_
        rotate_left
        · intro w'
          go_simp
          with_reducible rfl
        rotate_left
        · simp only [Act.put, List.setIfInBounds_toArray, List.set_cons_zero, List.set_cons_succ, i64_w, i32_w]
          rfl
        refine done_ (done_of HT_.out (by kernel_rfl)) ?_
        generalize (if cu = E then some ad else some (ad.add (E * 3))) = pE
        have hPi := HPE.out
        rw [aboveOf_here (show lv f.units i < lev by rw [← HLV0.out]; have := HLV2.out; simp at this; omega)] at hPi
        subst hPi
        clear hPw
        go_wp2_with fail
        go_loopw [21] (fun s wr => ∃ t : Nat, s = .int .i64 t ∧ i + 1 ≤ t ∧ t ≤ EP ∧ Aside0 (Below x6.heap.size x6 wr) ∧ Aside0 (∀ q, i < q → q < t → dupAt f.units lev a q = false)) (fun s _ => EP - (intOf s).toNat)
        case atStart => exact ⟨i + 1, by go_num, by omega, HEP1.out, ⟨Below.refl _ _⟩, ⟨fun q h1 h2 => by omega⟩⟩
        case round =>
          obtain ⟨t, rfl, ht1, ht2, HBX6, HND⟩ := hrel
          have HBW := Aside0.mk (HB6.out.trans (HBX6.out.mono HB6.out.size))
          go_wp2_with fail
          refine (under_c (some ad) cu i f.units _ (HUC.out _ HBW.out) hcu HPL.out).mono ?_
          rintro e w7 ⟨rfl, ⟨m7, rfl⟩⟩
          rw [← HEP.out]
          have HBX7 := Aside0.mk (pw_below_drewN HBX6.out m7)
          generalize wr.drewN m7 = w7 at HBX7 ⊢
          have HBW7 := Aside0.mk (HB6.out.trans (HBX7.out.mono HB6.out.size))
          have hbk7 := (HBX7.out.block W.heap.size (blk_lt HK6.out)).trans HK6.out
          clear HBX6 HBW
          by_cases hlt : t < EP
          · have hltz : (t : Int) < (EP : Int) := by omega
            have htl : t < f.units.length := by have := HEPL.out; omega
            have htz : (t : Int) < (f.units.length : Int) := by omega
            have ht0 : decide ((t : Int) < 0) = false := decide_eq_false (by omega)
            obtain ⟨ad', he', z0, _, z2⟩ := at_units (HUC.out _ HBW7.out) t htl
            injection he' with he'
            subst he'
            have e2 : w7.cell? ⟨W.heap.size, 2, none⟩ = some (.int .i64 lev) := (blk_cell hbk7 2).trans rfl
            have e0 : w7.cell? ⟨W.heap.size, 0, none⟩ = some (.string a) := (blk_cell hbk7 0).trans rfl
            have HDUP := Aside0.mk (show dupAt f.units lev a t = (decide (f.units[t].f2 = lev) && !decide (a = ⟨#[]⟩) && decide (f.units[t].f0 = a)) by unfold dupAt lv nm; rw [rd_get _ _ htl])
            generalize hl_ : f.units[t].f2 = lt_ at z2 HDUP
            generalize hn_ : f.units[t].f0 = nt_ at z0 HDUP
            clear hl_ hn_ hbk7
            by_cases c1 : lt_ = lev
            · have s1 : (lt_ == lev) = true := by simpa using c1
              by_cases c2 : a = ⟨#[]⟩
              · have s2 : (a.toList == []) = true := by rw [c2, ByteArray.toList_eq]; rfl
                have HND2 := Aside0.mk (nodup_next HND.out (show dupAt f.units lev a t = false by rw [HDUP.out, decide_eq_true c2]; simp))
                clear c1 c2
                go_wp2_with fail
                go_quiet (fail)
                go_wp2_with fail
                go_roundw
                case rel => exact ⟨t + 1, by go_num, by omega, by omega, ⟨pw_below_drewN HBX7.out _⟩, HND2⟩
                case measure => (simp [intOf]; try omega)
              · have s2 : (a.toList == []) = false := by
                  have := beq_no c2
                  rw [ByteArray.toList_eq ⟨#[]⟩] at this
                  exact this
                by_cases c3 : nt_ = a
                · have s3 : (nt_.toList == a.toList) = true := by rw [c3]; exact beq_yes _
                  have HM := Aside0.mk (show mInsert st u n (i : Int) true a b = (7, st) by
                    have := HMI.out
                    rw [HPE.out, clash_yes (t := t) HPL.out HPV.out (by omega) (by rw [← HEP.out]; exact hlt) (by rw [HDUP.out, decide_eq_true c1, decide_eq_false c2, decide_eq_true c3]; rfl), if_neg (HNB.out)] at this
                    rw [this, if_pos (.inl rfl)]
                    rfl)
                  clear c1 c2 c3
                  go_wp2_with fail
                  go_quiet (fail)
                  go_wp2
                  refine bodyPost_ret (v := .int .i64 7) (by simp [results, Tryz.f31, go_sem]) rfl ?_
                  exact ROut.stay HRR.out (pw_below_drewN HBW7.out _) (by rw [HM.out]) (by rw [HM.out])
                · have s3 := beq_no c3
                  have HND2 := Aside0.mk (nodup_next HND.out (show dupAt f.units lev a t = false by rw [HDUP.out, decide_eq_false c3]; simp))
                  clear c1 c2 c3
                  go_wp2_with fail
                  go_quiet (fail)
                  go_wp2_with fail
                  go_roundw
                  case rel => exact ⟨t + 1, by go_num, by omega, by omega, ⟨pw_below_drewN HBX7.out _⟩, HND2⟩
                  case measure => (simp [intOf]; try omega)
            · have s1 : (lt_ == lev) = false := by simpa using c1
              have HND2 := Aside0.mk (nodup_next HND.out (show dupAt f.units lev a t = false by rw [HDUP.out, decide_eq_false c1]; rfl))
              clear c1
              go_wp2_with fail
              go_quiet (fail)
              go_wp2_with fail
              go_roundw
              case rel => exact ⟨t + 1, by go_num, by omega, by omega, ⟨pw_below_drewN HBX7.out _⟩, HND2⟩
              case measure => (simp [intOf]; try omega)
          · have hltz : ¬ (t : Int) < (EP : Int) := by omega
            have hcb := clash_none HPL.out HPV.out (fun q h1 h2 => HND.out q h1 (by rw [← HEP.out] at h2; omega))
            have HMI2 := Aside0.mk (show mInsert st u n (i : Int) true a b = if denied ac 2 = 12 ∨ 100 ≤ f.units.length then (insErr false (denied ac 2), st) else (0, st.set k (f.ins u i ⟨a, b, lev⟩)) by
              have := HMI.out
              rw [HPE.out, hcb, if_neg HNB.out] at this
              rw [this]
              simp)
            clear hcb
            rcases denied_cases ac 2 with hd0 | hd12
            · have gW : decide (bits .and .i64 2 ac = 2) = true := by rw [within_den ac 2 1 (by decide) rfl, hd0]; rfl
              by_cases hfull : f.units.length = 100
              · have HM := Aside0.mk (show mInsert st u n (i : Int) true a b = (9, st) by rw [HMI2.out, if_pos (.inr (by omega)), hd0]; rfl)
                have s9 : ((f.units.length : Int) == 100) = true := by rw [hfull]; rfl
                clear hd0 hfull hlt
                go_wp2_with fail
                refine (rwithin_c 2 ac _).mono ?_
                rintro e w' ⟨rfl, rfl⟩
                go_wp2
                refine bodyPost_ret (v := .int .i64 9) (by simp [results, Tryz.f31, go_sem]) rfl ?_
                exact ROut.stay HRR.out HBW7.out (by rw [HM.out]) (by rw [HM.out])
              · have HM := Aside0.mk (show mInsert st u n (i : Int) true a b = (0, st.set k (f.ins u i ⟨a, b, lev⟩)) by rw [HMI2.out, if_neg (by omega)])
                have s9 : ((f.units.length : Int) == 100) = false := by simp; omega
                have s9b : ¬ (f.units.length : Int) = 100 := by omega
                have CC := Aside0.mk (show Calls Tryz.prog 75 #[.pointer (some ⟨rb, 0, none⟩), .int .i64 (k : Int), .string u, .slice A6 N c6] w7 (ROut W ok rb (.int .i64 0) (st.set k (f.ins u i ⟨a, b, lev⟩))) by
                  have := rchanged_out (who := u) (l := (f.ins u i ⟨a, b, lev⟩).units) (Al := A6) (cl := c6) HH.out HK.out HT.out HBW7.out (by
                    rw [← HN.out]
                    have h := Kd.R_below HO6.out HBX7.out
                    unfold AF.ins
                    simp only [List.map_append, List.map_cons, List.map_take, List.map_drop]
                    rw [← HE.out]
                    rw [List.append_assoc] at h
                    exact h)
                  rw [← HN.out] at this
                  exact this)
                clear hd0 hfull hlt
                go_wp2_with fail
                refine (rwithin_c 2 ac _).mono ?_
                rintro e w' ⟨rfl, rfl⟩
                go_wp2_with fail
                refine CC.out.mono ?_
                rintro e w9 ⟨rfl, hR'⟩
                have HR9 := Aside0.mk hR'
                clear hR'
                go_wp2
                refine bodyPost_ret (v := .int .i64 0) (by simp [results, Tryz.f31, go_sem]) rfl ?_
                rw [HM.out]
                exact ⟨rfl, HR9.out⟩
            · have gW : decide (bits .and .i64 2 ac = 2) = false := by rw [within_den ac 2 1 (by decide) rfl, hd12]; rfl
              have HM := Aside0.mk (show mInsert st u n (i : Int) true a b = (12, st) by rw [HMI2.out, if_pos (.inl hd12), hd12]; rfl)
              clear hd12 hlt
              go_wp2_with fail
              refine (rwithin_c 2 ac _).mono ?_
              rintro e w' ⟨rfl, rfl⟩
              go_wp2
              refine bodyPost_ret (v := .int .i64 12) (by simp [results, Tryz.f31, go_sem]) rfl ?_
              exact ROut.stay HRR.out HBW7.out (by rw [HM.out]) (by rw [HM.out])
end Go.Proofs.YtehlmkgldcfciaaGreat.Files
/- The reference's store: New. -/
set_option linter.unusedVariables false
set_option linter.unusedSimpArgs false
namespace Go.Proofs.YtehlmkgldcfciaaGreat.Files
open Go.Proofs.YtehlmkgldcfciaaGreat.Common Go.Maps Go.ChangeMaps Go.WideMaps Go.Proofs.YtehlmkgldcfciaaGreat.F
open Go.RowKit Go.Proofs.YtehlmkgldcfciaaGreatW.PrintWords Go.Proofs.YtehlmkgldcfciaaGreatW.PrintLast Go.Proofs.YtehlmkgldcfciaaGreatW.PrintMore
def RNewOut (w : World) (e : Ending) (w' : World) : Prop := ∃ rb, e = .returned (.pointer (some ⟨rb, 0, none⟩)) ∧ RRep w' (fun q => q = rb) rb [] ∧ Below w.heap.size w w' ∧ w.heap.size ≤ rb
theorem rNew_made (W : World) : RRep (W.alloc (.cells #[.bool true, .slice none 0 0] 46)) (fun q => q = W.heap.size) W.heap.size [] :=
  ⟨none, 0, rfl, by simpa using heap_alloc_new W _, Kd.R_nil _ _ _ _ _, fun k hk => by rw [hk]; simp⟩
set_option maxRecDepth 100000 in
theorem rNew_c (W : World) : Calls Tryz.prog 6 #[] W (RNewOut W) := by
  have HR := Aside0.mk (rNew_made W)
  have HB := Aside0.mk (show Below W.heap.size W (W.alloc (.cells #[.bool true, .slice none 0 0] 46)) from (Below.refl _ _).alloc (Nat.le_refl _) _)
  go_enter Tryz.func6, Tryz.ntmps6
  go_wp2
  refine bodyPost_ret (v := .pointer (some ⟨W.heap.size, 0, none⟩)) (by simp [results, Tryz.f6, go_sem]) rfl ?_
  exact ⟨_, rfl, HR.out, HB.out, Nat.le_refl _⟩
end Go.Proofs.YtehlmkgldcfciaaGreat.Files
