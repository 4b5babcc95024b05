-- Written by this repo's wip/tools/myprint.py (the kit's print program, with contracts of our own beside). Lean checks it.
import Derived.Test.YtchkhnhmpgkpeaaPx0
import Derived.Test.YtchkhnhmpgkpeaaPx3
namespace Go.Proofs.Ytchkhnhmpgkpeaa.P
open Go.Proofs.Ytchkhnhmpgkpeaa.Common
open Go.RowKit Go.Proofs.YtchkhnhmpgkpeaaW.PrintWords Go.Proofs.YtchkhnhmpgkpeaaW.PrintLast Go.Proofs.YtchkhnhmpgkpeaaW.PrintMore
attribute [local go_sem] max2_int min2_int max_two min_two max_three min_three max_four min_four   -- for this text's walks alone
set_option linter.unusedVariables false
set_option linter.unusedSimpArgs false

/-! ### address_Add_1: function 42 (a contract of our own) -/
def address_Add_1.f (k : Nat) (l0_0 : List Int) (l1_0 : List Int) : Option Int := slices_Compare_int_int.f k l0_0 l1_0
theorem address_Add_1.mono : ∀ a0 a1 k, LeO (address_Add_1.f k a0 a1) (address_Add_1.f (k + 1) a0 a1) := by
  intro a0 a1 k
  unfold address_Add_1.f
  exact slices_Compare_int_int.mono _ _ _
set_option maxHeartbeats 1000000 in
set_option maxRecDepth 100000 in
theorem address_Add_1.calls (k : Nat) (A0 : Option Addr) (c0 : Nat) (x : S28) (A1 : Option Addr) (c1 : Nat) (y : S28) (r : Int) (w : World) (hr0 : (Kd.int .i64).C w A0 x.f0.length x.f0) (hc0 : x.f0.length ≤ c0) (hr1 : (Kd.int .i64).C w A1 y.f0.length y.f0) (hc1 : y.f0.length ≤ c1) (h : address_Add_1.f k x.f0 y.f0 = some r) :
    Calls Try.prog 42 #[.agg #[.slice A0 x.f0.length c0, .int .i64 x.f1], .agg #[.slice A1 y.f0.length c1, .int .i64 y.f1]] w fun e w' => e = .returned (.int .i64 r) ∧ Below w.heap.size w w' := by
  have hu28 := Try.underlying28
  have HR0 := Aside0.mk hr0
  have HC0 := Aside0.mk hc0
  have HR1 := Aside0.mk hr1
  have HC1 := Aside0.mk hc1
  have H := Aside0.mk (show slices_Compare_int_int.f k x.f0 y.f0 = some r from h)
  have HB0 := Aside0.mk (((Below.refl w.heap.size w).alloc (Nat.le_refl _) (Obj.cells #[Value.slice A0 x.f0.length c0, Value.int IntKind.i64 x.f1] 28)).alloc (by simp) (Obj.cells #[Value.slice A1 y.f0.length c1, Value.int IntKind.i64 y.f1] 28))
  have HSZ := Aside0.mk (show ((w.alloc (Obj.cells #[Value.slice A0 x.f0.length c0, Value.int IntKind.i64 x.f1] 28)).alloc (Obj.cells #[Value.slice A1 y.f0.length c1, Value.int IntKind.i64 y.f1] 28)).heap.size = w.heap.size + 2 by simp)
  clear h hr0 hc0 hr1 hc1
  go_enter Try.func42, Try.ntmps42
  go_wp2_with fail
  refine (slices_Compare_int_int.calls k _ _ x.f0 _ _ y.f0 r _ (Kd.C_below HR0.out HB0.out) HC0.out (Kd.C_below HR1.out HB0.out) HC1.out H.out).mono ?_
  rintro e w2 ⟨rfl, hb2⟩
  have HBW := Aside0.mk (HB0.out.trans (hb2.below.mono (by rw [HSZ.out]; omega)))
  clear hb2
  go_wp2
  go_ret
  exact ⟨rfl, HBW.out⟩


-- NOT PRINTED: function 54 (address_Entry_54)

-- NOT PRINTED: function 61 (address_Entry_61)

-- NOT PRINTED: function 59 (address_Entry_59)

-- NOT PRINTED: function 55 (address_Entry_55)

end Go.Proofs.Ytchkhnhmpgkpeaa.P
