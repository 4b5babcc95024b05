/- For every input that can be read, the Go function heptad/heptadlaw11.AddressChanges returns true, and each argument reads afterwards as it read before. No condition. -/
import Derived.Test.YtchkhnhmpgkpeaaRows
import Derived.Test.YtchkhnhmpgkpeaaPx25
import Derived.Test.YtchkhnhmpgkpeaaBoundAddressChanges
import Derived.Test.YtchkhnhmpgkpeaaPureAddressChanges
import Derived.Test.YtchkhnhmpgkpeaaOpen
import Derived.WalkKit
import Derived.ProofKit
import Derived.OpenShut
import Derived.ShutString
import Derived.ChangeOld
import Derived.Below
import Derived.SizedLaws
namespace Go.Proofs.Ytchkhnhmpgkpeaa.addressChanges
open Go.ChangeShapes Go.WideShapes Go.ChangeAt Go.RowKit Go.Proofs.Ytchkhnhmpgkpeaa.Open Go.Proofs.Ytchkhnhmpgkpeaa.P Go.Proofs.YtchkhnhmpgkpeaaW.PrintWords
open Go.ChangeMaps (open_string shut_string)
set_option linter.unusedVariables false
theorem own : ownKnob Try.prog.godebug = none := by kernel_rfl
theorem laidOut : laidOutB Try.prog = true := by kernel_rfl
theorem opens35 : Opens Try.prog 35 k35 bound35 := Opens.iso (fun p => (⟨p.1, p.2⟩ : S35)) (fun _ => rfl) (Opens.struct Try.underlying35 (by kernel_rfl) (OpensF.cons rfl (by kernel_rfl) (Opens.slice 8 Try.underlying23 (by kernel_rfl) (by kernel_rfl) (Opens.int Try.underlying3)) (OpensF.one rfl (by kernel_rfl) (Opens.int Try.underlying3))))
set_option maxRecDepth 100000 in
theorem lifted (os : Os) (started : os.Started) (H : Type) (enc : TypeId × Value → H) :
    ReturnsInHanded {} Try.checked os 6 .any (Rows.addressChangesSpec.pre6 enc Try.prog Try.f6 Rows.addressChangesRow.domain false) (Rows.addressChangesSpec.post enc Try.prog Try.f6 false true false false) := by
  refine returnsInHanded_of_change_sized (C := Try.checked) own started (by kernel_rfl) Try.func6
    (ChangeSpec.witness6 (enc := enc) (C := Try.checked) false ⟨#[], #[.slice none 0 0, .agg #[(.slice none 0 0), (.int .i64 0)], .slice none 0 0], []⟩ 8 (by kernel_rfl) (by kernel_rfl) (by kernel_rfl) (by kernel_rfl)) ?_
  intro W base args ds gs before hval0 hW hcnd hsz0 _
  have hsz : (DataW.weightsEach Try.prog (Try.f6.params.toList ++ Rows.addressChangesSpec.plain.varTypes Try.prog) (ds ++ gs)).all (· ≤ reachBytes) = true := hsz0
  have hval : ∀ (j : Nat) t v, Try.f6.params[j]? = some t → args[j]? = some v → Value.okWide Try.prog W .any base t v := hval0
  have hW' := hW
  obtain ⟨p, q, hA0, hV, rfl, hfz, hnd⟩ := hW
  have hA : DataW.TrodAll enc Try.prog W 0 (fun _ => true) true Try.f6.params.toList args.toList ds p := hA0
  rw [Try.params6] at hA hval hsz
  obtain ⟨v0, vs0, d0, ds0, p0, q0, hargs, rfl, rfl, h0, r0⟩ := trodAll_cons hA
  obtain ⟨v1, vs1, d1, ds1, p1, q1, rfl, rfl, rfl, h1, r1⟩ := trodAll_cons r0
  obtain ⟨v2, vs2, d2, ds2, p2, q2, rfl, rfl, rfl, h2, r2⟩ := trodAll_cons r1
  obtain ⟨rfl, rfl, rfl⟩ := trodAll_nil r2
  obtain rfl : args = #[v0, v1, v2] := by cases args; simp_all
  obtain ⟨rfl, rfl⟩ := trodVars_none hV
  have k0 := h0
  have lt0 : ∀ x ∈ p0, x.block < W.heap.size := by obtain ⟨m, hm⟩ := k0; exact DataW.trod_lt m _ _ _ hm
  obtain ⟨x0, hk0, hb0⟩ := Opens.arg (Opens.slice 32 Try.underlying22 (by kernel_rfl) (by kernel_rfl) opens35) h0 hsz (j := 0) rfl rfl
  obtain ⟨A0, n0, c0, rfl⟩ := okWide_slice Try.underlying22 (hval 0 22 v0 rfl rfl)
  obtain ⟨rfl, hc0, hr0⟩ := K_slice hk0
  have k1 := h1
  have lt1 : ∀ x ∈ p1, x.block < W.heap.size := by obtain ⟨m, hm⟩ := k1; exact DataW.trod_lt m _ _ _ hm
  obtain ⟨x1, hk1, hb1⟩ := Opens.arg opens35 h1 hsz (j := 1) rfl rfl
  obtain ⟨cs1, rfl, hs1⟩ := okWide_struct Try.underlying35 (hval 1 35 v1 rfl rfl)
  obtain ⟨A1_0, c1_0, hcs1, hc1_0, hr1_0⟩ := k35_open hk1
  obtain rfl : cs1 = #[.slice A1_0 x1.f0.length c1_0, .int .i64 x1.f1] := by cases cs1; simp [Value.cells] at hcs1; simpa using hcs1
  have k2 := h2
  have lt2 : ∀ x ∈ p2, x.block < W.heap.size := by obtain ⟨m, hm⟩ := k2; exact DataW.trod_lt m _ _ _ hm
  obtain ⟨x2, hk2, hb2⟩ := Opens.arg (Opens.slice 8 Try.underlying23 (by kernel_rfl) (by kernel_rfl) (Opens.int Try.underlying3)) h2 hsz (j := 2) rfl rfl
  obtain ⟨A2, n2, c2, rfl⟩ := okWide_slice Try.underlying23 (hval 2 23 v2 rfl rfl)
  obtain ⟨rfl, hc2, hr2⟩ := K_slice hk2
  obtain ⟨k, hp⟩ := Pure.AddressChanges x0 x1 x2 hb0 hb1 hb2
  refine (heptadlaw11_AddressChanges.calls k _ _ x0 _ _ x1.f0 x1.f1 _ _ x2 true W hr0 hc0 hr1_0 hc1_0 hr2 hc2 hp).mono fun e W' ⟨he, hb⟩ => ?_
  have bel : Below W.heap.size W W' := hb
  subst he
  exact ⟨_, rfl, _, _, _, [], _, [], hW', trodAll_mk1 (shut_bool Try.underlying4 _), (trodAll_cons_mk (Below.trod laidOut (by kernel_rfl) (of_decide_eq_true (by kernel_rfl)) k0 bel lt0) (trodAll_cons_mk (Below.trod laidOut (by kernel_rfl) (of_decide_eq_true (by kernel_rfl)) k1 bel lt1) (trodAll_cons_mk (Below.trod laidOut (by kernel_rfl) (of_decide_eq_true (by kernel_rfl)) k2 bel lt2) trodAll_mk0))), rfl, bel.frame _, fun h => by cases h⟩
theorem over : Rows.addressChangesRow.holds Try.pinned (OpenSpec.ofChange Rows.addressChangesSpec) :=
  OpenClaim.holds_of_wide 6 Try.f6 rfl rfl rfl rfl rfl rfl rfl ⟨rfl, rfl, rfl, rfl, rfl⟩ rfl rfl rfl rfl rfl (by kernel_rfl) Try.func6 (by kernel_rfl)
    (of_decide_eq_true (by kernel_rfl)) (by unfold Func.isWrapper; first | (rw [if_pos (by decide +kernel)]; kernel_rfl) | (rw [if_neg (by decide +kernel)]; exact ⟨rfl, rfl⟩))
    (fun os started H enc _ => lifted os started H enc)
theorem proved : Rows.AddressChangesSaid := over
#print axioms proved
end Go.Proofs.Ytchkhnhmpgkpeaa.addressChanges
namespace Go.Proofs.Ytchkhnhmpgkpeaa
/-- The row, under a short name, for the claim. -/
theorem addressChanges_holds : Rows.AddressChangesSaid := addressChanges.proved
end Go.Proofs.Ytchkhnhmpgkpeaa
