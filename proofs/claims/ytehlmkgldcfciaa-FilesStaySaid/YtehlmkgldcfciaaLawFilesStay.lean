/- For every input that can be read, the Go function heptad/heptadlaw28.FilesStay returns true, and each argument reads afterwards as it read before. No condition. -/
import Derived.Test.YtehlmkgldcfciaaRows
import Derived.Test.YtehlmkgldcfciaaFM2
import Derived.Test.YtehlmkgldcfciaaOpen
import Derived.WalkKit
import Derived.ProofKit
import Derived.OpenShut
import Derived.ShutString
import Derived.ChangeOld
import Derived.Below
import Derived.SizedLaws
namespace Go.Proofs.Ytehlmkgldcfciaa.filesStay
open Go.ChangeShapes Go.WideShapes Go.ChangeAt Go.RowKit Go.Proofs.Ytehlmkgldcfciaa.Open Go.Proofs.Ytehlmkgldcfciaa.F Go.Proofs.Ytehlmkgldcfciaa.Files Go.Proofs.YtehlmkgldcfciaaW.PrintWords
open Go.ChangeMaps (open_string shut_string)
set_option linter.unusedVariables false
theorem own : ownKnob Try.prog.godebug = none := by kernel_rfl
theorem laidOut : laidOutB Try.prog = true := by kernel_rfl
def bound41 (x : S41) : Prop := (fun s => s.size ≤ 140737488351232) x.f0 ∧ (fun s => s.size ≤ 140737488351232) x.f1 ∧ (fun n => (Lit.int .i64 n).wf = true) x.f2
theorem opens41 : Opens Try.prog 41 k41 bound41 := Opens.iso (fun p => (⟨p.1, p.2.1, p.2.2⟩ : S41)) (fun _ => rfl) (Opens.struct Try.underlying41 (by kernel_rfl) (OpensF.cons rfl (by kernel_rfl) (Opens.string Try.underlying9) (OpensF.cons rfl (by kernel_rfl) (Opens.string Try.underlying9) (OpensF.one rfl (by kernel_rfl) (Opens.int Try.underlying3)))))
def bound34 (x : S34) : Prop := (fun s => s.size ≤ 140737488351232) x.f0 ∧ (fun n => (Lit.int .i64 n).wf = true) x.f1
theorem opens34 : Opens Try.prog 34 k34 bound34 := Opens.iso (fun p => (⟨p.1, p.2⟩ : S34)) (fun _ => rfl) (Opens.struct Try.underlying34 (by kernel_rfl) (OpensF.cons rfl (by kernel_rfl) (Opens.string Try.underlying9) (OpensF.one rfl (by kernel_rfl) (Opens.int Try.underlying3))))
def bound44 (x : S44) : Prop := (fun n => (Lit.int .i64 n).wf = true) x.f0 ∧ (fun n => (Lit.int .i64 n).wf = true) x.f1 ∧ (fun n => (Lit.int .i64 n).wf = true) x.f2 ∧ (fun s => s.size ≤ 140737488351232) x.f3 ∧ (fun s => s.size ≤ 140737488351232) x.f4 ∧ (fun _ => True) x.f5 ∧ bound41 x.f6 ∧ (fun xs => xs.length ≤ 9223372036854775807 ∧ xs.length * 16 ≤ 140737488351232 ∧ ∀ x ∈ xs, (fun s => s.size ≤ 140737488351232) x) x.f7 ∧ (fun xs => xs.length ≤ 9223372036854775807 ∧ xs.length * 24 ≤ 140737488351232 ∧ ∀ x ∈ xs, bound34 x) x.f8
theorem opens44 : Opens Try.prog 44 k44 bound44 := Opens.iso (fun p => (⟨p.1, p.2.1, p.2.2.1, p.2.2.2.1, p.2.2.2.2.1, p.2.2.2.2.2.1, p.2.2.2.2.2.2.1, p.2.2.2.2.2.2.2.1, p.2.2.2.2.2.2.2.2⟩ : S44)) (fun _ => rfl) (Opens.struct Try.underlying44 (by kernel_rfl) (OpensF.cons rfl (by kernel_rfl) (Opens.int Try.underlying3) (OpensF.cons rfl (by kernel_rfl) (Opens.int Try.underlying3) (OpensF.cons rfl (by kernel_rfl) (Opens.int Try.underlying3) (OpensF.cons rfl (by kernel_rfl) (Opens.string Try.underlying9) (OpensF.cons rfl (by kernel_rfl) (Opens.string Try.underlying9) (OpensF.cons rfl (by kernel_rfl) (Opens.bool Try.underlying4) (OpensF.cons rfl (by kernel_rfl) opens41 (OpensF.cons rfl (by kernel_rfl) (Opens.slice 16 Try.underlying42 (by kernel_rfl) (by kernel_rfl) (Opens.string Try.underlying9)) (OpensF.one rfl (by kernel_rfl) (Opens.slice 24 Try.underlying35 (by kernel_rfl) (by kernel_rfl) opens34)))))))))))
set_option maxRecDepth 100000 in
theorem lifted (os : Os) (started : os.Started) (H : Type) (enc : TypeId × Value → H) :
    ReturnsInHanded {} Try.checked os 5 .any (Rows.filesStaySpec.pre6 enc Try.prog Try.f5 Rows.filesStayRow.domain false) (Rows.filesStaySpec.post enc Try.prog Try.f5 false true false false) := by
  refine returnsInHanded_of_change_sized (C := Try.checked) own started (by kernel_rfl) Try.func5
    (ChangeSpec.witness6 (enc := enc) (C := Try.checked) false ⟨#[], #[.slice none 0 0], []⟩ 8 (by kernel_rfl) (by kernel_rfl) (by kernel_rfl) (by kernel_rfl)) ?_
  intro W base args ds gs before hval0 hW hcnd hsz0 _
  have hsz : (DataW.weightsEach Try.prog (Try.f5.params.toList ++ Rows.filesStaySpec.plain.varTypes Try.prog) (ds ++ gs)).all (· ≤ reachBytes) = true := hsz0
  have hval : ∀ (j : Nat) t v, Try.f5.params[j]? = some t → args[j]? = some v → Value.okWide Try.prog W .any base t v := hval0
  have hW' := hW
  obtain ⟨p, q, hA0, hV, rfl, hfz, hnd⟩ := hW
  have hA : DataW.TrodAll enc Try.prog W 0 (fun _ => true) true Try.f5.params.toList args.toList ds p := hA0
  rw [Try.params5] at hA hval hsz
  obtain ⟨v0, vs0, d0, ds0, p0, q0, hargs, rfl, rfl, h0, r0⟩ := trodAll_cons hA
  obtain ⟨rfl, rfl, rfl⟩ := trodAll_nil r0
  obtain rfl : args = #[v0] := by cases args; simp_all
  obtain ⟨rfl, rfl⟩ := trodVars_none hV
  have k0 := h0
  have lt0 : ∀ x ∈ p0, x.block < W.heap.size := by obtain ⟨m, hm⟩ := k0; exact DataW.trod_lt m _ _ _ hm
  obtain ⟨x0, hk0, hb0⟩ := Opens.arg (Opens.slice 152 Try.underlying38 (by kernel_rfl) (by kernel_rfl) opens44) h0 hsz (j := 0) rfl rfl
  obtain ⟨A0, n0, c0, rfl⟩ := okWide_slice Try.underlying38 (hval 0 38 v0 rfl rfl)
  obtain ⟨rfl, hc0, hr0⟩ := K_slice hk0
  refine (FilesStay_c _ _ x0 W hr0 hc0 hb0.2.1).mono fun e W' ⟨he, hb⟩ => ?_
  have bel : Below W.heap.size W W' := hb
  subst he
  exact ⟨_, rfl, _, _, _, [], _, [], hW', trodAll_mk1 (shut_bool Try.underlying4 _), (trodAll_cons_mk (Below.trod laidOut (by kernel_rfl) (of_decide_eq_true (by kernel_rfl)) k0 bel lt0) trodAll_mk0), rfl, bel.frame _, fun h => by cases h⟩
theorem over : Rows.filesStayRow.holds Try.pinned (OpenSpec.ofChange Rows.filesStaySpec) :=
  OpenClaim.holds_of_wide 5 Try.f5 rfl rfl rfl rfl rfl rfl rfl ⟨rfl, rfl, rfl, rfl, rfl⟩ rfl rfl rfl rfl rfl (by kernel_rfl) Try.func5 (by kernel_rfl)
    (of_decide_eq_true (by kernel_rfl)) (by unfold Func.isWrapper; first | (rw [if_pos (by decide +kernel)]; kernel_rfl) | (rw [if_neg (by decide +kernel)]; exact ⟨rfl, rfl⟩))
    (fun os started H enc _ => lifted os started H enc)
theorem proved : Rows.FilesStaySaid := over
#print axioms proved
end Go.Proofs.Ytehlmkgldcfciaa.filesStay
namespace Go.Proofs.Ytehlmkgldcfciaa
/-- The row, under a short name, for the claim. -/
theorem filesStay_holds : Rows.FilesStaySaid := filesStay.proved
end Go.Proofs.Ytehlmkgldcfciaa
