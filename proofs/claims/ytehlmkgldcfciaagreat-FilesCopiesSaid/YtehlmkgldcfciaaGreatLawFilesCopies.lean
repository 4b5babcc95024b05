/- For every input that can be read, the Go function heptad/heptadlaw28.FilesCopies returns true, and each argument reads afterwards as it read before. No condition. -/
import Derived.Test.YtehlmkgldcfciaaGreatRows
import Derived.Test.YtehlmkgldcfciaaGreatGN17
import Derived.Test.YtehlmkgldcfciaaGreatOpen
import Derived.WalkKit
import Derived.ProofKit
import Derived.OpenShut
import Derived.ShutString
import Derived.ChangeOld
import Derived.Below
import Derived.SizedLaws
namespace Go.Proofs.YtehlmkgldcfciaaGreat.filesCopies
open Go.ChangeShapes Go.WideShapes Go.ChangeAt Go.RowKit Go.Proofs.YtehlmkgldcfciaaGreat.Open Go.Proofs.YtehlmkgldcfciaaGreat.F Go.Proofs.YtehlmkgldcfciaaGreat.Files Go.Proofs.YtehlmkgldcfciaaGreatW.PrintWords
open Go.ChangeMaps (open_string shut_string)
set_option linter.unusedVariables false
theorem own : ownKnob Tryz.prog.godebug = none := by kernel_rfl
theorem laidOut : laidOutB Tryz.prog = true := by kernel_rfl
def bound29 (x : S29) : Prop := (fun s => s.size ≤ 140737488351232) x.f0 ∧ (fun s => s.size ≤ 140737488351232) x.f1 ∧ (fun n => (Lit.int .i64 n).wf = true) x.f2
theorem opens29 : Opens Tryz.prog 29 k29 bound29 := Opens.iso (fun p => (⟨p.1, p.2.1, p.2.2⟩ : S29)) (fun _ => rfl) (Opens.struct Tryz.underlying29 (by kernel_rfl) (OpensF.cons rfl (by kernel_rfl) (Opens.string Tryz.underlying9) (OpensF.cons rfl (by kernel_rfl) (Opens.string Tryz.underlying9) (OpensF.one rfl (by kernel_rfl) (Opens.int Tryz.underlying3)))))
def bound100 (x : S100) : Prop := (fun s => s.size ≤ 140737488351232) x.f0 ∧ (fun n => (Lit.int .i64 n).wf = true) x.f1
theorem opens100 : Opens Tryz.prog 100 k100 bound100 := Opens.iso (fun p => (⟨p.1, p.2⟩ : S100)) (fun _ => rfl) (Opens.struct Tryz.underlying100 (by kernel_rfl) (OpensF.cons rfl (by kernel_rfl) (Opens.string Tryz.underlying9) (OpensF.one rfl (by kernel_rfl) (Opens.int Tryz.underlying3))))
def bound33 (x : S33) : Prop := (fun n => (Lit.int .i64 n).wf = true) x.f0 ∧ (fun n => (Lit.int .i64 n).wf = true) x.f1 ∧ (fun n => (Lit.int .i64 n).wf = true) x.f2 ∧ (fun s => s.size ≤ 140737488351232) x.f3 ∧ (fun s => s.size ≤ 140737488351232) x.f4 ∧ (fun _ => True) x.f5 ∧ bound29 x.f6 ∧ (fun xs => xs.length ≤ 9223372036854775807 ∧ xs.length * 16 ≤ 140737488351232 ∧ ∀ x ∈ xs, (fun s => s.size ≤ 140737488351232) x) x.f7 ∧ (fun xs => xs.length ≤ 9223372036854775807 ∧ xs.length * 24 ≤ 140737488351232 ∧ ∀ x ∈ xs, bound100 x) x.f8
theorem opens33 : Opens Tryz.prog 33 k33 bound33 := Opens.iso (fun p => (⟨p.1, p.2.1, p.2.2.1, p.2.2.2.1, p.2.2.2.2.1, p.2.2.2.2.2.1, p.2.2.2.2.2.2.1, p.2.2.2.2.2.2.2.1, p.2.2.2.2.2.2.2.2⟩ : S33)) (fun _ => rfl) (Opens.struct Tryz.underlying33 (by kernel_rfl) (OpensF.cons rfl (by kernel_rfl) (Opens.int Tryz.underlying3) (OpensF.cons rfl (by kernel_rfl) (Opens.int Tryz.underlying3) (OpensF.cons rfl (by kernel_rfl) (Opens.int Tryz.underlying3) (OpensF.cons rfl (by kernel_rfl) (Opens.string Tryz.underlying9) (OpensF.cons rfl (by kernel_rfl) (Opens.string Tryz.underlying9) (OpensF.cons rfl (by kernel_rfl) (Opens.bool Tryz.underlying4) (OpensF.cons rfl (by kernel_rfl) opens29 (OpensF.cons rfl (by kernel_rfl) (Opens.slice 16 Tryz.underlying30 (by kernel_rfl) (by kernel_rfl) (Opens.string Tryz.underlying9)) (OpensF.one rfl (by kernel_rfl) (Opens.slice 24 Tryz.underlying31 (by kernel_rfl) (by kernel_rfl) opens100)))))))))))
set_option maxRecDepth 100000 in
theorem lifted (os : Os) (started : os.Started) (H : Type) (enc : TypeId × Value → H) :
    ReturnsInHanded {} Tryz.checked os 4 .any (Rows.filesCopiesSpec.pre6 enc Tryz.prog Tryz.f4 Rows.filesCopiesRow.domain false) (Rows.filesCopiesSpec.post enc Tryz.prog Tryz.f4 false true false false) := by
  refine returnsInHanded_of_change_sized (C := Tryz.checked) own started (by kernel_rfl) Tryz.func4
    (ChangeSpec.witness6 (enc := enc) (C := Tryz.checked) false ⟨#[], #[.slice none 0 0, .slice none 0 0], []⟩ 8 (by kernel_rfl) (by kernel_rfl) (by kernel_rfl) (by kernel_rfl)) ?_
  intro W base args ds gs before hval0 hW hcnd hsz0 _
  have hsz : (DataW.weightsEach Tryz.prog (Tryz.f4.params.toList ++ Rows.filesCopiesSpec.plain.varTypes Tryz.prog) (ds ++ gs)).all (· ≤ reachBytes) = true := hsz0
  have hval : ∀ (j : Nat) t v, Tryz.f4.params[j]? = some t → args[j]? = some v → Value.okWide Tryz.prog W .any base t v := hval0
  have hW' := hW
  obtain ⟨p, q, hA0, hV, rfl, hfz, hnd⟩ := hW
  have hA : DataW.TrodAll enc Tryz.prog W 0 (fun _ => true) true Tryz.f4.params.toList args.toList ds p := hA0
  rw [Tryz.params4] at hA hval hsz
  obtain ⟨v0, vs0, d0, ds0, p0, q0, hargs, rfl, rfl, h0, r0⟩ := trodAll_cons hA
  obtain ⟨v1, vs1, d1, ds1, p1, q1, rfl, rfl, rfl, h1, r1⟩ := trodAll_cons r0
  obtain ⟨rfl, rfl, rfl⟩ := trodAll_nil r1
  obtain rfl : args = #[v0, v1] := by cases args; simp_all
  obtain ⟨rfl, rfl⟩ := trodVars_none hV
  have k0 := h0
  have lt0 : ∀ x ∈ p0, x.block < W.heap.size := by obtain ⟨m, hm⟩ := k0; exact DataW.trod_lt m _ _ _ hm
  obtain ⟨x0, hk0, hb0⟩ := Opens.arg (Opens.slice 152 Tryz.underlying22 (by kernel_rfl) (by kernel_rfl) opens33) h0 hsz (j := 0) rfl rfl
  obtain ⟨A0, n0, c0, rfl⟩ := okWide_slice Tryz.underlying22 (hval 0 22 v0 rfl rfl)
  obtain ⟨rfl, hc0, hr0⟩ := K_slice hk0
  have k1 := h1
  have lt1 : ∀ x ∈ p1, x.block < W.heap.size := by obtain ⟨m, hm⟩ := k1; exact DataW.trod_lt m _ _ _ hm
  obtain ⟨x1, hk1, hb1⟩ := Opens.arg (Opens.slice 152 Tryz.underlying22 (by kernel_rfl) (by kernel_rfl) opens33) h1 hsz (j := 1) rfl rfl
  obtain ⟨A1, n1, c1, rfl⟩ := okWide_slice Tryz.underlying22 (hval 1 22 v1 rfl rfl)
  obtain ⟨rfl, hc1, hr1⟩ := K_slice hk1
  refine (FilesCopies_c _ _ x0 _ _ x1 W hr0 hc0 hr1 hc1 (fun x hx => by have h := hb0.2.2 x hx; unfold bound33 at h; exact ⟨by have := h.2.2.2.2.1; omega, by have := h.2.2.2.2.2.2.2.2.2.1; omega⟩) (fun x hx => by have h := hb1.2.2 x hx; unfold bound33 at h; exact ⟨by have := h.2.2.2.2.1; omega, by have := h.2.2.2.2.2.2.2.2.2.1; omega⟩)).mono fun e W' ⟨he, hb⟩ => ?_
  have bel : Below W.heap.size W W' := hb
  subst he
  exact ⟨_, rfl, _, _, _, [], _, [], hW', trodAll_mk1 (shut_bool Tryz.underlying4 _), (trodAll_cons_mk (Below.trod laidOut (by kernel_rfl) (of_decide_eq_true (by kernel_rfl)) k0 bel lt0) (trodAll_cons_mk (Below.trod laidOut (by kernel_rfl) (of_decide_eq_true (by kernel_rfl)) k1 bel lt1) trodAll_mk0)), rfl, bel.frame _, fun h => by cases h⟩
theorem over : Rows.filesCopiesRow.holds Tryz.pinned (OpenSpec.ofChange Rows.filesCopiesSpec) :=
  OpenClaim.holds_of_wide 4 Tryz.f4 rfl rfl rfl rfl rfl rfl rfl ⟨rfl, rfl, rfl, rfl, rfl⟩ rfl rfl rfl rfl rfl (by kernel_rfl) Tryz.func4 (by kernel_rfl)
    (of_decide_eq_true (by kernel_rfl)) (by unfold Func.isWrapper; first | (rw [if_pos (by decide +kernel)]; kernel_rfl) | (rw [if_neg (by decide +kernel)]; exact ⟨rfl, rfl⟩))
    (fun os started H enc _ => lifted os started H enc)
theorem proved : Rows.FilesCopiesSaid := over
#print axioms proved
end Go.Proofs.YtehlmkgldcfciaaGreat.filesCopies
namespace Go.Proofs.YtehlmkgldcfciaaGreat
theorem filesCopies_holds : Rows.FilesCopiesSaid := filesCopies.proved
end Go.Proofs.YtehlmkgldcfciaaGreat
