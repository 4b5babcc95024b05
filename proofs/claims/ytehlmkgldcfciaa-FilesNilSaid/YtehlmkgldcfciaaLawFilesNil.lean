/- For every input that can be read, the Go function heptad/heptadlaw28.FilesNil returns true, and each argument reads afterwards as it read before. No condition. -/
import Derived.Test.YtehlmkgldcfciaaRows
import Derived.Test.YtehlmkgldcfciaaFilesV
import Derived.Test.YtehlmkgldcfciaaOpen
import Derived.WalkKit
import Derived.ProofKit
import Derived.OpenShut
import Derived.ShutString
import Derived.ChangeOld
import Derived.Below
import Derived.SizedLaws
namespace Go.Proofs.Ytehlmkgldcfciaa.filesNil
open Go.ChangeShapes Go.WideShapes Go.ChangeAt Go.RowKit Go.Proofs.Ytehlmkgldcfciaa.Open Go.Proofs.Ytehlmkgldcfciaa.F Go.Proofs.Ytehlmkgldcfciaa.Files Go.Proofs.YtehlmkgldcfciaaW.PrintWords
open Go.ChangeMaps (open_string shut_string)
set_option linter.unusedVariables false
theorem own : ownKnob Try.prog.godebug = none := by kernel_rfl
theorem laidOut : laidOutB Try.prog = true := by kernel_rfl
theorem cellsOf44 : Try.prog.cellsOf 44 = 11 := by kernel_rfl
theorem cellTypes44 : Try.prog.cellTypes Try.prog.depth 44 = some [3, 3, 3, 9, 9, 4, 9, 9, 3, 42, 35] := by kernel_rfl
set_option maxRecDepth 100000 in
theorem open44 {W : World} {base : Nat} {v : Value} (h : Value.okWide Try.prog W .any base 44 v) : ∃ (a0 : Int) (a1 : Int) (a2 : Int) (a3 : ByteArray) (a4 : ByteArray) (a5 : Bool) (a6 : ByteArray) (a7 : ByteArray) (a8 : Int) (a9 : Value) (a10 : Value), v = .agg #[(.int .i64 a0), (.int .i64 a1), (.int .i64 a2), (.string a3), (.string a4), (.bool a5), (.string a6), (.string a7), (.int .i64 a8), a9, a10] := by
  simp only [Value.okWide, Try.underlying44] at h
  obtain ⟨cs, rfl, hsz, ts, hts, -, hc⟩ := h
  rw [cellTypes44] at hts
  cases hts
  rw [cellsOf44] at hsz
  obtain ⟨l⟩ := cs
  match l, hsz with
  | [a0, a1, a2, a3, a4, a5, a6, a7, a8, a9, a10], _ =>
    have h0 : ∃ y, a0 = .int .i64 y := by
      obtain ⟨u, hu, h⟩ := hc 0 a0 rfl
      cases hu
      simp only [Cell.okWide, Try.underlying3] at h
      cases a0 <;> simp_all [Cell.ok]
    have h1 : ∃ y, a1 = .int .i64 y := by
      obtain ⟨u, hu, h⟩ := hc 1 a1 rfl
      cases hu
      simp only [Cell.okWide, Try.underlying3] at h
      cases a1 <;> simp_all [Cell.ok]
    have h2 : ∃ y, a2 = .int .i64 y := by
      obtain ⟨u, hu, h⟩ := hc 2 a2 rfl
      cases hu
      simp only [Cell.okWide, Try.underlying3] at h
      cases a2 <;> simp_all [Cell.ok]
    have h3 : ∃ y, a3 = .string y := by
      obtain ⟨u, hu, h⟩ := hc 3 a3 rfl
      cases hu
      simp only [Cell.okWide, Try.underlying9] at h
      cases a3 <;> simp_all [Cell.ok]
    have h4 : ∃ y, a4 = .string y := by
      obtain ⟨u, hu, h⟩ := hc 4 a4 rfl
      cases hu
      simp only [Cell.okWide, Try.underlying9] at h
      cases a4 <;> simp_all [Cell.ok]
    have h5 : ∃ y, a5 = .bool y := by
      obtain ⟨u, hu, h⟩ := hc 5 a5 rfl
      cases hu
      simp only [Cell.okWide, Try.underlying4] at h
      cases a5 <;> simp_all [Cell.ok]
    have h6 : ∃ y, a6 = .string y := by
      obtain ⟨u, hu, h⟩ := hc 6 a6 rfl
      cases hu
      simp only [Cell.okWide, Try.underlying9] at h
      cases a6 <;> simp_all [Cell.ok]
    have h7 : ∃ y, a7 = .string y := by
      obtain ⟨u, hu, h⟩ := hc 7 a7 rfl
      cases hu
      simp only [Cell.okWide, Try.underlying9] at h
      cases a7 <;> simp_all [Cell.ok]
    have h8 : ∃ y, a8 = .int .i64 y := by
      obtain ⟨u, hu, h⟩ := hc 8 a8 rfl
      cases hu
      simp only [Cell.okWide, Try.underlying3] at h
      cases a8 <;> simp_all [Cell.ok]
    obtain ⟨y0, rfl⟩ := h0
    obtain ⟨y1, rfl⟩ := h1
    obtain ⟨y2, rfl⟩ := h2
    obtain ⟨y3, rfl⟩ := h3
    obtain ⟨y4, rfl⟩ := h4
    obtain ⟨y5, rfl⟩ := h5
    obtain ⟨y6, rfl⟩ := h6
    obtain ⟨y7, rfl⟩ := h7
    obtain ⟨y8, rfl⟩ := h8
    exact ⟨y0, y1, y2, y3, y4, y5, y6, y7, y8, a9, a10, rfl⟩
set_option maxRecDepth 100000 in
theorem lifted (os : Os) (started : os.Started) (H : Type) (enc : TypeId × Value → H) :
    ReturnsInHanded {} Try.checked os 6 .any (Rows.filesNilSpec.pre6 enc Try.prog Try.f6 Rows.filesNilRow.domain false) (Rows.filesNilSpec.post enc Try.prog Try.f6 false true false false) := by
  refine returnsInHanded_of_change_sized (C := Try.checked) own started (by kernel_rfl) Try.func6
    (ChangeSpec.witness6 (enc := enc) (C := Try.checked) false ⟨#[], #[.agg #[.int .i64 0, .int .i64 0, .int .i64 0, .string ByteArray.empty, .string ByteArray.empty, .bool false, .string ByteArray.empty, .string ByteArray.empty, .int .i64 0, .slice none 0 0, .slice none 0 0]], []⟩ 8 (by kernel_rfl) (by kernel_rfl) (by kernel_rfl) (by kernel_rfl)) ?_
  intro W base args ds gs before hval0 hW hcnd hsz0 _
  have hsz : (DataW.weightsEach Try.prog (Try.f6.params.toList ++ Rows.filesNilSpec.plain.varTypes Try.prog) (ds ++ gs)).all (· ≤ reachBytes) = true := hsz0
  have hval : ∀ (j : Nat) t v, Try.f6.params[j]? = some t → args[j]? = some v → Value.okWide Try.prog W .any base t v := hval0
  have hW' := hW
  obtain ⟨p, q, hA0, hV, rfl, hfz, hnd⟩ := hW
  have hA : DataW.TrodAll enc Try.prog W 0 (fun _ => true) true Try.f6.params.toList args.toList ds p := hA0
  rw [Try.params6] at hA hval hsz
  obtain ⟨v0, vs0, d0, ds0, p0, q0, hargs, rfl, rfl, h0, r0⟩ := trodAll_cons hA
  obtain ⟨rfl, rfl, rfl⟩ := trodAll_nil r0
  obtain rfl : args = #[v0] := by cases args; simp_all
  obtain ⟨rfl, rfl⟩ := trodVars_none hV
  have k0 := h0
  have lt0 : ∀ x ∈ p0, x.block < W.heap.size := by obtain ⟨m, hm⟩ := k0; exact DataW.trod_lt m _ _ _ hm
  obtain ⟨y0_0, y0_1, y0_2, y0_3, y0_4, y0_5, y0_6, y0_7, y0_8, y0_9, y0_10, rfl⟩ := open44 (hval 0 44 v0 rfl rfl)
  refine (FilesNil_leaf y0_0 y0_1 y0_2 y0_3 y0_4 y0_5 y0_6 y0_7 y0_8 y0_9 y0_10 W ).mono fun e W' ⟨he, hb⟩ => ?_
  have bel : Below W.heap.size W W' := hb
  subst he
  exact ⟨_, rfl, _, _, _, [], _, [], hW', trodAll_mk1 (shut_bool Try.underlying4 _), (trodAll_cons_mk (Below.trod laidOut (by kernel_rfl) (of_decide_eq_true (by kernel_rfl)) k0 bel lt0) trodAll_mk0), rfl, bel.frame _, fun h => by cases h⟩
theorem over : Rows.filesNilRow.holds Try.pinned (OpenSpec.ofChange Rows.filesNilSpec) :=
  OpenClaim.holds_of_wide 6 Try.f6 rfl rfl rfl rfl rfl rfl rfl ⟨rfl, rfl, rfl, rfl, rfl⟩ rfl rfl rfl rfl rfl (by kernel_rfl) Try.func6 (by kernel_rfl)
    (of_decide_eq_true (by kernel_rfl)) (by unfold Func.isWrapper; first | (rw [if_pos (by decide +kernel)]; kernel_rfl) | (rw [if_neg (by decide +kernel)]; exact ⟨rfl, rfl⟩))
    (fun os started H enc _ => lifted os started H enc)
theorem proved : Rows.FilesNilSaid := over
#print axioms proved
end Go.Proofs.Ytehlmkgldcfciaa.filesNil
namespace Go.Proofs.Ytehlmkgldcfciaa
/-- The row, under a short name, for the claim. -/
theorem filesNil_holds : Rows.FilesNilSaid := filesNil.proved
end Go.Proofs.Ytehlmkgldcfciaa
