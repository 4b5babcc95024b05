/- The law FilesValid, walked. -/
import Derived.Test.YtehlmkgldcfciaaFilesM
import Derived.Test.YtehlmkgldcfciaaFilesP
import Derived.Test.YtehlmkgldcfciaaFx0
import Derived.Test.YtehlmkgldcfciaaFx7
set_option linter.unusedVariables false
set_option linter.unusedSimpArgs false
namespace Go.Proofs.Ytehlmkgldcfciaa.Files
open Go.Proofs.Ytehlmkgldcfciaa.Common Go.Maps Go.ChangeMaps Go.WideMaps Go.Proofs.Ytehlmkgldcfciaa.F
open Go.RowKit Go.Proofs.YtehlmkgldcfciaaW.PrintWords Go.Proofs.YtehlmkgldcfciaaW.PrintLast Go.Proofs.YtehlmkgldcfciaaW.PrintMore
theorem To_l0 (l : List S41) (hl : l.length < 3518437208883) : ∀ (d j k : Nat) (acc : List S67), l.length - j = d → j ≤ l.length → d < k → acc.length = j → heptadlaw28_To.l0 k l acc (j : Int) = some (acc ++ (l.drop j).map toR)
  | 0, j, k, acc, hd, hj, hk, ha => by
    obtain ⟨k, rfl⟩ : ∃ m, k = m + 1 := ⟨k - 1, by omega⟩
    simp only [heptadlaw28_To.l0]
    rw [if_neg (by omega), show j = l.length by omega, List.drop_length]
    simp
  | d + 1, j, k, acc, hd, hj, hk, ha => by
    obtain ⟨k, rfl⟩ : ∃ m, k = m + 1 := ⟨k - 1, by omega⟩
    simp only [heptadlaw28_To.l0]
    rw [if_pos (by omega), if_pos (by omega), if_pos (by omega), wr j l.length (by omega) (by omega), To_l0 l hl d (j + 1) k _ (by omega) (by omega) (by omega) (by simp [ha]), drop_at l j (by omega), List.append_assoc]
    rfl
theorem To_c (A : Option Addr) (c : Nat) (l : List S41) (W : World) (hr : Kd.C k41 W A l.length l) (hc : l.length ≤ c) (hl : l.length < 3518437208883) :
    Calls Try.prog 9 #[.slice A l.length c] W fun e w' => ∃ v : Value, e = .returned v ∧ Kd.R k67 67 w' W.heap.size (fun _ => True) v (l.map toR) ∧ Below W.heap.size W w' :=
  heptadlaw28_To.calls (l.length + 1) A c l _ W hr hc (by
    unfold heptadlaw28_To.f
    have := To_l0 l hl l.length 0 (l.length + 1) [] (by omega) (by omega) (by omega) rfl
    rw [List.drop_zero, List.nil_append] at this
    exact this)
set_option maxRecDepth 100000 in
theorem FilesValid_c (A : Option Addr) (c : Nat) (l : List S41) (kind : Int) (W : World) (hr : Kd.C k41 W A l.length l) (hc : l.length ≤ c) (hl : l.length * 40 ≤ 140737488351232) :
    Calls Try.prog 3 #[.slice A l.length c, .int .i64 kind] W fun e w' => e = .returned (.bool true) ∧ Below W.heap.size W w' := by
  have HR := Aside0.mk hr
  have CV := Aside0.mk (Valid_c A c l kind W hr hc)
  clear hr
  generalize hb : validB l kind = b at CV
  have HB := Lib.hid hb
  clear hb
  go_enter Try.func3, Try.ntmps3
  go_wp2_with fail
  refine CV.out.mono ?_
  rintro e w1 ⟨rfl, hb1⟩
  have HB1 := Aside0.mk hb1
  have CT := Aside0.mk (To_c A c l w1 (Kd.C_below HR.out hb1) hc (by omega))
  clear hb1 CV
  go_wp2_with fail
  refine CT.out.mono ?_
  rintro e w2 ⟨v, rfl, hr2, hb2⟩
  have HB2 := Aside0.mk (show Below W.heap.size W w2 from HB1.out.trans (hb2.mono HB1.out.size))
  obtain ⟨A2, c2, rfl, hc2, hC2⟩ := Kd.R_reads hr2
  have CR := refValid_eq A2 c2 l kind w2 hC2 hc2
  rw [HB.out, List.length_map] at CR
  have CR' := Aside0.mk CR
  clear CR hb2 hr2 hC2 CT
  go_wp2_with fail
  refine CR'.out.mono ?_
  rintro e w3 ⟨rfl, hb3⟩
  have HB3 := Aside0.mk (show Below W.heap.size W w3 from HB2.out.trans (hb3.mono HB2.out.size))
  clear hb3 CR'
  have CS := Aside0.mk (sane_c w3)
  cases b
  all_goals
    go_wp2_with fail
    refine CS.out.mono ?_
    rintro e w4 ⟨rfl, hb4⟩
    go_wp2
    go_ret
    exact ⟨rfl, HB3.out.trans (hb4.mono HB3.out.size)⟩
end Go.Proofs.Ytehlmkgldcfciaa.Files
