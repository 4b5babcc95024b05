/- The parts of this proof that lie in one text. -/
import Derived.Test.YtehlmkgldcfciaaGreatGN14
import Derived.Test.YtehlmkgldcfciaaGreatGN9
import Derived.Test.YtehlmkgldcfciaaGreatGN1
/- The law's same: Insert, Change, other numbers; all of it. -/
set_option linter.unusedVariables false
set_option linter.unusedSimpArgs false
namespace Go.Proofs.YtehlmkgldcfciaaGreat.Files
open Go.Proofs.YtehlmkgldcfciaaGreat.Common Go.Maps Go.ChangeMaps Go.WideMaps Go.Proofs.YtehlmkgldcfciaaGreat.F
open Go.RowKit Go.Proofs.YtehlmkgldcfciaaGreatW.PrintWords Go.Proofs.YtehlmkgldcfciaaGreatW.PrintLast Go.Proofs.YtehlmkgldcfciaaGreatW.PrintMore
section
variable {W0 : World × Nat} {wr w' : World} {sb rb c : Nat} {st rt : Fs} {F : List (Nat × Obj)}
theorem Both.rInsert (h : Both W0 sb rb c st rt F wr) (hc : c ≤ 1000) (u n : ByteArray) (at_ : Int) (child : Bool) (a b : ByteArray) (lev0 : Int) : Calls Tryz.prog 31 #[.pointer (some ⟨rb, 0, none⟩), .string u, .string n, .int .i64 at_, .bool child, .agg #[.string a, .string b, .int .i64 lev0]] wr fun e w' => e = .returned (.int .i64 (mInsert rt u n at_ child a b).1) ∧ Both W0 sb rb c st (mInsert rt u n at_ child a b).2 F w' ∧ Apart W0 wr w' F :=
  h.ref (Nat.le_refl c) hc (fun h => inv_Insert h u n at_ child a b) (fun h => x_Insert h u n at_ child a b) (fun ok A k hR hI => (rInsert_c rb k ok rt A u n at_ child a b lev0 wr hR hI).mono (fun e w' h => ⟨h.1, _, h⟩))
end
theorem one_unit {w : World} {b : Nat} {s0 s1 : ByteArray} {s2 : Int} (hx : w.heap[b]? = some (.cells #[.string s0, .string s1, .int .i64 s2] 29 (0, 0))) : Kd.C k29 w (some ⟨b, 0, none⟩) 1 [(⟨s0, s1, s2⟩ : S29)] := by
  refine ⟨rfl, by omega, fun _ => ⟨_, rfl, fun j p hj => ?_⟩⟩
  cases j with
  | succ j => simp at hj
  | zero =>
    injection hj with hj
    subst hj
    refine ⟨[.string s0, .string s1, .int .i64 s2], rfl, k29_mk w ⟨s0, s1, s2⟩, fun t u ht => ?_⟩
    rw [add_plain]
    refine (blk_cell hx _).trans ?_
    rw [show 0 * k29.sz + t = t by omega]
    simpa using ht
theorem To_one {W : World} {b c : Nat} {s0 s1 : ByteArray} {s2 : Int} (hx : W.heap[b]? = some (.cells #[.string s0, .string s1, .int .i64 s2] 29 (0, 0))) (hc : 1 ≤ c) :
    Calls Tryz.prog 29 #[.slice (some ⟨b, 0, none⟩) 1 c] W fun e w' => ∃ ad c', e = .returned (.slice (some ad) 1 c') ∧ w'.cell? ad = some (.string s0) ∧ w'.cell? ⟨ad.block, ad.off + 1, none⟩ = some (.string s1) ∧ w'.cell? ⟨ad.block, ad.off + 2, none⟩ = some (.int .i64 s2) ∧ Below W.heap.size W w' := by
  refine (To_c (some ⟨b, 0, none⟩) c [(⟨s0, s1, s2⟩ : S29)] W (one_unit hx) hc (by simp)).mono ?_
  rintro e w' ⟨v, rfl, h1, h2⟩
  obtain ⟨A', c', hv⟩ := Kd.R_slice h1
  have hv : v = .slice A' 1 c' := hv
  subst hv
  obtain ⟨ad, e, g0, g1, g2⟩ := at_T62 (Kd.R_reads' h1).2.2 0 (by omega) (by simp)
  subst e
  have e0 : ad.add ((0 : Int).toNat * 3) = ad := by cases ad; simp [Addr.add]
  rw [e0] at g0 g1 g2
  exact ⟨ad, c', rfl, g0, g1, g2, h2⟩
def Sam.T19 : Bool × List (List Nat × List Nat) := (true, [([], []), ([], []), ([1], [1]), ([], []), ([3], [3]), ([], []), ([5], [5]), ([], []), ([7], [7]), ([], []), ([9], [9]), ([0, 2, 4, 6, 8, 10], [0, 2, 4, 6, 8, 10]), ([], []), ([], []), ([13], [13]), ([], []), ([15], [15]), ([], []), ([17], [17]), ([], []), ([19], [19]), ([], []), ([21], [21]), ([22], [22]), ([23, 11], [23]), ([24], [24]), ([25], [25]), ([12, 14, 16, 18, 20, 26, 24], [12, 14, 16, 18, 20, 26]), ([11, 27], [11, 27]), ([28, 27, 0, 1, 2, 3, 4, 5, 6, 7, 8, 9, 10, 11, 12, 13, 14, 15, 16, 17, 18, 19, 20, 21, 22, 23, 24, 25, 26, 27, 28], [28])])
def Sam.B19 : List Nat := [0, 0, 2, 0, 8, 0, 32, 0, 128, 0, 512, 2047, 0, 0, 8192, 0, 32768, 0, 131072, 0, 524288, 0, 2097152, 6291456, 14684159, 31461375, 65015807, 134217727, 268435455, 536870911]
theorem Sam.tab19 : rtab .any (opsOf Tryz.f7 19) = Sam.T19 := by kernel_rfl
theorem Sam.bits19 : waitsOk Sam.T19.2 Sam.B19 = true := by kernel_rfl
set_option maxRecDepth 100000 in
set_option maxHeartbeats 4000000 in
theorem same6 (W0 : World × Nat) (W : World) (sb rb c : Nat) (st rt : Fs) (F : List (Nat × Obj)) (A B : Int) (u n : ByteArray) (fl : Bool) (s0 s1 : ByteArray) (s2 : Int) (pv rv : Value) (h : Both W0 sb rb c st rt F W) (hc : c < 1000) :
    Calls Tryz.prog 7 #[.pointer (some ⟨sb, 0, none⟩), .pointer (some ⟨rb, 0, none⟩), .agg #[.int .i64 6, .int .i64 A, .int .i64 B, .string u, .string n, .bool fl, .string s0, .string s1, .int .i64 s2, pv, rv]] W (SameOut W0 sb rb (c + 2) (st = rt) (mInsert st u n A fl s0 s1).2 (mInsert rt u n A fl s0 s1).2 F) := by
  have HB := Aside0.mk (h.box (.cells #[.int .i64 6, .int .i64 A, .int .i64 B, .string u, .string n, .bool fl, .string s0, .string s1, .int .i64 s2, pv, rv] 33) (heap_alloc_new W _))
  clear h
  go_enter Tryz.func7, Tryz.ntmps7
  go_wp2_with fail
  generalize W.alloc (.cells #[.int .i64 6, .int .i64 A, .int .i64 B, .string u, .string n, .bool fl, .string s0, .string s1, .int .i64 s2, pv, rv] 33) = w1 at HB ⊢
  generalize W.heap.size = ab at HB ⊢
  obtain ⟨-, x1, -, x3, x4, x5, x6, x7, x8, -, -⟩ := act_cells HB.out
  refine start_ (n := 30) (S := fun w' => w'.cell? ⟨ab, 1, none⟩ = some (.int .i64 A) ∧ w'.cell? ⟨ab, 3, none⟩ = some (.string u) ∧ w'.cell? ⟨ab, 4, none⟩ = some (.string n) ∧ w'.cell? ⟨ab, 5, none⟩ = some (.bool fl) ∧ w'.cell? ⟨ab, 6, none⟩ = some (.string s0) ∧ w'.cell? ⟨ab, 7, none⟩ = some (.string s1) ∧ w'.cell? ⟨ab, 8, none⟩ = some (.int .i64 s2)) (ds := []) #[false, false, false, false, false, false, false, false, false, false, false, false, false, false, false, false, false, false, false, false, false, false, false, false, false, false, false, false, false, false] (by kernel_rfl) rfl rfl ⟨x1, x3, x4, x5, x6, x7, x8⟩ (fun hHeld => ?_)
  refine with_tabW Sam.tab19 Sam.bits19 (fun HT_ HW_ => ?_)
  have HBD := Aside0.mk HB.out.drew
  generalize w1.drew = wd at HBD hHeld ⊢
  refine pure_ (i := 0) (N := some 169) (v := ?_) (a' := ?_) #[true, false, false, false, false, false, false, false, false, false, false, false, false, false, false, false, false, false, false, false, false, false, false, false, false, false, false, false, false, false] rfl rfl (any_of HT_.out (by kernel_rfl)) (fun _ _ _ h => h) (Or.inl ⟨by rfl, ?_⟩) ?_ ?_
  rotate_left
  · intro w'
    go_simp
    with_reducible rfl
  rotate_left
  · simp only [Act.put, List.setIfInBounds_toArray, List.set_cons_zero, List.set_cons_succ, i64_w, i32_w]
    rfl
  refine pure_ (i := 1) (N := some 170) (v := ?_) (a' := ?_) #[true, true, false, false, false, false, false, false, false, false, false, false, false, false, false, false, false, false, false, false, false, false, false, false, false, false, false, false, false, false] rfl rfl (any_of HT_.out (by kernel_rfl)) (fun _ _ _ h => h) (Or.inl ⟨by rfl, ?_⟩) ?_ ?_
  rotate_left
  · intro w'
    go_simp
    with_reducible rfl
  rotate_left
  · simp only [Act.put, List.setIfInBounds_toArray, List.set_cons_zero, List.set_cons_succ, i64_w, i32_w]
    rfl
  refine pure_ (i := 3) (N := some 172) (v := ?_) (a' := ?_) #[true, true, false, true, false, false, false, false, false, false, false, false, false, false, false, false, false, false, false, false, false, false, false, false, false, false, false, false, false, false] rfl rfl (any_of HT_.out (by kernel_rfl)) (fun _ _ _ h => h) (Or.inl ⟨by rfl, ?_⟩) ?_ ?_
  rotate_left
  · intro w'
    go_simp
    with_reducible rfl
  rotate_left
  · simp only [Act.put, List.setIfInBounds_toArray, List.set_cons_zero, List.set_cons_succ, i64_w, i32_w]
    rfl
  refine pure_ (i := 5) (N := some 174) (v := ?_) (a' := ?_) #[true, true, false, true, false, true, false, false, false, false, false, false, false, false, false, false, false, false, false, false, false, false, false, false, false, false, false, false, false, false] rfl rfl (any_of HT_.out (by kernel_rfl)) (fun _ _ _ h => h) (Or.inl ⟨by rfl, ?_⟩) ?_ ?_
  rotate_left
  · intro w'
    go_simp
    with_reducible rfl
  rotate_left
  · simp only [Act.put, List.setIfInBounds_toArray, List.set_cons_zero, List.set_cons_succ, i64_w, i32_w]
    rfl
  refine pure_ (i := 7) (N := some 176) (v := ?_) (a' := ?_) #[true, true, false, true, false, true, false, true, false, false, false, false, false, false, false, false, false, false, false, false, false, false, false, false, false, false, false, false, false, false] rfl rfl (any_of HT_.out (by kernel_rfl)) (fun _ _ _ h => h) (Or.inl ⟨by rfl, ?_⟩) ?_ ?_
  rotate_left
  · intro w'
    go_simp
    with_reducible rfl
  rotate_left
  · simp only [Act.put, List.setIfInBounds_toArray, List.set_cons_zero, List.set_cons_succ, i64_w, i32_w]
    rfl
  refine pure_ (i := 9) (N := some 178) (v := ?_) (a' := ?_) #[true, true, false, true, false, true, false, true, false, true, false, false, false, false, false, false, false, false, false, false, false, false, false, false, false, false, false, false, false, false] rfl rfl (any_of HT_.out (by kernel_rfl)) (fun _ _ _ h => h) (Or.inl ⟨by rfl, ?_⟩) ?_ ?_
  rotate_left
  · intro w'
    go_simp
    with_reducible rfl
  rotate_left
  · simp only [Act.put, List.setIfInBounds_toArray, List.set_cons_zero, List.set_cons_succ, i64_w, i32_w]
    rfl
  refine pure_ (i := 12) (N := some 181) (v := ?_) (a' := ?_) #[true, true, false, true, false, true, false, true, false, true, false, false, true, false, false, false, false, false, false, false, false, false, false, false, false, false, false, false, false, false] rfl rfl (any_of HT_.out (by kernel_rfl)) (fun _ _ _ h => h) (Or.inl ⟨by rfl, ?_⟩) ?_ ?_
  rotate_left
  · intro w'
    go_simp
    with_reducible rfl
  rotate_left
  · simp only [Act.put, List.setIfInBounds_toArray, List.set_cons_zero, List.set_cons_succ, i64_w, i32_w]
    rfl
  refine pure_ (i := 13) (N := some 182) (v := ?_) (a' := ?_) #[true, true, false, true, false, true, false, true, false, true, false, false, true, true, false, false, false, false, false, false, false, false, false, false, false, false, false, false, false, false] rfl rfl (any_of HT_.out (by kernel_rfl)) (fun _ _ _ h => h) (Or.inl ⟨by rfl, ?_⟩) ?_ ?_
  rotate_left
  · intro w'
    go_simp
    with_reducible rfl
  rotate_left
  · simp only [Act.put, List.setIfInBounds_toArray, List.set_cons_zero, List.set_cons_succ, i64_w, i32_w]
    rfl
  refine pure_ (i := 15) (N := some 184) (v := ?_) (a' := ?_) #[true, true, false, true, false, true, false, true, false, true, false, false, true, true, false, true, false, false, false, false, false, false, false, false, false, false, false, false, false, false] rfl rfl (any_of HT_.out (by kernel_rfl)) (fun _ _ _ h => h) (Or.inl ⟨by rfl, ?_⟩) ?_ ?_
  rotate_left
  · intro w'
    go_simp
    with_reducible rfl
  rotate_left
  · simp only [Act.put, List.setIfInBounds_toArray, List.set_cons_zero, List.set_cons_succ, i64_w, i32_w]
    rfl
  refine pure_ (i := 17) (N := some 186) (v := ?_) (a' := ?_) #[true, true, false, true, false, true, false, true, false, true, false, false, true, true, false, true, false, true, false, false, false, false, false, false, false, false, false, false, false, false] rfl rfl (any_of HT_.out (by kernel_rfl)) (fun _ _ _ h => h) (Or.inl ⟨by rfl, ?_⟩) ?_ ?_
  rotate_left
  · intro w'
    go_simp
    with_reducible rfl
  rotate_left
  · simp only [Act.put, List.setIfInBounds_toArray, List.set_cons_zero, List.set_cons_succ, i64_w, i32_w]
    rfl
  refine pure_ (i := 19) (N := some 188) (v := ?_) (a' := ?_) #[true, true, false, true, false, true, false, true, false, true, false, false, true, true, false, true, false, true, false, true, false, false, false, false, false, false, false, false, false, false] rfl rfl (any_of HT_.out (by kernel_rfl)) (fun _ _ _ h => h) (Or.inl ⟨by rfl, ?_⟩) ?_ ?_
  rotate_left
  · intro w'
    go_simp
    with_reducible rfl
  rotate_left
  · simp only [Act.put, List.setIfInBounds_toArray, List.set_cons_zero, List.set_cons_succ, i64_w, i32_w]
    rfl
  refine pure_ (i := 21) (N := some 190) (v := ?_) (a' := ?_) #[true, true, false, true, false, true, false, true, false, true, false, false, true, true, false, true, false, true, false, true, false, true, false, false, false, false, false, false, false, false] rfl rfl (any_of HT_.out (by kernel_rfl)) (fun _ _ _ h => h) (Or.inl ⟨by rfl, ?_⟩) ?_ ?_
  rotate_left
  · intro w'
    go_simp
    with_reducible rfl
  rotate_left
  · simp only [Act.put, List.setIfInBounds_toArray, List.set_cons_zero, List.set_cons_succ, i64_w, i32_w]
    rfl
  refine take_ (i := 2) (N := some 171) (v := ?_) (a' := ?_) #[true, true, true, true, false, true, false, true, false, true, false, false, true, true, false, true, false, true, false, true, false, true, false, false, false, false, false, false, false, false] rfl rfl (take_ofW HT_.out HW_.out (by kernel_rfl)) (fun _ _ _ h => h) (Or.inl ⟨by rfl, ?_⟩) hHeld ?_ ?_
  rotate_left
  · rintro w' ⟨s0, s1, s2, s3, s4, s5, s6⟩
    go_simp
    with_reducible rfl
  rotate_left
  · simp only [Act.put, List.setIfInBounds_toArray, List.set_cons_zero, List.set_cons_succ, i64_w, i32_w]
    rfl
  refine take_ (i := 4) (N := some 173) (v := ?_) (a' := ?_) #[true, true, true, true, true, true, false, true, false, true, false, false, true, true, false, true, false, true, false, true, false, true, false, false, false, false, false, false, false, false] rfl rfl (take_ofW HT_.out HW_.out (by kernel_rfl)) (fun _ _ _ h => h) (Or.inl ⟨by rfl, ?_⟩) hHeld ?_ ?_
  rotate_left
  · rintro w' ⟨s0, s1, s2, s3, s4, s5, s6⟩
    go_simp
    with_reducible rfl
  rotate_left
  · simp only [Act.put, List.setIfInBounds_toArray, List.set_cons_zero, List.set_cons_succ, i64_w, i32_w]
    rfl
  refine take_ (i := 6) (N := some 175) (v := ?_) (a' := ?_) #[true, true, true, true, true, true, true, true, false, true, false, false, true, true, false, true, false, true, false, true, false, true, false, false, false, false, false, false, false, false] rfl rfl (take_ofW HT_.out HW_.out (by kernel_rfl)) (fun _ _ _ h => h) (Or.inl ⟨by rfl, ?_⟩) hHeld ?_ ?_
  rotate_left
  · rintro w' ⟨s0, s1, s2, s3, s4, s5, s6⟩
    go_simp
    with_reducible rfl
  rotate_left
  · simp only [Act.put, List.setIfInBounds_toArray, List.set_cons_zero, List.set_cons_succ, i64_w, i32_w]
    rfl
  refine take_ (i := 8) (N := some 177) (v := ?_) (a' := ?_) #[true, true, true, true, true, true, true, true, true, true, false, false, true, true, false, true, false, true, false, true, false, true, false, false, false, false, false, false, false, false] rfl rfl (take_ofW HT_.out HW_.out (by kernel_rfl)) (fun _ _ _ h => h) (Or.inl ⟨by rfl, ?_⟩) hHeld ?_ ?_
  rotate_left
  · rintro w' ⟨s0, s1, s2, s3, s4, s5, s6⟩
    go_simp
    with_reducible rfl
  rotate_left
  · simp only [Act.put, List.setIfInBounds_toArray, List.set_cons_zero, List.set_cons_succ, i64_w, i32_w]
    rfl
  refine take_ (i := 10) (N := some 179) (v := ?_) (a' := ?_) #[true, true, true, true, true, true, true, true, true, true, true, false, true, true, false, true, false, true, false, true, false, true, false, false, false, false, false, false, false, false] rfl rfl (take_ofW HT_.out HW_.out (by kernel_rfl)) (fun _ _ _ h => h) (Or.inl ⟨by rfl, ?_⟩) hHeld ?_ ?_
  rotate_left
  · rintro w' ⟨s0, s1, s2, s3, s4, s5, s6⟩
    go_simp
    with_reducible rfl
  rotate_left
  · simp only [Act.put, List.setIfInBounds_toArray, List.set_cons_zero, List.set_cons_succ, i64_w, i32_w]
    rfl
  refine take_ (i := 14) (N := some 183) (v := ?_) (a' := ?_) #[true, true, true, true, true, true, true, true, true, true, true, false, true, true, true, true, false, true, false, true, false, true, false, false, false, false, false, false, false, false] rfl rfl (take_ofW HT_.out HW_.out (by kernel_rfl)) (fun _ _ _ h => h) (Or.inl ⟨by rfl, ?_⟩) hHeld ?_ ?_
  rotate_left
  · rintro w' ⟨s0, s1, s2, s3, s4, s5, s6⟩
    go_simp
    with_reducible rfl
  rotate_left
  · simp only [Act.put, List.setIfInBounds_toArray, List.set_cons_zero, List.set_cons_succ, i64_w, i32_w]
    rfl
  refine take_ (i := 16) (N := some 185) (v := ?_) (a' := ?_) #[true, true, true, true, true, true, true, true, true, true, true, false, true, true, true, true, true, true, false, true, false, true, false, false, false, false, false, false, false, false] rfl rfl (take_ofW HT_.out HW_.out (by kernel_rfl)) (fun _ _ _ h => h) (Or.inl ⟨by rfl, ?_⟩) hHeld ?_ ?_
  rotate_left
  · rintro w' ⟨s0, s1, s2, s3, s4, s5, s6⟩
    go_simp
    with_reducible rfl
  rotate_left
  · simp only [Act.put, List.setIfInBounds_toArray, List.set_cons_zero, List.set_cons_succ, i64_w, i32_w]
    rfl
  refine take_ (i := 18) (N := some 187) (v := ?_) (a' := ?_) #[true, true, true, true, true, true, true, true, true, true, true, false, true, true, true, true, true, true, true, true, false, true, false, false, false, false, false, false, false, false] rfl rfl (take_ofW HT_.out HW_.out (by kernel_rfl)) (fun _ _ _ h => h) (Or.inl ⟨by rfl, ?_⟩) hHeld ?_ ?_
  rotate_left
  · rintro w' ⟨s0, s1, s2, s3, s4, s5, s6⟩
    go_simp
    with_reducible rfl
  rotate_left
  · simp only [Act.put, List.setIfInBounds_toArray, List.set_cons_zero, List.set_cons_succ, i64_w, i32_w]
    rfl
  refine take_ (i := 20) (N := some 189) (v := ?_) (a' := ?_) #[true, true, true, true, true, true, true, true, true, true, true, false, true, true, true, true, true, true, true, true, true, true, false, false, false, false, false, false, false, false] rfl rfl (take_ofW HT_.out HW_.out (by kernel_rfl)) (fun _ _ _ h => h) (Or.inl ⟨by rfl, ?_⟩) hHeld ?_ ?_
  rotate_left
  · rintro w' ⟨s0, s1, s2, s3, s4, s5, s6⟩
    go_simp
    with_reducible rfl
  rotate_left
  · simp only [Act.put, List.setIfInBounds_toArray, List.set_cons_zero, List.set_cons_succ, i64_w, i32_w]
    rfl
  refine take_ (i := 22) (N := some 191) (v := ?_) (a' := ?_) #[true, true, true, true, true, true, true, true, true, true, true, false, true, true, true, true, true, true, true, true, true, true, true, false, false, false, false, false, false, false] rfl rfl (take_ofW HT_.out HW_.out (by kernel_rfl)) (fun _ _ _ h => h) (Or.inl ⟨by rfl, ?_⟩) hHeld ?_ ?_
  rotate_left
  · rintro w' ⟨s0, s1, s2, s3, s4, s5, s6⟩
    go_simp
    with_reducible rfl
  rotate_left
  · simp only [Act.put, List.setIfInBounds_toArray, List.set_cons_zero, List.set_cons_succ, i64_w, i32_w]
    rfl
  refine join_ (σ := Nat) 6 #[true, true, true, true, true, true, true, true, true, true, true, true, true, true, true, true, true, true, true, true, true, true, true, true, false, false, false, false, false, false] (fun s => [(180, .int .i64 (mInsert st u n A fl s0 s1).1), (192, .slice (some ⟨s, 0, none⟩) 1 1)]) (fun s w' => Both W0 sb rb c (mInsert st u n A fl s0 s1).2 rt ((ab, .cells #[.int .i64 6, .int .i64 A, .int .i64 B, .string u, .string n, .bool fl, .string s0, .string s1, .int .i64 s2, pv, rv] 33) :: F) w' ∧ w'.heap[s]? = some (.cells #[.string s0, .string s1, .int .i64 s2] 29)) ?_ ?_
  rotate_left
  · intro hCont
    refine two_ (i := 11) (j := 23) (Ni := some 180) (Nj := some 192) #[true, true, true, true, true, true, true, true, true, true, true, true, true, true, true, true, true, true, true, true, true, true, true, false, false, false, false, false, false, false] #[true, true, true, true, true, true, true, true, true, true, true, false, true, true, true, true, true, true, true, true, true, true, true, true, false, false, false, false, false, false] rfl rfl rfl rfl (two_of HT_.out (by kernel_rfl)) (by decide) (by decide) (fun K hK => ?_) (fun K hK => ?_)
    · skip
      refine goes_ Tryz.func30 (by kernel_rfl) rfl #[.pointer (some ⟨sb, 0, none⟩), .string u, .string n, .int .i64 A, .bool fl, .agg #[.string s0, .string s1, .int .i64 s2]] (by rfl) rfl rfl (by (try simp only [List.map_toArray, List.map_cons, List.map_nil]); first | done | rfl | (simp only []; rfl)) ?_
      with_reducible refine (HBD.out.pInsert u n A fl s0 s1 s2).mono ?_
      rintro e w5 ⟨rfl, h5, -⟩
      have HB5 := Aside0.mk h5
      clear h5
      refine ⟨_, rfl, ?_⟩
      refine hK.out _ _ ⟨(act_cells HB5.out).2.1, (act_cells HB5.out).2.2.2.1, (act_cells HB5.out).2.2.2.2.1, (act_cells HB5.out).2.2.2.2.2.1, (act_cells HB5.out).2.2.2.2.2.2.1, (act_cells HB5.out).2.2.2.2.2.2.2.1, (act_cells HB5.out).2.2.2.2.2.2.2.2.1⟩ (fun hHeld => ?_)
      clear hK K
      refine norm_ (a' := ?_) ?_ ?_
      rotate_left
      · show Act.put _ (some 180) _ = _
        simp only [Act.put, List.setIfInBounds_toArray, List.set_cons_zero, List.set_cons_succ, i64_w, i32_w]
        rfl
      refine one_ (i := 23) (N := some 192) #[true, true, true, true, true, true, true, true, true, true, true, true, true, true, true, true, true, true, true, true, true, true, true, true, false, false, false, false, false, false] rfl rfl (one_of HT_.out (by kernel_rfl)) (by decide) (fun K hK => ?_)
      refine value_ (w1 := w5.alloc (.cells #[.string s0, .string s1, .int .i64 s2] 29)) (v := .slice (some ⟨w5.heap.size, 0, none⟩) 1 1) (by rfl) rfl ?_ ?_
      · go_simp
      have HV6 := Aside0.mk (heap_alloc_new w5 (.cells #[.string s0, .string s1, .int .i64 s2] 29))
      have HB6 := Aside0.mk (HB5.out.below ((Below.refl w5.heap.size w5).alloc (Nat.le_refl _) (.cells #[.string s0, .string s1, .int .i64 s2] 29)))
      generalize w5.alloc (.cells #[.string s0, .string s1, .int .i64 s2] 29) = w6 at HV6 HB6 ⊢
      refine hK.out _ _ ⟨(act_cells HB6.out).2.1, (act_cells HB6.out).2.2.2.1, (act_cells HB6.out).2.2.2.2.1, (act_cells HB6.out).2.2.2.2.2.1, (act_cells HB6.out).2.2.2.2.2.2.1, (act_cells HB6.out).2.2.2.2.2.2.2.1, (act_cells HB6.out).2.2.2.2.2.2.2.2.1⟩ (fun hHeld => ?_)
      clear hK K
      refine norm_ (a' := ?_) ?_ ?_
      rotate_left
      · show Act.put _ (some 192) _ = _
        simp only [Act.put, List.setIfInBounds_toArray, List.set_cons_zero, List.set_cons_succ, i64_w, i32_w]
        rfl
      exact norm_ (by simp only [putAll, Act.put, List.setIfInBounds_toArray, List.set_cons_zero, List.set_cons_succ]) (hCont w5.heap.size _ ⟨HB6.out, HV6.out⟩)
    · skip
      refine value_ (w1 := wd.alloc (.cells #[.string s0, .string s1, .int .i64 s2] 29)) (v := .slice (some ⟨wd.heap.size, 0, none⟩) 1 1) (by rfl) rfl ?_ ?_
      · go_simp
      have HBX := Aside0.mk (HBD.out.box (.cells #[.string s0, .string s1, .int .i64 s2] 29) (heap_alloc_new wd _))
      generalize wd.alloc (.cells #[.string s0, .string s1, .int .i64 s2] 29) = w4 at HBX ⊢
      refine hK.out _ _ ⟨(act_cells HBX.out.drop).2.1, (act_cells HBX.out.drop).2.2.2.1, (act_cells HBX.out.drop).2.2.2.2.1, (act_cells HBX.out.drop).2.2.2.2.2.1, (act_cells HBX.out.drop).2.2.2.2.2.2.1, (act_cells HBX.out.drop).2.2.2.2.2.2.2.1, (act_cells HBX.out.drop).2.2.2.2.2.2.2.2.1⟩ (fun hHeld => ?_)
      clear hK K
      refine norm_ (a' := ?_) ?_ ?_
      rotate_left
      · show Act.put _ (some 192) _ = _
        simp only [Act.put, List.setIfInBounds_toArray, List.set_cons_zero, List.set_cons_succ, i64_w, i32_w]
        rfl
      refine one_ (i := 11) (N := some 180) #[true, true, true, true, true, true, true, true, true, true, true, true, true, true, true, true, true, true, true, true, true, true, true, true, false, false, false, false, false, false] rfl rfl (one_of HT_.out (by kernel_rfl)) (by decide) (fun K hK => ?_)
      refine goes_ Tryz.func30 (by kernel_rfl) rfl #[.pointer (some ⟨sb, 0, none⟩), .string u, .string n, .int .i64 A, .bool fl, .agg #[.string s0, .string s1, .int .i64 s2]] (by rfl) rfl rfl (by (try simp only [List.map_toArray, List.map_cons, List.map_nil]); first | done | rfl | (simp only []; rfl)) ?_
      with_reducible refine (HBX.out.pInsert u n A fl s0 s1 s2).mono ?_
      rintro e w5 ⟨rfl, h5, -⟩
      have HB5 := Aside0.mk h5.drop
      have HV5 := Aside0.mk (h5.at_ _ List.mem_cons_self)
      clear h5
      refine ⟨_, rfl, ?_⟩
      refine hK.out _ _ ⟨(act_cells HB5.out).2.1, (act_cells HB5.out).2.2.2.1, (act_cells HB5.out).2.2.2.2.1, (act_cells HB5.out).2.2.2.2.2.1, (act_cells HB5.out).2.2.2.2.2.2.1, (act_cells HB5.out).2.2.2.2.2.2.2.1, (act_cells HB5.out).2.2.2.2.2.2.2.2.1⟩ (fun hHeld => ?_)
      clear hK K
      refine norm_ (a' := ?_) ?_ ?_
      rotate_left
      · show Act.put _ (some 180) _ = _
        simp only [Act.put, List.setIfInBounds_toArray, List.set_cons_zero, List.set_cons_succ, i64_w, i32_w]
        rfl
      exact norm_ (by simp only [putAll, Act.put, List.setIfInBounds_toArray, List.set_cons_zero, List.set_cons_succ]) (hCont wd.heap.size _ ⟨HB5.out, HV5.out⟩)
  rintro s w5 ⟨h5, hv5⟩
  have HB5 := Aside0.mk h5
  have HV5 := Aside0.mk hv5
  have hHeld : w5.cell? ⟨ab, 1, none⟩ = some (.int .i64 A) ∧ w5.cell? ⟨ab, 3, none⟩ = some (.string u) ∧ w5.cell? ⟨ab, 4, none⟩ = some (.string n) ∧ w5.cell? ⟨ab, 5, none⟩ = some (.bool fl) ∧ w5.cell? ⟨ab, 6, none⟩ = some (.string s0) ∧ w5.cell? ⟨ab, 7, none⟩ = some (.string s1) ∧ w5.cell? ⟨ab, 8, none⟩ = some (.int .i64 s2) := ⟨(act_cells h5).2.1, (act_cells h5).2.2.2.1, (act_cells h5).2.2.2.2.1, (act_cells h5).2.2.2.2.2.1, (act_cells h5).2.2.2.2.2.2.1, (act_cells h5).2.2.2.2.2.2.2.1, (act_cells h5).2.2.2.2.2.2.2.2.1⟩
  clear h5 hv5
  refine norm_ (a' := ?_) ?_ ?_
  rotate_left
  · simp only [putAll, Act.put, List.setIfInBounds_toArray, List.set_cons_zero, List.set_cons_succ]
    rfl
  refine one_ (i := 24) (N := some 193) #[true, true, true, true, true, true, true, true, true, true, true, true, true, true, true, true, true, true, true, true, true, true, true, true, true, false, false, false, false, false] rfl rfl (one_of HT_.out (by kernel_rfl)) (by decide) (fun K hK => ?_)
  refine goes_ Tryz.func29 (by kernel_rfl) rfl #[.slice (some ⟨s, 0, none⟩) 1 1] (by rfl) rfl rfl (by (try simp only [List.map_toArray, List.map_cons, List.map_nil]); first | done | rfl | (simp only []; rfl)) ?_
  with_reducible refine (To_one HV5.out (Nat.le_refl 1)).mono ?_
  rintro e w7 ⟨ad, c7, rfl, q0, q1, q2, hb7⟩
  have HB7 := Aside0.mk (HB5.out.below hb7)
  clear hb7
  refine ⟨_, rfl, ?_⟩
  refine hK.out _ _ ⟨(act_cells HB7.out).2.1, (act_cells HB7.out).2.2.2.1, (act_cells HB7.out).2.2.2.2.1, (act_cells HB7.out).2.2.2.2.2.1, (act_cells HB7.out).2.2.2.2.2.2.1, (act_cells HB7.out).2.2.2.2.2.2.2.1, (act_cells HB7.out).2.2.2.2.2.2.2.2.1⟩ (fun hHeld => ?_)
  clear hK K
  refine norm_ (a' := ?_) ?_ ?_
  rotate_left
  · show Act.put _ (some 193) _ = _
    simp only [Act.put, List.setIfInBounds_toArray, List.set_cons_zero, List.set_cons_succ, i64_w, i32_w]
    rfl
  refine pure_ (i := 25) (N := some 194) (v := ?_) (a' := ?_) #[true, true, true, true, true, true, true, true, true, true, true, true, true, true, true, true, true, true, true, true, true, true, true, true, true, true, false, false, false, false] rfl rfl (any_of HT_.out (by kernel_rfl)) (fun _ _ _ h => h) (Or.inl ⟨by rfl, ?_⟩) ?_ ?_
  rotate_left
  · intro w'
    go_simp
    with_reducible rfl
  rotate_left
  · simp only [Act.put, List.setIfInBounds_toArray, List.set_cons_zero, List.set_cons_succ, i64_w, i32_w]
    rfl
  refine one_ (i := 26) (N := some 195) #[true, true, true, true, true, true, true, true, true, true, true, true, true, true, true, true, true, true, true, true, true, true, true, true, true, true, true, false, false, false] rfl rfl (one_of HT_.out (by kernel_rfl)) (by decide) (fun K hK => ?_)
  refine value_ (w1 := ?_) (v := ?_) (by rfl) rfl ?_ ?_
  rotate_left 2
  · go_simp
    constructor
    · rfl
    · rfl
  refine hK.out _ _ ⟨hHeld.1, hHeld.2.1, hHeld.2.2.1, hHeld.2.2.2.1, hHeld.2.2.2.2.1, hHeld.2.2.2.2.2.1, hHeld.2.2.2.2.2.2⟩ (fun hHeld => ?_)
  clear hK K
  refine norm_ (a' := ?_) ?_ ?_
  rotate_left
  · show Act.put _ (some 195) _ = _
    simp only [Act.put, List.setIfInBounds_toArray, List.set_cons_zero, List.set_cons_succ, i64_w, i32_w]
    rfl
  refine one_ (i := 27) (N := some 196) #[true, true, true, true, true, true, true, true, true, true, true, true, true, true, true, true, true, true, true, true, true, true, true, true, true, true, true, true, false, false] rfl rfl (one_of HT_.out (by kernel_rfl)) (by decide) (fun K hK => ?_)
  refine goes_ Tryz.func31 (by kernel_rfl) rfl #[.pointer (some ⟨rb, 0, none⟩), .string u, .string n, .int .i64 A, .bool fl, .agg #[.string s0, .string s1, .int .i64 s2]] (by rfl) rfl rfl (by (try simp only [List.map_toArray, List.map_cons, List.map_nil]); first | done | rfl | (simp only []; rfl)) ?_
  with_reducible refine (HB7.out.rInsert (by omega) u n A fl s0 s1 s2).mono ?_
  rintro e w8 ⟨rfl, h8, -⟩
  have HB8 := Aside0.mk h8
  clear h8
  refine ⟨_, rfl, ?_⟩
  refine hK.out _ _ ⟨(act_cells HB8.out).2.1, (act_cells HB8.out).2.2.2.1, (act_cells HB8.out).2.2.2.2.1, (act_cells HB8.out).2.2.2.2.2.1, (act_cells HB8.out).2.2.2.2.2.2.1, (act_cells HB8.out).2.2.2.2.2.2.2.1, (act_cells HB8.out).2.2.2.2.2.2.2.2.1⟩ (fun hHeld => ?_)
  clear hK K
  refine norm_ (a' := ?_) ?_ ?_
  rotate_left
  · show Act.put _ (some 196) _ = _
    simp only [Act.put, List.setIfInBounds_toArray, List.set_cons_zero, List.set_cons_succ, i64_w, i32_w]
    rfl
  refine pure_ (i := 28) (N := some 197) (v := ?_) (a' := ?_) #[true, true, true, true, true, true, true, true, true, true, true, true, true, true, true, true, true, true, true, true, true, true, true, true, true, true, true, true, true, false] rfl rfl (any_of HT_.out (by kernel_rfl)) (fun _ _ _ h => h) (Or.inl ⟨by rfl, ?_⟩) ?_ ?_
  rotate_left
  · intro w'
    go_simp
    with_reducible rfl
  rotate_left
  · simp only [Act.put, List.setIfInBounds_toArray, List.set_cons_zero, List.set_cons_succ, i64_w, i32_w]
    rfl
  refine pure_ (i := 29) (N := some 6) (v := ?_) (a' := ?_) #[true, true, true, true, true, true, true, true, true, true, true, true, true, true, true, true, true, true, true, true, true, true, true, true, true, true, true, true, true, true] rfl rfl (any_of HT_.out (by kernel_rfl)) (fun _ _ _ h => h) (Or.inl ⟨by rfl, ?_⟩) ?_ ?_
  rotate_left
  · intro w'
    go_simp
    with_reducible rfl
  rotate_left
  · simp only [Act.put, List.setIfInBounds_toArray, List.set_cons_zero, List.set_cons_succ, i64_w, i32_w]
    rfl
  refine done_ (done_of HT_.out (by kernel_rfl)) ?_
  go_wp2
  refine bodyPost_ret (v := .bool ((mInsert st u n A fl s0 s1).1 == (mInsert rt u n A fl s0 s1).1)) (by simp [results, Tryz.f7, go_sem]) rfl ?_
  exact ⟨_, rfl, fun e => by rw [e]; simp, HB8.out.drop.mono (by omega)⟩
theorem field71 (s0 s3 s4 : ByteArray) (n1 n2 n5 n6 : Int) (A : Option Addr) (l c : Nat) (w : World) : Sem.run Tryz.prog (Instr.field 71 (.agg #[.string s0, .int .i64 n1, .int .i64 n2, .string s3, .string s4, .int .i64 n5, .int .i64 n6, .slice A l c]) 7) w = .ok (.slice A l c) w := by
  simp [Instr.field, asAgg, go_sem]
attribute [local go_sem] field71
theorem info_e (A : Option Addr) (c : Nat) (l : List S100) (W : World) (hr : Kd.C k100 W A l.length l) (hc : l.length ≤ c) (hl : l.length ≤ 5864062014805) :
    Calls Tryz.prog 41 #[.agg #[.string ⟨#[]⟩, .int .i64 0, .int .i64 0, .string ⟨#[]⟩, .string ⟨#[]⟩, .int .i64 0, .int .i64 0, .slice A l.length c]] W fun e w' => ∃ A' c', e = .returned (.agg #[.string ⟨#[]⟩, .int .i64 0, .int .i64 0, .string ⟨#[]⟩, .string ⟨#[]⟩, .int .i64 0, .int .i64 0, .slice A' l.length c']) ∧ Kd.R k129 129 w' W.heap.size (fun _ => True) (.slice A' l.length c') (l.map toRu) ∧ Below W.heap.size W w' := by
  refine (info_c noFS A c l W hr hc hl).mono ?_
  rintro e w' ⟨v, rfl, h1, h2⟩
  obtain ⟨A', c', hv⟩ := Kd.R_slice h1
  rw [List.length_map] at hv
  subst hv
  exact ⟨A', c', rfl, h1, h2⟩
theorem cells8 {w : World} {b t : Nat} {c0 c1 c2 c3 c4 c5 c6 c7 : Value} (h : w.heap[b]? = some (.cells #[c0, c1, c2, c3, c4, c5, c6, c7] t (0, 0))) : w.cell? ⟨b, 0, none⟩ = some c0 ∧ w.cell? ⟨b, 1, none⟩ = some c1 ∧ w.cell? ⟨b, 2, none⟩ = some c2 ∧ w.cell? ⟨b, 3, none⟩ = some c3 ∧ w.cell? ⟨b, 4, none⟩ = some c4 ∧ w.cell? ⟨b, 5, none⟩ = some c5 ∧ w.cell? ⟨b, 6, none⟩ = some c6 ∧ w.cell? ⟨b, 7, none⟩ = some c7 := ⟨blk_cell h 0, blk_cell h 1, blk_cell h 2, blk_cell h 3, blk_cell h 4, blk_cell h 5, blk_cell h 6, blk_cell h 7⟩
set_option maxRecDepth 100000 in
set_option maxHeartbeats 4000000 in
theorem same11 (W0 : World × Nat) (W : World) (sb rb c : Nat) (st rt : Fs) (F : List (Nat × Obj)) (A B : Int) (u n : ByteArray) (fl : Bool) (s0 s1 : ByteArray) (s2 : Int) (pv : Value) (Ar : Option Addr) (cr : Nat) (ru : List S100) (hr : Kd.C k100 W0.1 Ar ru.length ru) (hcr : ru.length ≤ cr) (hru : ru.length ≤ 5864062014805) (h : Both W0 sb rb c st rt F W) (hc : c < 1000) :
    Calls Tryz.prog 7 #[.pointer (some ⟨sb, 0, none⟩), .pointer (some ⟨rb, 0, none⟩), .agg #[.int .i64 11, .int .i64 A, .int .i64 B, .string u, .string n, .bool fl, .string s0, .string s1, .int .i64 s2, pv, .slice Ar ru.length cr]] W (SameOut W0 sb rb (c + 2) (st = rt) (mChange st u n B ru).2 (mChange rt u n B ru).2 F) := by
  have HRU := Aside0.mk (fun X (hb : Below W0.1.heap.size W0.1 X) => Kd.C_below hr hb)
  clear hr
  have hu71 := Tryz.underlying71
  have hu129 := Tryz.underlying129
  have HCR := Aside0.mk hcr
  have HLR := Aside0.mk hru
  have HB := Aside0.mk (h.box (.cells #[.int .i64 11, .int .i64 A, .int .i64 B, .string u, .string n, .bool fl, .string s0, .string s1, .int .i64 s2, pv, .slice Ar ru.length cr] 33) (heap_alloc_new W _))
  have HB2 := Aside0.mk (HB.out.box (.cells #[.string ⟨#[]⟩, .int .i64 0, .int .i64 0, .string ⟨#[]⟩, .string ⟨#[]⟩, .int .i64 0, .int .i64 0, .slice Ar ru.length cr] 66) (heap_alloc_new _ _))
  simp only [World.size_alloc] at HB2
  clear h HB hcr hru
  go_enter Tryz.func7, Tryz.ntmps7
  go_wp2_with fail
  generalize (W.alloc (.cells #[.int .i64 11, .int .i64 A, .int .i64 B, .string u, .string n, .bool fl, .string s0, .string s1, .int .i64 s2, pv, .slice Ar ru.length cr] 33)).alloc (.cells #[.string ⟨#[]⟩, .int .i64 0, .int .i64 0, .string ⟨#[]⟩, .string ⟨#[]⟩, .int .i64 0, .int .i64 0, .slice Ar ru.length cr] 66) = w2 at HB2 ⊢
  generalize W.heap.size = ab at HB2 ⊢
  obtain ⟨-, -, y2, y3, y4, -, -, -, -, -, y10⟩ := act_at (HB2.out.at_ _ (List.mem_cons_of_mem _ List.mem_cons_self))
  obtain ⟨z0, z1, z2, z3, z4, z5, z6, z7⟩ := cells8 (HB2.out.at_ _ List.mem_cons_self)
  go_region_held3 (fun w' => (w'.cell? ⟨ab, 2, none⟩ = some (.int .i64 B) ∧ w'.cell? ⟨ab, 3, none⟩ = some (.string u) ∧ w'.cell? ⟨ab, 4, none⟩ = some (.string n) ∧ w'.cell? ⟨ab, 10, none⟩ = some (.slice Ar ru.length cr)) ∧ w'.cell? ⟨ab + 1, 0, none⟩ = some (.string ⟨#[]⟩) ∧ w'.cell? ⟨ab + 1, 1, none⟩ = some (.int .i64 0) ∧ w'.cell? ⟨ab + 1, 2, none⟩ = some (.int .i64 0) ∧ w'.cell? ⟨ab + 1, 3, none⟩ = some (.string ⟨#[]⟩) ∧ w'.cell? ⟨ab + 1, 4, none⟩ = some (.string ⟨#[]⟩) ∧ w'.cell? ⟨ab + 1, 5, none⟩ = some (.int .i64 0) ∧ w'.cell? ⟨ab + 1, 6, none⟩ = some (.int .i64 0) ∧ w'.cell? ⟨ab + 1, 7, none⟩ = some (.slice Ar ru.length cr)) (go_keep)
    (first
      | (go_at_call 42; (with_reducible refine (HB2.out.drew.pChange u n B Ar cr ru (HRU.out _ HB2.out.drew.low) HCR.out).mono ?_); rintro e w5 ⟨rfl, h5, -⟩; have HB5 := Aside0.mk h5; obtain ⟨-, -, p2, p3, p4, -, -, -, -, -, p10⟩ := act_at (h5.at_ _ (List.mem_cons_of_mem _ List.mem_cons_self)); obtain ⟨q0, q1, q2, q3, q4, q5, q6, q7⟩ := cells8 (h5.at_ _ List.mem_cons_self); clear h5)
      | (go_at_call 41; (with_reducible refine (info_e Ar cr ru w5 (HRU.out _ HB5.out.low) HCR.out HLR.out).mono ?_); rintro e w6 ⟨A6, c6, rfl, hr6, hb6⟩; have HB6 := Aside0.mk (HB5.out.below hb6); have HR6 := Aside0.mk hr6; have HBB6 := Aside0.mk hb6; obtain ⟨-, -, r2, r3, r4, -, -, -, -, -, r10⟩ := act_at (HB6.out.at_ _ (List.mem_cons_of_mem _ List.mem_cons_self)); obtain ⟨s0, s1, s2, s3, s4, s5, s6, s7⟩ := cells8 (HB6.out.at_ _ List.mem_cons_self); clear hr6 hb6)
      | (go_at_call 43; (with_reducible refine (HB6.out.rChange (by omega) u n B A6 c6 ru _ HR6.out ⟨w5, HB5.out, HBB6.out, rfl⟩).mono ?_); rintro e w7 ⟨rfl, h7, -⟩; have HB7 := Aside0.mk h7; obtain ⟨-, -, t2, t3, t4, -, -, -, -, -, t10⟩ := act_at (h7.at_ _ (List.mem_cons_of_mem _ List.mem_cons_self)); obtain ⟨v0, v1, v2, v3, v4, v5, v6, v7⟩ := cells8 (h7.at_ _ List.mem_cons_self); clear h7))
  all_goals
    go_wp2
    refine bodyPost_ret (v := .bool ((mChange st u n B ru).1 == (mChange rt u n B ru).1)) (by simp [results, Tryz.f7, go_sem]) rfl ?_
    exact ⟨_, rfl, fun e => by rw [e]; simp, HB7.out.drop.drop.mono (by omega)⟩
set_option maxRecDepth 100000 in
set_option maxHeartbeats 4000000 in
theorem same_else (W0 : World × Nat) (W : World) (sb rb c : Nat) (st rt : Fs) (F : List (Nat × Obj)) (A B : Int) (u n : ByteArray) (fl : Bool) (s0 s1 : ByteArray) (s2 : Int) (pv rv : Value) (d : Int) (hd : ∀ i : Nat, i < 12 → d ≠ (i : Int)) (h : Both W0 sb rb c st rt F W) (hc : c < 1000) :
    Calls Tryz.prog 7 #[.pointer (some ⟨sb, 0, none⟩), .pointer (some ⟨rb, 0, none⟩), .agg #[.int .i64 d, .int .i64 A, .int .i64 B, .string u, .string n, .bool fl, .string s0, .string s1, .int .i64 s2, pv, rv]] W (SameOut W0 sb rb (c + 2) (st = rt) st rt F) := by
  have HB := Aside0.mk (h.box (.cells #[.int .i64 d, .int .i64 A, .int .i64 B, .string u, .string n, .bool fl, .string s0, .string s1, .int .i64 s2, pv, rv] 33) (heap_alloc_new W _))
  have t0 : (d == 0) = false := by have := hd 0 (by omega); simpa using this
  have t1 : (d == 1) = false := by have := hd 1 (by omega); simpa using this
  have t2 : (d == 2) = false := by have := hd 2 (by omega); simpa using this
  have t3 : (d == 3) = false := by have := hd 3 (by omega); simpa using this
  have t4 : (d == 4) = false := by have := hd 4 (by omega); simpa using this
  have t5 : (d == 5) = false := by have := hd 5 (by omega); simpa using this
  have t6 : (d == 6) = false := by have := hd 6 (by omega); simpa using this
  have t7 : (d == 7) = false := by have := hd 7 (by omega); simpa using this
  have t8 : (d == 8) = false := by have := hd 8 (by omega); simpa using this
  have t9 : (d == 9) = false := by have := hd 9 (by omega); simpa using this
  have t10 : (d == 10) = false := by have := hd 10 (by omega); simpa using this
  have t11 : (d == 11) = false := by have := hd 11 (by omega); simpa using this
  clear h hd
  go_enter Tryz.func7, Tryz.ntmps7
  go_wp2
  refine bodyPost_ret (v := .bool true) (by simp [results, Tryz.f7, go_sem]) rfl ?_
  exact ⟨_, rfl, fun _ => rfl, HB.out.drop.mono (by omega)⟩
theorem same_c (W0 : World × Nat) (W : World) (sb rb c : Nat) (st rt : Fs) (F : List (Nat × Obj)) (x : S33) (Ap Ar : Option Addr) (cp cr : Nat) (h : Both W0 sb rb c st rt F W) (hc : c < 1000) (hp : Kd.C Kd.string W0.1 Ap x.f7.length x.f7) (hcp : x.f7.length ≤ cp) (hr : Kd.C k100 W0.1 Ar x.f8.length x.f8) (hcr : x.f8.length ≤ cr) (hru : x.f8.length ≤ 5864062014805) :
    Calls Tryz.prog 7 #[.pointer (some ⟨sb, 0, none⟩), .pointer (some ⟨rb, 0, none⟩), .agg (actCells x Ap cp Ar cr).toArray] W (SameOut W0 sb rb (c + 2) (st = rt) (mStep st x) (mStep rt x) F) := by
  obtain ⟨d, A, B, u, n, fl, ⟨s0, s1, s2⟩, pa, ru⟩ := x
  by_cases h0 : d = 0
  · subst h0
    have e1 : ∀ s, mStep s (⟨0, A, B, u, n, fl, ⟨s0, s1, s2⟩, pa, ru⟩ : S33) = (mCreate s u n A B).2 := fun s => by simp [mStep, mDo]
    rw [e1, e1]
    exact same0 W0 W sb rb c st rt F A B u n fl s0 s1 s2 _ _ h hc
  by_cases h1 : d = 1
  · subst h1
    have e1 : ∀ s, mStep s (⟨1, A, B, u, n, fl, ⟨s0, s1, s2⟩, pa, ru⟩ : S33) = (mDelete s u n ).2 := fun s => by simp [mStep, mDo]
    rw [e1, e1]
    exact same1 W0 W sb rb c st rt F A B u n fl s0 s1 s2 _ _ h hc
  by_cases h2 : d = 2
  · subst h2
    have e1 : ∀ s, mStep s (⟨2, A, B, u, n, fl, ⟨s0, s1, s2⟩, pa, ru⟩ : S33) = (mOpen s u n A B).2 := fun s => by simp [mStep, mDo]
    rw [e1, e1]
    exact same2 W0 W sb rb c st rt F A B u n fl s0 s1 s2 _ _ h hc
  by_cases h3 : d = 3
  · subst h3
    have e1 : ∀ s, mStep s (⟨3, A, B, u, n, fl, ⟨s0, s1, s2⟩, pa, ru⟩ : S33) = (mClose s u n ).2 := fun s => by simp [mStep, mDo]
    rw [e1, e1]
    exact same3 W0 W sb rb c st rt F A B u n fl s0 s1 s2 _ _ h hc
  by_cases h4 : d = 4
  · subst h4
    have e1 : ∀ s, mStep s (⟨4, A, B, u, n, fl, ⟨s0, s1, s2⟩, pa, ru⟩ : S33) = s := fun s => by simp [mStep, mDo]
    rw [e1, e1]
    exact same4 W0 W sb rb c st rt F A B u n fl s0 s1 s2 Ap cp pa _ (Kd.C_below hp h.low) hcp h hc
  by_cases h5 : d = 5
  · subst h5
    have e1 : ∀ s, mStep s (⟨5, A, B, u, n, fl, ⟨s0, s1, s2⟩, pa, ru⟩ : S33) = (mRead s u n A fl).2.2 := fun s => by simp [mStep, mDo]
    rw [e1, e1]
    exact same5 W0 W sb rb c st rt F A B u n fl s0 s1 s2 _ _ h hc
  by_cases h6 : d = 6
  · subst h6
    have e1 : ∀ s, mStep s (⟨6, A, B, u, n, fl, ⟨s0, s1, s2⟩, pa, ru⟩ : S33) = (mInsert s u n A fl s0 s1).2 := fun s => by simp [mStep, mDo]
    rw [e1, e1]
    exact same6 W0 W sb rb c st rt F A B u n fl s0 s1 s2 _ _ h hc
  by_cases h7 : d = 7
  · subst h7
    have e1 : ∀ s, mStep s (⟨7, A, B, u, n, fl, ⟨s0, s1, s2⟩, pa, ru⟩ : S33) = (mReplace s u n A s1).2 := fun s => by simp [mStep, mDo]
    rw [e1, e1]
    exact same7 W0 W sb rb c st rt F A B u n fl s0 s1 s2 _ _ h hc
  by_cases h8 : d = 8
  · subst h8
    have e1 : ∀ s, mStep s (⟨8, A, B, u, n, fl, ⟨s0, s1, s2⟩, pa, ru⟩ : S33) = (mExtend s u n A s1).2 := fun s => by simp [mStep, mDo]
    rw [e1, e1]
    exact same8 W0 W sb rb c st rt F A B u n fl s0 s1 s2 _ _ h hc
  by_cases h9 : d = 9
  · subst h9
    have e1 : ∀ s, mStep s (⟨9, A, B, u, n, fl, ⟨s0, s1, s2⟩, pa, ru⟩ : S33) = (mErase s u n A).2 := fun s => by simp [mStep, mDo]
    rw [e1, e1]
    exact same9 W0 W sb rb c st rt F A B u n fl s0 s1 s2 _ _ h hc
  by_cases h10 : d = 10
  · subst h10
    have e1 : ∀ s, mStep s (⟨10, A, B, u, n, fl, ⟨s0, s1, s2⟩, pa, ru⟩ : S33) = s := fun s => by simp [mStep, mDo]
    rw [e1, e1]
    exact same10 W0 W sb rb c st rt F A B u n fl s0 s1 s2 _ _ h hc
  by_cases h11 : d = 11
  · subst h11
    have e1 : ∀ s, mStep s (⟨11, A, B, u, n, fl, ⟨s0, s1, s2⟩, pa, ru⟩ : S33) = (mChange s u n B ru).2 := fun s => by simp [mStep, mDo]
    rw [e1, e1]
    exact same11 W0 W sb rb c st rt F A B u n fl s0 s1 s2 _ Ar cr ru hr hcr hru h hc
  have e1 : ∀ s, mStep s (⟨d, A, B, u, n, fl, ⟨s0, s1, s2⟩, pa, ru⟩ : S33) = s := fun s => by simp [mStep, mDo, h0, h1, h2, h3, h5, h6, h7, h8, h9, h11]
  rw [e1, e1]
  exact same_else W0 W sb rb c st rt F A B u n fl s0 s1 s2 _ _ d (fun i hi => by
    have : i = 0 ∨ i = 1 ∨ i = 2 ∨ i = 3 ∨ i = 4 ∨ i = 5 ∨ i = 6 ∨ i = 7 ∨ i = 8 ∨ i = 9 ∨ i = 10 ∨ i = 11 := by omega
    rcases this with rfl | rfl | rfl | rfl | rfl | rfl | rfl | rfl | rfl | rfl | rfl | rfl <;> assumption) h hc
end Go.Proofs.YtehlmkgldcfciaaGreat.Files
