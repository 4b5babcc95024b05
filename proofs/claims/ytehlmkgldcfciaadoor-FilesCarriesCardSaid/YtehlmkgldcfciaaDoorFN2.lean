/- The parts of this proof that lie in one text. -/
import Derived.Test.YtehlmkgldcfciaaDoorFN1
import Derived.Test.YtehlmkgldcfciaaDoorFx0
import Derived.Test.YtehlmkgldcfciaaDoorRows
import Derived.Test.YtehlmkgldcfciaaDoorOpen
/- files.text: units as one text, walked. -/
set_option linter.unusedVariables false
set_option linter.unusedSimpArgs false
namespace Go.Proofs.YtehlmkgldcfciaaDoor.Files
open Go.Proofs.YtehlmkgldcfciaaDoor.Common Go.RowKit Go.Lib Go.Shelf Go.Proofs.YtehlmkgldcfciaaDoor.F Go.Proofs.YtehlmkgldcfciaaDoorW.PrintWords Go.Proofs.YtehlmkgldcfciaaDoorW.PrintLast Go.Proofs.YtehlmkgldcfciaaDoorW.PrintMore
theorem lays166 : Go.Proofs.Lays.n166 Tryd.prog Tryd.lays156_ren := { Tryd.lays156 with }
/-- A builder in a world W0's call, and what it holds. -/
structure TextIn (W w : World) (acc : List UInt8) : Prop where
  low : Below W.heap.size W w
  bld : Lib.IsBuilder 63 5 W.heap.size W.heap.size (Lib.byteCells acc) w
theorem bld_below {w w' : World} {B b : Nat} {p : Value} {bs : List Value} (h : Lib.BuilderAt 63 5 B b p bs w) (hb : Below w.heap.size w w') : Lib.BuilderAt 63 5 B b p bs w' := by
  have hlt := h.lt
  obtain ⟨h1, v, h2, h3, h4⟩ := h
  exact ⟨h1, v, by rw [hb.block b hlt]; exact h2, pw_own_below h3 hb, h4⟩
theorem TextIn.below {W w w' : World} {acc : List UInt8} (h : TextIn W w acc) (hb : Below w.heap.size w w') : TextIn W w' acc :=
  ⟨h.low.trans (hb.mono h.low.size), h.bld.imp (fun x => bld_below x hb) (fun x => bld_below x hb)⟩
structure UAt (w : World) (ub : Nat) (x : S46) : Prop where
  lt : ub < w.heap.size
  c0 : w.cell? ⟨ub, 0, none⟩ = some (.string x.f0)
  c1 : w.cell? ⟨ub, 1, none⟩ = some (.string x.f1)
  c2 : w.cell? ⟨ub, 2, none⟩ = some (.int .i64 x.f2)
theorem UAt.below {w w' : World} {ub : Nat} {x : S46} (h : UAt w ub x) (hb : Below w.heap.size w w') : UAt w' ub x :=
  ⟨Nat.lt_of_lt_of_le h.lt hb.size, (hb.cell (p := ⟨ub, 0, none⟩) h.lt).trans h.c0, (hb.cell (p := ⟨ub, 1, none⟩) h.lt).trans h.c1, (hb.cell (p := ⟨ub, 2, none⟩) h.lt).trans h.c2⟩
structure TextAt (W w : World) (acc : List UInt8) (ub : Nat) (x : S46) : Prop where
  toIn : TextIn W w acc
  u : UAt w ub x
theorem TextAt.below {W w w' : World} {acc : List UInt8} {ub : Nat} {x : S46} (h : TextAt W w acc ub x) (hb : Below w.heap.size w w') : TextAt W w' acc ub x := ⟨h.toIn.below hb, h.u.below hb⟩
def SmallU (x : S46) : Prop := (∃ n : Nat, x.f2 = (n : Int) ∧ n ≤ 99) ∧ x.f0.size ≤ 30 ∧ x.f1.size ≤ 400
theorem itoa_short {n : Nat} (hn : n ≤ 400) : (Lib.itoa (n : Int)).length ≤ 3 := by
  rw [itoa3_eq n (by omega)]
  exact (chk3_at hn).2.2.1
theorem unit_short {x : S46} (h : SmallU x) : (unitText x).length ≤ 450 := by
  obtain ⟨⟨n, hn, h99⟩, h0, h1⟩ := h
  have := itoa_short (n := n) (by omega)
  have := itoa_short (n := x.f0.size) (by omega)
  have := itoa_short (n := x.f1.size) (by omega)
  have := Lib.size_eq x.f0
  have := Lib.size_eq x.f1
  unfold unitText headText
  rw [hn]
  simp only [List.length_append, List.length_cons]
  omega
theorem textL_snoc (l : List S46) (x : S46) : textL (l ++ [x]) = textL l ++ unitText x := by unfold textL; simp
theorem text_short : ∀ (l : List S46), (∀ x ∈ l, SmallU x) → (textL l).length ≤ 450 * l.length
  | [], _ => by simp [textL]
  | x :: r, h => by
    have h1 := text_short r fun y hy => h y (List.mem_cons_of_mem _ hy)
    have h2 := unit_short (h x List.mem_cons_self)
    have : textL (x :: r) = unitText x ++ textL r := by unfold textL; simp
    rw [this, List.length_append, List.length_cons]
    omega
theorem take_snoc {l : List S46} {i : Nat} (h : i < l.length) : l.take (i + 1) = l.take i ++ [rd_T46 l (i : Int)] := by
  rw [List.take_add_one, List.getElem?_eq_getElem h]
  simp [rd_T46, List.getD_eq_getElem?_getD, List.getElem?_eq_getElem h]
theorem rd_mem {l : List S46} {i : Nat} (h : i < l.length) : rd_T46 l (i : Int) ∈ l := by
  have : rd_T46 l (i : Int) = l[i] := by simp [rd_T46, List.getD_eq_getElem?_getD, List.getElem?_eq_getElem h]
  rw [this]
  exact List.getElem_mem h
theorem small_sizes {x : S46} (h : SmallU x) : (⟨(Lib.itoa x.f2).toArray⟩ : ByteArray).size ≤ 3 ∧ (⟨(Lib.itoa (x.f0.size : Int)).toArray⟩ : ByteArray).size ≤ 3 ∧ (⟨(Lib.itoa (x.f1.size : Int)).toArray⟩ : ByteArray).size ≤ 3 ∧ x.f0.size ≤ 30 ∧ x.f1.size ≤ 400 := by
  obtain ⟨⟨n, hn, h99⟩, h0, h1⟩ := h
  have e1 := itoa_short (n := n) (by omega)
  have e2 := itoa_short (n := x.f0.size) (by omega)
  have e3 := itoa_short (n := x.f1.size) (by omega)
  rw [hn]
  exact ⟨e1, e2, e3, h0, h1⟩
theorem writes_unit {W : World} {l : List S46} {i : Nat} {x : S46} (hl : l.length ≤ 100) (hs : ∀ x ∈ l, SmallU x) (hx : SmallU x) (htk : l.take (i + 1) = l.take i ++ [x]) (w : World) (h : TextIn W w (textL (l.take i))) :
    Calls Tryd.prog 28 #[.pointer (some ⟨W.heap.size, 0, none⟩), .string (⟨(Lib.itoa x.f2).toArray⟩ ++ ⟨#[32]⟩ ++ ⟨(Lib.itoa (x.f0.size : Int)).toArray⟩ ++ ⟨#[32]⟩ ++ ⟨(Lib.itoa (x.f1.size : Int)).toArray⟩ ++ ⟨#[10]⟩ ++ x.f0 ++ x.f1)] w fun e w' => e = .returned (.tuple #[.int .i64 ((⟨(Lib.itoa x.f2).toArray⟩ ++ ⟨#[32]⟩ ++ ⟨(Lib.itoa (x.f0.size : Int)).toArray⟩ ++ ⟨#[32]⟩ ++ ⟨(Lib.itoa (x.f1.size : Int)).toArray⟩ ++ ⟨#[10]⟩ ++ x.f0 ++ x.f1 : ByteArray)).size, .nilIface]) ∧ TextIn W w' (textL (l.take (i + 1))) := by
  have hd : (⟨(Lib.itoa x.f2).toArray⟩ ++ ⟨#[32]⟩ ++ ⟨(Lib.itoa (x.f0.size : Int)).toArray⟩ ++ ⟨#[32]⟩ ++ ⟨(Lib.itoa (x.f1.size : Int)).toArray⟩ ++ ⟨#[10]⟩ ++ x.f0 ++ x.f1 : ByteArray).data.toList = unitText x := by
    unfold unitText headText
    simp [ByteArray.data_append]
  generalize (⟨(Lib.itoa x.f2).toArray⟩ ++ ⟨#[32]⟩ ++ ⟨(Lib.itoa (x.f0.size : Int)).toArray⟩ ++ ⟨#[32]⟩ ++ ⟨(Lib.itoa (x.f1.size : Int)).toArray⟩ ++ ⟨#[10]⟩ ++ x.f0 ++ x.f1 : ByteArray) = U at *
  have hU : U.size ≤ 450 := by
    rw [Lib.size_eq, hd]
    exact unit_short hx
  have hA : (textL (l.take i)).length ≤ 45000 := by
    have h1 := text_short (l.take i) fun y hy => hs y (List.mem_of_mem_take hy)
    have h2 : (l.take i).length ≤ 100 := by rw [List.length_take]; omega
    omega
  refine (Any.Builder_WriteString lays166 Tryd.Builder_Extra_156 W.heap.size W.heap.size (Lib.byteCells (textL (l.take i))) U w h.bld (by rw [Lib.byteCells_length]; omega) h.low.size).mono ?_
  rintro e w' ⟨rfl, hb, hbl⟩
  refine ⟨rfl, h.low.trans hbl, .inr ?_⟩
  rw [htk, textL_snoc, ← hd, Lib.byteCells_append, ← Lib.strCells_eq]
  exact hb
def Txt.T5 : Bool × List (List Nat × List Nat) := (true, [([], []), ([0], [0]), ([1], [1]), ([2], [2]), ([], []), ([4], [4]), ([5], [5]), ([6, 2], [6]), ([3, 7], [3, 7]), ([8], [8]), ([], []), ([10], [10]), ([11], [11]), ([12, 7], [12]), ([9, 13], [9, 13]), ([14], [14]), ([], []), ([16], [16]), ([15, 17], [15, 17]), ([], []), ([19], [19]), ([18, 20], [18, 20]), ([21, 13], [21])])
def Txt.B5 : List Nat := [0, 1, 3, 7, 0, 16, 48, 119, 255, 511, 0, 1024, 3072, 7415, 16383, 32767, 0, 65536, 262143, 0, 524288, 2097151, 4194303]
theorem Txt.tab5 : rtab .any (opsOf Tryd.f25 5) = Txt.T5 := by kernel_rfl
theorem Txt.bits5 : waitsOk Txt.T5.2 Txt.B5 = true := by kernel_rfl
set_option maxRecDepth 100000 in
set_option maxHeartbeats 2000000 in
theorem text_c (A : Option Addr) (c : Nat) (l : List S46) (W : World) (hT : Tab10 W) (hr : Kd.C k46 W A l.length l) (hc : l.length ≤ c) (hl : l.length ≤ 100) (hs : ∀ x ∈ l, SmallU x) :
    Calls Tryd.prog 25 #[.slice A l.length c] W fun e w' => e = .returned (.string ⟨(textL l).toArray⟩) ∧ Below W.heap.size W w' := by
  have HS := Aside0.mk hs
  have HT := Aside0.mk hT
  have HR := Aside0.mk hr
  have HI0 := Aside0.mk (show TextIn W (W.alloc (.cells #[.pointer none, .slice none 0 0] 63)) (textL (l.take 0)) from ⟨(Below.refl _ W).alloc (Nat.le_refl _) _, Lib.fresh_isBuilder 63 5 W⟩)
  clear hs hT hr
  go_enter Tryd.func25, Tryd.ntmps25
  go_wp2_with fail
  go_loopw [8] (fun s w' => ∃ i : Nat, s = .int .i64 i ∧ i ≤ l.length ∧ Aside0 (TextIn W w' (textL (l.take i)))) (fun s _ => l.length - (RowKit.intOf s).toNat)
  case atStart => exact ⟨0, rfl, by omega, HI0⟩
  case round =>
    clear HI0
    obtain ⟨i, rfl, hi, HI⟩ := hrel
    by_cases hlt : i < l.length
    · have hltz : (i : Int) < (l.length : Int) := by omega
      have hi0 : decide ((i : Int) < 0) = false := decide_eq_false (by omega)
      obtain ⟨ad, rfl, h0, h1, h2⟩ := at_T46 (Kd.C_below HR.out HI.out.low) (i : Int) (by omega) (by omega)
      have HSU := Aside0.mk (HS.out _ (rd_mem hlt))
      have HTK := Lib.hid (take_snoc hlt)
      rw [Int.toNat_natCast] at h0 h1 h2
      generalize rd_T46 l (i : Int) = x at *
      have CI2 := Aside0.mk (show ∀ w, Tab10 w → Calls Tryd.prog 33 #[.int .i64 x.f2] w fun e w' => e = .returned (.string ⟨(Lib.itoa x.f2).toArray⟩) ∧ Below w.heap.size w w' from fun w h => Itoa_c _ (by obtain ⟨⟨n, hn, h99⟩, _⟩ := HSU.out; omega) (by obtain ⟨⟨n, hn, h99⟩, _⟩ := HSU.out; omega) w h)
      have CI0 := Aside0.mk (show ∀ w, Tab10 w → Calls Tryd.prog 33 #[.int .i64 (x.f0.size : Int)] w fun e w' => e = .returned (.string ⟨(Lib.itoa (x.f0.size : Int)).toArray⟩) ∧ Below w.heap.size w w' from fun w h => Itoa_c _ (by omega) (by have := HSU.out.2.1; omega) w h)
      have CI1 := Aside0.mk (show ∀ w, Tab10 w → Calls Tryd.prog 33 #[.int .i64 (x.f1.size : Int)] w fun e w' => e = .returned (.string ⟨(Lib.itoa (x.f1.size : Int)).toArray⟩) ∧ Below w.heap.size w w' from fun w h => Itoa_c _ (by omega) (by have := HSU.out.2.2; omega) w h)
      have HW := Aside0.mk (writes_unit (W := W) (l := l) (i := i) (x := x) hl HS.out HSU.out HTK.out)
      have hz := small_sizes HSU.out
      generalize (⟨(Lib.itoa x.f2).toArray⟩ : ByteArray) = I2 at *
      generalize (⟨(Lib.itoa (x.f0.size : Int)).toArray⟩ : ByteArray) = I0 at *
      generalize (⟨(Lib.itoa (x.f1.size : Int)).toArray⟩ : ByteArray) = I1 at *
      have HZ := hz
      clear hz
      have e32 : (⟨#[32]⟩ : ByteArray).size = 1 := rfl
      have e10 : (⟨#[10]⟩ : ByteArray).size = 1 := rfl
      have hat : TextAt W (wr.alloc (.cells #[.string x.f0, .string x.f1, .int .i64 x.f2] 46)) (textL (l.take i)) wr.heap.size x := by
        have hb := heap_alloc_new wr (.cells #[.string x.f0, .string x.f1, .int .i64 x.f2] 46)
        exact ⟨HI.out.below ((Below.refl _ wr).alloc (Nat.le_refl _) _), by rw [World.size_alloc]; omega, Lib.cell_of_heap hb 0, Lib.cell_of_heap hb 1, Lib.cell_of_heap hb 2⟩
      have HAT := Aside0.mk hat
      go_wp2_with fail
      clear h0 h1 h2 hltz hi0 hat
      generalize (wr.alloc (.cells #[.string x.f0, .string x.f1, .int .i64 x.f2] 46)) = wa at HAT ⊢
      generalize wr.heap.size = ub at HAT ⊢
      have hz0 : wa.drew.cell? ⟨ub, 0, none⟩ = some (.string x.f0) := HAT.out.u.c0
      have hz1 : wa.drew.cell? ⟨ub, 1, none⟩ = some (.string x.f1) := HAT.out.u.c1
      have hz2 : wa.drew.cell? ⟨ub, 2, none⟩ = some (.int .i64 x.f2) := HAT.out.u.c2
      refine start_ (n := 23) (S := fun w' => w'.cell? ⟨ub, 0, none⟩ = some (.string x.f0) ∧ w'.cell? ⟨ub, 1, none⟩ = some (.string x.f1) ∧ w'.cell? ⟨ub, 2, none⟩ = some (.int .i64 x.f2)) (ds := [22]) #[false, false, false, false, false, false, false, false, false, false, false, false, false, false, false, false, false, false, false, false, false, false, false] (by kernel_rfl) rfl rfl ⟨hz0, hz1, hz2⟩ (fun hHeld => ?_)
      refine with_tabW Txt.tab5 Txt.bits5 (fun HT_ HW_ => ?_)
      have HWD := Aside0.mk (show TextAt W wa.drew (textL (l.take i)) ub x from HAT.out.below ((Below.refl _ wa).drew))
      generalize wa.drew = wd at HWD hHeld ⊢
      refine pure_ (i := 0) (N := some 12) (v := ?_) (a' := ?_) #[true, false, false, false, false, false, false, false, false, false, false, false, false, false, false, false, false, false, false, false, false, false, false] rfl rfl (any_of HT_.out (by kernel_rfl)) (fun _ _ _ h => h) (Or.inl ⟨by rfl, ?_⟩) ?_ ?_
      rotate_left
      · intro w'
        go_simp
        with_reducible rfl
      rotate_left
      · simp only [Act.put, List.setIfInBounds_toArray, List.set_cons_zero, List.set_cons_succ, i64_w, i32_w]
        rfl
      refine pure_ (i := 4) (N := some 16) (v := ?_) (a' := ?_) #[true, false, false, false, true, false, false, false, false, false, false, false, false, false, false, false, false, false, false, false, false, false, false] rfl rfl (any_of HT_.out (by kernel_rfl)) (fun _ _ _ h => h) (Or.inl ⟨by rfl, ?_⟩) ?_ ?_
      rotate_left
      · intro w'
        go_simp
        with_reducible rfl
      rotate_left
      · simp only [Act.put, List.setIfInBounds_toArray, List.set_cons_zero, List.set_cons_succ, i64_w, i32_w]
        rfl
      refine pure_ (i := 10) (N := some 22) (v := ?_) (a' := ?_) #[true, false, false, false, true, false, false, false, false, false, true, false, false, false, false, false, false, false, false, false, false, false, false] rfl rfl (any_of HT_.out (by kernel_rfl)) (fun _ _ _ h => h) (Or.inl ⟨by rfl, ?_⟩) ?_ ?_
      rotate_left
      · intro w'
        go_simp
        with_reducible rfl
      rotate_left
      · simp only [Act.put, List.setIfInBounds_toArray, List.set_cons_zero, List.set_cons_succ, i64_w, i32_w]
        rfl
      refine pure_ (i := 16) (N := some 28) (v := ?_) (a' := ?_) #[true, false, false, false, true, false, false, false, false, false, true, false, false, false, false, false, true, false, false, false, false, false, false] rfl rfl (any_of HT_.out (by kernel_rfl)) (fun _ _ _ h => h) (Or.inl ⟨by rfl, ?_⟩) ?_ ?_
      rotate_left
      · intro w'
        go_simp
        with_reducible rfl
      rotate_left
      · simp only [Act.put, List.setIfInBounds_toArray, List.set_cons_zero, List.set_cons_succ, i64_w, i32_w]
        rfl
      refine pure_ (i := 19) (N := some 31) (v := ?_) (a' := ?_) #[true, false, false, false, true, false, false, false, false, false, true, false, false, false, false, false, true, false, false, true, false, false, false] rfl rfl (any_of HT_.out (by kernel_rfl)) (fun _ _ _ h => h) (Or.inl ⟨by rfl, ?_⟩) ?_ ?_
      rotate_left
      · intro w'
        go_simp
        with_reducible rfl
      rotate_left
      · simp only [Act.put, List.setIfInBounds_toArray, List.set_cons_zero, List.set_cons_succ, i64_w, i32_w]
        rfl
      refine take_ (i := 1) (N := some 13) (v := ?_) (a' := ?_) #[true, true, false, false, true, false, false, false, false, false, true, false, false, false, false, false, true, false, false, true, false, false, false] rfl rfl (take_ofW HT_.out HW_.out (by kernel_rfl)) (fun _ _ _ h => h) (Or.inl ⟨by rfl, ?_⟩) hHeld ?_ ?_
      rotate_left
      · rintro w' ⟨s0, s1, s2⟩
        go_simp
        with_reducible rfl
      rotate_left
      · simp only [Act.put, List.setIfInBounds_toArray, List.set_cons_zero, List.set_cons_succ, i64_w, i32_w]
        rfl
      refine take_ (i := 5) (N := some 17) (v := ?_) (a' := ?_) #[true, true, false, false, true, true, false, false, false, false, true, false, false, false, false, false, true, false, false, true, false, false, false] rfl rfl (take_ofW HT_.out HW_.out (by kernel_rfl)) (fun _ _ _ h => h) (Or.inl ⟨by rfl, ?_⟩) hHeld ?_ ?_
      rotate_left
      · rintro w' ⟨s0, s1, s2⟩
        go_simp
        with_reducible rfl
      rotate_left
      · simp only [Act.put, List.setIfInBounds_toArray, List.set_cons_zero, List.set_cons_succ, i64_w, i32_w]
        rfl
      refine pure_ (i := 6) (N := some 18) (v := ?_) (a' := ?_) #[true, true, false, false, true, true, true, false, false, false, true, false, false, false, false, false, true, false, false, true, false, false, false] rfl rfl (any_of HT_.out (by kernel_rfl)) (fun _ _ _ h => h) (Or.inl ⟨by rfl, ?_⟩) ?_ ?_
      rotate_left
      · intro w'
        go_simp
        with_reducible rfl
      rotate_left
      · simp only [Act.put, List.setIfInBounds_toArray, List.set_cons_zero, List.set_cons_succ, i64_w, i32_w]
        rfl
      refine take_ (i := 11) (N := some 23) (v := ?_) (a' := ?_) #[true, true, false, false, true, true, true, false, false, false, true, true, false, false, false, false, true, false, false, true, false, false, false] rfl rfl (take_ofW HT_.out HW_.out (by kernel_rfl)) (fun _ _ _ h => h) (Or.inl ⟨by rfl, ?_⟩) hHeld ?_ ?_
      rotate_left
      · rintro w' ⟨s0, s1, s2⟩
        go_simp
        with_reducible rfl
      rotate_left
      · simp only [Act.put, List.setIfInBounds_toArray, List.set_cons_zero, List.set_cons_succ, i64_w, i32_w]
        rfl
      refine pure_ (i := 12) (N := some 24) (v := ?_) (a' := ?_) #[true, true, false, false, true, true, true, false, false, false, true, true, true, false, false, false, true, false, false, true, false, false, false] rfl rfl (any_of HT_.out (by kernel_rfl)) (fun _ _ _ h => h) (Or.inl ⟨by rfl, ?_⟩) ?_ ?_
      rotate_left
      · intro w'
        go_simp
        with_reducible rfl
      rotate_left
      · simp only [Act.put, List.setIfInBounds_toArray, List.set_cons_zero, List.set_cons_succ, i64_w, i32_w]
        rfl
      refine take_ (i := 17) (N := some 29) (v := ?_) (a' := ?_) #[true, true, false, false, true, true, true, false, false, false, true, true, true, false, false, false, true, true, false, true, false, false, false] rfl rfl (take_ofW HT_.out HW_.out (by kernel_rfl)) (fun _ _ _ h => h) (Or.inl ⟨by rfl, ?_⟩) hHeld ?_ ?_
      rotate_left
      · rintro w' ⟨s0, s1, s2⟩
        go_simp
        with_reducible rfl
      rotate_left
      · simp only [Act.put, List.setIfInBounds_toArray, List.set_cons_zero, List.set_cons_succ, i64_w, i32_w]
        rfl
      refine take_ (i := 20) (N := some 32) (v := ?_) (a' := ?_) #[true, true, false, false, true, true, true, false, false, false, true, true, true, false, false, false, true, true, false, true, true, false, false] rfl rfl (take_ofW HT_.out HW_.out (by kernel_rfl)) (fun _ _ _ h => h) (Or.inl ⟨by rfl, ?_⟩) hHeld ?_ ?_
      rotate_left
      · rintro w' ⟨s0, s1, s2⟩
        go_simp
        with_reducible rfl
      rotate_left
      · simp only [Act.put, List.setIfInBounds_toArray, List.set_cons_zero, List.set_cons_succ, i64_w, i32_w]
        rfl
      refine one_ (i := 2) (N := some 14) #[true, true, true, false, true, true, true, false, false, false, true, true, true, false, false, false, true, true, false, true, true, false, false] rfl rfl (one_of HT_.out (by kernel_rfl)) (by decide) (fun K hK => ?_)
      refine goes_ Tryd.func33 (by kernel_rfl) rfl #[.int .i64 x.f2] (by rfl) rfl rfl (by (try simp only [List.map_toArray, List.map_cons, List.map_nil]); first | done | rfl | (simp only []; rfl)) ?_
      with_reducible refine (CI2.out _ (HT.out.below HWD.out.toIn.low)).mono ?_
      rintro e w2 ⟨rfl, hb2⟩
      have HA2 := Aside0.mk (HWD.out.below hb2)
      clear hb2
      refine ⟨_, rfl, ?_⟩
      refine hK.out _ _ ⟨HA2.out.u.c0, HA2.out.u.c1, HA2.out.u.c2⟩ (fun hHeld => ?_)
      clear hK K
      refine norm_ (a' := ?_) ?_ ?_
      rotate_left
      · show Act.put _ (some 14) _ = _
        simp only [Act.put, List.setIfInBounds_toArray, List.set_cons_zero, List.set_cons_succ, i64_w, i32_w]
        rfl
      refine pure_ (i := 3) (N := some 15) (v := ?_) (a' := ?_) #[true, true, true, true, true, true, true, false, false, false, true, true, true, false, false, false, true, true, false, true, true, false, false] rfl rfl (any_of HT_.out (by kernel_rfl)) (fun _ _ _ h => h) (Or.inl ⟨by rfl, ?_⟩) ?_ ?_
      rotate_left
      · intro w'
        go_simp
        rw [if_neg (by (try simp only [ByteArray.size_append, e32, e10]); omega)]
      rotate_left
      · simp only [Act.put, List.setIfInBounds_toArray, List.set_cons_zero, List.set_cons_succ, i64_w, i32_w]
        rfl
      refine one_ (i := 7) (N := some 19) #[true, true, true, true, true, true, true, true, false, false, true, true, true, false, false, false, true, true, false, true, true, false, false] rfl rfl (one_of HT_.out (by kernel_rfl)) (by decide) (fun K hK => ?_)
      refine goes_ Tryd.func33 (by kernel_rfl) rfl #[.int .i64 x.f0.size] (by rfl) rfl rfl (by (try simp only [List.map_toArray, List.map_cons, List.map_nil]); first | done | rfl | (simp only []; rfl)) ?_
      with_reducible refine (CI0.out _ (HT.out.below HA2.out.toIn.low)).mono ?_
      rintro e w7 ⟨rfl, hb7⟩
      have HA7 := Aside0.mk (HA2.out.below hb7)
      clear hb7
      refine ⟨_, rfl, ?_⟩
      refine hK.out _ _ ⟨HA7.out.u.c0, HA7.out.u.c1, HA7.out.u.c2⟩ (fun hHeld => ?_)
      clear hK K
      refine norm_ (a' := ?_) ?_ ?_
      rotate_left
      · show Act.put _ (some 19) _ = _
        simp only [Act.put, List.setIfInBounds_toArray, List.set_cons_zero, List.set_cons_succ, i64_w, i32_w]
        rfl
      refine pure_ (i := 8) (N := some 20) (v := ?_) (a' := ?_) #[true, true, true, true, true, true, true, true, true, false, true, true, true, false, false, false, true, true, false, true, true, false, false] rfl rfl (any_of HT_.out (by kernel_rfl)) (fun _ _ _ h => h) (Or.inl ⟨by rfl, ?_⟩) ?_ ?_
      rotate_left
      · intro w'
        go_simp
        rw [if_neg (by (try simp only [ByteArray.size_append, e32, e10]); omega)]
      rotate_left
      · simp only [Act.put, List.setIfInBounds_toArray, List.set_cons_zero, List.set_cons_succ, i64_w, i32_w]
        rfl
      refine pure_ (i := 9) (N := some 21) (v := ?_) (a' := ?_) #[true, true, true, true, true, true, true, true, true, true, true, true, true, false, false, false, true, true, false, true, true, false, false] rfl rfl (any_of HT_.out (by kernel_rfl)) (fun _ _ _ h => h) (Or.inl ⟨by rfl, ?_⟩) ?_ ?_
      rotate_left
      · intro w'
        go_simp
        rw [if_neg (by (try simp only [ByteArray.size_append, e32, e10]); omega)]
      rotate_left
      · simp only [Act.put, List.setIfInBounds_toArray, List.set_cons_zero, List.set_cons_succ, i64_w, i32_w]
        rfl
      refine one_ (i := 13) (N := some 25) #[true, true, true, true, true, true, true, true, true, true, true, true, true, true, false, false, true, true, false, true, true, false, false] rfl rfl (one_of HT_.out (by kernel_rfl)) (by decide) (fun K hK => ?_)
      refine goes_ Tryd.func33 (by kernel_rfl) rfl #[.int .i64 x.f1.size] (by rfl) rfl rfl (by (try simp only [List.map_toArray, List.map_cons, List.map_nil]); first | done | rfl | (simp only []; rfl)) ?_
      with_reducible refine (CI1.out _ (HT.out.below HA7.out.toIn.low)).mono ?_
      rintro e w13 ⟨rfl, hb13⟩
      have HA13 := Aside0.mk (HA7.out.below hb13)
      clear hb13
      refine ⟨_, rfl, ?_⟩
      refine hK.out _ _ ⟨HA13.out.u.c0, HA13.out.u.c1, HA13.out.u.c2⟩ (fun hHeld => ?_)
      clear hK K
      refine norm_ (a' := ?_) ?_ ?_
      rotate_left
      · show Act.put _ (some 25) _ = _
        simp only [Act.put, List.setIfInBounds_toArray, List.set_cons_zero, List.set_cons_succ, i64_w, i32_w]
        rfl
      refine pure_ (i := 14) (N := some 26) (v := ?_) (a' := ?_) #[true, true, true, true, true, true, true, true, true, true, true, true, true, true, true, false, true, true, false, true, true, false, false] rfl rfl (any_of HT_.out (by kernel_rfl)) (fun _ _ _ h => h) (Or.inl ⟨by rfl, ?_⟩) ?_ ?_
      rotate_left
      · intro w'
        go_simp
        rw [if_neg (by (try simp only [ByteArray.size_append, e32, e10]); omega)]
      rotate_left
      · simp only [Act.put, List.setIfInBounds_toArray, List.set_cons_zero, List.set_cons_succ, i64_w, i32_w]
        rfl
      refine pure_ (i := 15) (N := some 27) (v := ?_) (a' := ?_) #[true, true, true, true, true, true, true, true, true, true, true, true, true, true, true, true, true, true, false, true, true, false, false] rfl rfl (any_of HT_.out (by kernel_rfl)) (fun _ _ _ h => h) (Or.inl ⟨by rfl, ?_⟩) ?_ ?_
      rotate_left
      · intro w'
        go_simp
        rw [if_neg (by (try simp only [ByteArray.size_append, e32, e10]); omega)]
      rotate_left
      · simp only [Act.put, List.setIfInBounds_toArray, List.set_cons_zero, List.set_cons_succ, i64_w, i32_w]
        rfl
      refine pure_ (i := 18) (N := some 30) (v := ?_) (a' := ?_) #[true, true, true, true, true, true, true, true, true, true, true, true, true, true, true, true, true, true, true, true, true, false, false] rfl rfl (any_of HT_.out (by kernel_rfl)) (fun _ _ _ h => h) (Or.inl ⟨by rfl, ?_⟩) ?_ ?_
      rotate_left
      · intro w'
        go_simp
        rw [if_neg (by (try simp only [ByteArray.size_append, e32, e10]); omega)]
      rotate_left
      · simp only [Act.put, List.setIfInBounds_toArray, List.set_cons_zero, List.set_cons_succ, i64_w, i32_w]
        rfl
      refine pure_ (i := 21) (N := some 33) (v := ?_) (a' := ?_) #[true, true, true, true, true, true, true, true, true, true, true, true, true, true, true, true, true, true, true, true, true, true, false] rfl rfl (any_of HT_.out (by kernel_rfl)) (fun _ _ _ h => h) (Or.inl ⟨by rfl, ?_⟩) ?_ ?_
      rotate_left
      · intro w'
        go_simp
        rw [if_neg (by (try simp only [ByteArray.size_append, e32, e10]); omega)]
      rotate_left
      · simp only [Act.put, List.setIfInBounds_toArray, List.set_cons_zero, List.set_cons_succ, i64_w, i32_w]
        rfl
      refine last_ (i := 22) (N := some 34) #[true, true, true, true, true, true, true, true, true, true, true, true, true, true, true, true, true, true, true, true, true, true, true] rfl rfl (one_of HT_.out (by kernel_rfl)) (by decide) (fun K hK => ?_)
      refine goes_ Tryd.func28 (by kernel_rfl) rfl #[.pointer (some ⟨W.heap.size, 0, none⟩), .string (I2 ++ ⟨#[32]⟩ ++ I0 ++ ⟨#[32]⟩ ++ I1 ++ ⟨#[10]⟩ ++ x.f0 ++ x.f1)] (by rfl) rfl rfl (by (try simp only [List.map_toArray, List.map_cons, List.map_nil]); first | done | rfl | (simp only []; rfl)) ?_
      with_reducible refine (HW.out _ HA13.out.toIn).mono ?_
      rintro e w22 ⟨rfl, hi22⟩
      have HI22 := Aside0.mk hi22
      clear hi22
      refine ⟨_, rfl, ?_⟩
      refine hK.out _ _ ?_
      clear hK K
      refine norm_ (a' := ?_) ?_ ?_
      rotate_left
      · show Act.put _ (some 34) _ = _
        simp only [Act.put, List.setIfInBounds_toArray, List.set_cons_zero, List.set_cons_succ, i64_w, i32_w]
        rfl
      refine done_ (done_of HT_.out (by kernel_rfl)) ?_
      go_wp2_with fail
      go_roundw
      case rel => exact ⟨i + 1, by go_num, by omega, HI22⟩
      case measure => simp [RowKit.intOf]; omega
    · have hnz : decide ((i : Int) < (l.length : Int)) = false := decide_eq_false (by omega)
      have HE := Aside0.mk (show TextIn W wr (textL l) from by have := HI.out; rwa [List.take_of_length_le (by omega)] at this)
      go_wp2_with fail
      refine (Tryd.Builder_String_any _ _ _ _ HE.out.bld HE.out.low.size).mono ?_
      rintro e w9 ⟨rfl, hb9⟩
      have HB9 := Aside0.mk (HE.out.low.trans hb9)
      clear hb9
      go_wp2
      go_ret
      exact ⟨rfl, HB9.out⟩
end Go.Proofs.YtehlmkgldcfciaaDoor.Files
/- files.Write and files.Resume, walked. -/
set_option linter.unusedVariables false
set_option linter.unusedSimpArgs false
namespace Go.Proofs.YtehlmkgldcfciaaDoor.Files
open Go.Proofs.YtehlmkgldcfciaaDoor.Common Go.RowKit Go.Lib Go.Shelf Go.Proofs.YtehlmkgldcfciaaDoor.F Go.Proofs.YtehlmkgldcfciaaDoorW.PrintWords Go.Proofs.YtehlmkgldcfciaaDoorW.PrintLast Go.Proofs.YtehlmkgldcfciaaDoorW.PrintMore
def textB (l : List S46) : ByteArray := ⟨(textL l).toArray⟩
/-- A text in parts of n bytes. -/
def partsGo (n : Nat) : Nat → ByteArray → List ByteArray
  | 0, _ => []
  | k + 1, s => if s = ⟨#[]⟩ then [] else s.extract 0 (min n s.size) :: partsGo n k (s.extract (min n s.size) s.size)
def partsOf (l : List S46) (n : Nat) : List ByteArray := partsGo n ((textB l).size + 1) (textB l)
theorem smallU_of {l : List S46} {k : Int} (h : VOk l k) : ∀ x ∈ l, SmallU x := by
  intro x hx
  obtain ⟨i, hi, rfl⟩ := List.getElem_of_mem hx
  have e : rd_T46 l (i : Int) = l[i] := by simp [rd_T46, List.getD_eq_getElem?_getD, List.getElem?_eq_getElem hi]
  have h1 := lv_bound h.steps i hi
  have h2 := h.cell i hi
  have hl := h.len
  unfold lv at h1
  rw [e] at h1 h2
  exact ⟨⟨(l[i].f2).toNat, by omega, by omega⟩, h2.1, h2.2⟩
structure WriteIn (w wr : World) (n : Nat) (P : List ByteArray) (cur : ByteArray) (out : List ByteArray) (vo : Value) : Prop where
  low : Below w.heap.size w wr
  row : Kd.R Kd.string 9 wr w.heap.size (fun _ => True) vo out
  small : out.length + cur.size ≤ 45000
  run : ∃ k, cur.size < k ∧ out ++ partsGo n k cur = P
theorem WriteIn.below {w wr w' : World} {n : Nat} {P : List ByteArray} {cur : ByteArray} {out : List ByteArray} {vo : Value} (h : WriteIn w wr n P cur out vo) (hb : Below wr.heap.size wr w') : WriteIn w w' n P cur out vo :=
  ⟨h.low.trans (hb.mono h.low.size), Kd.R_below h.row hb, h.small, h.run⟩
def WriteOk (l : List S46) (size : Int) : Prop := validB l 2 = true ∧ 20 ≤ size ∧ size ≤ 1000
def WriteEnd (W : World) (l : List S46) (size : Int) (e : Ending) (w' : World) : Prop :=
  (¬ WriteOk l size ∧ e = .returned (.tuple #[.slice none 0 0, .int .i64 1]) ∧ Below W.heap.size W w') ∨
    ∃ v, WriteOk l size ∧ e = .returned (.tuple #[v, .int .i64 0]) ∧ Kd.R Kd.string 9 w' W.heap.size (fun _ => True) v (partsOf l size.toNat) ∧ Below W.heap.size W w'
theorem cut_size (s : ByteArray) (m : Nat) (h : m ≤ s.size) : (s.extract m s.size).size = s.size - m := by rw [ByteArray.size_extract]; omega
set_option maxRecDepth 100000 in
set_option maxHeartbeats 2000000 in
theorem Write_c (A : Option Addr) (c : Nat) (l : List S46) (size : Int) (W : World) (hT : Tab10 W) (hr : Kd.C k46 W A l.length l) (hc : l.length ≤ c) :
    Calls Tryd.prog 8 #[.slice A l.length c, .int .i64 size] W (WriteEnd W l size) := by
  have HT := Aside0.mk hT
  have HR := Aside0.mk hr
  have CV := Aside0.mk (Valid_c A c l 2 W hr hc)
  clear hT hr
  by_cases hv : validB l 2 = true
  · rw [hv] at CV
    by_cases h20 : size < 20
    · have g1 : decide (size < 20) = true := decide_eq_true h20
      have HN := Lib.hid (show ¬ WriteOk l size from fun h => by have := h.2.1; omega)
      go_enter Tryd.func8, Tryd.ntmps8
      go_wp2_with fail
      refine CV.out.mono ?_
      rintro e w1 ⟨rfl, hb1⟩
      have HB1 := Aside0.mk hb1
      clear hb1 CV
      go_wp2
      refine bodyPost_ret (v := .tuple #[.slice none 0 0, .int .i64 1]) (by simp [results, Tryd.f8, go_sem]) rfl ?_
      exact .inl ⟨HN.out, rfl, HB1.out⟩
    have g1 : decide (size < 20) = false := decide_eq_false h20
    by_cases h1000 : 1000 < size
    · have g2 : decide (size > 1000) = true := decide_eq_true h1000
      have g3 : decide (1000 < size) = true := decide_eq_true h1000
      have HN := Lib.hid (show ¬ WriteOk l size from fun h => by have := h.2.2; omega)
      clear h20 h1000
      go_enter Tryd.func8, Tryd.ntmps8
      go_wp2_with fail
      refine CV.out.mono ?_
      rintro e w1 ⟨rfl, hb1⟩
      have HB1 := Aside0.mk hb1
      clear hb1 CV
      go_wp2
      refine bodyPost_ret (v := .tuple #[.slice none 0 0, .int .i64 1]) (by simp [results, Tryd.f8, go_sem]) rfl ?_
      exact .inl ⟨HN.out, rfl, HB1.out⟩
    have g2 : decide (size > 1000) = false := decide_eq_false h1000
    have g3 : decide (1000 < size) = false := decide_eq_false h1000
    obtain ⟨n, rfl⟩ := Int.eq_ofNat_of_zero_le (show 0 ≤ size by omega)
    have HOK := Lib.hid (show WriteOk l (n : Int) from ⟨hv, by omega, by omega⟩)
    have hn1 : 1 ≤ n := by omega
    have hV := VOk.of_valid hv
    have hSU := smallU_of hV
    have CX := Aside0.mk (fun w1 (hb : Below W.heap.size W w1) => text_c A c l w1 (HT.out.below hb) (Kd.C_below HR.out hb) hc hV.len.2 hSU)
    have hts := text_short l hSU
    have hS : (⟨(textL l).toArray⟩ : ByteArray).size ≤ 45000 := by
      have := hV.len.2
      rw [Lib.size_eq]
      show (textL l).length ≤ 45000
      omega
    have HP := Lib.hid (show partsOf l n = partsGo n ((⟨(textL l).toArray⟩ : ByteArray).size + 1) ⟨(textL l).toArray⟩ from rfl)
    have HWE := Aside0.mk (show ∀ v w', Kd.R Kd.string 9 w' W.heap.size (fun _ => True) v (partsOf l n) → Below W.heap.size W w' → WriteEnd W l (n : Int) (.returned (.tuple #[v, .int .i64 0])) w' from fun v w' h1 h2 => .inr ⟨v, HOK.out, rfl, h1, h2⟩)
    clear hts hSU hV hv h20 h1000
    generalize partsOf l n = P at *
    generalize (⟨(textL l).toArray⟩ : ByteArray) = S at *
    go_enter Tryd.func8, Tryd.ntmps8
    go_wp2_with fail
    refine CV.out.mono ?_
    rintro e w1 ⟨rfl, hb1⟩
    have HB1 := Aside0.mk hb1
    clear hb1 CV
    go_wp2_with fail
    refine (CX.out w1 HB1.out).mono ?_
    rintro e w2 ⟨rfl, hb2⟩
    have HI0 := Aside0.mk (show WriteIn W w2 n P S [] (.slice none 0 0) from ⟨HB1.out.trans (hb2.mono HB1.out.size), Kd.R_nil _ _ _ _ _, by simpa using hS, S.size + 1, Nat.lt_succ_self _, HP.out.symm⟩)
    clear hb2 CX
    go_wp2_with fail
    go_loopw [6, 7] (fun vo vs wr => ∃ (cur : ByteArray) (out : List ByteArray), vs = .string cur ∧ Aside0 (WriteIn W wr n P cur out vo)) (fun _ vs _ => (match vs with | .string x => x.size | _ => 0))
    case atStart => exact ⟨S, [], rfl, HI0⟩
    case round =>
      clear HI0
      obtain ⟨cur, out, rfl, HI⟩ := hrel
      obtain ⟨Ao, co, hvo, hco, hCo⟩ := Kd.R_reads HI.out.row
      subst hvo
      by_cases hcur : cur = ⟨#[]⟩
      · have hE : (cur.toList == []) = true := by rw [hcur, ByteArray.toList_eq]; rfl
        have hres : P = out := by
          obtain ⟨k, hk, hrun⟩ := HI.out.run
          obtain ⟨k, rfl⟩ : ∃ m, k = m + 1 := ⟨k - 1, by omega⟩
          rw [partsGo, if_pos hcur, List.append_nil] at hrun
          exact hrun.symm
        have HE := Aside0.mk (HWE.out _ wr (by rw [hres]; exact HI.out.row) HI.out.low)
        clear hcur hres hCo
        go_wp2
        refine bodyPost_ret (v := .tuple #[.slice Ao out.length co, .int .i64 0]) (by simp [results, Tryd.f8, go_sem]) rfl ?_
        exact HE.out
      have hE : (cur.toList == []) = false := by
        have := beq_no hcur
        rwa [ByteArray.toList_eq (⟨#[]⟩ : ByteArray)] at this
      have hsz : 1 ≤ cur.size := by
        rcases Nat.eq_zero_or_pos cur.size with h | h
        · exact absurd (ByteArray.size_eq_zero_iff.1 h) hcur
        · exact h
      obtain ⟨m, hm⟩ : ∃ m, m = min n cur.size := ⟨_, rfl⟩
      have hmz : min (n : Int) (cur.size : Int) = (m : Int) := by omega
      have hmle : (m : Int) ≤ (cur.size : Int) := by omega
      have hm0 : (0 : Int) ≤ (m : Int) := by omega
      have hm1 : 1 ≤ m := by omega
      have HI2 := Aside0.mk (show ∀ w' v', Kd.R Kd.string 9 w' W.heap.size (fun _ => True) v' (out ++ [cur.extract 0 m]) → Below W.heap.size W w' → WriteIn W w' n P (cur.extract m cur.size) (out ++ [cur.extract 0 m]) v' from fun w' v' h1 h2 => by
        obtain ⟨k, hk, hrun⟩ := HI.out.run
        obtain ⟨k, rfl⟩ : ∃ m, k = m + 1 := ⟨k - 1, by omega⟩
        have hsm := HI.out.small
        have hcs := cut_size cur m (by omega)
        rw [partsGo, if_neg hcur, ← hm] at hrun
        exact ⟨h2, h1, by rw [List.length_append, hcs]; simp; omega, k, by omega, by rw [← hrun]; simp⟩)
      have hcs := Lib.hid (cut_size cur m (by omega))
      clear hm
      have hol : out.length ≤ 45000 := by have := HI.out.small; omega
      clear hcur hCo
      go_wp2_with first | (at_builtin; go_loud (refine Kd.R_append Kd.string (w0 := W) W.heap.size rfl (.tmp 28) (.tmp 32) 22 9 (.string ⟨#[]⟩) 16 rfl Tryd.underlying22 (by kernel_rfl) rfl (by decide) (by decide) (.slice Ao out.length co) out (cur.extract 0 m) [.string (cur.extract 0 m)] (fun _ => True) (fun _ => False) rfl rfl rfl (fun _ h => h.elim) (fun _ _ => trivial) HI.out.row HI.out.low HI.out.low.size (by omega) ?_; intro v1 w8 hr8 hb8 _ _; have HI8 := Aside0.mk (HI2.out w8 v1 hr8 hb8); clear hr8 hb8))
      obtain ⟨A1, c1, hv1⟩ := Kd.R_slice HI8.out.row
      subst hv1
      go_wp2_with fail
      go_roundw
      case rel => exact ⟨_, _, rfl, HI8⟩
      case measure => have := hcs.out; simp only [this]; omega
  · have hvf : validB l 2 = false := by simpa using hv
    rw [hvf] at CV
    have HN := Lib.hid (show ¬ WriteOk l size from fun h => hv h.1)
    clear hv
    go_enter Tryd.func8, Tryd.ntmps8
    go_wp2_with fail
    refine CV.out.mono ?_
    rintro e w1 ⟨rfl, hb1⟩
    have HB1 := Aside0.mk hb1
    clear hb1 CV
    go_wp2
    refine bodyPost_ret (v := .tuple #[.slice none 0 0, .int .i64 1]) (by simp [results, Tryd.f8, go_sem]) rfl ?_
    exact .inl ⟨HN.out, rfl, HB1.out⟩
set_option maxRecDepth 100000 in
set_option maxHeartbeats 2000000 in
theorem Resume_c (A : Option Addr) (c : Nat) (l : List S46) (size : Int) (j : Nat) (W : World) (hT : Tab10 W) (hr : Kd.C k46 W A l.length l) (hc : l.length ≤ c) (hok : WriteOk l size) (hj : j ≤ (partsOf l size.toNat).length) :
    Calls Tryd.prog 13 #[.slice A l.length c, .int .i64 size, .int .i64 (j : Int)] W fun e w' => ∃ A' c', e = .returned (.tuple #[.slice A' ((partsOf l size.toNat).drop j).length c', .int .i64 0]) ∧ ((partsOf l size.toNat).drop j).length ≤ c' ∧ Kd.C Kd.string w' A' ((partsOf l size.toNat).drop j).length ((partsOf l size.toNat).drop j) ∧ Below W.heap.size W w' := by
  have CW := Aside0.mk (Write_c A c l size W hT hr hc)
  have HOK := Aside0.mk hok
  clear hT hr hok
  generalize hP : partsOf l size.toNat = P at *
  have HP := Lib.hid hP
  clear hP
  go_enter Tryd.func13, Tryd.ntmps13
  go_wp2_with fail
  refine CW.out.mono ?_
  rintro e w1 (⟨hno, _, _⟩ | ⟨v, _, rfl, hR, hB⟩)
  · exact absurd HOK.out hno
  rw [HP.out] at hR
  obtain ⟨A1, c1, hv, hc1, hC1⟩ := Kd.R_reads hR
  subst hv
  have HC1 := Aside0.mk hC1
  have HB1 := Aside0.mk hB
  clear hR hC1 hB CW
  have g1 : decide ((j : Int) < 0) = false := decide_eq_false (by omega)
  have g2 : decide ((j : Int) > (P.length : Int)) = false := decide_eq_false (by omega)
  have g3 : decide ((P.length : Int) < (j : Int)) = false := decide_eq_false (by omega)
  have j1 : (j : Int) ≤ (P.length : Int) := by omega
  have j2 : (P.length : Int) ≤ (c1 : Int) := by omega
  have j3 : (j : Int) ≤ (c1 : Int) := by omega
  have hlz : (P.drop j).length = P.length - j := List.length_drop
  go_wp2
  · refine bodyPost_ret (v := .tuple #[.slice A1 (P.length - j) 0, .int .i64 0]) (by simp [results, Tryd.f13, go_sem]) rfl ?_
    have h := Kd.C_drop (c := j) HC1.out hj (by omega)
    rw [if_pos rfl, hlz] at h
    exact ⟨A1, 0, rfl, by omega, h, HB1.out⟩
  · refine bodyPost_ret (v := .tuple #[.slice (A1.map (fun x => x.add j)) (P.length - j) (c1 - j), .int .i64 0]) (by simp [results, Tryd.f13, go_sem]) rfl ?_
    have h := Kd.C_drop (c := c1) HC1.out hj hc1
    rw [if_neg (by assumption), hlz, show j * Kd.string.sz = j from Nat.mul_one j] at h
    exact ⟨_, c1 - j, rfl, by omega, h, HB1.out⟩
end Go.Proofs.YtehlmkgldcfciaaDoor.Files
/- The bulk of a slice of words, and the text that they make. -/
set_option linter.unusedVariables false
set_option linter.unusedSimpArgs false
namespace Go.Proofs.YtehlmkgldcfciaaDoor.Files
open Go.Proofs.YtehlmkgldcfciaaDoor.Common Go.RowKit Go.Lib Go.Shelf Go.Proofs.YtehlmkgldcfciaaDoor.F Go.Proofs.YtehlmkgldcfciaaDoorW.PrintWords
open Go.ChangeShapes Go.WideShapes Go.Deep
theorem bulk_strs {H : Type} (D : Nat → DataW H) (S : Nat → ByteArray) : ∀ (l : List Nat), (∀ i ∈ l, D i = .lit (.string (S i).data.toList)) → (l.map fun i => (S i).size + 1).sum = Rows.uptoBulkAll (l.map D)
  | [], _ => rfl
  | i :: r, h => by
    have ih := bulk_strs D S r (fun j hj => h j (List.mem_cons_of_mem _ hj))
    rw [List.map_cons, List.map_cons, List.sum_cons, ih, h i List.mem_cons_self]
    simp only [Rows.uptoBulkAll, Rows.uptoBulk]
    have := Lib.size_eq (S i)
    omega
theorem flat_len : ∀ (l : List ByteArray), ((l.map (·.data.toList)).map (([] : List UInt8) ++ ·)).flatten.length = (l.map (·.size)).sum
  | [] => rfl
  | x :: r => by
    rw [List.map_cons, List.map_cons, List.flatten_cons, List.length_append, flat_len r, List.map_cons, List.sum_cons, Lib.size_eq x]
    all_goals rfl
theorem join_len : ∀ (l : List ByteArray), (Lib.join (l.map (·.data.toList)) []).length = (l.map (·.size)).sum
  | [] => rfl
  | x :: r => by
    rw [List.map_cons, Lib.join_cons, List.length_append, List.map_cons, List.sum_cons, Lib.size_eq x]
    have := flat_len r
    unfold Lib.joinTail
    omega
theorem sum_range (x : List ByteArray) : ((List.range x.length).map fun i => (x.getD i ⟨#[]⟩).size + 1).sum = (x.map (·.size)).sum + x.length := by
  have e : ((List.range x.length).map fun i => (x.getD i ⟨#[]⟩).size + 1) = x.map (fun s => s.size + 1) := by
    apply List.ext_getElem?
    intro j
    rw [List.getElem?_map, List.getElem?_map]
    by_cases hj : j < x.length
    · rw [List.getElem?_range hj, List.getElem?_eq_getElem hj]
      simp [List.getD_eq_getElem?_getD, List.getElem?_eq_getElem hj]
    · rw [List.getElem?_eq_none (by simp; omega), List.getElem?_eq_none (by omega)]
      rfl
  rw [e]
  clear e
  induction x with
  | nil => rfl
  | cons a r ih => simp only [List.map_cons, List.sum_cons, List.length_cons, ih]; omega
/-- What is read as data of the type []string holds all its letters. -/
theorem bulk_words {H : Type} {enc : TypeId × Value → H} {W : World} {fuel : Nat} {cs : List Value} {dat : DataW H} {ps : List MemPlace} (h : DataW.trod enc Tryd.prog W 0 (fun _ => true) true fuel 22 cs = some (dat, ps)) {x : List ByteArray} (hk : (Kd.slice 9 Kd.string).K W x cs) :
    (x.map (·.size)).sum + x.length ≤ Rows.uptoBulk dat := by
  obtain ⟨A, c, hcs, hlc, hC⟩ := hk
  rcases open_slice Tryd.underlying22 h with ⟨rfl, hx⟩ | ⟨a, len, cap, m, n, D, Pl, rfl, _, hl, hm, hmm, hx, hi⟩
  · have h0 : x.length = 0 := by
      injection hcs with h1 _
      injection h1 with _ h2 _
      exact h2.symm
    obtain rfl := List.eq_nil_of_length_eq_zero h0
    simp
  · have hmc : m = cap := by rw [hmm]; rfl
    subst hmc
    injection hcs with h1 _
    injection h1 with hA hlen _
    subst hlen
    subst hA
    obtain ⟨rfl, _⟩ := Prod.mk.inj hx
    have hD : ∀ i ∈ List.range x.length, D i = .lit (.string (x.getD i ⟨#[]⟩).data.toList) := fun i hir => by
      have hil : i < x.length := List.mem_range.1 hir
      obtain ⟨cs', hc, ht'⟩ := hi i (by omega)
      obtain ⟨_, hcl, hat⟩ := World.cells?_some hc
      obtain ⟨s, rfl, hx', _⟩ := DataW.trod_string Tryd.underlying9 ht'
      obtain ⟨hDi, _⟩ := Prod.mk.inj hx'
      rw [hDi]
      have hc9 : Tryd.prog.cellsOf 9 = 1 := by kernel_rfl
      have h1 := hat 0 (by rw [hc9]; exact Nat.zero_lt_one)
      obtain ⟨ad, c', e, _, hK, hc2⟩ := Kd.C_get hC ⟨#[]⟩ (i : Int) (by omega) (by omega)
      cases e
      rw [Int.toNat_natCast] at hK hc2
      have hK' : c' = [.string (x.getD i ⟨#[]⟩)] := hK
      have h2 := hc2 0 _ (by rw [hK']; rfl)
      rw [hc9] at h1
      have e2 : (a.add (i * 1)).add 0 = a.add (i * Kd.string.sz + 0) := by
        rw [Go.Deep.add_add]
        all_goals rfl
      rw [e2] at h1
      rw [h2] at h1
      rw [Value.string.inj (Option.some.inj h1)]
    have := bulk_strs D (fun i => x.getD i ⟨#[]⟩) (List.range x.length) hD
    rw [sum_range] at this
    simp only [Rows.uptoBulk]
    omega
theorem textOf_data (x : List ByteArray) : (textOf x).data.toList = Lib.join (x.map (·.data.toList)) [] := by
  unfold textOf strings_Join.j
  exact List.toList_toArray
theorem textOf_size (x : List ByteArray) : (textOf x).size = (x.map (·.size)).sum := (Lib.size_eq (textOf x)).trans ((congrArg List.length (textOf_data x)).trans (join_len x))
end Go.Proofs.YtehlmkgldcfciaaDoor.Files
