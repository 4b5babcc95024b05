/- The file store: units; a change noted; names that clash. -/
import Derived.Test.YtehlmkgldcfciaaFilesA
import Derived.Test.YtehlmkgldcfciaaFilesB
import Derived.Test.YtehlmkgldcfciaaRawIns
import Derived.Test.YtehlmkgldcfciaaFx0
import Derived.Test.YtehlmkgldcfciaaFx2
set_option linter.unusedVariables false
set_option linter.unusedSimpArgs false
namespace Go.Proofs.Ytehlmkgldcfciaa.Files
open Go.Proofs.Ytehlmkgldcfciaa.Common Go.Maps Go.ChangeMaps Go.WideMaps Go.Proofs.Ytehlmkgldcfciaa.F
open Go.RowKit Go.Proofs.YtehlmkgldcfciaaW.PrintWords Go.Proofs.YtehlmkgldcfciaaW.PrintLast Go.Proofs.YtehlmkgldcfciaaW.PrintMore
set_option maxRecDepth 100000 in
set_option maxHeartbeats 2000000 in
theorem unit_c (sb mb k fb ub k2 len cu : Nat) (Au : Option Addr) (D DU : DataW Unit) (F : FS) (rv : Value) (u n : ByteArray) (at_ action a b : Int) (W : World) (c0 : W.cell? ⟨sb, 0, none⟩ = some (.map (some mb))) (hown : W.ownsMap Try.prog 9 Rp mb k D)
    (hu : 1 ≤ u.size ∧ u.size ≤ 20) (hn : 1 ≤ n.size ∧ n.size ≤ 30) (hD : D.atKey (.string n.data.toList) .nil = .lit (.int .i64 (fb : Nat))) (hF : FileAt W fb F rv (.slice Au len cu) ub) (hU : W.ownsMap Try.prog 9 Ro ub k2 DU)
    (hhas : Maps.has DU (.string u.data.toList) = true) (hat : DU.atKey (.string u.data.toList) (.agg [.lit (.int .i64 0), .lit (.int .i64 0)]) = .agg [.lit (.int .i64 a), .lit (.int .i64 b)])
    (h0 : 0 ≤ at_) (h1 : at_ < (len : Int)) (hok : bits .and .i64 a action ≠ 0) :
    Calls Try.prog 46 #[.pointer (some ⟨sb, 0, none⟩), .string u, .string n, .int .i64 at_, .int .i64 action] W fun e w' => e = .returned (.tuple #[.pointer (some ⟨fb, 0, none⟩), .int .i64 0, .int .i64 0]) ∧ Below W.heap.size W w' := by
  have hlt : fb < W.heap.size := (Array.getElem?_eq_some_iff.1 hF).1
  have CO := Aside0.mk (opened_c sb mb k fb ub k2 D DU F rv (.slice Au len cu) u n action a b W c0 hown hu hn hD hF hU hhas hat)
  rw [if_neg hok] at CO
  have c8 : W.cell? ⟨fb, 8, none⟩ = some (.slice Au len cu) := (blk_cell hF 8).trans rfl
  have h0' : decide (at_ < 0) = false := decide_eq_false (by omega)
  have h1' : decide ((len : Int) ≤ at_) = false := decide_eq_false (by omega)
  clear hown hF hU
  go_enter Try.func46, Try.ntmps46
  go_wp2_with first | (go_at_call 39; refine CO.out.mono ?_; rintro e w2 ⟨rfl, hb2⟩; have d8 := (hb2.cell (p := ⟨fb, 8, none⟩) hlt).trans c8)
  go_ret3
  exact ⟨rfl, hb2⟩
set_option maxRecDepth 100000 in
theorem changed_c (fb ub : Nat) (F : FS) (rv uv : Value) (u : ByteArray) (W : World) (hF : FileAt W fb F rv uv ub) :
    Calls Try.prog 51 #[.pointer (some ⟨fb, 0, none⟩), .string u] W fun e w' => e = .returned (.int .i64 0) ∧ w' = (W.setCell ⟨fb, 5, none⟩ (.int .i64 (wrap64 (F.ch + 1)))).setCell ⟨fb, 4, none⟩ (.string u) := by
  have c5 : W.cell? ⟨fb, 5, none⟩ = some (.int .i64 F.ch) := (blk_cell hF 5).trans rfl
  have c4 : W.cell? ⟨fb, 4, none⟩ = some (.string F.last) := (blk_cell hF 4).trans rfl
  have f5 := blk_frozen hF 5
  have f4 := blk_frozen hF 4
  clear hF
  go_enter Try.func51, Try.ntmps51
  go_wp2
  go_ret
  exact ⟨rfl, rfl⟩
theorem file_set {W : World} {fb ub : Nat} {F : FS} {rv uv : Value} (hF : FileAt W fb F rv uv ub) (i : Nat) (v : Value) {F' : FS} {rv' uv' : Value} (h : (F.cells rv uv ub).setIfInBounds i v = F'.cells rv' uv' ub) : FileAt (W.setCell ⟨fb, i, none⟩ v) fb F' rv' uv' ub := by
  unfold FileAt
  rw [← h]
  exact blk_set hF i v
set_option maxRecDepth 100000 in
set_option maxHeartbeats 2000000 in
theorem clash1_c (B1 B2 cu : Nat) (Au : Option Addr) (units : List S41) (nm : ByteArray) (i : Int) (W : World) (c1 : W.cell? ⟨B1, 0, none⟩ = some (.slice Au units.length cu)) (c2 : W.cell? ⟨B2, 0, none⟩ = some (.string nm))
    (hr : Kd.C k41 W Au units.length units) (h0 : 0 ≤ i) (h1 : i < (units.length : Int)) :
    Calls Try.prog 54 #[.int .i64 i, .pointer (some ⟨B1, 0, none⟩), .pointer (some ⟨B2, 0, none⟩)] W fun e w' => e = .returned (.bool (decide ((rd_T41 units i).f0 = nm))) ∧ Drawn0 W w' := by
  obtain ⟨ad, rfl, hx0, _, _⟩ := at_T41 hr i h0 h1
  have hbig : units.length ≤ 9223372036854775807 := hr.2.1
  clear hr
  generalize rd_T41 units i = x at hx0
  by_cases he : x.f0 = nm
  · have he' : (x.f0.toList == nm.toList) = true := by rw [he]; exact beq_yes _
    rw [show decide (x.f0 = nm) = true from decide_eq_true he]
    clear he
    go_enter Try.func54, Try.ntmps54
    go_wp2
    go_region
    go_wp2
    go_ret
    exact ⟨rfl, ⟨1, rfl⟩⟩
  · have he' := beq_no he
    rw [show decide (x.f0 = nm) = false from decide_eq_false he]
    clear he
    go_enter Try.func54, Try.ntmps54
    go_wp2
    go_region
    go_wp2
    go_ret
    exact ⟨rfl, ⟨1, rfl⟩⟩
/-- One of some units has a name that is not empty. -/
def clashB (units : List S41) (at_ : List Int) (nm : ByteArray) : Bool := !decide (nm = ⟨#[]⟩) && at_.any fun i => decide ((rd_T41 units i).f0 = nm)
set_option maxRecDepth 100000 in
set_option maxHeartbeats 2000000 in
theorem clash_c (cu ca : Nat) (Au Aa : Option Addr) (units : List S41) (at_ : List Int) (nm : ByteArray) (W : World) (hr : Kd.C k41 W Au units.length units) (hc : units.length ≤ cu) (ha : (Kd.int .i64).C W Aa at_.length at_) (hca : at_.length ≤ ca)
    (hin : ∀ i ∈ at_, 0 ≤ i ∧ i < (units.length : Int)) :
    Calls Try.prog 29 #[.slice Au units.length cu, .slice Aa at_.length ca, .string nm] W fun e w' => e = .returned (.bool (clashB units at_ nm)) ∧ Below W.heap.size W w' := by
  have hb : Below W.heap.size W ((W.alloc (.cells #[.slice Au units.length cu] 22)).alloc (.cells #[.string nm] 9)) := ((Below.refl _ W).alloc (Nat.le_refl _) _).alloc (by simp) _
  have b1 := ((Boxed.new W 22 (.slice Au units.length cu)).alloc (.cells #[.string nm] 9)).cell
  have b2 := (Boxed.new (W.alloc (.cells #[.slice Au units.length cu] 22)) 9 (.string nm)).cell
  rw [World.size_alloc] at b2
  have HC := Aside0.mk (slices_ContainsFunc_int_int.calls 54 #[.pointer (some ⟨W.heap.size, 0, none⟩), .pointer (some ⟨W.heap.size + 1, 0, none⟩)] (enters_of Try.func54 (by kernel_rfl) rfl) (fun i => decide ((rd_T41 units i).f0 = nm)) Aa ca at_ _ (Kd.C_below ha hb) hca
    (fun W2 x hx hd => clash1_c W.heap.size (W.heap.size + 1) cu Au units nm x W2 ((hd.below.cell (p := ⟨W.heap.size, 0, none⟩) (by simp <;> omega)).trans b1) ((hd.below.cell (p := ⟨W.heap.size + 1, 0, none⟩) (by simp <;> omega)).trans b2) (Kd.C_below (Kd.C_below hr hb) hd.below) (hin x hx).1 (hin x hx).2))
  have HB := Aside0.mk hb
  clear hr ha
  by_cases he : nm = ⟨#[]⟩
  · have he' : (nm.toList == []) = true := by rw [he, ByteArray.toList_eq]; rfl
    rw [show clashB units at_ nm = false by simp [clashB, he]]
    clear hb he
    go_enter Try.func29, Try.ntmps29
    go_wp2
    go_ret
    exact ⟨by first | rfl | simp [*], HB.out⟩
  · have he' : (nm.toList == []) = false := by
      have := beq_no he
      rw [ByteArray.toList_eq (⟨#[]⟩ : ByteArray)] at this
      exact this
    rw [show clashB units at_ nm = at_.any (fun i => decide ((rd_T41 units i).f0 = nm)) by simp [clashB, he]]
    clear hb he
    go_enter Try.func29, Try.ntmps29
    go_wp2_with (go_at_call 53; refine HC.out.mono ?_; rintro e w2 ⟨rfl, hd2⟩)
    go_ret
    exact ⟨by first | rfl | simp [*], HB.out.trans (hd2.below.mono HB.out.size)⟩
/-! Units as cells. -/
def uCells (x : S41) : List Value := [.string x.f0, .string x.f1, .int .i64 x.f2]
def uRow (l : List S41) : List Value := (l.map uCells).flatten
theorem uRow_snoc (l : List S41) (x : S41) : uRow (l ++ [x]) = uRow l ++ uCells x := by simp [uRow]
theorem R_of_uRow {W : World} {base : Nat} {v : Value} {l : List S41} (h : W.ownsRow base 41 3 v l.length (uRow l)) : Kd.R k41 41 W base (fun _ => True) v l := by
  refine ⟨fun _ _ => trivial, uRow l, h, h.1, fun j x hj => ?_⟩
  have e : ((uRow l).drop (j * 3)).take 3 = uCells x := flat_at (css := l.map uCells) (fun c hc => by obtain ⟨y, _, rfl⟩ := List.mem_map.1 hc; rfl) (by rw [List.getElem?_map, hj]; rfl)
  show k41.M W base _ x (((uRow l).drop (j * 3)).take 3)
  rw [e]
  exact k41_mkM _ _ _ x
theorem uRow_of_R {W : World} {base : Nat} {ok : Nat → Prop} {v : Value} {l : List S41} (h : Kd.R k41 41 W base ok v l) : W.ownsRow base 41 3 v l.length (uRow l) := by
  obtain ⟨_, inner, ho, hl, hr⟩ := h
  have e : inner = uRow l := by
    clear ho
    have hr' : ∀ (j : Nat) (x : S41), l[j]? = some x → (inner.drop (j * 3)).take 3 = uCells x := fun j x hj => k41_openM (hr j x hj)
    have hl' : inner.length = l.length * 3 := hl
    clear hl hr
    induction l generalizing inner with
    | nil => simp at hl'; rw [hl']; rfl
    | cons x r ih =>
      have h1 := hr' 0 x rfl
      rw [Nat.zero_mul, List.drop_zero] at h1
      have h2 := ih (inner := inner.drop 3) (fun j y hj => by
        have := hr' (j + 1) y (by simpa using hj)
        rw [List.drop_drop]
        rw [Nat.add_mul, Nat.one_mul, Nat.add_comm] at this
        exact this) (by rw [List.length_drop, hl', List.length_cons]; omega)
      rw [show uRow (x :: r) = uCells x ++ uRow r from rfl, ← h1, ← h2]
      exact (List.take_append_drop 3 inner).symm
  rw [← e]
  exact ho
/-- How an element put behind the last one leaves a row. -/
def InsEnd (w : World) (base g len : Nat) (xs news : List Value) (e : Ending) (w' : World) : Prop :=
  ∃ g' cap', e = .returned (.slice (some ⟨g', 0, none⟩) (len + 1) cap') ∧ w'.ownsRow base 41 3 (.slice (some ⟨g', 0, none⟩) (len + 1) cap') (len + 1) (xs ++ news) ∧ w.grownBy w' (some g) ∧ (g' = g ∨ g' = w.heap.size) ∧ g' < w'.heap.size
set_option maxRecDepth 100000 in
set_option maxHeartbeats 2000000 in
theorem Ins_c (base g len cap vb : Nat) (xs : List Value) (a b c : Value) (w : World) (hown : w.ownsRow base 41 3 (.slice (some ⟨g, 0, none⟩) len cap) len xs) (hv : w.heap[vb]? = some (.cells #[a, b, c] 41 (0, 0)))
    (h1 : a.oneCell' = true ∧ b.oneCell' = true ∧ c.oneCell' = true) (hlen : len < 100000) (hcap : len ≤ cap ∧ cap ≤ 9223372036854775807) (hb : base ≤ w.heap.size) :
    Calls Try.prog 50 #[.slice (some ⟨g, 0, none⟩) len cap, .int .i64 len, .slice (some ⟨vb, 0, none⟩) 1 1] w (InsEnd w base g len xs [a, b, c]) := by
  obtain ⟨i0, hi, hz0, hz1, hz2⟩ := info_parts (P := Try.prog) (e := 41) (show (Try.prog.info? 41).map (fun i => (i.zero, i.size, i.bytes)) = some (some (.agg #[.string ⟨#[]⟩, .string ⟨#[]⟩, .int .i64 0]), 3, 40) by kernel_rfl)
  have hl0 : (0 : Int) ≤ (len : Int) := by omega
  have hlc : (len : Int) ≤ (cap : Int) := by omega
  have hcb : (cap : Int) ≤ 9223372036854775807 := by omega
  have HV := Aside0.mk (World.news_of_block hv)
  have H1 := Aside0.mk (show ∀ u ∈ [a, b, c], u.oneCell' = true from fun u hu => by
    rcases List.mem_cons.1 hu with rfl | hu
    · exact h1.1
    · rcases List.mem_cons.1 hu with rfl | hu
      · exact h1.2.1
      · rw [List.mem_singleton.1 hu]; exact h1.2.2)
  clear hv h1
  go_enter Try.func50, Try.ntmps50
  go_wp2_with first | (at_builtin; refine wpList_append_lies _ rfl _ _ 22 rfl base 41 i0 _ 3 40 Try.underlying22 hi hz0 hz1 hz2 rfl (by decide) (.slice (some ⟨g, 0, none⟩) len cap) len xs rfl hown ⟨vb, 0, none⟩ 1 1 [a, b, c] rfl rfl HV.out H1.out (by decide) (by unfold maxLen; omega) (by omega) hb _ rfl ?_; intro g' cap' w' hown' hgrow' hat' hlt'; have HAT := Aside0.mk hat'; clear hat')
  all_goals
    go_ret
    have hat2 : g' = g ∨ g' = w.heap.size := by
      rcases HAT.out with h | h
      · have h2 : some g = some g' := h
        injection h2 with h2
        exact .inl h2.symm
      · exact .inr h
    exact ⟨g', cap', rfl, hown', hgrow', hat2, hlt'⟩
end Go.Proofs.Ytehlmkgldcfciaa.Files
