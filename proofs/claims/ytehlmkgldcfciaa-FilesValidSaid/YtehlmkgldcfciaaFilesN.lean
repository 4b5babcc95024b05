/- files.Valid: what it reckons. -/
import Derived.Test.YtehlmkgldcfciaaFilesH
import Derived.Deep.QuietTactic
import Derived.BigQuiet
import Derived.Test.YtehlmkgldcfciaaFx0
set_option linter.unusedVariables false
set_option linter.unusedSimpArgs false
namespace Go.Proofs.Ytehlmkgldcfciaa.Files
open Go.Proofs.Ytehlmkgldcfciaa.Common Go.Maps Go.ChangeMaps Go.WideMaps Go.Proofs.Ytehlmkgldcfciaa.F
open Go.RowKit Go.Proofs.YtehlmkgldcfciaaW.PrintWords Go.Proofs.YtehlmkgldcfciaaW.PrintLast Go.Proofs.YtehlmkgldcfciaaW.PrintMore
def okAll (p : Nat → Bool) (n : Nat) : Bool := (List.range n).all p
theorem okAll_false {p : Nat → Bool} {n i : Nat} (hi : i < n) (h : p i = false) : okAll p n = false := by
  unfold okAll
  rw [List.all_eq_false]
  exact ⟨i, List.mem_range.2 hi, by simp [h]⟩
theorem okAll_true {p : Nat → Bool} {n : Nat} (h : ∀ i, i < n → p i = true) : okAll p n = true := by
  unfold okAll
  rw [List.all_eq_true]
  exact fun i hi => h i (List.mem_range.1 hi)
theorem okAll_iff {p : Nat → Bool} {n : Nat} : okAll p n = true ↔ ∀ i, i < n → p i = true :=
  ⟨fun h i hi => List.all_eq_true.1 h i (List.mem_range.2 hi), okAll_true⟩
/-- One unit's own check. -/
def chk (l : List S41) (kind : Int) (i : Nat) : Bool :=
  decide ((rd_T41 l (i : Int)).f0.size ≤ 30) && decide ((rd_T41 l (i : Int)).f1.size ≤ 400) && (decide (lv l i = 0) == decide (i = 0)) && decide (0 ≤ lv l i) && (decide (i = 0) || decide (lv l i ≤ lv l (i - 1) + 1)) && (decide (2 ≤ kind) || decide (lv l i ≤ kind))
def kidsOk (l : List S41) (i : Nat) : Bool := okAll (fun k => !clashB l ((kids l i).take k) (rd_T41 l ((kids l i).getD k 0)).f0) (kids l i).length
def headOk (l : List S41) (kind : Int) : Bool := decide (0 ≤ kind) && decide (kind ≤ 2) && decide (1 ≤ l.length) && decide (l.length ≤ 100)
def validB (l : List S41) (kind : Int) : Bool := headOk l kind && okAll (chk l kind) l.length && okAll (kidsOk l) l.length
theorem chk_iff (l : List S41) (kind : Int) (i : Nat) : chk l kind i = true ↔ ((rd_T41 l (i : Int)).f0.size ≤ 30 ∧ (rd_T41 l (i : Int)).f1.size ≤ 400 ∧ ((i = 0 → (rd_T41 l (i : Int)).f2 = 0) ∧ (i ≠ 0 → (rd_T41 l (i : Int)).f2 ≠ 0)) ∧ 0 ≤ (rd_T41 l (i : Int)).f2 ∧ (i = 0 ∨ (rd_T41 l (i : Int)).f2 ≤ lv l (i - 1) + 1) ∧ (2 ≤ kind ∨ (rd_T41 l (i : Int)).f2 ≤ kind)) := by
  unfold chk lv
  simp only [Bool.and_eq_true, Bool.or_eq_true, decide_eq_true_eq, beq_iff_eq, decide_eq_decide, and_assoc]
  constructor
  · rintro ⟨h1, h2, h3, h4, h5, h6⟩
    exact ⟨h1, h2, h3.2, fun h e => h (h3.1 e), h4, h5, h6⟩
  · rintro ⟨h1, h2, h3, h3', h4, h5, h6⟩
    exact ⟨h1, h2, ⟨fun e => Decidable.byContradiction fun h => h3' h e, h3⟩, h4, h5, h6⟩
theorem chk_lv {l : List S41} {kind : Int} : ∀ i, (∀ j, j ≤ i → chk l kind j = true) → 0 ≤ lv l i ∧ lv l i ≤ i
  | 0, h => by
    have := h 0 (Nat.le_refl _)
    simp only [chk, Bool.and_eq_true, decide_eq_true_eq, beq_iff_eq] at this
    have h2 := this.1.1.1.2
    simp at h2
    omega
  | i + 1, h => by
    have ih := chk_lv i (fun j hj => h j (by omega))
    have := h (i + 1) (Nat.le_refl _)
    simp only [chk, Bool.and_eq_true, Bool.or_eq_true, decide_eq_true_eq] at this
    have h1 := this.1.1.2
    have h2 := this.1.2
    simp at h2
    omega
theorem ints_slice {W : World} {base : Nat} {ok : Nat → Prop} {v : Value} {l : List Int} (h : Kd.R (Kd.int .i64) 3 W base ok v l) (hn : 0 < l.length) : ∃ g c, v = .slice (some ⟨g, 0, none⟩) l.length c := by
  obtain ⟨inner, ho⟩ := Kd.R_own h
  rcases ho.2 with ⟨_, h0⟩ | ⟨g, cap, cur, hv, _⟩
  · omega
  · exact ⟨g, cap, hv⟩
theorem clash_pre (ad : Addr) (c g6 c6 k : Nat) (l : List S41) (ks : List Int) (nm : ByteArray) (W w1 : World) (hr : Kd.C k41 W (some ad) l.length l) (hb : Below W.heap.size W w1) (hc : l.length ≤ c)
    (hR : Kd.R (Kd.int .i64) 3 w1 0 (fun _ => True) (.slice (some ⟨g6, 0, none⟩) ks.length c6) ks) (hk : k ≤ ks.length) (hin : ∀ x ∈ ks, 0 ≤ x ∧ x < (l.length : Int)) :
    Calls Try.prog 29 #[.slice (some ad) l.length c, .slice (some ⟨g6, 0, none⟩) k c6, .string nm] w1 fun e w' => e = .returned (.bool (clashB l (ks.take k) nm)) ∧ Below w1.heap.size w1 w' := by
  obtain ⟨_, hkc, hC⟩ := Kd.R_reads' hR
  have h1 : (ks.take k).length = k := by rw [List.length_take, Nat.min_eq_left hk]
  have := clash_c c c6 (some ad) (some ⟨g6, 0, none⟩) l (ks.take k) nm w1 (Kd.C_below hr hb) hc (Kd.C_take hC hk) (by omega) (fun x hx => hin x (List.mem_of_mem_take hx))
  rwa [h1] at this
/-- A world that has gone on, told once for the walk's end. -/
structure Gone (W w : World) : Prop where mk_ :: (out : Below W.heap.size W w)
theorem Gone.outN {W w : World} (h : Gone W w) (n : Nat) : Aside0 (Below W.heap.size W (w.drewN n)) := ⟨pw_below_drewN h.out n⟩
def ValidW.T16 : Bool × List (List Nat × List Nat) := (true, [([], []), ([], []), ([], []), ([1, 2], [1, 2]), ([], []), ([], []), ([], []), ([5, 6], [5, 6]), ([7], [7]), ([4, 8], [4, 8]), ([9], [9]), ([10], [10]), ([0, 3, 11], [0, 3, 11])])
def ValidW.B16 : List Nat := [0, 0, 0, 6, 0, 0, 0, 96, 224, 496, 1008, 2032, 4095]
theorem ValidW.tab16 : rtab .any (opsOf Try.f7 16) = ValidW.T16 := by kernel_rfl
theorem ValidW.bits16 : waitsOk ValidW.T16.2 ValidW.B16 = true := by kernel_rfl
set_option maxRecDepth 100000 in
set_option maxHeartbeats 80000000 in
theorem Valid_c (A : Option Addr) (c : Nat) (l : List S41) (kind : Int) (W : World) (hr : Kd.C k41 W A l.length l) (hc : l.length ≤ c) :
    Calls Try.prog 7 #[.slice A l.length c, .int .i64 kind] W fun e w' => e = .returned (.bool (validB l kind)) ∧ Below W.heap.size W w' := by
  have HR := Aside0.mk hr
  have hbig : l.length ≤ 9223372036854775807 := hr.2.1
  clear hr
  by_cases c1 : 0 ≤ kind
  · have b1 : decide (kind < 0) = false := decide_eq_false (by omega)
    by_cases c2 : kind ≤ 2
    · have b2 : decide (2 < kind) = false := decide_eq_false (by omega)
      by_cases c3 : 1 ≤ l.length
      · have b3' : decide ((l.length : Int) < 1) = false := decide_eq_false (by omega)
        by_cases c4 : l.length ≤ 100
        · have b4 : decide ((100 : Int) < (l.length : Int)) = false := decide_eq_false (by omega)
          have HV : Aside0 (validB l kind = (okAll (chk l kind) l.length && okAll (kidsOk l) l.length)) := ⟨by simp [validB, headOk, c1, c2, c3, c4]⟩
          go_enter Try.func7, Try.ntmps7
          go_wp2_with fail
          go_loopw [28] (fun s wr => ∃ i : Nat, i ≤ l.length ∧ s = .int .i64 i ∧ Aside0 (Below W.heap.size W wr) ∧ Aside0 (∀ j, j < i → chk l kind j = true)) (fun s _ => l.length - (intOf s).toNat)
          case atStart => exact ⟨0, Nat.zero_le _, rfl, ⟨Below.refl _ _⟩, ⟨fun j hj => absurd hj (Nat.not_lt_zero _)⟩⟩
          case round =>
            obtain ⟨i, hi, rfl, HB, HC⟩ := hrel
            by_cases hlt : i < l.length
            · have hltz : (i : Int) < (l.length : Int) := by omega
              obtain ⟨ad, rfl, x0, x1, x2⟩ := at_T41 (Kd.C_below HR.out HB.out) (i : Int) (by omega) (by omega)
              rw [Int.toNat_natCast] at x0 x1 x2
              have HBADV := Aside0.mk (fun (h : chk l kind i = false) => show validB l kind = false by rw [HV.out, okAll_false hlt h]; rfl)
              have HNEXT := Aside0.mk (fun (h : chk l kind i = true) => Aside0.mk (fun j (hj : j < i + 1) => show chk l kind j = true by
                rcases Nat.lt_or_ge j i with h2 | h2
                · exact HC.out j h2
                · rw [show j = i by omega]; exact h))
              have HLT := Aside0.mk (show i + 1 ≤ l.length from hlt)
              have HCK := Lib.hid (show chk l kind i = true ↔ ((rd_T41 l (i : Int)).f0.size ≤ 30 ∧ (rd_T41 l (i : Int)).f1.size ≤ 400 ∧ ((i = 0 → (rd_T41 l (i : Int)).f2 = 0) ∧ (i ≠ 0 → (rd_T41 l (i : Int)).f2 ≠ 0)) ∧ 0 ≤ (rd_T41 l (i : Int)).f2 ∧ (i = 0 ∨ (rd_T41 l (i : Int)).f2 ≤ lv l (i - 1) + 1) ∧ (2 ≤ kind ∨ (rd_T41 l (i : Int)).f2 ≤ kind)) from chk_iff l kind i)
              have HB2 := Gone.mk_ (show Below W.heap.size W (wr.alloc (.cells #[.string (rd_T41 l (i : Int)).f0, .string (rd_T41 l (i : Int)).f1, .int .i64 (rd_T41 l (i : Int)).f2] 41)) from HB.out.alloc HB.out.size _)
              have HXP := Aside0.mk (fun p (hp : i = p + 1) => show (0 ≤ lv l p ∧ lv l p ≤ 100) ∧ wr.cell? ⟨(ad.add (p * 3)).block, (ad.add (p * 3)).off + 2, none⟩ = some (.int .i64 (lv l p)) by
                have hlvp := chk_lv (l := l) (kind := kind) p (fun j hj => HC.out j (by omega))
                obtain ⟨ad2, he2, _, _, xp⟩ := at_T41 (Kd.C_below HR.out HB.out) (p : Int) (by omega) (by omega)
                cases he2
                rw [Int.toNat_natCast] at xp
                exact ⟨⟨hlvp.1, by omega⟩, xp⟩)
              generalize rd_T41 l (i : Int) = x at x0 x1 x2 HCK HB2
              go_wp2_with fail
              clear x0 x1 x2
              cases i with
              | zero =>
                have hcase : (30 < x.f0.size) ∨ (x.f0.size ≤ 30 ∧ 400 < x.f1.size) ∨ (x.f0.size ≤ 30 ∧ x.f1.size ≤ 400 ∧ x.f2 ≠ 0) ∨ (x.f0.size ≤ 30 ∧ x.f1.size ≤ 400 ∧ x.f2 = 0 ∧ kind < 2) ∨ (x.f0.size ≤ 30 ∧ x.f1.size ≤ 400 ∧ x.f2 = 0 ∧ 2 ≤ kind) := by omega
                have HCS := Aside0.mk hcase
                rcases hcase with hcase | hcase | hcase | hcase | hcase
                · have fa : decide ((30 : Int) < (x.f0.size : Int)) = true := decide_eq_true (by omega)
                  have HCX := Lib.hid hcase
                  clear hcase
                  go_quiet (fail)
                  go_wp2
                  go_ret
                  have hcase := HCX.out
                  exact ⟨by rw [HBADV.out (Bool.eq_false_iff.2 (fun h => by obtain ⟨q1, q2, q3, q4, q5, q6⟩ := HCK.out.1 h; have q7 := q3.1 (by first | trivial | rfl); omega))]; rfl, (HB2.outN _).out⟩
                · have fa : decide ((30 : Int) < (x.f0.size : Int)) = false := decide_eq_false (by omega)
                  have fbb : decide ((400 : Int) < (x.f1.size : Int)) = true := decide_eq_true (by omega)
                  have HCX := Lib.hid hcase
                  clear hcase
                  go_quiet (fail)
                  go_wp2
                  go_ret
                  have hcase := HCX.out
                  exact ⟨by rw [HBADV.out (Bool.eq_false_iff.2 (fun h => by obtain ⟨q1, q2, q3, q4, q5, q6⟩ := HCK.out.1 h; have q7 := q3.1 (by first | trivial | rfl); omega))]; rfl, (HB2.outN _).out⟩
                · have fa : decide ((30 : Int) < (x.f0.size : Int)) = false := decide_eq_false (by omega)
                  have fbb : decide ((400 : Int) < (x.f1.size : Int)) = false := decide_eq_false (by omega)
                  have fc : (x.f2 == 0) = false := beq_eq_false_iff_ne.2 (by omega)
                  have HCX := Lib.hid hcase
                  clear hcase
                  go_quiet (fail)
                  go_wp2
                  go_ret
                  have hcase := HCX.out
                  exact ⟨by rw [HBADV.out (Bool.eq_false_iff.2 (fun h => by obtain ⟨q1, q2, q3, q4, q5, q6⟩ := HCK.out.1 h; have q7 := q3.1 (by first | trivial | rfl); omega))]; rfl, (HB2.outN _).out⟩
                · have fa : decide ((30 : Int) < (x.f0.size : Int)) = false := decide_eq_false (by omega)
                  have fbb : decide ((400 : Int) < (x.f1.size : Int)) = false := decide_eq_false (by omega)
                  have fc : (x.f2 == 0) = true := beq_iff_eq.2 (by omega)
                  have fd : decide (x.f2 < 0) = false := decide_eq_false (by omega)
                  have fk : decide (kind < 2) = true := decide_eq_true (by omega)
                  have fm : decide (kind < x.f2) = false := decide_eq_false (by omega)
                  have HCX := Lib.hid hcase
                  clear hcase
                  go_quiet (fail)
                  go_wp2
                  have HTR := Aside0.mk (show chk l kind _ = true from HCK.out.2 (by have hcase := HCX.out; exact ⟨by omega, by omega, ⟨fun h => by omega, fun h => by omega⟩, by omega, by omega, by omega⟩))
                  go_roundw
                  case rel => exact ⟨_, HLT.out, by go_num, ⟨(HB2.outN _).out⟩, HNEXT.out HTR.out⟩
                  case measure => simp [intOf]; have := HLT.out; omega
                · have fa : decide ((30 : Int) < (x.f0.size : Int)) = false := decide_eq_false (by omega)
                  have fbb : decide ((400 : Int) < (x.f1.size : Int)) = false := decide_eq_false (by omega)
                  have fc : (x.f2 == 0) = true := beq_iff_eq.2 (by omega)
                  have fd : decide (x.f2 < 0) = false := decide_eq_false (by omega)
                  have fk : decide (kind < 2) = false := decide_eq_false (by omega)
                  have HCX := Lib.hid hcase
                  clear hcase
                  go_quiet (fail)
                  go_wp2
                  have HTR := Aside0.mk (show chk l kind _ = true from HCK.out.2 (by have hcase := HCX.out; exact ⟨by omega, by omega, ⟨fun h => by omega, fun h => by omega⟩, by omega, by omega, by omega⟩))
                  go_roundw
                  case rel => exact ⟨_, HLT.out, by go_num, ⟨(HB2.outN _).out⟩, HNEXT.out HTR.out⟩
                  case measure => simp [intOf]; have := HLT.out; omega
              | succ p =>
                obtain ⟨⟨hp1, hp2⟩, xp_⟩ := HXP.out p rfl
                have xp : (wr.alloc (.cells #[.string x.f0, .string x.f1, .int .i64 x.f2] 41)).cell? ⟨(ad.add (p * 3)).block, (ad.add (p * 3)).off + 2, none⟩ = some (.int .i64 (lv l p)) := Lib.cell?_alloc_some _ xp_
                clear xp_
                rw [Nat.add_sub_cancel] at HCK
                have hpz : (p : Int) < (l.length : Int) := by omega
                have hcase : (30 < x.f0.size) ∨ (x.f0.size ≤ 30 ∧ 400 < x.f1.size) ∨ (x.f0.size ≤ 30 ∧ x.f1.size ≤ 400 ∧ x.f2 = 0) ∨ (x.f0.size ≤ 30 ∧ x.f1.size ≤ 400 ∧ x.f2 < 0) ∨ (x.f0.size ≤ 30 ∧ x.f1.size ≤ 400 ∧ 0 < x.f2 ∧ lv l p + 1 < x.f2) ∨ (x.f0.size ≤ 30 ∧ x.f1.size ≤ 400 ∧ 0 < x.f2 ∧ x.f2 ≤ lv l p + 1 ∧ kind < 2 ∧ kind < x.f2) ∨ (x.f0.size ≤ 30 ∧ x.f1.size ≤ 400 ∧ 0 < x.f2 ∧ x.f2 ≤ lv l p + 1 ∧ kind < 2 ∧ x.f2 ≤ kind) ∨ (x.f0.size ≤ 30 ∧ x.f1.size ≤ 400 ∧ 0 < x.f2 ∧ x.f2 ≤ lv l p + 1 ∧ 2 ≤ kind) := by omega
                have HCS := Aside0.mk hcase
                rcases hcase with hcase | hcase | hcase | hcase | hcase | hcase | hcase | hcase
                · have fa : decide ((30 : Int) < (x.f0.size : Int)) = true := decide_eq_true (by omega)
                  have fp : ¬ ((p : Int) + 1 = 0) := by omega
                  have fi : decide ((0 : Int) < (p : Int) + 1) = true := decide_eq_true (by omega)
                  have fq : ((p : Int) + 1 == 0) = false := beq_eq_false_iff_ne.2 (by omega)
                  have hw1 : IntKind.i64.wrap (p : Int) = (p : Int) := by rw [IntKind.wrap_i64]; omega
                  have hw2 : IntKind.i64.wrap (lv l p + 1) = lv l p + 1 := by rw [IntKind.wrap_i64]; omega
                  have hpn : decide ((p : Int) < 0) = false := decide_eq_false (by omega)
                  have HCX := Lib.hid hcase
                  clear hcase
                  go_quiet (fail)
                  go_wp2
                  go_ret
                  have hcase := HCX.out
                  exact ⟨by rw [HBADV.out (Bool.eq_false_iff.2 (fun h => by obtain ⟨q1, q2, q3, q4, q5, q6⟩ := HCK.out.1 h; have q8 := q3.2 (by omega); omega))]; rfl, (HB2.outN _).out⟩
                · have fa : decide ((30 : Int) < (x.f0.size : Int)) = false := decide_eq_false (by omega)
                  have fbb : decide ((400 : Int) < (x.f1.size : Int)) = true := decide_eq_true (by omega)
                  have fp : ¬ ((p : Int) + 1 = 0) := by omega
                  have fi : decide ((0 : Int) < (p : Int) + 1) = true := decide_eq_true (by omega)
                  have fq : ((p : Int) + 1 == 0) = false := beq_eq_false_iff_ne.2 (by omega)
                  have hw1 : IntKind.i64.wrap (p : Int) = (p : Int) := by rw [IntKind.wrap_i64]; omega
                  have hw2 : IntKind.i64.wrap (lv l p + 1) = lv l p + 1 := by rw [IntKind.wrap_i64]; omega
                  have hpn : decide ((p : Int) < 0) = false := decide_eq_false (by omega)
                  have HCX := Lib.hid hcase
                  clear hcase
                  go_quiet (fail)
                  go_wp2
                  go_ret
                  have hcase := HCX.out
                  exact ⟨by rw [HBADV.out (Bool.eq_false_iff.2 (fun h => by obtain ⟨q1, q2, q3, q4, q5, q6⟩ := HCK.out.1 h; have q8 := q3.2 (by omega); omega))]; rfl, (HB2.outN _).out⟩
                · have fa : decide ((30 : Int) < (x.f0.size : Int)) = false := decide_eq_false (by omega)
                  have fbb : decide ((400 : Int) < (x.f1.size : Int)) = false := decide_eq_false (by omega)
                  have fc : (x.f2 == 0) = true := beq_iff_eq.2 (by omega)
                  have fp : ¬ ((p : Int) + 1 = 0) := by omega
                  have fi : decide ((0 : Int) < (p : Int) + 1) = true := decide_eq_true (by omega)
                  have fq : ((p : Int) + 1 == 0) = false := beq_eq_false_iff_ne.2 (by omega)
                  have hw1 : IntKind.i64.wrap (p : Int) = (p : Int) := by rw [IntKind.wrap_i64]; omega
                  have hw2 : IntKind.i64.wrap (lv l p + 1) = lv l p + 1 := by rw [IntKind.wrap_i64]; omega
                  have hpn : decide ((p : Int) < 0) = false := decide_eq_false (by omega)
                  have HCX := Lib.hid hcase
                  clear hcase
                  go_quiet (fail)
                  go_wp2
                  go_ret
                  have hcase := HCX.out
                  exact ⟨by rw [HBADV.out (Bool.eq_false_iff.2 (fun h => by obtain ⟨q1, q2, q3, q4, q5, q6⟩ := HCK.out.1 h; have q8 := q3.2 (by omega); omega))]; rfl, (HB2.outN _).out⟩
                · have fa : decide ((30 : Int) < (x.f0.size : Int)) = false := decide_eq_false (by omega)
                  have fbb : decide ((400 : Int) < (x.f1.size : Int)) = false := decide_eq_false (by omega)
                  have fc : (x.f2 == 0) = false := beq_eq_false_iff_ne.2 (by omega)
                  have fd : decide (x.f2 < 0) = true := decide_eq_true (by omega)
                  have fp : ¬ ((p : Int) + 1 = 0) := by omega
                  have fi : decide ((0 : Int) < (p : Int) + 1) = true := decide_eq_true (by omega)
                  have fq : ((p : Int) + 1 == 0) = false := beq_eq_false_iff_ne.2 (by omega)
                  have hw1 : IntKind.i64.wrap (p : Int) = (p : Int) := by rw [IntKind.wrap_i64]; omega
                  have hw2 : IntKind.i64.wrap (lv l p + 1) = lv l p + 1 := by rw [IntKind.wrap_i64]; omega
                  have hpn : decide ((p : Int) < 0) = false := decide_eq_false (by omega)
                  have HCX := Lib.hid hcase
                  clear hcase
                  go_quiet (fail)
                  go_wp2
                  go_ret
                  have hcase := HCX.out
                  exact ⟨by rw [HBADV.out (Bool.eq_false_iff.2 (fun h => by obtain ⟨q1, q2, q3, q4, q5, q6⟩ := HCK.out.1 h; have q8 := q3.2 (by omega); omega))]; rfl, (HB2.outN _).out⟩
                · have fa : decide ((30 : Int) < (x.f0.size : Int)) = false := decide_eq_false (by omega)
                  have fbb : decide ((400 : Int) < (x.f1.size : Int)) = false := decide_eq_false (by omega)
                  have fc : (x.f2 == 0) = false := beq_eq_false_iff_ne.2 (by omega)
                  have fd : decide (x.f2 < 0) = false := decide_eq_false (by omega)
                  have fe : decide (lv l p + 1 < x.f2) = true := decide_eq_true (by omega)
                  have fp : ¬ ((p : Int) + 1 = 0) := by omega
                  have fi : decide ((0 : Int) < (p : Int) + 1) = true := decide_eq_true (by omega)
                  have fq : ((p : Int) + 1 == 0) = false := beq_eq_false_iff_ne.2 (by omega)
                  have hw1 : IntKind.i64.wrap (p : Int) = (p : Int) := by rw [IntKind.wrap_i64]; omega
                  have hw2 : IntKind.i64.wrap (lv l p + 1) = lv l p + 1 := by rw [IntKind.wrap_i64]; omega
                  have hpn : decide ((p : Int) < 0) = false := decide_eq_false (by omega)
                  have HCX := Lib.hid hcase
                  clear hcase
                  go_quiet (fail)
                  go_wp2
                  go_ret
                  have hcase := HCX.out
                  exact ⟨by rw [HBADV.out (Bool.eq_false_iff.2 (fun h => by obtain ⟨q1, q2, q3, q4, q5, q6⟩ := HCK.out.1 h; have q8 := q3.2 (by omega); omega))]; rfl, (HB2.outN _).out⟩
                · have fa : decide ((30 : Int) < (x.f0.size : Int)) = false := decide_eq_false (by omega)
                  have fbb : decide ((400 : Int) < (x.f1.size : Int)) = false := decide_eq_false (by omega)
                  have fc : (x.f2 == 0) = false := beq_eq_false_iff_ne.2 (by omega)
                  have fd : decide (x.f2 < 0) = false := decide_eq_false (by omega)
                  have fe : decide (lv l p + 1 < x.f2) = false := decide_eq_false (by omega)
                  have fk : decide (kind < 2) = true := decide_eq_true (by omega)
                  have fm : decide (kind < x.f2) = true := decide_eq_true (by omega)
                  have fp : ¬ ((p : Int) + 1 = 0) := by omega
                  have fi : decide ((0 : Int) < (p : Int) + 1) = true := decide_eq_true (by omega)
                  have fq : ((p : Int) + 1 == 0) = false := beq_eq_false_iff_ne.2 (by omega)
                  have hw1 : IntKind.i64.wrap (p : Int) = (p : Int) := by rw [IntKind.wrap_i64]; omega
                  have hw2 : IntKind.i64.wrap (lv l p + 1) = lv l p + 1 := by rw [IntKind.wrap_i64]; omega
                  have hpn : decide ((p : Int) < 0) = false := decide_eq_false (by omega)
                  have HCX := Lib.hid hcase
                  clear hcase
                  go_quiet (fail)
                  go_wp2
                  go_ret
                  have hcase := HCX.out
                  exact ⟨by rw [HBADV.out (Bool.eq_false_iff.2 (fun h => by obtain ⟨q1, q2, q3, q4, q5, q6⟩ := HCK.out.1 h; have q8 := q3.2 (by omega); omega))]; rfl, (HB2.outN _).out⟩
                · have fa : decide ((30 : Int) < (x.f0.size : Int)) = false := decide_eq_false (by omega)
                  have fbb : decide ((400 : Int) < (x.f1.size : Int)) = false := decide_eq_false (by omega)
                  have fc : (x.f2 == 0) = false := beq_eq_false_iff_ne.2 (by omega)
                  have fd : decide (x.f2 < 0) = false := decide_eq_false (by omega)
                  have fe : decide (lv l p + 1 < x.f2) = false := decide_eq_false (by omega)
                  have fk : decide (kind < 2) = true := decide_eq_true (by omega)
                  have fm : decide (kind < x.f2) = false := decide_eq_false (by omega)
                  have fp : ¬ ((p : Int) + 1 = 0) := by omega
                  have fi : decide ((0 : Int) < (p : Int) + 1) = true := decide_eq_true (by omega)
                  have fq : ((p : Int) + 1 == 0) = false := beq_eq_false_iff_ne.2 (by omega)
                  have hw1 : IntKind.i64.wrap (p : Int) = (p : Int) := by rw [IntKind.wrap_i64]; omega
                  have hw2 : IntKind.i64.wrap (lv l p + 1) = lv l p + 1 := by rw [IntKind.wrap_i64]; omega
                  have hpn : decide ((p : Int) < 0) = false := decide_eq_false (by omega)
                  have HCX := Lib.hid hcase
                  clear hcase
                  go_quiet (fail)
                  go_wp2
                  have HTR := Aside0.mk (show chk l kind _ = true from HCK.out.2 (by have hcase := HCX.out; exact ⟨by omega, by omega, ⟨fun h => by omega, fun h => by omega⟩, by omega, by omega, by omega⟩))
                  go_roundw
                  case rel => exact ⟨_, HLT.out, by go_num, ⟨(HB2.outN _).out⟩, HNEXT.out HTR.out⟩
                  case measure => simp [intOf]; have := HLT.out; omega
                · have fa : decide ((30 : Int) < (x.f0.size : Int)) = false := decide_eq_false (by omega)
                  have fbb : decide ((400 : Int) < (x.f1.size : Int)) = false := decide_eq_false (by omega)
                  have fc : (x.f2 == 0) = false := beq_eq_false_iff_ne.2 (by omega)
                  have fd : decide (x.f2 < 0) = false := decide_eq_false (by omega)
                  have fe : decide (lv l p + 1 < x.f2) = false := decide_eq_false (by omega)
                  have fk : decide (kind < 2) = false := decide_eq_false (by omega)
                  have fp : ¬ ((p : Int) + 1 = 0) := by omega
                  have fi : decide ((0 : Int) < (p : Int) + 1) = true := decide_eq_true (by omega)
                  have fq : ((p : Int) + 1 == 0) = false := beq_eq_false_iff_ne.2 (by omega)
                  have hw1 : IntKind.i64.wrap (p : Int) = (p : Int) := by rw [IntKind.wrap_i64]; omega
                  have hw2 : IntKind.i64.wrap (lv l p + 1) = lv l p + 1 := by rw [IntKind.wrap_i64]; omega
                  have hpn : decide ((p : Int) < 0) = false := decide_eq_false (by omega)
                  have HCX := Lib.hid hcase
                  clear hcase
                  go_quiet (fail)
                  go_wp2
                  have HTR := Aside0.mk (show chk l kind _ = true from HCK.out.2 (by have hcase := HCX.out; exact ⟨by omega, by omega, ⟨fun h => by omega, fun h => by omega⟩, by omega, by omega, by omega⟩))
                  go_roundw
                  case rel => exact ⟨_, HLT.out, by go_num, ⟨(HB2.outN _).out⟩, HNEXT.out HTR.out⟩
                  case measure => simp [intOf]; have := HLT.out; omega
            · obtain rfl : i = l.length := by omega
              have HA1 := Aside0.mk (show okAll (chk l kind) l.length = true from okAll_true HC.out)
              have HLV := Aside0.mk (fun j (hj : j < l.length) => chk_lv (l := l) (kind := kind) j (fun q hq => HC.out q (by omega)))
              have hltz : ¬ (l.length : Int) < (l.length : Int) := by omega
              clear hlt
              go_wp2_with fail
              go_loopw [7, 8, 85] (fun _ _ s wr => ∃ i : Nat, i ≤ l.length ∧ s = .int .i64 i ∧ Aside0 (Below W.heap.size W wr) ∧ Aside0 (∀ j, j < i → kidsOk l j = true)) (fun _ _ s _ => l.length - (intOf s).toNat)
              case atStart => exact ⟨0, Nat.zero_le _, rfl, HB, ⟨fun j hj => absurd hj (Nat.not_lt_zero _)⟩⟩
              case round =>
                clear HB HC
                obtain ⟨i, hi, rfl, HB, HC⟩ := hrel
                by_cases hlt : i < l.length
                · have hltz : (i : Int) < (l.length : Int) := by omega
                  have hlvi := HLV.out i hlt
                  have CH := Aside0.mk (children_c A c i l _ (Kd.C_below HR.out HB.out) hc hlt (by omega) (by unfold wrap64; omega))
                  have HKI := Aside0.mk (kids_in hlt)
                  have HKL := Aside0.mk (kids_len hlt)
                  clear hlvi
                  go_wp2_with fail
                  refine CH.out.mono ?_
                  rintro e w4 ⟨v4, rfl, hr4, hb4⟩
                  have HB4 := Aside0.mk (show Below W.heap.size W w4 from HB.out.trans (hb4.mono HB.out.size))
                  have HR4 := Aside0.mk hr4
                  clear hb4 hr4 CH
                  obtain ⟨A6, c6, hv4⟩ := Kd.R_slice HR4.out
                  subst hv4
                  have HR5 := Aside0.mk (Kd.R_lower HR4.out (Nat.zero_le _))
                  have HBADV := Aside0.mk (fun (h : kidsOk l i = false) => show validB l kind = false by rw [HV.out, okAll_false hlt h, Bool.and_false])
                  have HKB : (kids l i).length ≤ 100 := Nat.le_trans HKL.out c4
                  generalize hks : kids l i = ks at HR5 HKI HKB
                  have HKS := Lib.hid hks
                  clear hks HR4 HKL
                  go_wp2_with fail
                  go_loopw [9, 93] (fun _ s wi => ∃ k : Nat, k ≤ ks.length ∧ s = .int .i64 k ∧ Aside0 (Below W.heap.size W wi) ∧ Aside0 (Kd.R (Kd.int .i64) 3 wi 0 (fun _ => True) (.slice A6 ks.length c6) ks) ∧ Aside0 (∀ q, q < k → clashB l (ks.take q) (rd_T41 l (ks.getD q 0)).f0 = false)) (fun _ s _ => ks.length - (intOf s).toNat)
                  case atStart => exact ⟨0, Nat.zero_le _, rfl, HB4, HR5, ⟨fun j hj => absurd hj (Nat.not_lt_zero _)⟩⟩
                  case round =>
                    clear HR5 HB4
                    obtain ⟨k, hk, rfl, HBI, HRI, HCI⟩ := hrel
                    by_cases hkl : k < ks.length
                    · obtain ⟨g6, c6', he6⟩ := ints_slice HRI.out (by omega)
                      injection he6 with he6 _ hc6
                      subst he6
                      subst hc6
                      obtain ⟨_, hkc, hC6⟩ := Kd.R_reads' HRI.out
                      obtain ⟨ad6, he, xk⟩ := at_int_nat hC6 k hkl
                      cases he
                      rw [add_plain] at xk
                      have hin := HKI.out (ks.getD k 0) (by rw [List.getD_eq_getElem?_getD, List.getElem?_eq_getElem hkl]; exact List.getElem_mem hkl)
                      obtain ⟨m, hm⟩ : ∃ m : Nat, ks.getD k 0 = (m : Int) := ⟨(ks.getD k 0).toNat, by omega⟩
                      rw [hm] at xk
                      obtain ⟨ad, rfl, y0, _, _⟩ := at_T41 (Kd.C_below HR.out HBI.out) (m : Int) (by omega) (by omega)
                      rw [Int.toNat_natCast] at y0
                      have hz0 : wr.cell? ⟨g6, k, none⟩ = some (.int .i64 (m : Int)) := xk
                      have hz1 : wr.cell? (ad.add (m * 3)) = some (.string (rd_T41 l (m : Int)).f0) := y0
                      have hkz : (k : Int) < (ks.length : Int) := by omega
                      have hkcz : (k : Int) ≤ (c6 : Int) := by omega
                      have hkcn : k ≤ c6 := by omega
                      have hmz : (m : Int) < (l.length : Int) := by omega
                      have HM := Lib.hid hm
                      have HIN := Aside0.mk HKI.out
                      clear xk y0 hin hm hC6
                      go_wp2_with fail
                      refine start_ (n := 13) (S := fun w' => w'.cell? ⟨g6, k, none⟩ = some (.int .i64 (m : Int)) ∧ w'.cell? (ad.add (m * 3)) = some (.string (rd_T41 l (m : Int)).f0)) (ds := [12]) #[false, false, false, false, false, false, false, false, false, false, false, false, false] (by kernel_rfl) rfl rfl ⟨hz0, hz1⟩ (fun hHeld => ?_)
                      refine with_tabW ValidW.tab16 ValidW.bits16 (fun HT_ HW_ => ?_)
                      have HWD := Aside0.mk (show Below W.heap.size W wr.drew from HBI.out.drew)
                      have HRD := Aside0.mk (fun (w9 : World) (hb : Below wr.drew.heap.size wr.drew w9) => Kd.R_below (Kd.R_drew HRI.out) hb)
                      generalize wr.drew = wd at HWD HRD hHeld ⊢
                      refine pure_ (i := 0) (N := some 96) (v := ?_) (a' := ?_) #[true, false, false, false, false, false, false, false, false, false, false, false, false] rfl rfl (any_of HT_.out (by kernel_rfl)) (fun _ _ _ h => h) (Or.inl ⟨by rfl, ?_⟩) ?_ ?_
                      rotate_left
                      · intro w'
                        go_simp
                        with_reducible rfl
                      rotate_left
                      · simp only [Act.put, List.setIfInBounds_toArray, List.set_cons_zero, List.set_cons_succ, i64_w, i32_w]
                        rfl
                      refine pure_ (i := 1) (N := some 97) (v := ?_) (a' := ?_) #[true, true, false, false, false, false, false, false, false, false, false, false, false] rfl rfl (any_of HT_.out (by kernel_rfl)) (fun _ _ _ h => h) (Or.inl ⟨by rfl, ?_⟩) ?_ ?_
                      rotate_left
                      · intro w'
                        go_simp
                        with_reducible rfl
                      rotate_left
                      · simp only [Act.put, List.setIfInBounds_toArray, List.set_cons_zero, List.set_cons_succ, i64_w, i32_w]
                        rfl
                      refine pure_ (i := 2) (N := some 98) (v := ?_) (a' := ?_) #[true, true, true, false, false, false, false, false, false, false, false, false, false] rfl rfl (any_of HT_.out (by kernel_rfl)) (fun _ _ _ h => h) (Or.inl ⟨by rfl, ?_⟩) ?_ ?_
                      rotate_left
                      · intro w'
                        go_simp
                        with_reducible rfl
                      rotate_left
                      · simp only [Act.put, List.setIfInBounds_toArray, List.set_cons_zero, List.set_cons_succ, i64_w, i32_w]
                        rfl
                      refine pure_ (i := 3) (N := some 99) (v := ?_) (a' := ?_) #[true, true, true, true, false, false, false, false, false, false, false, false, false] rfl rfl (any_of HT_.out (by kernel_rfl)) (fun _ _ _ h => h) (Or.inl ⟨by rfl, ?_⟩) ?_ ?_
                      rotate_left
                      · intro w'
                        go_simp
                        with_reducible rfl
                      rotate_left
                      · simp only [Act.put, List.setIfInBounds_toArray, List.set_cons_zero, List.set_cons_succ, i64_w, i32_w]
                        rfl
                      refine pure_ (i := 4) (N := some 100) (v := ?_) (a' := ?_) #[true, true, true, true, true, false, false, false, false, false, false, false, false] rfl rfl (any_of HT_.out (by kernel_rfl)) (fun _ _ _ h => h) (Or.inl ⟨by rfl, ?_⟩) ?_ ?_
                      rotate_left
                      · intro w'
                        go_simp
                        with_reducible rfl
                      rotate_left
                      · simp only [Act.put, List.setIfInBounds_toArray, List.set_cons_zero, List.set_cons_succ, i64_w, i32_w]
                        rfl
                      refine pure_ (i := 5) (N := some 101) (v := ?_) (a' := ?_) #[true, true, true, true, true, true, false, false, false, false, false, false, false] rfl rfl (any_of HT_.out (by kernel_rfl)) (fun _ _ _ h => h) (Or.inl ⟨by rfl, ?_⟩) ?_ ?_
                      rotate_left
                      · intro w'
                        go_simp
                        with_reducible rfl
                      rotate_left
                      · simp only [Act.put, List.setIfInBounds_toArray, List.set_cons_zero, List.set_cons_succ, i64_w, i32_w]
                        rfl
                      refine pure_ (i := 6) (N := some 102) (v := ?_) (a' := ?_) #[true, true, true, true, true, true, true, false, false, false, false, false, false] rfl rfl (any_of HT_.out (by kernel_rfl)) (fun _ _ _ h => h) (Or.inl ⟨by rfl, ?_⟩) ?_ ?_
                      rotate_left
                      · intro w'
                        go_simp
                        with_reducible rfl
                      rotate_left
                      · simp only [Act.put, List.setIfInBounds_toArray, List.set_cons_zero, List.set_cons_succ, i64_w, i32_w]
                        rfl
                      refine pure_ (i := 7) (N := some 103) (v := ?_) (a' := ?_) #[true, true, true, true, true, true, true, true, false, false, false, false, false] rfl rfl (any_of HT_.out (by kernel_rfl)) (fun _ _ _ h => h) (Or.inl ⟨by rfl, ?_⟩) ?_ ?_
                      rotate_left
                      · intro w'
                        go_simp
                        with_reducible rfl
                      rotate_left
                      · simp only [Act.put, List.setIfInBounds_toArray, List.set_cons_zero, List.set_cons_succ, i64_w, i32_w]
                        rfl
                      refine take_ (i := 8) (N := some 104) (v := ?_) (a' := ?_) #[true, true, true, true, true, true, true, true, true, false, false, false, false] rfl rfl (take_ofW HT_.out HW_.out (by kernel_rfl)) (fun _ _ _ h => h) (Or.inl ⟨by rfl, ?_⟩) hHeld ?_ ?_
                      rotate_left
                      · rintro w' ⟨s0, s1⟩
                        go_simp
                        with_reducible rfl
                      rotate_left
                      · simp only [Act.put, List.setIfInBounds_toArray, List.set_cons_zero, List.set_cons_succ, i64_w, i32_w]
                        rfl
                      refine pure_ (i := 9) (N := some 105) (v := ?_) (a' := ?_) #[true, true, true, true, true, true, true, true, true, true, false, false, false] rfl rfl (any_of HT_.out (by kernel_rfl)) (fun _ _ _ h => h) (Or.inl ⟨by rfl, ?_⟩) ?_ ?_
                      rotate_left
                      · intro w'
                        go_simp
                        with_reducible rfl
                      rotate_left
                      · simp only [Act.put, List.setIfInBounds_toArray, List.set_cons_zero, List.set_cons_succ, i64_w, i32_w]
                        rfl
                      refine pure_ (i := 10) (N := some 106) (v := ?_) (a' := ?_) #[true, true, true, true, true, true, true, true, true, true, true, false, false] rfl rfl (any_of HT_.out (by kernel_rfl)) (fun _ _ _ h => h) (Or.inl ⟨by rfl, ?_⟩) ?_ ?_
                      rotate_left
                      · intro w'
                        go_simp
                        with_reducible rfl
                      rotate_left
                      · simp only [Act.put, List.setIfInBounds_toArray, List.set_cons_zero, List.set_cons_succ, i64_w, i32_w]
                        rfl
                      refine take_ (i := 11) (N := some 107) (v := ?_) (a' := ?_) #[true, true, true, true, true, true, true, true, true, true, true, true, false] rfl rfl (take_ofW HT_.out HW_.out (by kernel_rfl)) (fun _ _ _ h => h) (Or.inl ⟨by rfl, ?_⟩) hHeld ?_ ?_
                      rotate_left
                      · rintro w' ⟨s0, s1⟩
                        go_simp
                        with_reducible rfl
                      rotate_left
                      · simp only [Act.put, List.setIfInBounds_toArray, List.set_cons_zero, List.set_cons_succ, i64_w, i32_w]
                        rfl
                      refine last_ (i := 12) (N := some 108) #[true, true, true, true, true, true, true, true, true, true, true, true, true] rfl rfl (one_of HT_.out (by kernel_rfl)) (by decide) (fun K hK => ?_)
                      refine goes_ Try.func29 (by kernel_rfl) rfl #[.slice (some ad) l.length c, .slice (some ⟨g6, 0, none⟩) k c6, .string (rd_T41 l (m : Int)).f0] (by rfl) rfl rfl (by (try simp only [List.map_toArray, List.map_cons, List.map_nil]); first | done | rfl | (simp only []; rfl)) ?_
                      with_reducible refine (clash_pre ad c g6 c6 k l ks _ W wd HR.out HWD.out hc (HRD.out wd (Below.refl _ _)) hk HIN.out).mono ?_
                      rintro e w9 ⟨rfl, hb9⟩
                      have HB9 := Aside0.mk (show Below W.heap.size W w9 from HWD.out.trans (hb9.mono HWD.out.size))
                      have HR9 := Aside0.mk (HRD.out w9 hb9)
                      clear hb9
                      refine ⟨_, rfl, ?_⟩
                      refine hK.out _ _ ?_
                      clear hK K
                      refine norm_ (a' := ?_) ?_ ?_
                      rotate_left
                      · show Act.put _ (some 108) _ = _
                        simp only [Act.put, List.setIfInBounds_toArray, List.set_cons_zero, List.set_cons_succ, i64_w, i32_w]
                        rfl
                      refine done_ (done_of HT_.out (by kernel_rfl)) ?_
                      cases hb : clashB l (ks.take k) (rd_T41 l (m : Int)).f0
                      · have HHB := Lib.hid hb
                        clear hb
                        go_wp2
                        go_roundw
                        case rel => exact ⟨k + 1, by omega, by go_num, HB9, ⟨Kd.R_mono HR9.out (fun _ _ => trivial)⟩, ⟨fun q hq => by
                          rcases Nat.lt_or_ge q k with h2 | h2
                          · exact HCI.out q h2
                          · obtain rfl : q = k := by omega
                            rw [HM.out]; exact HHB.out⟩⟩
                        case measure => simp [intOf]; omega
                      · have HHB := Lib.hid hb
                        clear hb
                        go_wp2
                        go_ret
                        exact ⟨by rw [HBADV.out (by unfold kidsOk; rw [HKS.out]; exact okAll_false hkl (by rw [HM.out, HHB.out]; rfl))]; rfl, HB9.out⟩
                    · obtain rfl : k = ks.length := by omega
                      have hkz : ¬ (ks.length : Int) < (ks.length : Int) := by omega
                      have HKO := Aside0.mk (show kidsOk l i = true by
                        unfold kidsOk
                        rw [HKS.out]
                        exact okAll_true (fun q hq => by rw [HCI.out q hq]; rfl))
                      clear hkl
                      go_wp2
                      go_roundw
                      case rel => exact ⟨i + 1, by omega, by go_num, HBI, ⟨fun j hj => by
                        rcases Nat.lt_or_ge j i with h2 | h2
                        · exact HC.out j h2
                        · rw [show j = i by omega]; exact HKO.out⟩⟩
                      case measure => simp [intOf]; omega
                · obtain rfl : i = l.length := by omega
                  have hltz : ¬ (l.length : Int) < (l.length : Int) := by omega
                  have HFIN := Aside0.mk (show validB l kind = true by rw [HV.out, HA1.out, okAll_true HC.out]; rfl)
                  clear hlt
                  go_wp2
                  go_ret
                  exact ⟨by rw [HFIN.out]; rfl, HB.out⟩
        · have b4 : decide ((100 : Int) < (l.length : Int)) = true := decide_eq_true (by omega)
          have HV : Aside0 (validB l kind = false) := ⟨by simp [validB, headOk, c4]⟩
          go_enter Try.func7, Try.ntmps7
          go_wp2
          go_ret
          exact ⟨by rw [HV.out]; rfl, Below.refl _ _⟩
      · have b3' : decide ((l.length : Int) < 1) = true := decide_eq_true (by omega)
        have HV : Aside0 (validB l kind = false) := ⟨by simp [validB, headOk, c3]⟩
        go_enter Try.func7, Try.ntmps7
        go_wp2
        go_ret
        exact ⟨by rw [HV.out]; rfl, Below.refl _ _⟩
    · have b2 : decide (2 < kind) = true := decide_eq_true (by omega)
      have HV : Aside0 (validB l kind = false) := ⟨by simp [validB, headOk, c2]⟩
      go_enter Try.func7, Try.ntmps7
      go_wp2
      go_ret
      exact ⟨by rw [HV.out]; rfl, Below.refl _ _⟩
  · have b1 : decide (kind < 0) = true := decide_eq_true (by omega)
    have HV : Aside0 (validB l kind = false) := ⟨by simp [validB, headOk, c1]⟩
    go_enter Try.func7, Try.ntmps7
    go_wp2
    go_ret
    exact ⟨by rw [HV.out]; rfl, Below.refl _ _⟩
end Go.Proofs.Ytehlmkgldcfciaa.Files
