/- The law FilesAlone, walked. -/
import Derived.Test.YtehlmkgldcfciaaFilesM
import Derived.Test.YtehlmkgldcfciaaFilesS
import Derived.Test.YtehlmkgldcfciaaFx0
set_option linter.unusedVariables false
set_option linter.unusedSimpArgs false
namespace Go.Proofs.Ytehlmkgldcfciaa.Files
open Go.Proofs.Ytehlmkgldcfciaa.Common Go.Maps Go.ChangeMaps Go.WideMaps Go.Proofs.Ytehlmkgldcfciaa.F
open Go.RowKit Go.Proofs.YtehlmkgldcfciaaW.PrintWords Go.Proofs.YtehlmkgldcfciaaW.PrintLast Go.Proofs.YtehlmkgldcfciaaW.PrintMore
theorem and255 : ∀ n : Fin 256, bits .and .i64 255 (n.val : Int) = (n.val : Int) := by decide +kernel
theorem and255' {n : Int} (h : setB n = true) : bits .and .i64 255 n = n := by
  unfold setB at h
  simp only [Bool.and_eq_true, decide_eq_true_eq] at h
  have := and255 ⟨n.toNat, by omega⟩
  rw [show ((⟨n.toNat, by omega⟩ : Fin 256).val : Int) = n from Int.toNat_of_nonneg h.1] at this
  exact this
def star : List S34 := [⟨⟨#[42]⟩, 255⟩]
structure Star (f : AF) : Prop where
  perm : f.F.perm = 255
  rules : f.rules = star
  name : f.F.name = sf
  nd : (f.users.map (fun p => p.1.data.toList)).Nodup
  len : f.users.length < 1000
theorem Star.may {f : AF} (h : Star f) (u : ByteArray) {a : Int} (ha : setB a = true) : mayB f.F f.rules u a = true := by
  unfold mayB
  rw [h.perm, and255' ha, if_pos rfl, h.rules]
  have : star.find? (ruleOf u) = some ⟨⟨#[42]⟩, 255⟩ := List.find?_cons_of_pos (by simp [ruleOf])
  rw [this]
  simp [and255' ha]
def okArgs (a x : Int) : Bool := setB a && setB x && decide (bits .andNot .i64 x a = 0)
def starOpen (f : AF) (u : ByteArray) (a x : Int) : Int × AF := if okArgs a x then (if freeB f.users a x then (0, f.opened u a x) else (12, f)) else (1, f)
theorem S_Open_star (sb fb : Nat) (ok : Nat → Prop) (f : AF) (u : ByteArray) (a x : Int) (W : World) (hR : StoreRep W ok sb [(fb, f)]) (hs : Star f) (hu : 1 ≤ u.size ∧ u.size ≤ 20) (hl : lookU f.users u = none) :
    Calls Try.prog 13 #[.pointer (some ⟨sb, 0, none⟩), .string u, .string sf, .int .i64 a, .int .i64 x] W (SOut W ok sb (.int .i64 (starOpen f u a x).1) [(starOpen f u a x).2]) := by
  unfold starOpen
  cases h : okArgs a x with
  | false =>
    rw [if_neg (by simp)]
    refine (Open_arg _ u sf a x W h).mono ?_
    rintro e w' ⟨rfl, hb⟩
    exact SOut.below hR hb
  | true =>
    rw [if_pos rfl]
    have h' := h
    unfold okArgs setB at h'
    simp only [Bool.and_eq_true, decide_eq_true_eq] at h'
    obtain ⟨⟨ha, hx⟩, hsub⟩ := h'
    have hsa : setB a = true := by unfold setB; simp [ha.1, ha.2]
    have := S_Open sb fb 0 ok [(fb, f)] f u sf a x W hR rfl hs.name hu (by decide) ha hx hsub hl (hs.may u hsa) hs.nd hs.len
    cases hf : freeB f.users a x with
    | true =>
      rw [hf, if_pos rfl, if_pos rfl] at this
      rw [if_pos rfl]
      exact this
    | false =>
      rw [hf, if_neg (by simp), if_neg (by simp)] at this
      rw [if_neg (by simp)]
      exact this
def G0 : AF := newF sa sf 2 255
def G1 : AF := G0.opened sa 64 0
def G2 : AF := G1.change 255 star
def G3 : AF := G2.closed sa
theorem G3_users : G3.users = [] := rfl
theorem G3_star : Star G3 := ⟨rfl, rfl, rfl, List.nodup_nil, by decide⟩
theorem opened_star {a x : Int} : Star (G3.opened sa a x) := ⟨rfl, rfl, rfl, by show [sa.data.toList].Nodup; simp, by show 1 < 1000; decide⟩
theorem closed_star {a x : Int} : Star ((G3.opened sa a x).closed sa) := ⟨rfl, rfl, rfl, by show ([] : List Key).Nodup; exact List.nodup_nil, by show 0 < 1000; decide⟩
theorem star_one {u : ByteArray} {f : AF} {a x : Int} (h : okArgs a x = true) (hf : freeB f.users a x = true) : starOpen f u a x = (0, f.opened u a x) := by unfold starOpen; rw [h, hf]; rfl
theorem star_no {u : ByteArray} {f : AF} {a x : Int} (h : okArgs a x = true) (hf : freeB f.users a x = false) : starOpen f u a x = (12, f) := by unfold starOpen; rw [h, hf]; rfl
theorem star_bad {u : ByteArray} {f : AF} {a x : Int} (h : okArgs a x = false) : starOpen f u a x = (1, f) := by unfold starOpen; rw [h]; rfl
theorem star_block {w : World} {g : Nat} (h : w.heap[g]? = some (.cells #[.string ⟨#[42]⟩, .int .i64 255] 34 (0, 0))) : Kd.C k34 w (some ⟨g, 0, none⟩) star.length star :=
  ⟨rfl, by decide, fun _ => ⟨_, rfl, fun j p hj => by
    cases j with
    | zero =>
      obtain rfl : (⟨⟨#[42]⟩, 255⟩ : S34) = p := by simpa [star] using hj
      refine ⟨_, rfl, k34_mk w _, fun t u ht => ?_⟩
      rw [add_plain, blk_cell h]
      simpa using ht
    | succ j => simp [star] at hj⟩⟩
set_option maxRecDepth 100000 in
set_option maxHeartbeats 4000000 in
theorem FilesAlone_c (mine alone other more : Int) (W : World) :
    Calls Try.prog 4 #[.int .i64 mine, .int .i64 alone, .int .i64 other, .int .i64 more] W fun e w' => e = .returned (.bool true) ∧ Below W.heap.size W w' := by
  go_enter Try.func4, Try.ntmps4
  go_wp2_with fail
  refine (S_New W).mono ?_
  rintro e w1 ⟨sb, ok1, rfl, hR1, hb1, hok1⟩
  have hz1 := hb1.size
  have HB1 := Aside0.mk hb1
  have CC := Aside0.mk (S_Create_ok sb ok1 [] sa sf 2 255 w1 hR1 (by decide) (by decide) (by decide) (by decide) (fun p hp => by cases hp) (by decide))
  clear hb1 hR1
  go_wp2_with fail
  refine CC.out.mono ?_
  intro e w2 ho2
  obtain ⟨rfl, ok2, fb2, hR2, hb2, hok2, hz2⟩ := SOut.one (f := G0) ho2 hz1 hok1
  have HB2 := Aside0.mk (HB1.out.trans hb2)
  have CO := S_Open sb fb2 0 ok2 [(fb2, G0)] G0 sa sf 64 0 w2 hR2 rfl rfl (by decide) (by decide) (by decide) (by decide) (by decide) rfl rfl (by decide) (by decide)
  rw [if_pos (show freeB G0.users 64 0 = true from rfl), if_pos (show freeB G0.users 64 0 = true from rfl)] at CO
  have CO' := Aside0.mk CO
  clear CC CO hb2 hR2 ho2 hok1 hz1
  go_wp2_with fail
  refine CO'.out.mono ?_
  intro e w3 ho3
  obtain ⟨rfl, ok3, fb3, hR3, hb3, hok3, hz3⟩ := SOut.one (f := G1) ho3 hz2 hok2
  have HB3 := Aside0.mk (HB2.out.trans hb3)
  have hbx : Below w3.heap.size w3 (w3.alloc (.cells #[.string ⟨#[42]⟩, .int .i64 255] 34)) := (Below.refl _ _).alloc (Nat.le_refl _) _
  have hR3' : StoreRep (w3.alloc (.cells #[.string ⟨#[42]⟩, .int .i64 255] 34)) ok3 sb [(fb3, G1)] := hR3.other (Chg.of_below hbx (fun _ => False)) (fun _ _ h => h)
  have C1 := Aside0.mk (S_Change_ok sb fb3 0 ok3 [(fb3, G1)] G1 sa sf 255 (some ⟨w3.heap.size, 0, none⟩) 1 star 64 0 _ hR3' rfl rfl (by decide) (by decide) rfl (star_block (heap_alloc_new _ _)) (by decide) rfl rfl)
  have HB3' := Aside0.mk (show Below W.heap.size W (w3.alloc (.cells #[.string ⟨#[42]⟩, .int .i64 255] 34)) from HB3.out.alloc hz3 _)
  have hz3' : W.heap.size ≤ (w3.alloc (.cells #[.string ⟨#[42]⟩, .int .i64 255] 34)).heap.size := HB3'.out.size
  have HZ3 := Aside0.mk hz3'
  clear CO' hb3 hR3 hR3' ho3 hok2 hz2 hbx hz3'
  go_wp2_with fail
  refine C1.out.mono ?_
  intro e w4 ho4
  obtain ⟨rfl, ok4, fb4, hR4, hb4, hok4, hz4⟩ := SOut.one (f := G2) ho4 HZ3.out hok3
  have HB4 := Aside0.mk (HB3'.out.trans hb4)
  have C2 := Aside0.mk (S_Close_ok sb fb4 0 ok4 [(fb4, G2)] G2 sa sf 64 0 w4 hR4 rfl rfl (by decide) (by decide) rfl (by decide))
  clear C1 hb4 hR4 ho4 hok3 hz3
  go_wp2_with fail
  refine C2.out.mono ?_
  intro e w5 ho5
  obtain ⟨rfl, ok5, fb5, hR5, hb5, hok5, hz5⟩ := SOut.one (f := G3) ho5 hz4 hok4
  have HB5 := Aside0.mk (HB4.out.trans hb5)
  have C3 := Aside0.mk (S_Open_star sb fb5 ok5 G3 sa mine alone w5 hR5 G3_star (by decide) rfl)
  clear C2 hb5 hR5 ho5 hok4 hz4
  cases h1 : okArgs mine alone with
  | false =>
    rw [star_bad h1] at C3
    clear h1
    go_wp2_with fail
    refine C3.out.mono ?_
    intro e w6 ho6
    obtain ⟨rfl, ok6, fb6, hR6, hb6, hok6, hz6⟩ := SOut.one (f := G3) ho6 hz5 hok5
    have HB6 := Aside0.mk (HB5.out.trans hb6)
    have C4 := Aside0.mk (S_Open_star sb fb6 ok6 G3 sb_ other more w6 hR6 G3_star (by decide) rfl)
    generalize hst : starOpen G3 sb_ other more = st at C4
    obtain ⟨r, f7⟩ := st
    clear C3 hb6 hR6 ho6 hok5 hz5 hst
    go_wp2_with fail
    refine C4.out.mono ?_
    intro e w7 ho7
    obtain ⟨rfl, ok7, fb7, hR7, hb7, hok7, hz7⟩ := SOut.one ho7 hz6 hok6
    have HB7 := Aside0.mk (HB6.out.trans hb7)
    have CS := Aside0.mk (sane_c w7)
    clear C4 hb7 hR7 ho7 hok6 hz6
    go_wp2_with fail
    refine CS.out.mono ?_
    rintro e w8 ⟨rfl, hb8⟩
    go_wp2
    go_ret
    exact ⟨rfl, HB7.out.trans (hb8.mono HB7.out.size)⟩
  | true =>
    rw [star_one h1 rfl] at C3
    clear h1
    go_wp2_with fail
    refine C3.out.mono ?_
    intro e w6 ho6
    obtain ⟨rfl, ok6, fb6, hR6, hb6, hok6, hz6⟩ := SOut.one (f := G3.opened sa mine alone) ho6 hz5 hok5
    have HB6 := Aside0.mk (HB5.out.trans hb6)
    have C4 := Aside0.mk (S_Open_star sb fb6 ok6 (G3.opened sa mine alone) sb_ other more w6 hR6 opened_star (by decide) rfl)
    clear C3 hb6 hR6 ho6 hok5 hz5
    cases h2 : okArgs other more with
    | false =>
      rw [star_bad h2] at C4
      clear h2
      go_wp2_with fail
      refine C4.out.mono ?_
      intro e w7 ho7
      obtain ⟨rfl, ok7, fb7, hR7, hb7, hok7, hz7⟩ := SOut.one (f := G3.opened sa mine alone) ho7 hz6 hok6
      have HB7 := Aside0.mk (HB6.out.trans hb7)
      have CS := Aside0.mk (sane_c w7)
      clear C4 hb7 hR7 ho7 hok6 hz6
      go_wp2_with fail
      refine CS.out.mono ?_
      rintro e w8 ⟨rfl, hb8⟩
      go_wp2
      go_ret
      exact ⟨rfl, HB7.out.trans (hb8.mono HB7.out.size)⟩
    | true =>
      have hfr : freeB (G3.opened sa mine alone).users other more = (decide (bits .and .i64 alone other = 0) && decide (bits .and .i64 more mine = 0)) := by
        show ((decide (bits .and .i64 alone other = 0) && decide (bits .and .i64 more mine = 0)) && true) = _
        rw [Bool.and_true]
      by_cases b1 : bits .and .i64 alone other = 0
      · by_cases b2 : bits .and .i64 more mine = 0
        · rw [star_one h2 (by rw [hfr]; simp [b1, b2])] at C4
          have g1 : (bits .and .i64 alone other == 0) = true := beq_iff_eq.2 b1
          have g2 : (bits .and .i64 more mine == 0) = true := beq_iff_eq.2 b2
          clear h2 hfr b1 b2
          go_wp2_with fail
          refine C4.out.mono ?_
          intro e w7 ho7
          obtain ⟨rfl, ok7, fb7, hR7, hb7, hok7, hz7⟩ := SOut.one ho7 hz6 hok6
          have HB7 := Aside0.mk (HB6.out.trans hb7)
          have CS := Aside0.mk (sane_c w7)
          clear C4 hb7 hR7 ho7 hok6 hz6
          go_wp2_with fail
          refine CS.out.mono ?_
          rintro e w8 ⟨rfl, hb8⟩
          go_wp2
          go_ret
          exact ⟨rfl, HB7.out.trans (hb8.mono HB7.out.size)⟩
        · rw [star_no h2 (by rw [hfr]; simp [b2])] at C4
          have g1 : (bits .and .i64 alone other != 0) = false := by rw [bne_eq_false_iff_eq]; exact b1
          have g2 : (bits .and .i64 more mine != 0) = true := by rw [bne_iff_ne]; exact b2
          have g1' : (bits .and .i64 alone other == 0) = true := beq_iff_eq.2 b1
          have g2' : (bits .and .i64 more mine == 0) = false := beq_eq_false_iff_ne.2 b2
          have H2 := Lib.hid h2
          clear h2 hfr b1 b2
          go_wp2_with fail
          refine C4.out.mono ?_
          intro e w7 ho7
          obtain ⟨rfl, ok7, fb7, hR7, hb7, hok7, hz7⟩ := SOut.one (f := G3.opened sa mine alone) ho7 hz6 hok6
          have HB7 := Aside0.mk (HB6.out.trans hb7)
          have C5 := Aside0.mk (S_Close_ok sb fb7 0 ok7 [(fb7, G3.opened sa mine alone)] (G3.opened sa mine alone) sa sf mine alone w7 hR7 rfl rfl (by decide) (by decide) rfl opened_star.nd)
          clear C4 hb7 hR7 ho7 hok6 hz6
          go_wp2_with fail
          refine C5.out.mono ?_
          intro e w8 ho8
          obtain ⟨rfl, ok8, fb8, hR8, hb8, hok8, hz8⟩ := SOut.one (f := (G3.opened sa mine alone).closed sa) ho8 hz7 hok7
          have HB8 := Aside0.mk (HB7.out.trans hb8)
          have C6 := S_Open_star sb fb8 ok8 ((G3.opened sa mine alone).closed sa) sb_ other more w8 hR8 closed_star (by decide) rfl
          rw [star_one H2.out rfl] at C6
          have C6' := Aside0.mk C6
          clear C5 C6 hb8 hR8 ho8 hok7 hz7
          go_wp2_with fail
          refine C6'.out.mono ?_
          intro e w9 ho9
          obtain ⟨rfl, ok9, fb9, hR9, hb9, hok9, hz9⟩ := SOut.one ho9 hz8 hok8
          have HB9 := Aside0.mk (HB8.out.trans hb9)
          have CS := Aside0.mk (sane_c w9)
          clear C6' hb9 hR9 ho9 hok8 hz8
          go_wp2_with fail
          refine CS.out.mono ?_
          rintro e w10 ⟨rfl, hb10⟩
          go_wp2
          go_ret
          exact ⟨rfl, HB9.out.trans (hb10.mono HB9.out.size)⟩
      · rw [star_no h2 (by rw [hfr]; simp [b1])] at C4
        have g1 : (bits .and .i64 alone other != 0) = true := by rw [bne_iff_ne]; exact b1
        have g1' : (bits .and .i64 alone other == 0) = false := beq_eq_false_iff_ne.2 b1
        have H2 := Lib.hid h2
        clear h2 hfr b1
        go_wp2_with fail
        refine C4.out.mono ?_
        intro e w7 ho7
        obtain ⟨rfl, ok7, fb7, hR7, hb7, hok7, hz7⟩ := SOut.one (f := G3.opened sa mine alone) ho7 hz6 hok6
        have HB7 := Aside0.mk (HB6.out.trans hb7)
        have C5 := Aside0.mk (S_Close_ok sb fb7 0 ok7 [(fb7, G3.opened sa mine alone)] (G3.opened sa mine alone) sa sf mine alone w7 hR7 rfl rfl (by decide) (by decide) rfl opened_star.nd)
        clear C4 hb7 hR7 ho7 hok6 hz6
        go_wp2_with fail
        refine C5.out.mono ?_
        intro e w8 ho8
        obtain ⟨rfl, ok8, fb8, hR8, hb8, hok8, hz8⟩ := SOut.one (f := (G3.opened sa mine alone).closed sa) ho8 hz7 hok7
        have HB8 := Aside0.mk (HB7.out.trans hb8)
        have C6 := S_Open_star sb fb8 ok8 ((G3.opened sa mine alone).closed sa) sb_ other more w8 hR8 closed_star (by decide) rfl
        rw [star_one H2.out rfl] at C6
        have C6' := Aside0.mk C6
        clear C5 C6 hb8 hR8 ho8 hok7 hz7
        go_wp2_with fail
        refine C6'.out.mono ?_
        intro e w9 ho9
        obtain ⟨rfl, ok9, fb9, hR9, hb9, hok9, hz9⟩ := SOut.one ho9 hz8 hok8
        have HB9 := Aside0.mk (HB8.out.trans hb9)
        have CS := Aside0.mk (sane_c w9)
        clear C6' hb9 hR9 ho9 hok8 hz8
        go_wp2_with fail
        refine CS.out.mono ?_
        rintro e w10 ⟨rfl, hb10⟩
        go_wp2
        go_ret
        exact ⟨rfl, HB9.out.trans (hb10.mono HB9.out.size)⟩
end Go.Proofs.Ytehlmkgldcfciaa.Files
