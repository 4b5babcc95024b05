-- Written by this repo's wip/tools/myprint.py (the kit's print program, with contracts of our own beside). Lean checks it.
import Derived.Test.YtehlmkgldcfciaaDoorFx0
namespace Go.Proofs.YtehlmkgldcfciaaDoor.F
open Go.Proofs.YtehlmkgldcfciaaDoor.Common
open Go.RowKit Go.Proofs.YtehlmkgldcfciaaDoorW.PrintWords Go.Proofs.YtehlmkgldcfciaaDoorW.PrintLast Go.Proofs.YtehlmkgldcfciaaDoorW.PrintMore
attribute [local go_sem] max2_int min2_int max_two min_two max_three min_three max_four min_four   -- for this text's walks alone
set_option linter.unusedVariables false
set_option linter.unusedSimpArgs false

-- NOT PRINTED: function 62 (stringslite_Index)

-- NOT PRINTED: function 49 (stringslite_Cut)

-- NOT PRINTED: function 30 (strings_Cut)

-- NOT PRINTED: function 77 (utf8_RuneCountInString)

-- NOT PRINTED: function 90 (utf8_decodeRuneInStringSlow)

-- NOT PRINTED: function 78 (utf8_DecodeRuneInString)

-- NOT PRINTED: function 63 (strings_explode)

-- NOT PRINTED: function 65 (strings_Index)

-- NOT PRINTED: function 79 (bytealg_CountString)

-- NOT PRINTED: function 64 (strings_Count)

-- NOT PRINTED: function 50 (strings_genSplit)

-- NOT PRINTED: function 31 (strings_Split)

-- NOT PRINTED: function 32 (strconv_Atoi)

/-! ### strconv_Itoa: function 33 (a contract of our own) -/
def strconv_Itoa.f (a0 : Int) : Option ByteArray := if -9223372036854775808 ≤ a0 ∧ a0 ≤ 9223372036854775807 then some ⟨(Go.Lib.itoa a0).toArray⟩ else none
theorem strconv_Itoa.calls (a0 : Int) (r : ByteArray) (w : World) (htab : Tab10 w) (h : strconv_Itoa.f a0 = some r) : Calls Tryd.prog 33 #[.int .i64 a0] w fun e w' => e = .returned (.string r) ∧ Below w.heap.size w w' := by
  unfold strconv_Itoa.f at h
  split at h
  case isFalse => cases h
  rename_i hb
  injection h with h
  subst h
  refine (Tryd.strconv_Itoa a0 hb.1 hb.2 w htab.tab).mono ?_
  rintro e w' ⟨rfl, k, os, rfl⟩
  exact ⟨rfl, Lib.below_grow _ _ (Nat.le_refl _) _ _⟩


-- NOT PRINTED: function 16 (files_head)

-- NOT PRINTED: function 17 (files_begins)

-- NOT PRINTED: function 5 (files_Join)

-- NOT PRINTED: function 18 (files_New)

-- NOT PRINTED: function 34 (files_Store_no)

/-! ### files_user: function 35 -/
def files_user.f (a0 : ByteArray) : Option (Bool) := if (a0.size : Int) ≥ 1 then (some (decide ((a0.size : Int) ≤ 20))) else (some false)
set_option maxHeartbeats 8000000 in
set_option maxRecDepth 100000 in
theorem files_user.calls (a0 : ByteArray) (r : Bool) (w : World) (h : files_user.f a0 = some r) :
  Calls Tryd.prog 35 #[.string a0] w fun e w' => e = .returned (.bool r) ∧ Drawn0 w w' := by
 have H : (if (a0.size : Int) ≥ 1 then (some (decide ((a0.size : Int) ≤ 20))) else (some false)) = some r := h
 clear h
 by_cases c2 : (a0.size : Int) ≥ 1
 ·rw [if_pos c2] at H
  have c2b0 : decide (1 ≤ (a0.size : Int)) = true := decide_eq_true c2
  have c2b1 : decide (1 ≤ a0.size) = true := decide_eq_true (by omega)
  clear c2
  obtain rfl := Option.some.inj H
  go_enter Tryd.func35, Tryd.ntmps35
  go_wp2
  go_ret
  exact ⟨by first | rfl | (simp; done) | (simp [*]; done), by repeat (first | exact Drawn0.refl _ | apply Drawn0.step)⟩
 ·rw [if_neg c2] at H
  have c2b0 : decide (1 ≤ (a0.size : Int)) = false := decide_eq_false c2
  have c2b1 : decide (1 ≤ a0.size) = false := decide_eq_false (by omega)
  clear c2
  obtain rfl := Option.some.inj H
  go_enter Tryd.func35, Tryd.ntmps35
  go_wp2
  go_ret
  exact ⟨by first | rfl | (simp; done) | (simp [*]; done), by repeat (first | exact Drawn0.refl _ | apply Drawn0.step)⟩

/-! ### files_name: function 36 -/
def files_name.f (a0 : ByteArray) : Option (Bool) := if (a0.size : Int) ≥ 1 then (some (decide ((a0.size : Int) ≤ 30))) else (some false)
set_option maxHeartbeats 8000000 in
set_option maxRecDepth 100000 in
theorem files_name.calls (a0 : ByteArray) (r : Bool) (w : World) (h : files_name.f a0 = some r) :
  Calls Tryd.prog 36 #[.string a0] w fun e w' => e = .returned (.bool r) ∧ Drawn0 w w' := by
 have H : (if (a0.size : Int) ≥ 1 then (some (decide ((a0.size : Int) ≤ 30))) else (some false)) = some r := h
 clear h
 by_cases c2 : (a0.size : Int) ≥ 1
 ·rw [if_pos c2] at H
  have c2b0 : decide (1 ≤ (a0.size : Int)) = true := decide_eq_true c2
  have c2b1 : decide (1 ≤ a0.size) = true := decide_eq_true (by omega)
  clear c2
  obtain rfl := Option.some.inj H
  go_enter Tryd.func36, Tryd.ntmps36
  go_wp2
  go_ret
  exact ⟨by first | rfl | (simp; done) | (simp [*]; done), by repeat (first | exact Drawn0.refl _ | apply Drawn0.step)⟩
 ·rw [if_neg c2] at H
  have c2b0 : decide (1 ≤ (a0.size : Int)) = false := decide_eq_false c2
  have c2b1 : decide (1 ≤ a0.size) = false := decide_eq_false (by omega)
  clear c2
  obtain rfl := Option.some.inj H
  go_enter Tryd.func36, Tryd.ntmps36
  go_wp2
  go_ret
  exact ⟨by first | rfl | (simp; done) | (simp [*]; done), by repeat (first | exact Drawn0.refl _ | apply Drawn0.step)⟩

/-! ### files_set: function 37 -/
def files_set.f (a0 : Int) : Option (Bool) := if a0 ≥ 0 then (some (decide (a0 ≤ 255))) else (some false)
set_option maxHeartbeats 8000000 in
set_option maxRecDepth 100000 in
theorem files_set.calls (a0 : Int) (r : Bool) (w : World) (h : files_set.f a0 = some r) :
  Calls Tryd.prog 37 #[.int .i64 a0] w fun e w' => e = .returned (.bool r) ∧ Drawn0 w w' := by
 have H : (if a0 ≥ 0 then (some (decide (a0 ≤ 255))) else (some false)) = some r := h
 clear h
 by_cases c2 : a0 ≥ 0
 ·rw [if_pos c2] at H
  have c2b0 : decide (0 ≤ a0) = true := decide_eq_true c2
  clear c2
  obtain rfl := Option.some.inj H
  go_enter Tryd.func37, Tryd.ntmps37
  go_wp2
  go_ret
  exact ⟨by first | rfl | (simp; done) | (simp [*]; done), by repeat (first | exact Drawn0.refl _ | apply Drawn0.step)⟩
 ·rw [if_neg c2] at H
  have c2b0 : decide (0 ≤ a0) = false := decide_eq_false c2
  clear c2
  obtain rfl := Option.some.inj H
  go_enter Tryd.func37, Tryd.ntmps37
  go_wp2
  go_ret
  exact ⟨by first | rfl | (simp; done) | (simp [*]; done), by repeat (first | exact Drawn0.refl _ | apply Drawn0.step)⟩

-- NOT PRINTED: function 19 (files_Store_Create)

-- NOT PRINTED: function 38 (files_Store_found)

/-! ### files_Rule: function 54 (a contract of our own) -/
set_option maxHeartbeats 1000000 in
set_option maxRecDepth 100000 in
theorem files_Rule.calls (g : Nat) (lb : Array Value) (eg : ∀ args w, (callFunc g args).run Tryd.prog w = .ok (.enter g args) w) (p : S105 → Option Bool)
    (A0 : Option Addr) (c0 : Nat) (l0 : List S105) (r : Int) (w : World) (hr0 : Kd.C k105 w A0 l0.length l0) (hc0 : l0.length ≤ c0) (h : idxM p l0 = some r)
    (hp : ∀ W (x : S105) (cs : List Value) (b : Bool), Below w.heap.size w W → k105.K W x cs → p x = some b → Calls Tryd.prog g (#[.agg cs.toArray] ++ lb) W fun e w' => e = .returned (.bool b) ∧ Below W.heap.size W w') :
    Calls Tryd.prog 54 #[.slice A0 l0.length c0, .func (.func g) #[] lb] w fun e w' => e = .returned (.int .i64 r) ∧ Below w.heap.size w w' := by
  have HR0 := Aside0.mk hr0
  have HC0 := Aside0.mk hc0
  have HP := Aside0.mk hp
  have HI := Aside0.mk (idxAt_start h)
  have hbig : l0.length ≤ 9223372036854775807 := hr0.2.1
  clear hr0 hc0 hp h
  go_enter Tryd.func54, Tryd.ntmps54
  go_wp2
  go_loopg [5, 8] l0.length (fun gg _ s8 wr => ∃ kk : Nat, Aside0 (kk + gg = l0.length) ∧ s8 = .int .i64 kk ∧ Aside0 (Below w.heap.size w wr) ∧ Aside0 (idxAt p l0 kk r))
  case atStart => exact ⟨0, ⟨by omega⟩, rfl, ⟨Below.refl _ _⟩, HI⟩
  case round =>
    clear HI
    obtain ⟨kk, HG, rfl, HD, HI⟩ := hrel
    by_cases hlt : kk < l0.length
    · have hltz : (kk : Int) < (l0.length : Int) := by omega
      obtain ⟨b, hb, hyes, hno⟩ := idxAt_step (d := z105) HI.out hlt
      have hrd : rd_T105 l0 (kk : Int) = l0.getD kk z105 := by simp [rd_T105]
      obtain ⟨ad, e1, hx_0, hx_1⟩ := at_T105 (Kd.C_below HR0.out HD.out) (kk : Int) (by omega) (by omega)
      cases e1
      rw [hrd] at hx_0 hx_1
      rw [Int.toNat_natCast] at hx_0 hx_1
      generalize l0.getD kk z105 = x at hb hx_0 hx_1
      have hcall := HP.out wr x [.string x.f0, .int .i64 x.f1] b HD.out (k105_mk wr x ) hb
      have HCL := Aside0.mk (show Calls Tryd.prog g (#[.agg #[.string x.f0, .int .i64 x.f1]] ++ lb) wr (fun e w' => e = .returned (.bool b) ∧ Below wr.heap.size wr w') from hcall)
      have HY := Aside0.mk hyes
      have HN := Aside0.mk hno
      have HDS := Aside0.mk HD.out.size
      clear hcall hb hyes hno hrd 
      cases b with
      | true =>
        have HE : Aside0 (r = (kk : Int)) := ⟨HY.out rfl⟩
        clear hlt HY HN HI
        go_wp2_with fail
        refine HCL.out.mono ?_
        rintro e w' ⟨rfl, hb2⟩
        have HB2 := Aside0.mk hb2
        clear hb2 hx_0 hx_1
        go_wp2
        go_ret
        exact ⟨by rw [HE.out]; rfl, HD.out.trans (HB2.out.mono HD.out.size)⟩
      | false =>
        have HI2 := Aside0.mk (HN.out rfl)
        clear HY HN HI
        go_wp2_with fail
        refine HCL.out.mono ?_
        rintro e w' ⟨rfl, hb2⟩
        have HB2 := Aside0.mk hb2
        clear hb2 hx_0 hx_1
        go_wp2
        go_roundg (l0.length - (kk + 1))
        case measure => have := HG.out; omega
        case rel => exact ⟨kk + 1, ⟨by omega⟩, by go_num, ⟨HD.out.trans (HB2.out.mono HD.out.size)⟩, HI2⟩
    · have hltz : ¬ (kk : Int) < (l0.length : Int) := by omega
      have HE : Aside0 (r = -1) := ⟨idxAt_end HI.out (by omega)⟩
      clear hlt
      go_wp2
      go_ret
      exact ⟨by rw [HE.out]; rfl, HD.out⟩


-- NOT PRINTED: function 39 (files_file_may)

-- NOT PRINTED: function 20 (files_Store_Open)

-- NOT PRINTED: function 56 (files_Store_opened)

-- NOT PRINTED: function 40 (files_Store_unit)

-- NOT PRINTED: function 57 (files_Unit_57)

end Go.Proofs.YtehlmkgldcfciaaDoor.F
