/- The file store: Read. -/
import Derived.Test.YtehlmkgldcfciaaFilesE
import Derived.Outline
import Derived.Lib.Hide
import Derived.Test.YtehlmkgldcfciaaFx0
import Derived.Test.YtehlmkgldcfciaaFx2
set_option linter.unusedVariables false
set_option linter.unusedSimpArgs false
namespace Go.Proofs.Ytehlmkgldcfciaa.Files
open Go.Proofs.Ytehlmkgldcfciaa.Common Go.Maps Go.ChangeMaps Go.WideMaps Go.Proofs.Ytehlmkgldcfciaa.F
open Go.RowKit Go.Proofs.YtehlmkgldcfciaaW.PrintWords Go.Proofs.YtehlmkgldcfciaaW.PrintLast Go.Proofs.YtehlmkgldcfciaaW.PrintMore
theorem R_of_uRow' {W : World} {base : Nat} {ok : Nat → Prop} {v : Value} {l : List S41} (h : W.ownsRow base 41 3 v l.length (uRow l)) (h0 : ∀ k, v.ownBlock = some k → ok k) : Kd.R k41 41 W base ok v l := by
  refine ⟨h0, uRow l, h, h.1, fun j x hj => ?_⟩
  have e : ((uRow l).drop (j * 3)).take 3 = uCells x := flat_at (css := l.map uCells) (fun c hc => by obtain ⟨y, _, rfl⟩ := List.mem_map.1 hc; rfl) (by rw [List.getElem?_map, hj]; rfl)
  show k41.M W base _ x (((uRow l).drop (j * 3)).take 3)
  rw [e]
  exact k41_mkM _ _ _ x
theorem uRow_set : ∀ (l : List S41) (i j : Nat) (x' : S41) (u : Value), i < l.length → j < 3 → (uCells (rd_T41 l (i : Int))).set j u = uCells x' → uRow (l.set i x') = (uRow l).set (i * 3 + j) u
  | [], i, j, x', u, h, _, _ => by simp at h
  | x :: r, 0, j, x', u, h, hj, hc => by
    have hc' : (uCells x).set j u = uCells x' := hc
    show uCells x' ++ uRow r = (uCells x ++ uRow r).set (0 * 3 + j) u
    rw [Nat.zero_mul, Nat.zero_add, List.set_append_left _ _ (by exact hj), hc']
  | x :: r, i + 1, j, x', u, h, hj, hc => by
    have e : rd_T41 (x :: r) ((i + 1 : Nat) : Int) = rd_T41 r (i : Int) := by simp [rd_T41]
    rw [e] at hc
    have ih := uRow_set r i j x' u (by simpa using h) hj hc
    show uCells x ++ uRow (r.set i x') = (uCells x ++ uRow r).set ((i + 1) * 3 + j) u
    rw [ih, List.set_append_right _ _ (by show 3 ≤ _; omega)]
    congr 1
    show _ = (uRow r).set ((i + 1) * 3 + j - 3) u
    rw [show (i + 1) * 3 + j - 3 = i * 3 + j by omega]
theorem units_set {W : World} {base g n cap : Nat} {ok : Nat → Prop} {l : List S41} (h : Kd.R k41 41 W base ok (.slice (some ⟨g, 0, none⟩) n cap) l) (i j : Nat) (x' : S41) (u : Value) (hi : i < l.length) (hj : j < 3) (hc : (uCells (rd_T41 l (i : Int))).set j u = uCells x') :
    Kd.R k41 41 (W.setCell ⟨g, i * 3 + j, none⟩ u) base ok (.slice (some ⟨g, 0, none⟩) n cap) (l.set i x') ∧ W.grownBy (W.setCell ⟨g, i * 3 + j, none⟩ u) (some g) := by
  have h0 := h.1
  have ho := uRow_of_R h
  obtain ⟨hn, _⟩ := Kd.R_reads' h
  subst hn
  obtain ⟨h1, h2⟩ := ho.stored (i * 3 + j) u
  refine ⟨R_of_uRow' ?_ h0, h2⟩
  rw [List.length_set, uRow_set l i j x' u hi hj hc]
  exact h1
theorem units_slice {W : World} {base : Nat} {ok : Nat → Prop} {v : Value} {l : List S41} (h : Kd.R k41 41 W base ok v l) (hn : 0 < l.length) : ∃ g c, v = .slice (some ⟨g, 0, none⟩) l.length c ∧ l.length ≤ c ∧ c ≤ 9223372036854775807 := by
  rcases (uRow_of_R h).2 with ⟨_, h0⟩ | ⟨g, cap, cur, hv, _, _, hnc, hcm, _⟩
  · omega
  · exact ⟨g, cap, hv, hnc, hcm⟩
theorem units_sub {W : World} {g i j : Nat} {l : List S41} (h : Kd.C k41 W (some ⟨g, 0, none⟩) l.length l) (hij : i ≤ j) (hj : j ≤ l.length) : Kd.C (Kd.raw 3) W (some ⟨g, i * 3, none⟩) (j - i) (((l.take j).drop i).map uCells) := by
  have hlen : (((l.take j).drop i).map uCells).length = j - i := by simp [Nat.min_eq_left hj]
  refine ⟨hlen, by have := h.2.1; omega, fun hpos => ⟨_, rfl, fun q c hq => ?_⟩⟩
  obtain ⟨ad, he, hc⟩ := h.2.2 (by omega)
  cases he
  rw [List.getElem?_map] at hq
  obtain ⟨x, hx, rfl⟩ := Option.map_eq_some_iff.1 hq
  have hx' : l[i + q]? = some x := by
    rw [List.getElem?_drop, List.getElem?_take] at hx
    split at hx
    · exact hx
    · cases hx
  obtain ⟨c, hcl, hk, hu⟩ := hc (i + q) x hx'
  obtain rfl := k41_open hk
  refine ⟨_, rfl, ⟨rfl, rfl, fun u hu' => Kd.K_one k41 (k41_mk W x) u hu'⟩, fun t u ht => ?_⟩
  have := hu t u ht
  rw [add_plain] at this
  rw [Addr.add_lit]
  rw [show i * 3 + (q * (Kd.raw 3).sz + t) = (i + q) * k41.sz + t by show i * 3 + (q * 3 + t) = (i + q) * 3 + t; omega]
  exact this
theorem units_of_raw {W : World} {base : Nat} {ok : Nat → Prop} {v : Value} {l : List S41} (h : (Kd.raw 3).R 41 W base ok v (l.map uCells)) : Kd.R k41 41 W base ok v l := by
  obtain ⟨h0, ho, _⟩ := raw_flat h
  rw [List.length_map] at ho
  exact R_of_uRow' ho h0
theorem blk_map_ne {W : World} {fb b k n t : Nat} {cs : Array Value} {R : Value → Option (DataW Unit × List MemPlace)} {D : DataW Unit} (h : W.heap[fb]? = some (.cells cs t (0, 0))) (ho : W.ownsMap Try.prog k R b n D) : b ≠ fb := by
  rintro rfl
  obtain ⟨es, clock, hb, _⟩ := ho
  rw [h] at hb
  cases hb
theorem FileParts.set {W : World} {ok : Nat → Prop} {fb rc ub : Nat} {f : AF} {A : Option Addr} {uv : Value} {DU : DataW Unit} (h : FileParts W ok fb f A rc uv ub DU) (i : Nat) (v : Value) {F' : FS} (hc : (f.F.cells (.slice A f.rules.length rc) uv ub).setIfInBounds i v = F'.cells (.slice A f.rules.length rc) uv ub) :
    FileParts (W.setCell ⟨fb, i, none⟩ v) ok fb { f with F := F' } A rc uv ub DU :=
  ⟨h.okb, file_set h.F i v hc, Kd.R_set h.rules h.F (by decide) i v, Kd.R_set h.units h.F (by decide) i v, h.oku, h.U.setCell (a := ⟨fb, i, none⟩) (blk_map_ne h.F h.U) v, h.mU⟩
theorem FileParts.bound {W : World} {ok : Nat → Prop} {fb rc ub : Nat} {f : AF} {A : Option Addr} {uv : Value} {DU : DataW Unit} (h : FileParts W ok fb f A rc uv ub DU) : FileParts W (fun k => ok k ∧ k < W.heap.size) fb f A rc uv ub DU :=
  ⟨⟨h.okb, blk_lt h.F⟩, h.F, Kd.R_mono (Kd.R_bound h.rules) (fun k hk => ⟨hk.1, hk.2.2.1⟩), Kd.R_mono (Kd.R_bound h.units) (fun k hk => ⟨hk.1, hk.2.2.1⟩), ⟨h.oku, h.U.lt⟩, h.U, h.mU⟩
theorem FileParts.far {W1 w' : World} {ok : Nat → Prop} {B fb rc ub : Nat} {f : AF} {A : Option Addr} {uv : Value} {DU : DataW Unit} (h : FileParts W1 (fun k => ok k ∧ k < B) fb f A rc uv ub DU) (hb : Below B W1 w') : FileParts w' ok fb f A rc uv ub DU :=
  (h.step (S := fun k => B ≤ k) ⟨hb.os, hb.tape, hb.output, hb.size, fun k _ hs => hb.block k (by omega)⟩ (fun k hk => by omega)).mono (fun k hk => hk.1)
/-- What a unit tells when it is read from some level on. -/
def lower (b : Int) (x : S41) : S41 := ⟨x.f0, x.f1, wrap64 (x.f2 - b)⟩
def readL (l : List S41) (i : Nat) (whole : Bool) : List S41 := ((l.take (if whole then endOf l i else i + 1)).drop i).map (lower (lv l i))
theorem Read_err (sp : Value) (u n : ByteArray) (at_ E : Int) (whole : Bool) (W : World) (HU : UnitErr W sp u n at_ 1 E) :
    Calls Try.prog 20 #[sp, .string u, .string n, .int .i64 at_, .bool whole] W fun e w' => e = .returned (.tuple #[.slice none 0 0, .int .i64 E]) ∧ Below W.heap.size W w' := by
  obtain ⟨hE, hu⟩ := HU
  have hE' : (E == 0) = false := by simpa using hE
  have CU := Aside0.mk (hu W (Below.refl _ _))
  clear hu hE
  go_enter Try.func20, Try.ntmps20
  go_wp2_with first | (go_at_call 46; refine CU.out.mono ?_; rintro e w2 ⟨dn, rfl, hb2⟩)
  refine bodyPost_ret (v := .tuple #[.slice none 0 0, .int .i64 E]) (by simp [results, Try.f20, go_sem]) rfl ?_
  exact ⟨rfl, hb2⟩
theorem Read_denied (sp : Value) (u n : ByteArray) (at_ : Int) (fb : Nat) (whole : Bool) (W : World) (HU : UnitOk W sp u n at_ 1 fb 12) :
    Calls Try.prog 20 #[sp, .string u, .string n, .int .i64 at_, .bool whole] W fun e w' => e = .returned (.tuple #[.slice none 0 0, .int .i64 12]) ∧ Below W.heap.size W w' := by
  have CU := Aside0.mk (HU W (Below.refl _ _))
  clear HU
  go_enter Try.func20, Try.ntmps20
  go_wp2_with first | (go_at_call 46; refine CU.out.mono ?_; rintro e w2 ⟨rfl, hb2⟩)
  refine bodyPost_ret (v := .tuple #[.slice none 0 0, .int .i64 12]) (by simp [results, Try.f20, go_sem]) rfl ?_
  exact ⟨rfl, hb2⟩
/-- Units of which the first ones are lowered. -/
def adj (S : List S41) (b : Int) (k : Nat) : List S41 := (S.take k).map (lower b) ++ S.drop k
theorem adj_len (S : List S41) (b : Int) (k : Nat) : (adj S b k).length = S.length := by simp [adj]; omega
theorem adj_zero (S : List S41) (b : Int) : adj S b 0 = S := by simp [adj]
theorem adj_all (S : List S41) (b : Int) : adj S b S.length = S.map (lower b) := by simp [adj]
theorem adj_at (S : List S41) (b : Int) (k : Nat) (h : k < S.length) : rd_T41 (adj S b k) (k : Int) = rd_T41 S (k : Int) := by
  rw [rd_get _ _ (by rw [adj_len]; exact h), rd_get _ _ h]
  simp [adj, List.getElem_append, Nat.min_eq_left (Nat.le_of_lt h)]
theorem adj_succ (S : List S41) (b : Int) (k : Nat) (h : k < S.length) : (adj S b k).set k (lower b (rd_T41 S (k : Int))) = adj S b (k + 1) := by
  unfold adj
  have hl : ((S.take k).map (lower b)).length = k := by simp [Nat.min_eq_left (Nat.le_of_lt h)]
  rw [List.set_append_right _ _ (by omega), hl, Nat.sub_self, drop_at S k h, List.set_cons_zero, List.take_succ_eq_append_getElem h, List.map_append, List.append_assoc, ← rd_get S k h]
  rfl
def AF.read (f : AF) : AF := { f with F := { f.F with rd := wrap64 (f.F.rd + 1) } }
/-- How Read ends. -/
def ReadEnd (W : World) (ok : Nat → Prop) (fb rc ub : Nat) (f : AF) (A : Option Addr) (uv : Value) (DU : DataW Unit) (l : List S41) (e : Ending) (w' : World) : Prop :=
  ∃ v, e = .returned (.tuple #[v, .int .i64 0]) ∧ Kd.R k41 41 w' W.heap.size (fun _ => True) v l ∧ FileParts w' ok fb f.read A rc uv ub DU ∧ Chg W w' (fun k => k = fb)
set_option maxRecDepth 100000 in
set_option maxHeartbeats 2000000 in
theorem Read_ok (sp : Value) (u n : ByteArray) (i fb rc ub : Nat) (whole : Bool) (f : AF) (A : Option Addr) (uv : Value) (DU : DataW Unit) (ok : Nat → Prop) (W : World) (HU : UnitOk W sp u n (i : Int) 1 fb 0) (P : FileParts W ok fb f A rc uv ub DU)
    (hi : i < f.units.length) (hl : f.units.length ≤ 1000) :
    Calls Try.prog 20 #[sp, .string u, .string n, .int .i64 (i : Int), .bool whole] W (ReadEnd W ok fb rc ub f A uv DU (readL f.units i whole)) := by
  have CU := Aside0.mk (HU W (Below.refl _ _))
  have HP := Aside0.mk P
  have hfl := blk_lt P.F
  clear HU P
  go_enter Try.func20, Try.ntmps20
  go_wp2_with fail
  refine CU.out.mono ?_
  rintro e w2 ⟨rfl, hb2⟩
  have P2 := HP.out.below hb2
  obtain ⟨g, cu, huv, hlc, hcm⟩ := units_slice P2.units (by omega)
  subst huv
  have c6 : w2.cell? ⟨fb, 6, none⟩ = some (.int .i64 f.F.rd) := (blk_cell P2.F 6).trans rfl
  have f6 := blk_frozen P2.F 6
  have c8 : w2.cell? ⟨fb, 8, none⟩ = some (.slice (some ⟨g, 0, none⟩) f.units.length cu) := (blk_cell P2.F 8).trans rfl
  have P1 : FileParts (w2.setCell ⟨fb, 6, none⟩ (.int .i64 (wrap64 (f.F.rd + 1)))) ok fb f.read A rc (.slice (some ⟨g, 0, none⟩) f.units.length cu) ub DU := P2.set 6 _ rfl
  have HP1 := Aside0.mk P1
  have HB2 := Aside0.mk hb2
  have hR1 : Kd.C k41 (w2.setCell ⟨fb, 6, none⟩ (.int .i64 (wrap64 (f.F.rd + 1)))) (some ⟨g, 0, none⟩) f.units.length f.units := (Kd.R_reads' P1.units).2.2
  have CB := Aside0.mk (beyond_c (some ⟨g, 0, none⟩) cu i f.units _ hR1 hlc hi)
  have HS := Aside0.mk (fun j (h1 : i ≤ j) (h2 : j ≤ f.units.length) => units_sub hR1 h1 h2)
  obtain ⟨he1, he2⟩ := endOf_le hi
  have hne : ¬ cu = i := by omega
  have hic : i ≤ cu := by omega
  clear P1 P2 hb2 hR1
  have hgl : g < W.heap.size := own_lt (uRow_of_R HP.out.units) g rfl
  have P1b : FileParts (w2.setCell ⟨fb, 6, none⟩ (.int .i64 (wrap64 (f.F.rd + 1)))) (fun k => ok k ∧ k < W.heap.size) fb f.read A rc (.slice (some ⟨g, 0, none⟩) f.units.length cu) ub DU := (HP.out.bound.below HB2.out).set 6 _ rfl
  have HP1b := Aside0.mk P1b
  have HC8 := Aside0.mk (show (w2.setCell ⟨fb, 6, none⟩ (.int .i64 (wrap64 (f.F.rd + 1)))).cell? ⟨fb, 8, none⟩ = some (.slice (some ⟨g, 0, none⟩) f.units.length cu) from (blk_cell P1b.F 8).trans rfl)
  have HXA := Aside0.mk (show (w2.setCell ⟨fb, 6, none⟩ (.int .i64 (wrap64 (f.F.rd + 1)))).cell? ⟨g, i * 3 + 2, none⟩ = some (.int .i64 (lv f.units i)) by
    obtain ⟨_, _, hC⟩ := Kd.R_reads' P1b.units
    obtain ⟨ad, he, _, _, h3⟩ := at_T41 (xs := f.units) hC (i : Int) (by omega) (by omega)
    cases he
    rw [Int.toNat_natCast, add_plain] at h3
    exact h3)
  clear P1b HP1
  cases whole with
  | true =>
    have h1 : i ≤ endOf f.units i := by omega
    have h2 : endOf f.units i ≤ cu := by omega
    have h1z : (i : Int) ≤ (endOf f.units i : Int) := by omega
    have h2z : (endOf f.units i : Int) ≤ (cu : Int) := by omega
    go_wp2_with fail
    refine CB.out.mono ?_
    rintro e w3 ⟨rfl, ⟨m, rfl⟩⟩
    go_wp2_with fail
    refine ((files_Unit_43.raw _ _ _ _ _ (Kd.C_below (HS.out (endOf f.units i) h1 he2) (pw_below_drewN (Below.refl _ _) m)) (by omega)).mono ?_)
    rintro e w4 ⟨v, rfl, hr4, hb4⟩
    generalize hS : (f.units.take (endOf f.units i)).drop i = S at hr4
    have hSl : S.length = (endOf f.units i) - i := by rw [← hS]; simp; omega
    have hS0 : 0 < S.length := by omega
    have HSL := Lib.hid hSl
    have hSm : S.length ≤ 1000 := by omega
    clear hSl
    have hread : readL f.units i true = S.map (lower (lv f.units i)) := by unfold readL; rw [← hS]; rfl
    have HREAD := Lib.hid hread
    clear hread hS
    have hr4' := units_of_raw hr4
    obtain ⟨g2, c2, rfl, hc2, hc2m⟩ := units_slice hr4' hS0
    have hb14 := (pw_below_drewN (Below.refl _ _) m).trans hb4 |>.mono (by have := HB2.out.size; simpa using this)
    have HR4 := Aside0.mk (Kd.R_lower hr4' (by have := HB2.out.size; simpa using this))
    have HB14 := Aside0.mk hb14
    clear hr4 hr4' hb4 hb14
    go_wp2_with fail
    go_loopw [61] (fun s wr => ∃ k : Nat, k ≤ S.length ∧ s = .int .i64 k ∧ Aside0 (Kd.R k41 41 wr W.heap.size (fun _ => True) (.slice (some ⟨g2, 0, none⟩) S.length c2) (adj S (lv f.units i) k)) ∧ Aside0 (Below W.heap.size (w2.setCell ⟨fb, 6, none⟩ (.int .i64 (wrap64 (f.F.rd + 1)))) wr)) (fun s _ => S.length - (intOf s).toNat)
    case atStart => exact ⟨0, Nat.zero_le _, rfl, ⟨by rw [adj_zero]; exact HR4.out⟩, HB14⟩
    case round =>
      clear HR4 HB14
      obtain ⟨k, hk, rfl, HR, HB⟩ := hrel
      by_cases hlt : k < S.length
      · have hltz : (k : Int) < (S.length : Int) := by omega
        have d8 : wr.cell? ⟨fb, 8, none⟩ = some (.slice (some ⟨g, 0, none⟩) f.units.length cu) := (HB.out.cell (p := ⟨fb, 8, none⟩) hfl).trans HC8.out
        have xa : wr.cell? ⟨g, i * 3 + 2, none⟩ = some (.int .i64 (lv f.units i)) := (HB.out.cell (p := ⟨g, i * 3 + 2, none⟩) hgl).trans HXA.out
        have xk : wr.cell? ⟨g2, k * 3 + 2, none⟩ = some (.int .i64 (rd_T41 S (k : Int)).f2) := by
          obtain ⟨_, _, hC⟩ := Kd.R_reads' HR.out
          obtain ⟨ad, he, _, _, h3⟩ := at_T41 hC (k : Int) (by omega) (by rw [adj_len]; omega)
          cases he
          rw [adj_at S _ k hlt, Int.toNat_natCast, add_plain] at h3
          exact h3
        have fk : wr.frozen? ⟨g2, k * 3 + 2, none⟩ = false := by
          obtain ⟨cells, hc⟩ := own_typed (uRow_of_R HR.out) g2 rfl
          exact blk_frozen hc _
        have hic2 : decide ((i : Int) < 0) = false := decide_eq_false (by omega)
        have hiz : (i : Int) < (f.units.length : Int) := by omega
        have HW := Aside0.mk (units_set HR.out k 2 (lower (lv f.units i) (rd_T41 S (k : Int))) (.int .i64 (wrap64 ((rd_T41 S (k : Int)).f2 - lv f.units i))) (by rw [adj_len]; exact hlt) (by decide) (by rw [adj_at S _ k hlt]; rfl))
        have hg2 : W.heap.size ≤ g2 := (own_base (uRow_of_R HR.out) g2 rfl)
        have HN := Aside0.mk (adj_succ S (lv f.units i) k hlt)
        go_wp2_with fail
        go_region
        go_wp2_with fail
        go_roundw
        case rel => exact ⟨k + 1, by omega, by go_num, ⟨by rw [← HN.out]; exact Kd.R_drew HW.out.1⟩, ⟨(HB.out.setCell (p := ⟨g2, k * 3 + 2, none⟩) hg2 _).drew⟩⟩
        case measure => simp [intOf]; omega
      · have hltz : ¬ (k : Int) < (S.length : Int) := by omega
        obtain rfl : k = S.length := by omega
        clear hlt
        go_wp2
        refine bodyPost_ret (v := .tuple #[.slice (some ⟨g2, 0, none⟩) S.length c2, .int .i64 0]) (by simp [results, Try.f20, go_sem]) rfl ?_
        have hbw := HB.out
        exact ⟨_, rfl, by rw [HREAD.out, ← adj_all]; exact HR.out, HP1b.out.far hbw, ⟨hbw.os.trans HB2.out.os, hbw.tape.trans HB2.out.tape, hbw.output.trans HB2.out.output, Nat.le_trans HB2.out.size (by have := hbw.size; simpa [World.setCell] using this), fun q hq hne2 => (hbw.block q hq).trans ((Below.heap_setCell _ _ _ _ hne2).trans (HB2.out.block q hq))⟩⟩
  | false =>
    have h1 : i ≤ i + 1 := by omega
    have h2 : i + 1 ≤ cu := by omega
    have h1z : (i : Int) ≤ (i : Int) + 1 := by omega
    have h2z : (i : Int) + 1 ≤ (cu : Int) := by omega
    have HS1 := Aside0.mk (show Kd.C (Kd.raw 3) (w2.setCell ⟨fb, 6, none⟩ (.int .i64 (wrap64 (f.F.rd + 1)))) (some ⟨g, i * 3, none⟩) 1 (((f.units.take (i + 1)).drop i).map uCells) by have := HS.out (i + 1) h1 (by omega); rwa [show i + 1 - i = 1 by omega] at this)
    go_wp2_with fail
    refine ((files_Unit_43.raw _ _ _ _ _ HS1.out (by omega)).mono ?_)
    rintro e w4 ⟨v, rfl, hr4, hb4⟩
    generalize hS : (f.units.take (i + 1)).drop i = S at hr4
    have hSl : S.length = 1 := by rw [← hS]; simp; omega
    have hS0 : 0 < S.length := by omega
    have HSL := Lib.hid hSl
    have hSm : S.length ≤ 1000 := by omega
    clear hSl
    have hread : readL f.units i false = S.map (lower (lv f.units i)) := by unfold readL; rw [← hS]; rfl
    have HREAD := Lib.hid hread
    clear hread hS
    have hr4' := units_of_raw hr4
    obtain ⟨g2, c2, rfl, hc2, hc2m⟩ := units_slice hr4' hS0
    have hb14 := hb4.mono (by have := HB2.out.size; simpa using this)
    have HR4 := Aside0.mk (Kd.R_lower hr4' (by have := HB2.out.size; simpa using this))
    have HB14 := Aside0.mk hb14
    clear hr4 hr4' hb4 hb14
    go_wp2_with fail
    go_loopw [61] (fun s wr => ∃ k : Nat, k ≤ S.length ∧ s = .int .i64 k ∧ Aside0 (Kd.R k41 41 wr W.heap.size (fun _ => True) (.slice (some ⟨g2, 0, none⟩) S.length c2) (adj S (lv f.units i) k)) ∧ Aside0 (Below W.heap.size (w2.setCell ⟨fb, 6, none⟩ (.int .i64 (wrap64 (f.F.rd + 1)))) wr)) (fun s _ => S.length - (intOf s).toNat)
    case atStart => exact ⟨0, Nat.zero_le _, rfl, ⟨by rw [adj_zero]; exact HR4.out⟩, HB14⟩
    case round =>
      clear HR4 HB14
      obtain ⟨k, hk, rfl, HR, HB⟩ := hrel
      by_cases hlt : k < S.length
      · have hltz : (k : Int) < (S.length : Int) := by omega
        have d8 : wr.cell? ⟨fb, 8, none⟩ = some (.slice (some ⟨g, 0, none⟩) f.units.length cu) := (HB.out.cell (p := ⟨fb, 8, none⟩) hfl).trans HC8.out
        have xa : wr.cell? ⟨g, i * 3 + 2, none⟩ = some (.int .i64 (lv f.units i)) := (HB.out.cell (p := ⟨g, i * 3 + 2, none⟩) hgl).trans HXA.out
        have xk : wr.cell? ⟨g2, k * 3 + 2, none⟩ = some (.int .i64 (rd_T41 S (k : Int)).f2) := by
          obtain ⟨_, _, hC⟩ := Kd.R_reads' HR.out
          obtain ⟨ad, he, _, _, h3⟩ := at_T41 hC (k : Int) (by omega) (by rw [adj_len]; omega)
          cases he
          rw [adj_at S _ k hlt, Int.toNat_natCast, add_plain] at h3
          exact h3
        have fk : wr.frozen? ⟨g2, k * 3 + 2, none⟩ = false := by
          obtain ⟨cells, hc⟩ := own_typed (uRow_of_R HR.out) g2 rfl
          exact blk_frozen hc _
        have hic2 : decide ((i : Int) < 0) = false := decide_eq_false (by omega)
        have hiz : (i : Int) < (f.units.length : Int) := by omega
        have HW := Aside0.mk (units_set HR.out k 2 (lower (lv f.units i) (rd_T41 S (k : Int))) (.int .i64 (wrap64 ((rd_T41 S (k : Int)).f2 - lv f.units i))) (by rw [adj_len]; exact hlt) (by decide) (by rw [adj_at S _ k hlt]; rfl))
        have hg2 : W.heap.size ≤ g2 := (own_base (uRow_of_R HR.out) g2 rfl)
        have HN := Aside0.mk (adj_succ S (lv f.units i) k hlt)
        go_wp2_with fail
        go_region
        go_wp2_with fail
        go_roundw
        case rel => exact ⟨k + 1, by omega, by go_num, ⟨by rw [← HN.out]; exact Kd.R_drew HW.out.1⟩, ⟨(HB.out.setCell (p := ⟨g2, k * 3 + 2, none⟩) hg2 _).drew⟩⟩
        case measure => simp [intOf]; omega
      · have hltz : ¬ (k : Int) < (S.length : Int) := by omega
        obtain rfl : k = S.length := by omega
        clear hlt
        go_wp2
        refine bodyPost_ret (v := .tuple #[.slice (some ⟨g2, 0, none⟩) S.length c2, .int .i64 0]) (by simp [results, Try.f20, go_sem]) rfl ?_
        have hbw := HB.out
        exact ⟨_, rfl, by rw [HREAD.out, ← adj_all]; exact HR.out, HP1b.out.far hbw, ⟨hbw.os.trans HB2.out.os, hbw.tape.trans HB2.out.tape, hbw.output.trans HB2.out.output, Nat.le_trans HB2.out.size (by have := hbw.size; simpa [World.setCell] using this), fun q hq hne2 => (hbw.block q hq).trans ((Below.heap_setCell _ _ _ _ hne2).trans (HB2.out.block q hq))⟩⟩
end Go.Proofs.Ytehlmkgldcfciaa.Files
