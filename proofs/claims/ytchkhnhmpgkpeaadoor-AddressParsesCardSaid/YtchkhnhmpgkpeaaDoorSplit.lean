/- strings.SplitSeq(s, "."): what its iterator hands out, one piece after the other; its state lies in a captured cell. -/
import Derived.RangeFuncNested
import Derived.RangeFuncBound
import Derived.RangeFuncCalls
import Derived.RangeFuncLeaves
import Derived.Shelf.Abstract
import Derived.Shelf.RegionOpen
import Derived.WalkKit
import Derived.OwnWalkIn
import Derived.TacticsInMore
import Derived.LoopNIn
import Derived.LoopIn
import Derived.Test.YtchkhnhmpgkpeaaDoorShelf
set_option linter.unusedVariables false
set_option linter.unusedSimpArgs false
namespace Go.Proofs.YtchkhnhmpgkpeaaDoor.Split
open Go.RowKit Go.Shelf
attribute [local go_sem] Oper.semAt_some

/-- A text's pieces between its dots. -/
def pieces : List UInt8 → List (List UInt8)
  | [] => [[]]
  | c :: r => if c = 46 then [] :: pieces r else match pieces r with
    | [] => [[c]]
    | p :: ps => (c :: p) :: ps
theorem pieces_ne (l : List UInt8) : pieces l ≠ [] := by
  cases l with
  | nil => simp [pieces]
  | cons c r =>
    rw [pieces]
    split
    · simp
    · split <;> simp
theorem pieces_at : ∀ (l : List UInt8), (Lib.indexByte l 46 < 0 → pieces l = [l]) ∧ ∀ i : Nat, Lib.indexByte l 46 = i → i < l.length ∧ pieces l = l.take i :: pieces (l.drop (i + 1))
  | [] => ⟨fun _ => rfl, fun i h => by simp [Lib.indexByte] at h⟩
  | c :: r => by
    obtain ⟨h1, h2⟩ := pieces_at r
    have hge := Lib.indexByte_ge r 46
    rw [Lib.indexByte, pieces]
    by_cases hc : c = 46
    · subst hc
      simp only [beq_self_eq_true, if_true]
      refine ⟨fun h => by omega, fun i h => ?_⟩
      obtain rfl : i = 0 := by omega
      simp
    · rw [if_neg (by simpa using hc), if_neg hc]
      by_cases hn : Lib.indexByte r 46 = -1
      · rw [if_pos (by simpa using hn), h1 (by omega)]
        exact ⟨fun _ => rfl, fun i h => by omega⟩
      · rw [if_neg (by simpa using hn)]
        refine ⟨fun h => by omega, fun i h => ?_⟩
        obtain ⟨j, hj⟩ : ∃ j : Nat, Lib.indexByte r 46 = j := ⟨(Lib.indexByte r 46).toNat, by omega⟩
        obtain ⟨g1, g2⟩ := h2 j hj
        obtain rfl : i = j + 1 := by omega
        rw [g2]
        exact ⟨by simp; omega, by simp⟩
def bs (l : List UInt8) : ByteArray := ⟨l.toArray⟩
theorem bs_list (s : ByteArray) : bs s.data.toList = s := by cases s; simp [bs]
theorem list_bs (l : List UInt8) : (bs l).data.toList = l := by simp [bs]
def parts (s : ByteArray) : List ByteArray := (pieces s.data.toList).map bs
theorem ext_bs {a b : ByteArray} (h : a.data = b.data) : a = b := by cases a; cases b; simpa using h
theorem cut_front (s : ByteArray) (i : Nat) : s.extract 0 i = bs (s.data.toList.take i) := ext_bs (by
  rw [ByteArray.data_extract]
  apply Array.ext'
  simp [bs])
theorem cut_back (s : ByteArray) (i : Nat) : s.extract i s.size = bs (s.data.toList.drop i) := ext_bs (by
  rw [ByteArray.data_extract]
  show s.data.extract i s.data.size = _
  apply Array.ext'
  rw [Array.toList_extract]
  show _ = s.data.toList.drop i
  rw [List.extract_eq_take_drop]
  exact List.take_of_length_le (by rw [List.length_drop, Array.length_toList]; exact Nat.le_refl _))
theorem parts_last {s : ByteArray} (h : Lib.indexByte s.data.toList 46 < 0) : parts s = [s] := by
  unfold parts
  rw [(pieces_at _).1 h, List.map_cons, List.map_nil, bs_list]
theorem parts_more {s : ByteArray} {i : Nat} (h : Lib.indexByte s.data.toList 46 = i) : i < s.size ∧ parts s = s.extract 0 i :: parts (s.extract (i + 1) s.size) := by
  obtain ⟨h1, h2⟩ := (pieces_at _).2 i h
  refine ⟨by have h3 : s.data.toList.length = s.size := Array.length_toList; omega, ?_⟩
  unfold parts
  rw [h2, List.map_cons, cut_front, cut_back, list_bs]
theorem parts_sizes (s : ByteArray) : (parts s).length ≤ s.size + 1 ∧ ∀ x ∈ parts s, x.size ≤ s.size := by
  have h3 : s.data.toList.length = s.size := Array.length_toList
  have h : ∀ l : List UInt8, (pieces l).length ≤ l.length + 1 ∧ ∀ x ∈ pieces l, x.length ≤ l.length := by
    intro l
    induction l with
    | nil => simp [pieces]
    | cons c r ih =>
      rw [pieces]
      split
      · refine ⟨by simp; exact ih.1, fun x hx => ?_⟩
        rcases List.mem_cons.1 hx with rfl | hx
        · simp
        · have := ih.2 x hx; simp; omega
      · split
        · simp
        · rename_i p ps he
          rw [he] at ih
          refine ⟨by have := ih.1; simp at this ⊢; omega, fun x hx => ?_⟩
          rcases List.mem_cons.1 hx with rfl | hx
          · have := ih.2 p (by simp); simp; omega
          · have := ih.2 x (by simp [hx]); simp; omega
  refine ⟨by rw [parts, List.length_map, ← h3]; exact (h _).1, fun x hx => ?_⟩
  obtain ⟨l, hl, rfl⟩ := List.mem_map.1 hx
  have := (h _).2 l hl
  rw [h3] at this
  show l.toArray.size ≤ s.size
  simpa using this
def left (Bs : Nat) (w : World) : Nat := match w.cell? ⟨Bs, 0, none⟩ with
  | some (.string t) => t.size
  | _ => 0
theorem left_eq {Bs : Nat} {w : World} {t : ByteArray} (h : w.cell? ⟨Bs, 0, none⟩ = some (.string t)) : left Bs w = t.size := by simp [left, h]

/-- The iterator's three cells lie as they lay. -/
def Keep (Bp Bs Bv : Nat) (W W' : World) : Prop := ∀ k, k = Bp ∨ k = Bs ∨ k = Bv → W'.heap[k]? = W.heap[k]?
theorem Keep.trans {Bp Bs Bv : Nat} {A B C : World} (h : Keep Bp Bs Bv A B) (k : Keep Bp Bs Bv B C) : Keep Bp Bs Bv A C := fun j hj => (k j hj).trans (h j hj)
theorem Keep.putObj {Bp Bs Bv l : Nat} {W : World} (o : Obj) (h1 : Bp < l) (h2 : Bs < l) (h3 : Bv < l) : Keep Bp Bs Bv W (W.putObj l o) := fun j hj => World.putObj_heap_other (by omega)
theorem Keep.of_grown {Bp Bs Bv : Nat} {W W' : World} {row : Option Nat} (h1 : Bp < W.heap.size) (h2 : Bs < W.heap.size) (h3 : Bv < W.heap.size) (hg : W.grownBy W' row) (hr : ∀ k, k = Bp ∨ k = Bs ∨ k = Bv → some k ≠ row) : Keep Bp Bs Bv W W' := fun j hj => hg.block j (by rcases hj with rfl | rfl | rfl <;> assumption) (hr j hj)
set_option maxRecDepth 100000 in
set_option maxHeartbeats 2000000 in
/-- **The iterator.** -/
theorem each (n : Nat) (hn : 1 ≤ n) (l Bp Bs Bv : Nat) (s : ByteArray) (J Jx : List ByteArray → World → Prop) (hps : Bp ≠ Bs) (hvs : Bv ≠ Bs) (hsz : s.size ≤ 281474976710656)
    (hJc : ∀ pre A v, J pre A → J pre (A.setCell ⟨Bs, 0, none⟩ v))
    (hY : ∀ pre x W, J pre W → pre ++ [x] <+: parts s → YieldAt Fence.wide (n - 1) Tryd.prog l #[.string x] W fun e W' =>
      (e = .returned (.bool true) ∧ J (pre ++ [x]) W' ∧ Keep Bp Bs Bv W W') ∨ (e = .returned (.bool false) ∧ Jx (pre ++ [x]) W'))
    (W : World) (hp : W.cell? ⟨Bp, 0, none⟩ = some (.string ⟨#[46]⟩)) (hs : W.cell? ⟨Bs, 0, none⟩ = some (.string s)) (hv : W.cell? ⟨Bv, 0, none⟩ = some (.int .i64 0)) (hf : W.frozen? ⟨Bs, 0, none⟩ = false) (h0 : J [] W) :
    CallsIn Fence.wide n Tryd.prog 55 #[.func (.yield l) #[] #[], .pointer (some ⟨Bp, 0, none⟩), .pointer (some ⟨Bs, 0, none⟩), .pointer (some ⟨Bv, 0, none⟩)] W fun e W' => (∃ v, e = .returned v) ∧
      (J (parts s) W' ∨ (∃ pre, pre <+: parts s ∧ Jx pre W')) := by
  refine callsIn_of_wp Tryd.func55 rfl trivial ?_ rfl
  simp only [Tryd.ntmps55, List.size_toArray, List.length_cons, List.length_nil, Nat.reduceAdd, Nat.reduceSub, Array.replicate_succ, Array.replicate_zero, List.push_toArray, List.append_toArray, List.nil_append, List.cons_append]
  gi_wp2
  gi_loopw [7] (fun _ wr => ∃ (pre : List ByteArray) (cur : ByteArray), parts s = pre ++ parts cur ∧ J pre wr ∧ cur.size ≤ s.size ∧ wr.cell? ⟨Bs, 0, none⟩ = some (.string cur) ∧ wr.frozen? ⟨Bs, 0, none⟩ = false ∧ wr.cell? ⟨Bp, 0, none⟩ = some (.string ⟨#[46]⟩) ∧ wr.cell? ⟨Bv, 0, none⟩ = some (.int .i64 0))
    (fun _ wr => left Bs wr)
  case atStart => exact ⟨[], s, by simp, h0, Nat.le_refl _, hs, hf, hp, hv⟩
  case round =>
    clear hs hf hp hv h0
    obtain ⟨pre, cur, hpt, hJs, hle, hs, hf, hp, hv⟩ := hrel
    have hge := Lib.indexByte_ge cur.data.toList 46
    by_cases hneg : Lib.indexByte cur.data.toList 46 < 0
    · have hlast := parts_last hneg
      obtain ⟨fn, tmps, assign, body, hy, hR⟩ := hY pre cur wr hJs (by rw [hpt, hlast]; exact List.prefix_refl _)
      gi_wp2_with (refine ⟨trivial, ?_⟩; gi_at_call 57; refine (callsIn_wide.2 (Tryd.strings_Index_one cur 46 _)).mono ?_; rintro e w' ⟨rfl, rfl⟩)
      refine hR.mono ?_
      rintro e W' (⟨rfl, hJ', hk⟩ | ⟨rfl, hJx'⟩)
      · gi_wp2
        go_end0
        exact ⟨⟨_, rfl⟩, .inl (by rw [hpt, hlast]; exact hJ')⟩
      · gi_wp2
        go_end0
        exact ⟨⟨_, rfl⟩, .inr ⟨pre ++ [cur], by rw [hpt, hlast]; exact List.prefix_refl _, hJx'⟩⟩
    · obtain ⟨i, hi⟩ : ∃ i : Nat, Lib.indexByte cur.data.toList 46 = i := ⟨(Lib.indexByte cur.data.toList 46).toNat, by omega⟩
      obtain ⟨hil, hmore⟩ := parts_more hi
      obtain ⟨fn, tmps, assign, body, hy, hR⟩ := hY pre (cur.extract 0 i) wr hJs (by rw [hpt, hmore]; exact ⟨parts (cur.extract (i + 1) cur.size), by simp⟩)
      gi_wp2_with (refine ⟨trivial, ?_⟩; gi_at_call 57; refine (callsIn_wide.2 (Tryd.strings_Index_one cur 46 _)).mono ?_; rintro e w' ⟨rfl, rfl⟩)
      refine hR.mono ?_
      rintro e W' (⟨rfl, hJ', hk⟩ | ⟨rfl, hJx'⟩)
      · have hs' := (World.cell?_of_block (a := ⟨Bs, 0, none⟩) (hk Bs (by simp))).trans hs
        have hp' := (World.cell?_of_block (a := ⟨Bp, 0, none⟩) (hk Bp (by simp))).trans hp
        have hv' := (World.cell?_of_block (a := ⟨Bv, 0, none⟩) (hk Bv (by simp))).trans hv
        have hf' : W'.frozen? ⟨Bs, 0, none⟩ = false := (World.frozen?_of_block (hk Bs (by simp))).trans hf
        have hw1 : wrap64 ((i : Int) + 1) = (i : Int) + 1 := by unfold wrap64; omega
        have hw2 : IntKind.i64.wrap ((i : Int) + 1) = (i : Int) + 1 := by rw [IntKind.wrap_i64]; omega
        have hb1 : (0 : Int) ≤ (i : Int) + 1 := by omega
        have hb2 : (i : Int) + 1 ≤ (cur.size : Int) := by omega
        have hb3 : ((i : Int) + 1).toNat = i + 1 := by omega
        have hl0 := left_eq hs
        have hsz2 : (cur.extract (i + 1) cur.size).size < cur.size := by rw [ByteArray.size_extract]; omega
        clear hs hf hp hv
        gi_wp2
        have hc1 : (W'.setCell ⟨Bs, 0, none⟩ (.string (cur.extract (i + 1) cur.size))).cell? ⟨Bs, 0, none⟩ = some (.string (cur.extract (i + 1) cur.size)) := World.cell?_setCell_same' _ _ _ (by rw [hs']; rfl)
        go_roundw
        case rel => exact ⟨pre ++ [cur.extract 0 i], cur.extract (i + 1) cur.size, by rw [hpt, hmore]; simp, hJc _ _ _ hJ', by omega, hc1, by rw [World.frozen?_setCell]; exact hf',
          (World.cell?_setCell_other _ _ _ _ (by simp)).trans hp', (World.cell?_setCell_other _ _ _ _ (by simp)).trans hv'⟩
        case measure => rw [left_eq hc1, hl0]; exact hsz2
      · gi_wp2
        refine bodyPost_ret (results_none rfl _ _ _) rfl ?_
        exact ⟨⟨_, rfl⟩, .inr ⟨pre ++ [cur.extract 0 i], by rw [hpt, hmore]; exact ⟨parts (cur.extract (i + 1) cur.size), by simp⟩, hJx'⟩⟩
set_option maxHeartbeats 2000000 in
/-- strings.SplitSeq: three boxes, and the iterator over them. -/
theorem made (s : ByteArray) (w : World) :
    Calls Tryd.prog 32 #[.string s, .string ⟨#[46]⟩] w fun e w' => e = .returned (.func (.func 55) #[] #[.pointer (some ⟨w.heap.size + 1, 0, none⟩), .pointer (some ⟨w.heap.size, 0, none⟩), .pointer (some ⟨w.heap.size + 2, 0, none⟩)]) ∧
      w' = ((w.alloc (.cells #[.string s] 9)).alloc (.cells #[.string ⟨#[46]⟩] 9)).alloc (.cells #[.int .i64 0] 3) := by
  have inner : ∀ w, Calls Tryd.prog 45 #[.string s, .string ⟨#[46]⟩, .int .i64 0] w fun e w' => e = .returned (.func (.func 55) #[] #[.pointer (some ⟨w.heap.size + 1, 0, none⟩), .pointer (some ⟨w.heap.size, 0, none⟩), .pointer (some ⟨w.heap.size + 2, 0, none⟩)]) ∧
      w' = ((w.alloc (.cells #[.string s] 9)).alloc (.cells #[.string ⟨#[46]⟩] 9)).alloc (.cells #[.int .i64 0] 3) := fun w => by
    go_enter Tryd.func45, Tryd.ntmps45
    go_wp2
    go_ret
    exact ⟨rfl, rfl⟩
  go_enter Tryd.func32, Tryd.ntmps32
  go_wp2_with (go_at_call 45; refine (inner _).mono ?_; rintro e w' ⟨rfl, rfl⟩)
  go_ret
  exact ⟨rfl, rfl⟩

/-- **The loop over it.** n₀ of the iterator's contract: the heap's size where the loop begins. -/
theorem loop {g : Operand} {ps : Array Tmp} {assign body : Code} {Q : Exit → Act → World → Prop} {a : Act} {w : World} {n : Nat} (hn : 3 ≤ n) {Bp Bs Bv : Nat} {s : ByteArray} (hg : a.eval g = .func (.func 55) #[] #[.pointer (some ⟨Bp, 0, none⟩), .pointer (some ⟨Bs, 0, none⟩), .pointer (some ⟨Bv, 0, none⟩)])
    (hlp : Bp < w.heap.size) (hls : Bs < w.heap.size) (hlv : Bv < w.heap.size) (hps : Bp ≠ Bs) (hvs : Bv ≠ Bs) (hsz : s.size ≤ 281474976710656)
    (hp : w.cell? ⟨Bp, 0, none⟩ = some (.string ⟨#[46]⟩)) (hs : w.cell? ⟨Bs, 0, none⟩ = some (.string s)) (hv : w.cell? ⟨Bv, 0, none⟩ = some (.int .i64 0)) (hf : w.frozen? ⟨Bs, 0, none⟩ = false) (hp1 : ps.size = 1)
    (I Ix : List ByteArray → World → Prop) (hI : OwnFrom w.heap.size I) (hIx : OwnFrom w.heap.size Ix) (hIc : ∀ pre A v, I pre A → I pre (A.setCell ⟨Bs, 0, none⟩ v)) (h0 : I [] w) (a₁ : ByteArray → Act)
    (hassign : ∀ (l : Nat) (x : ByteArray) (W : World) (K : Act → World → Prop), K (a₁ x) W →
      assign.wpIn (Fence.wide.inRound l) (n - 1 - 1) Tryd.prog (Exit.then K (fun _ _ _ => False)) { tmps := (ps.zip #[Value.string x]).foldl (fun t (p, v) => t.setIfInBounds p v) a.tmps, defers := [] } W)
    (hbody : ∀ (l : Nat) (pre : List ByteArray) (x : ByteArray) (W : World), I pre W → pre ++ [x] <+: parts s → body.wpIn (Fence.wide.inRound l) (n - 1 - 1) Tryd.prog (ownPostK (Keep Bp Bs Bv) I (fun c pre W => c = .ret ∧ Ix pre W) (pre ++ [x]) W) (a₁ x) W)
    (hdone : ∀ (D : Nat) (W : World), w.heap.size ≤ D → I (parts s) W → W.heap[D]? = some (.deferred (some [])) → Q .normal { a with defers := { target := .collected D, args := #[] } :: a.defers } W)
    (hstop : ∀ (D : Nat) (pre : List ByteArray) (W : World), w.heap.size ≤ D → pre <+: parts s → Ix pre W → W.heap[D]? = some (.deferred (some [])) → Code.ret.wpIn Fence.wide n Tryd.prog Q { a with defers := { target := .collected D, args := #[] } :: a.defers } W) :
    (Code.rangeFunc g ps assign body).wpIn Fence.wide n Tryd.prog Q a w := by
  refine wpIn_rangeFunc fun fn hfn => ?_
  -- the record of the loop, in a state and with a jump that waits
  let rec_ : LoopState → Option Code → Loop := fun st pe => { state := st, pending := pe, fn, tmps := a.tmps, params := ps, assign, body, defers := w.heap.size }
  let W1 := (w.alloc (.deferred (some []))).alloc (.loop (rec_ .ready none))
  have sz1 : W1.heap.size = w.heap.size + 2 := by simp [W1]
  have loopAt : W1.heap[w.heap.size + 1]? = some (.loop (rec_ .ready none)) := by
    have := World.alloc_heap_new (w.alloc (.deferred (some []))) (.loop (rec_ .ready none))
    rwa [World.size_alloc] at this
  have defAt : W1.heap[w.heap.size]? = some (.deferred (some [])) := (Below.heap_alloc _ _ _ (by simp)).trans (World.alloc_heap_new w _)
  have below1 : Below w.heap.size w W1 := ((Below.refl _ w).alloc (Nat.le_refl _) _).alloc (by simp) _
  have yieldFn : (callFunc 55 #[.func (.yield (w.heap.size + 1)) #[] #[], .pointer (some ⟨Bp, 0, none⟩), .pointer (some ⟨Bs, 0, none⟩), .pointer (some ⟨Bv, 0, none⟩)]).run Tryd.prog W1 = .ok (.enter 55 #[.func (.yield (w.heap.size + 1)) #[] #[], .pointer (some ⟨Bp, 0, none⟩), .pointer (some ⟨Bs, 0, none⟩), .pointer (some ⟨Bv, 0, none⟩)]) W1 := enters_of Tryd.func55 (by kernel_rfl) rfl _ _
  refine ⟨w.heap.size + 1, [{ target := .collected w.heap.size, args := #[] }], W1, { target := .fn (.func 55) #[.pointer (some ⟨Bp, 0, none⟩), .pointer (some ⟨Bs, 0, none⟩), .pointer (some ⟨Bv, 0, none⟩)], args := #[.func (.yield (w.heap.size + 1)) #[] #[]] }, W1, 55, #[.func (.yield (w.heap.size + 1)) #[] #[], .pointer (some ⟨Bp, 0, none⟩), .pointer (some ⟨Bs, 0, none⟩), .pointer (some ⟨Bv, 0, none⟩)], W1,
    run_enterLoop_outer _ _ _ _ _, ?_, fun f' _ => trivial, ?_, fun _ => by omega, ?_⟩
  · simp only [resolve, hg]
    simp [go_sem]
  · simp [invoke, go_sem]
  · have same : ∀ {A B : World}, B.heap[w.heap.size]? = A.heap[w.heap.size]? → A.heap[w.heap.size]? = some (.deferred (some [])) → B.heap[w.heap.size]? = some (.deferred (some [])) := fun h k => h.trans k
    refine (each (n - 1) (by omega) (w.heap.size + 1) Bp Bs Bv s
      (fun pre W => I pre W ∧ W.heap[w.heap.size + 1]? = some (.loop (rec_ .ready none)) ∧ W.heap[w.heap.size]? = some (.deferred (some [])))
      (fun pre W => Ix pre W ∧ W.heap[w.heap.size + 1]? = some (.loop (rec_ .done (some .ret))) ∧ W.heap[w.heap.size]? = some (.deferred (some [])))
      hps hvs hsz
      (fun pre A v h => ⟨hIc _ _ _ h.1, (Below.heap_setCell A ⟨Bs, 0, none⟩ v _ (by simp; omega)).trans h.2.1, (Below.heap_setCell A ⟨Bs, 0, none⟩ v _ (by simp; omega)).trans h.2.2⟩)
      ?_ W1 ((below1.cell (p := ⟨Bp, 0, none⟩) hlp).trans hp) ((below1.cell (p := ⟨Bs, 0, none⟩) hls).trans hs) ((below1.cell (p := ⟨Bv, 0, none⟩) hlv).trans hv) ((World.frozen?_of_block (below1.block Bs hls)).trans hf)
      ⟨hI.alloc _ (hI.alloc _ h0), loopAt, defAt⟩).mono ?_
    · rintro pre x W ⟨hi, hl, hd⟩ hpx
      have hlt : w.heap.size + 1 < W.heap.size := (Array.getElem?_eq_some_iff.1 hl).1
      refine ⟨fn, _, assign, body, run_yield hl (by rw [hp1]; rfl), roundIn_of_wpIn hfn (hassign _ x W _ ⟨_, run_beginRound hl rfl, ?_⟩)⟩
      let Wb := W.putObj (w.heap.size + 1) (.loop { rec_ .ready none with state := .busy })
      have busy : Wb.heap[w.heap.size + 1]? = some (.loop { rec_ .ready none with state := .busy }) := World.putObj_heap_same hlt
      have defB : Wb.heap[w.heap.size]? = some (.deferred (some [])) := (World.putObj_heap_other (by omega)).trans hd
      have keepB : Keep Bp Bs Bv W Wb := Keep.putObj _ (by omega) (by omega) (by omega)
      refine wpIn_mono (hbody _ pre x Wb (hI.putObj _ hi (by omega) hl rfl) hpx) ?_
      have ends : ∀ (j : Option Code) (W3 : World), KeepsOthers Wb W3 → ∃ W4, W4 = W3.putObj (w.heap.size + 1) (.loop (rec_ (if j.isNone then .ready else .done) j)) ∧ (Instr.endRound (w.heap.size + 1) j).run Tryd.prog W3 = .ok (.bool j.isNone) W4 ∧
          W3.heap[w.heap.size + 1]? = some (.loop { rec_ .ready none with state := .busy }) ∧ W4.heap[w.heap.size + 1]? = some (.loop (rec_ (if j.isNone then .ready else .done) j)) ∧ W4.heap[w.heap.size]? = some (.deferred (some [])) := fun j W3 hk => by
        have h3 := hk.same _ _ busy rfl
        exact ⟨_, rfl, run_endRound j h3, h3, World.putObj_heap_same (Array.getElem?_eq_some_iff.1 h3).1, (World.putObj_heap_other (by omega)).trans (hk.same _ _ defB rfl)⟩
      rintro e a3 W3 hpost
      cases e with
      | normal =>
        obtain ⟨hk, hb, hi3⟩ := hpost
        obtain ⟨W4, rfl, hr, h3, h4, h5⟩ := ends none W3 hk
        exact ⟨_, _, hr, .inl ⟨rfl, ⟨hI.putObj _ hi3 (by omega) h3 rfl, h4, h5⟩, (keepB.trans hb).trans (Keep.putObj _ (by omega) (by omega) (by omega))⟩⟩
      | ret =>
        obtain ⟨hk, _, hi3⟩ := hpost
        obtain ⟨W4, rfl, hr, h3, h4, h5⟩ := ends (some .ret) W3 hk
        exact ⟨_, _, hr, .inr ⟨rfl, hIx.putObj _ hi3 (by omega) h3 rfl, h4, h5⟩⟩
      | exit id => exact absurd hpost.2.1 (by simp)
      | goto t => exact absurd hpost.2.1 (by simp)
      | panic ch => exact hpost.elim
      | outgrown => exact hpost.elim
    · rintro e W2 ⟨⟨v, rfl⟩, (⟨hi, hl, hd⟩ | ⟨pre, hpre, hi, hl, hd⟩)⟩
      · exact ⟨none, _, run_endLoop hl (by simp [rec_]), hdone _ _ (Nat.le_refl _) (hI.putObj _ hi (by omega) hl rfl) ((World.putObj_heap_other (by omega)).trans hd)⟩
      · exact ⟨some .ret, _, run_endLoop hl (by simp [rec_]), hstop _ pre _ (Nat.le_refl _) hpre (hIx.putObj _ hi (by omega) hl rfl) ((World.putObj_heap_other (by omega)).trans hd)⟩
end Go.Proofs.YtchkhnhmpgkpeaaDoor.Split
