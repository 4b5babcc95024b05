/- The file store: slices.Insert over units, told with the very block that is written. -/
import Derived.Test.YtehlmkgldcfciaaFilesG
import Derived.Test.YtehlmkgldcfciaaFx0
import Derived.Test.YtehlmkgldcfciaaFx5
set_option linter.unusedVariables false
set_option linter.unusedSimpArgs false
namespace Go.Proofs.Ytehlmkgldcfciaa.Files
open Go.Proofs.Ytehlmkgldcfciaa.Common Go.Maps Go.ChangeMaps Go.WideMaps Go.Proofs.Ytehlmkgldcfciaa.F
open Go.RowKit Go.Proofs.YtehlmkgldcfciaaW.PrintWords Go.Proofs.YtehlmkgldcfciaaW.PrintLast Go.Proofs.YtehlmkgldcfciaaW.PrintMore
theorem raw_of_units {W : World} {base : Nat} {ok : Nat → Prop} {v : Value} {l : List S41} (h : Kd.R k41 41 W base ok v l) : (Kd.raw 3).R 41 W base ok v (l.map uCells) := by
  refine flat_raw h.1 ?_ (fun c hc => ?_)
  · rw [List.length_map]
    exact uRow_of_R h
  · obtain ⟨x, _, rfl⟩ := List.mem_map.1 hc
    exact ⟨rfl, fun u hu => Kd.K_one k41 (k41_mk W x) u hu⟩
theorem R_only {W : World} {base g n c : Nat} {ok : Nat → Prop} {l : List S41} (h : Kd.R k41 41 W base ok (.slice (some ⟨g, 0, none⟩) n c) l) : Kd.R k41 41 W base (fun k => k = g) (.slice (some ⟨g, 0, none⟩) n c) l := by
  obtain ⟨hn, _⟩ := Kd.R_reads' h
  subst hn
  refine R_of_uRow' (uRow_of_R h) (fun k hk => ?_)
  have : g = k := by simpa [Value.ownBlock] using hk
  exact this.symm
/-- How one unit put in leaves a row. -/
def InsOut (w : World) (g i : Nat) (l : List S41) (x : S41) (e : Ending) (w' : World) : Prop :=
  ∃ g' c', e = .returned (.slice (some ⟨g', 0, none⟩) (l.length + 1) c') ∧ Kd.R k41 41 w' 0 (fun k => k = g') (.slice (some ⟨g', 0, none⟩) (l.length + 1) c') (l.take i ++ x :: l.drop i) ∧ w.grownBy w' (some g) ∧ (g' = g ∨ w.heap.size ≤ g') ∧ l.length + 1 ≤ c'
theorem Ins_units (g cap i vb : Nat) (ok : Nat → Prop) (l : List S41) (x : S41) (w : World) (hR : Kd.R k41 41 w 0 ok (.slice (some ⟨g, 0, none⟩) l.length cap) l) (hi : i ≤ l.length) (hl : l.length ≤ 1000)
    (hv : w.heap[vb]? = some (.cells #[.string x.f0, .string x.f1, .int .i64 x.f2] 41 (0, 0))) (hne : vb ≠ g) :
    Calls Try.prog 50 #[.slice (some ⟨g, 0, none⟩) l.length cap, .int .i64 (i : Int), .slice (some ⟨vb, 0, none⟩) 1 1] w (InsOut w g i l x) := by
  have hraw := Kd.R_mono (raw_of_units hR) (fun _ _ => trivial) (ok' := fun _ => True)
  have hlen : (l.map uCells).length = l.length := List.length_map _
  have hcat : (l.map uCells).take i ++ uCells x :: (l.map uCells).drop i = (l.take i ++ x :: l.drop i).map uCells := by simp [List.map_take, List.map_drop]
  have hnl : (l.take i ++ x :: l.drop i).length = l.length + 1 := by simp; omega
  have hone : ∀ u ∈ uCells x, u.oneCell' = true := fun u hu => Kd.K_one k41 (k41_mk w x) u hu
  obtain ⟨_, hcap, _⟩ := Kd.R_reads' hR
  rcases Nat.lt_or_ge i l.length with hlt | hge
  · rcases Nat.lt_or_ge cap (l.length + 1) with hroom | hroom
    · refine (files_Unit_50.grow g l.length cap i 0 vb 1 (l.map uCells) (uCells x) w hraw hlt hroom (by omega) (Nat.zero_le _) hv rfl hone).mono ?_
      rintro e w' ⟨v, rfl, ho, h1, h2⟩
      rw [hcat] at h1
      have h3 := units_of_raw h1
      obtain ⟨g', c', rfl, hc', _⟩ := units_slice h3 (by omega)
      rw [hnl] at h3 hc' ⊢
      have : g' = w.heap.size := by simpa [Value.ownBlock] using ho
      exact ⟨g', c', rfl, R_only h3, grown_of_below h2 _, .inr (by omega), hc'⟩
    · refine (files_Unit_50.room g l.length cap i 0 vb 1 (fun _ => True) (l.map uCells) (uCells x) w hraw hlt hroom hv rfl hone hne).mono ?_
      rintro e w' ⟨rfl, h1, h2⟩
      rw [hcat] at h1
      exact ⟨g, cap, rfl, R_only (units_of_raw h1), h2, .inl rfl, hroom⟩
  · obtain rfl : i = l.length := by omega
    have hcm : cap ≤ 9223372036854775807 := by
      rcases (uRow_of_R hR).2 with ⟨h', _⟩ | ⟨g', cap', cur, hv', _, _, _, hcm, _⟩
      · cases h'
      · injection hv' with _ _ h3
        rw [h3]; exact hcm
    refine (Ins_c 0 g l.length cap vb (uRow l) (.string x.f0) (.string x.f1) (.int .i64 x.f2) w (uRow_of_R hR) hv ⟨rfl, rfl, rfl⟩ (by omega) ⟨hcap, hcm⟩ (Nat.zero_le _)).mono ?_
    rintro e w' ⟨g', c', rfl, h1, h2, h3, h4⟩
    have e1 : l.take l.length ++ x :: l.drop l.length = l ++ [x] := by simp
    unfold InsOut
    rw [e1]
    have h5 : w'.ownsRow 0 41 3 (.slice (some ⟨g', 0, none⟩) (l.length + 1) c') (l ++ [x]).length (uRow (l ++ [x])) := by rw [uRow_snoc, List.length_append]; exact h1
    have h6 := R_of_uRow h5
    have h7 := (Kd.R_reads' h6).2.1
    exact ⟨g', c', rfl, R_only h6, h2, h3.elim .inl (fun e => .inr (by omega)), h7⟩
/-- The units' row has been written, or is another one; the file's own cell is set to it. -/
theorem FileParts.newUnits {W w1 : World} {ok ok' : Nat → Prop} {fb rc ub : Nat} {f : AF} {A : Option Addr} {uv v' : Value} {DU : DataW Unit} {units' : List S41} (P : FileParts W ok fb f A rc uv ub DU) (hc : Chg W w1 (fun k => some k = uv.ownBlock))
    (hr : Kd.R k41 41 w1 0 ok' v' units') (hok' : ∀ k, ok' k → ok k ∨ W.heap.size ≤ k) :
    FileParts (w1.setCell ⟨fb, 8, none⟩ v') (fun k => ok k ∨ W.heap.size ≤ k) fb { f with units := units' } A rc v' ub DU ∧ Chg W (w1.setCell ⟨fb, 8, none⟩ v') ok := by
  have hty : ∀ k, some k = uv.ownBlock → ∃ cells, W.heap[k]? = some (.cells cells 41 (0, 0)) := fun k hk => own_typed (uRow_of_R P.units) k hk.symm
  have hfb : ¬ some fb = uv.ownBlock := fun e => by
    obtain ⟨cells, h⟩ := hty fb e
    rw [P.F] at h
    cases h
  have hub : ¬ some ub = uv.ownBlock := fun e => by
    obtain ⟨cells, h⟩ := hty ub e
    obtain ⟨es, clock, hb, _⟩ := P.U
    rw [hb] at h
    cases h
  have F1 : FileAt w1 fb f.F (.slice A f.rules.length rc) uv ub := (hc.block fb (blk_lt P.F) hfb).trans P.F
  have R1 : Kd.R k34 34 w1 0 ok (.slice A f.rules.length rc) f.rules := by
    cases hu : uv.ownBlock with
    | none => exact hc.row P.rules (fun k hk e => by rw [hu] at e; cases e)
    | some g =>
      obtain ⟨cells, h⟩ := hty g hu.symm
      refine Kd.R_mono (hc.row (Kd.R_types P.rules h (by decide)) (fun k hk e => ?_)) (fun k hk => hk.1)
      rw [hu] at e
      injection e with e
      exact hk.2 e
  have U1 := hc.map P.U hub
  refine ⟨⟨.inl P.okb, file_set F1 8 v' rfl, Kd.R_mono (Kd.R_set R1 F1 (by decide) 8 v') (fun k hk => .inl hk), Kd.R_mono (Kd.R_set hr F1 (by decide) 8 v') hok', .inl P.oku, U1.setCell (a := ⟨fb, 8, none⟩) (blk_map_ne F1 U1) v', P.mU⟩, ?_⟩
  refine (hc.mono (fun k hk => ?_)).trans (Chg.of_set w1 ⟨fb, 8, none⟩ v' (S := ok) P.okb) (fun i hi => .inl hi)
  exact P.units.1 k hk.symm
/-- A change is noted. -/
def FS.noted (F : FS) (u : ByteArray) : FS := { F with ch := wrap64 (F.ch + 1), last := u }
theorem FileParts.noted {W : World} {ok : Nat → Prop} {fb rc ub : Nat} {f : AF} {A : Option Addr} {uv : Value} {DU : DataW Unit} (P : FileParts W ok fb f A rc uv ub DU) (u : ByteArray) :
    FileParts ((W.setCell ⟨fb, 5, none⟩ (.int .i64 (wrap64 (f.F.ch + 1)))).setCell ⟨fb, 4, none⟩ (.string u)) ok fb { f with F := f.F.noted u } A rc uv ub DU ∧ Chg W ((W.setCell ⟨fb, 5, none⟩ (.int .i64 (wrap64 (f.F.ch + 1)))).setCell ⟨fb, 4, none⟩ (.string u)) ok :=
  ⟨(P.set 5 (.int .i64 (wrap64 (f.F.ch + 1))) (F' := { f.F with ch := wrap64 (f.F.ch + 1) }) rfl).set 4 (.string u) (F' := f.F.noted u) rfl,
    (Chg.of_set W ⟨fb, 5, none⟩ _ (S := ok) P.okb).trans (Chg.of_set _ ⟨fb, 4, none⟩ _ (S := ok) P.okb) (fun i hi => .inl hi)⟩
end Go.Proofs.Ytehlmkgldcfciaa.Files
