/- Walks: operations parsed by the program. -/
import Derived.Test.YtkoefklgfkhmpaaDoorW15
import Derived.Test.YtkoefklgfkhmpaaDoorW12
namespace Go.Proofs.YtkoefklgfkhmpaaDoor
open Go.RowKit
set_option linter.unusedVariables false
set_option maxRecDepth 100000
attribute [local go_sem high] run_index_S binOp_eql_S binOp_neq_S append_S toList_S size_S run_slice_S run_slice_from_S run_slice_to_S wrap64_byteAt wrap64_byteAt_mul bits_or_bytes convU conv1_some convU2 conv2_some
theorem ErrVars.on {w w' : World} (h : ErrVars w) (hb : Below w.heap.size w w') : ErrVars w' := by
  obtain ⟨⟨ev, hv, hev⟩, ⟨ev2, hv2, hev2⟩⟩ := h
  exact ⟨⟨ev, (hb.cell (lt_of_cell hv)).trans hv, hev⟩, ⟨ev2, (hb.cell (lt_of_cell hv2)).trans hv2, hev2⟩⟩
/-- The program's fields: what was read, and whether it is fine. -/
def FieldRes (ps : List Bs) (w : World) (e : Ending) (w' : World) : Prop :=
  ∃ (x : OpR) (ok : Bool), e = .returned (.tuple #[x.val, .bool ok]) ∧ implCand ps = (if ok = true then some x else none) ∧ Below w.heap.size w w'
theorem impl_none (a : Bs) (r : List Bs) (h4 : r.length = 3 → ¬ (a = wPut ∨ a = wAppend)) (h6 : r.length = 5 → ¬ a = wReplace) (h3 : r.length = 2 → ¬ a = wMerge) (h2 : r.length = 1 → ¬ a = wDelete) : implCand (a :: r) = none := by
  cases hs : implCand (a :: r) with
  | none => rfl
  | some x =>
    exfalso
    unfold implCand at hs
    split at hs
    · rename_i heq
      injection heq with e1 e2
      subst e1 e2
      rw [if_neg (h4 rfl)] at hs; cases hs
    · rename_i heq
      injection heq with e1 e2
      subst e1 e2
      rw [if_neg (h6 rfl)] at hs; cases hs
    · rename_i heq
      injection heq with e1 e2
      subst e1 e2
      rw [if_neg (h3 rfl)] at hs; cases hs
    · rename_i heq
      injection heq with e1 e2
      subst e1 e2
      rw [if_neg (h2 rfl)] at hs; cases hs
    · cases hs
theorem opt_get {α : Type} (o : Option α) (z : α) : o = if o.isSome = true then some (o.getD z) else none := by cases o <;> rfl
set_option maxHeartbeats 4000000 in
theorem fields_put (b c d : Bs) (g cap : Nat) (w : World) (B : Nat) (hB : B ≤ w.heap.size) (hT : HasTab B w) (hE : ErrVars w) (hsp : SlS w (some ⟨g, 0, none⟩) cap [wPut, b, c, d]) (hg : g < w.heap.size) (hl : ∀ p ∈ [wPut, b, c, d], p.length ≤ 2000000) :
    Calls Tryd.prog 31 #[.slice (some ⟨g, 0, none⟩) 4 cap] w (FieldRes [wPut, b, c, d] w) := by
  have HT := Go.Lib.hid hT
  clear hT
  have hlb := hl b (by simp)
  have hlc := hl c (by simp)
  have hld := hl d (by simp)
  obtain ⟨_, _, hA0, _, hc0o⟩ := SlS.at hsp (k := 0) (by simp)
  injection hA0 with hA0
  injection hA0 with e1 e2 _
  subst e1; subst e2
  obtain ⟨_, _, hA1, _, hc1o⟩ := SlS.at hsp (k := 1) (by simp)
  injection hA1 with hA1
  injection hA1 with e1 e2 _
  subst e1; subst e2
  obtain ⟨_, _, hA2, _, hc2o⟩ := SlS.at hsp (k := 2) (by simp)
  injection hA2 with hA2
  injection hA2 with e1 e2 _
  subst e1; subst e2
  obtain ⟨_, _, hA3, _, hc3o⟩ := SlS.at hsp (k := 3) (by simp)
  injection hA3 with hA3
  injection hA3 with e1 e2 _
  subst e1; subst e2
  rw [Nat.zero_add] at hc0o hc1o hc2o hc3o
  have hc0 := hc0o
  have hc1 := hc1o
  have hc2 := hc2o
  have hc3 := hc3o
  go_enter Tryd.func31, Tryd.ntmps31
  go_wp2_with fail
  have b0 : Below w.heap.size w (w.alloc (.cells opZ.cells 24)) := (by repeat (first | (with_reducible exact Below.refl _ _) | (with_reducible assumption) | (with_reducible refine Below.drew ?_) | (with_reducible refine Below.alloc ?_ (by first | omega | (simp <;> omega)) _) | (with_reducible refine Below.setCell ?_ (by first | omega | (simp <;> omega)) _) | (with_reducible refine belowN ?_ _)))
  refine (parseNumber_any c (w.alloc (.cells opZ.cells 24)) B (by simp; omega) (Lib.TabBelow.on HT.out (b0.mono hB)) (hE.on b0) (by omega)).mono ?_
  rintro e w1 ⟨rfl, hb1⟩
  have K1 : Bk w1 w.heap.size 24 opZ.cells := (Bk.new w opZ.cells 24).below hb1 (by simp)
  have hz1 := hb1.size
  simp only [World.size_alloc] at hz1
  have g1 : Below w.heap.size w w1 := b0.trans (hb1.mono (by simp))
  unfold numRes
  have HV1 := Go.Lib.hid (opt_get (numOf c) 0)
  generalize (numOf c).getD 0 = Sv at *
  generalize (numOf c).isSome = Svb at *
  have hc0 := (g1.cell (p := ⟨g, 0, none⟩) hg).trans hc0o
  have hc1 := (g1.cell (p := ⟨g, 1, none⟩) hg).trans hc1o
  have hc2 := (g1.cell (p := ⟨g, 2, none⟩) hg).trans hc2o
  have hc3 := (g1.cell (p := ⟨g, 3, none⟩) hg).trans hc3o
  go_wp2_with fail
  refine (parseHexOrDash_any d _ (by omega)).mono ?_
  rintro e w2 ⟨rfl, hb2⟩
  have K2 := K1.below hb2 K1.lt
  have hz2 := hb2.size
  have g2 := g1.trans (hb2.mono (by omega))
  unfold hexDRes
  have HV2 := Go.Lib.hid (opt_get (hexD d) [])
  generalize (hexD d).getD [] = Dv at *
  generalize (hexD d).isSome = Dvb at *
  have hc0 := (g2.cell (p := ⟨g, 0, none⟩) hg).trans hc0o
  have hc1 := (g2.cell (p := ⟨g, 1, none⟩) hg).trans hc1o
  have hc2 := (g2.cell (p := ⟨g, 2, none⟩) hg).trans hc2o
  have hc3 := (g2.cell (p := ⟨g, 3, none⟩) hg).trans hc3o
  have X2 := K2.cell
  have F2 := K2.free
  go_wp2
  all_goals
    first
      | exact bodyPost_ret (v := .tuple #[(⟨0, 0, 0, Sv, b, Dv⟩ : OpR).val, .bool (Svb && Dvb)]) (by simp [results, Tryd.results31, go_sem, X2] <;> simp_all) rfl ⟨⟨0, 0, 0, Sv, b, Dv⟩, Svb && Dvb, rfl, by unfold implCand; simp only [HV1.out, HV2.out]; cases Svb <;> cases Dvb <;> simp, (by repeat (first | (with_reducible exact Below.refl _ _) | (with_reducible assumption) | (with_reducible refine Below.drew ?_) | (with_reducible refine Below.alloc ?_ (by first | omega | (simp <;> omega)) _) | (with_reducible refine Below.setCell ?_ (by first | omega | (simp <;> omega)) _) | (with_reducible refine belowN ?_ _)))⟩
set_option maxHeartbeats 4000000 in
theorem fields_append (b c d : Bs) (g cap : Nat) (w : World) (B : Nat) (hB : B ≤ w.heap.size) (hT : HasTab B w) (hE : ErrVars w) (hsp : SlS w (some ⟨g, 0, none⟩) cap [wAppend, b, c, d]) (hg : g < w.heap.size) (hl : ∀ p ∈ [wAppend, b, c, d], p.length ≤ 2000000) :
    Calls Tryd.prog 31 #[.slice (some ⟨g, 0, none⟩) 4 cap] w (FieldRes [wAppend, b, c, d] w) := by
  have HT := Go.Lib.hid hT
  clear hT
  have hlb := hl b (by simp)
  have hlc := hl c (by simp)
  have hld := hl d (by simp)
  obtain ⟨_, _, hA0, _, hc0o⟩ := SlS.at hsp (k := 0) (by simp)
  injection hA0 with hA0
  injection hA0 with e1 e2 _
  subst e1; subst e2
  obtain ⟨_, _, hA1, _, hc1o⟩ := SlS.at hsp (k := 1) (by simp)
  injection hA1 with hA1
  injection hA1 with e1 e2 _
  subst e1; subst e2
  obtain ⟨_, _, hA2, _, hc2o⟩ := SlS.at hsp (k := 2) (by simp)
  injection hA2 with hA2
  injection hA2 with e1 e2 _
  subst e1; subst e2
  obtain ⟨_, _, hA3, _, hc3o⟩ := SlS.at hsp (k := 3) (by simp)
  injection hA3 with hA3
  injection hA3 with e1 e2 _
  subst e1; subst e2
  rw [Nat.zero_add] at hc0o hc1o hc2o hc3o
  have hc0 := hc0o
  have hc1 := hc1o
  have hc2 := hc2o
  have hc3 := hc3o
  go_enter Tryd.func31, Tryd.ntmps31
  go_wp2_with fail
  have b0 : Below w.heap.size w (w.alloc (.cells opZ.cells 24)) := (by repeat (first | (with_reducible exact Below.refl _ _) | (with_reducible assumption) | (with_reducible refine Below.drew ?_) | (with_reducible refine Below.alloc ?_ (by first | omega | (simp <;> omega)) _) | (with_reducible refine Below.setCell ?_ (by first | omega | (simp <;> omega)) _) | (with_reducible refine belowN ?_ _)))
  refine (parseNumber_any c (w.alloc (.cells opZ.cells 24)) B (by simp; omega) (Lib.TabBelow.on HT.out (b0.mono hB)) (hE.on b0) (by omega)).mono ?_
  rintro e w1 ⟨rfl, hb1⟩
  have K1 : Bk w1 w.heap.size 24 opZ.cells := (Bk.new w opZ.cells 24).below hb1 (by simp)
  have hz1 := hb1.size
  simp only [World.size_alloc] at hz1
  have g1 : Below w.heap.size w w1 := b0.trans (hb1.mono (by simp))
  unfold numRes
  have HV1 := Go.Lib.hid (opt_get (numOf c) 0)
  generalize (numOf c).getD 0 = Sv at *
  generalize (numOf c).isSome = Svb at *
  have hc0 := (g1.cell (p := ⟨g, 0, none⟩) hg).trans hc0o
  have hc1 := (g1.cell (p := ⟨g, 1, none⟩) hg).trans hc1o
  have hc2 := (g1.cell (p := ⟨g, 2, none⟩) hg).trans hc2o
  have hc3 := (g1.cell (p := ⟨g, 3, none⟩) hg).trans hc3o
  go_wp2_with fail
  refine (parseHexOrDash_any d _ (by omega)).mono ?_
  rintro e w2 ⟨rfl, hb2⟩
  have K2 := K1.below hb2 K1.lt
  have hz2 := hb2.size
  have g2 := g1.trans (hb2.mono (by omega))
  unfold hexDRes
  have HV2 := Go.Lib.hid (opt_get (hexD d) [])
  generalize (hexD d).getD [] = Dv at *
  generalize (hexD d).isSome = Dvb at *
  have hc0 := (g2.cell (p := ⟨g, 0, none⟩) hg).trans hc0o
  have hc1 := (g2.cell (p := ⟨g, 1, none⟩) hg).trans hc1o
  have hc2 := (g2.cell (p := ⟨g, 2, none⟩) hg).trans hc2o
  have hc3 := (g2.cell (p := ⟨g, 3, none⟩) hg).trans hc3o
  have X2 := K2.cell
  have F2 := K2.free
  go_wp2
  all_goals
    first
      | exact bodyPost_ret (v := .tuple #[(⟨1, 0, 0, Sv, b, Dv⟩ : OpR).val, .bool (Svb && Dvb)]) (by simp [results, Tryd.results31, go_sem, X2] <;> simp_all) rfl ⟨⟨1, 0, 0, Sv, b, Dv⟩, Svb && Dvb, rfl, by unfold implCand; simp only [HV1.out, HV2.out]; cases Svb <;> cases Dvb <;> simp, (by repeat (first | (with_reducible exact Below.refl _ _) | (with_reducible assumption) | (with_reducible refine Below.drew ?_) | (with_reducible refine Below.alloc ?_ (by first | omega | (simp <;> omega)) _) | (with_reducible refine Below.setCell ?_ (by first | omega | (simp <;> omega)) _) | (with_reducible refine belowN ?_ _)))⟩
set_option maxHeartbeats 4000000 in
theorem fields_replace (b c d e i : Bs) (g cap : Nat) (w : World) (B : Nat) (hB : B ≤ w.heap.size) (hT : HasTab B w) (hE : ErrVars w) (hsp : SlS w (some ⟨g, 0, none⟩) cap [wReplace, b, c, d, e, i]) (hg : g < w.heap.size) (hl : ∀ p ∈ [wReplace, b, c, d, e, i], p.length ≤ 2000000) :
    Calls Tryd.prog 31 #[.slice (some ⟨g, 0, none⟩) 6 cap] w (FieldRes [wReplace, b, c, d, e, i] w) := by
  have HT := Go.Lib.hid hT
  clear hT
  have hlb := hl b (by simp)
  have hlc := hl c (by simp)
  have hld := hl d (by simp)
  have hle := hl e (by simp)
  have hli := hl i (by simp)
  obtain ⟨_, _, hA0, _, hc0o⟩ := SlS.at hsp (k := 0) (by simp)
  injection hA0 with hA0
  injection hA0 with e1 e2 _
  subst e1; subst e2
  obtain ⟨_, _, hA1, _, hc1o⟩ := SlS.at hsp (k := 1) (by simp)
  injection hA1 with hA1
  injection hA1 with e1 e2 _
  subst e1; subst e2
  obtain ⟨_, _, hA2, _, hc2o⟩ := SlS.at hsp (k := 2) (by simp)
  injection hA2 with hA2
  injection hA2 with e1 e2 _
  subst e1; subst e2
  obtain ⟨_, _, hA3, _, hc3o⟩ := SlS.at hsp (k := 3) (by simp)
  injection hA3 with hA3
  injection hA3 with e1 e2 _
  subst e1; subst e2
  obtain ⟨_, _, hA4, _, hc4o⟩ := SlS.at hsp (k := 4) (by simp)
  injection hA4 with hA4
  injection hA4 with e1 e2 _
  subst e1; subst e2
  obtain ⟨_, _, hA5, _, hc5o⟩ := SlS.at hsp (k := 5) (by simp)
  injection hA5 with hA5
  injection hA5 with e1 e2 _
  subst e1; subst e2
  rw [Nat.zero_add] at hc0o hc1o hc2o hc3o hc4o hc5o
  have hc0 := hc0o
  have hc1 := hc1o
  have hc2 := hc2o
  have hc3 := hc3o
  have hc4 := hc4o
  have hc5 := hc5o
  go_enter Tryd.func31, Tryd.ntmps31
  go_wp2_with fail
  have b0 : Below w.heap.size w (w.alloc (.cells opZ.cells 24)) := (by repeat (first | (with_reducible exact Below.refl _ _) | (with_reducible assumption) | (with_reducible refine Below.drew ?_) | (with_reducible refine Below.alloc ?_ (by first | omega | (simp <;> omega)) _) | (with_reducible refine Below.setCell ?_ (by first | omega | (simp <;> omega)) _) | (with_reducible refine belowN ?_ _)))
  refine (parseNumber_any c (w.alloc (.cells opZ.cells 24)) B (by simp; omega) (Lib.TabBelow.on HT.out (b0.mono hB)) (hE.on b0) (by omega)).mono ?_
  rintro e w1 ⟨rfl, hb1⟩
  have K1 : Bk w1 w.heap.size 24 opZ.cells := (Bk.new w opZ.cells 24).below hb1 (by simp)
  have hz1 := hb1.size
  simp only [World.size_alloc] at hz1
  have g1 : Below w.heap.size w w1 := b0.trans (hb1.mono (by simp))
  unfold numRes
  have HV1 := Go.Lib.hid (opt_get (numOf c) 0)
  generalize (numOf c).getD 0 = Fv at *
  generalize (numOf c).isSome = Fvb at *
  have hc0 := (g1.cell (p := ⟨g, 0, none⟩) hg).trans hc0o
  have hc1 := (g1.cell (p := ⟨g, 1, none⟩) hg).trans hc1o
  have hc2 := (g1.cell (p := ⟨g, 2, none⟩) hg).trans hc2o
  have hc3 := (g1.cell (p := ⟨g, 3, none⟩) hg).trans hc3o
  have hc4 := (g1.cell (p := ⟨g, 4, none⟩) hg).trans hc4o
  have hc5 := (g1.cell (p := ⟨g, 5, none⟩) hg).trans hc5o
  go_wp2_with fail
  refine (parseNumber_any d _ B (by omega) (Lib.TabBelow.on HT.out (g1.mono hB)) (hE.on g1) (by omega)).mono ?_
  rintro e w2 ⟨rfl, hb2⟩
  have K2 := K1.below hb2 K1.lt
  have hz2 := hb2.size
  have g2 := g1.trans (hb2.mono (by omega))
  unfold numRes
  have HV2 := Go.Lib.hid (opt_get (numOf d) 0)
  generalize (numOf d).getD 0 = Tv at *
  generalize (numOf d).isSome = Tvb at *
  have hc0 := (g2.cell (p := ⟨g, 0, none⟩) hg).trans hc0o
  have hc1 := (g2.cell (p := ⟨g, 1, none⟩) hg).trans hc1o
  have hc2 := (g2.cell (p := ⟨g, 2, none⟩) hg).trans hc2o
  have hc3 := (g2.cell (p := ⟨g, 3, none⟩) hg).trans hc3o
  have hc4 := (g2.cell (p := ⟨g, 4, none⟩) hg).trans hc4o
  have hc5 := (g2.cell (p := ⟨g, 5, none⟩) hg).trans hc5o
  go_wp2_with fail
  refine (parseNumber_any e _ B (by omega) (Lib.TabBelow.on HT.out (g2.mono hB)) (hE.on g2) (by omega)).mono ?_
  rintro e w3 ⟨rfl, hb3⟩
  have K3 := K2.below hb3 K2.lt
  have hz3 := hb3.size
  have g3 := g2.trans (hb3.mono (by omega))
  unfold numRes
  have HV3 := Go.Lib.hid (opt_get (numOf e) 0)
  generalize (numOf e).getD 0 = Sv at *
  generalize (numOf e).isSome = Svb at *
  have hc0 := (g3.cell (p := ⟨g, 0, none⟩) hg).trans hc0o
  have hc1 := (g3.cell (p := ⟨g, 1, none⟩) hg).trans hc1o
  have hc2 := (g3.cell (p := ⟨g, 2, none⟩) hg).trans hc2o
  have hc3 := (g3.cell (p := ⟨g, 3, none⟩) hg).trans hc3o
  have hc4 := (g3.cell (p := ⟨g, 4, none⟩) hg).trans hc4o
  have hc5 := (g3.cell (p := ⟨g, 5, none⟩) hg).trans hc5o
  go_wp2_with fail
  refine (parseHexOrDash_any i _ (by omega)).mono ?_
  rintro e w4 ⟨rfl, hb4⟩
  have K4 := K3.below hb4 K3.lt
  have hz4 := hb4.size
  have g4 := g3.trans (hb4.mono (by omega))
  unfold hexDRes
  have HV4 := Go.Lib.hid (opt_get (hexD i) [])
  generalize (hexD i).getD [] = Dv at *
  generalize (hexD i).isSome = Dvb at *
  have hc0 := (g4.cell (p := ⟨g, 0, none⟩) hg).trans hc0o
  have hc1 := (g4.cell (p := ⟨g, 1, none⟩) hg).trans hc1o
  have hc2 := (g4.cell (p := ⟨g, 2, none⟩) hg).trans hc2o
  have hc3 := (g4.cell (p := ⟨g, 3, none⟩) hg).trans hc3o
  have hc4 := (g4.cell (p := ⟨g, 4, none⟩) hg).trans hc4o
  have hc5 := (g4.cell (p := ⟨g, 5, none⟩) hg).trans hc5o
  have X2 := K4.cell
  have F2 := K4.free
  go_wp2
  all_goals
    first
      | exact bodyPost_ret (v := .tuple #[(⟨2, Fv, Tv, Sv, b, Dv⟩ : OpR).val, .bool (Fvb && Tvb && Svb && Dvb)]) (by simp [results, Tryd.results31, go_sem, X2] <;> simp_all) rfl ⟨⟨2, Fv, Tv, Sv, b, Dv⟩, Fvb && Tvb && Svb && Dvb, rfl, by unfold implCand; simp only [HV1.out, HV2.out, HV3.out, HV4.out]; cases Fvb <;> cases Tvb <;> cases Svb <;> cases Dvb <;> simp, (by repeat (first | (with_reducible exact Below.refl _ _) | (with_reducible assumption) | (with_reducible refine Below.drew ?_) | (with_reducible refine Below.alloc ?_ (by first | omega | (simp <;> omega)) _) | (with_reducible refine Below.setCell ?_ (by first | omega | (simp <;> omega)) _) | (with_reducible refine belowN ?_ _)))⟩
set_option maxHeartbeats 4000000 in
theorem fields_merge (b c : Bs) (g cap : Nat) (w : World) (B : Nat) (hB : B ≤ w.heap.size) (hT : HasTab B w) (hE : ErrVars w) (hsp : SlS w (some ⟨g, 0, none⟩) cap [wMerge, b, c]) (hg : g < w.heap.size) (hl : ∀ p ∈ [wMerge, b, c], p.length ≤ 2000000) :
    Calls Tryd.prog 31 #[.slice (some ⟨g, 0, none⟩) 3 cap] w (FieldRes [wMerge, b, c] w) := by
  have HT := Go.Lib.hid hT
  clear hT
  have hlb := hl b (by simp)
  have hlc := hl c (by simp)
  obtain ⟨_, _, hA0, _, hc0o⟩ := SlS.at hsp (k := 0) (by simp)
  injection hA0 with hA0
  injection hA0 with e1 e2 _
  subst e1; subst e2
  obtain ⟨_, _, hA1, _, hc1o⟩ := SlS.at hsp (k := 1) (by simp)
  injection hA1 with hA1
  injection hA1 with e1 e2 _
  subst e1; subst e2
  obtain ⟨_, _, hA2, _, hc2o⟩ := SlS.at hsp (k := 2) (by simp)
  injection hA2 with hA2
  injection hA2 with e1 e2 _
  subst e1; subst e2
  rw [Nat.zero_add] at hc0o hc1o hc2o
  have hc0 := hc0o
  have hc1 := hc1o
  have hc2 := hc2o
  go_enter Tryd.func31, Tryd.ntmps31
  go_wp2_with fail
  have b0 : Below w.heap.size w (w.alloc (.cells opZ.cells 24)) := (by repeat (first | (with_reducible exact Below.refl _ _) | (with_reducible assumption) | (with_reducible refine Below.drew ?_) | (with_reducible refine Below.alloc ?_ (by first | omega | (simp <;> omega)) _) | (with_reducible refine Below.setCell ?_ (by first | omega | (simp <;> omega)) _) | (with_reducible refine belowN ?_ _)))
  refine (parseNumber_any c (w.alloc (.cells opZ.cells 24)) B (by simp; omega) (Lib.TabBelow.on HT.out (b0.mono hB)) (hE.on b0) (by omega)).mono ?_
  rintro e w1 ⟨rfl, hb1⟩
  have K1 : Bk w1 w.heap.size 24 opZ.cells := (Bk.new w opZ.cells 24).below hb1 (by simp)
  have hz1 := hb1.size
  simp only [World.size_alloc] at hz1
  have g1 : Below w.heap.size w w1 := b0.trans (hb1.mono (by simp))
  unfold numRes
  have HV1 := Go.Lib.hid (opt_get (numOf c) 0)
  generalize (numOf c).getD 0 = Sv at *
  generalize (numOf c).isSome = Svb at *
  have hc0 := (g1.cell (p := ⟨g, 0, none⟩) hg).trans hc0o
  have hc1 := (g1.cell (p := ⟨g, 1, none⟩) hg).trans hc1o
  have hc2 := (g1.cell (p := ⟨g, 2, none⟩) hg).trans hc2o
  have X2 := K1.cell
  have F2 := K1.free
  go_wp2
  all_goals
    first
      | exact bodyPost_ret (v := .tuple #[(⟨3, 0, 0, Sv, b, []⟩ : OpR).val, .bool (Svb)]) (by simp [results, Tryd.results31, go_sem, X2] <;> simp_all) rfl ⟨⟨3, 0, 0, Sv, b, []⟩, Svb, rfl, by unfold implCand; simp only [HV1.out]; cases Svb <;> simp, (by repeat (first | (with_reducible exact Below.refl _ _) | (with_reducible assumption) | (with_reducible refine Below.drew ?_) | (with_reducible refine Below.alloc ?_ (by first | omega | (simp <;> omega)) _) | (with_reducible refine Below.setCell ?_ (by first | omega | (simp <;> omega)) _) | (with_reducible refine belowN ?_ _)))⟩
set_option maxHeartbeats 4000000 in
theorem fields_delete (b : Bs) (g cap : Nat) (w : World) (B : Nat) (hB : B ≤ w.heap.size) (hT : HasTab B w) (hE : ErrVars w) (hsp : SlS w (some ⟨g, 0, none⟩) cap [wDelete, b]) (hg : g < w.heap.size) (hl : ∀ p ∈ [wDelete, b], p.length ≤ 2000000) :
    Calls Tryd.prog 31 #[.slice (some ⟨g, 0, none⟩) 2 cap] w (FieldRes [wDelete, b] w) := by
  have HT := Go.Lib.hid hT
  clear hT
  have hlb := hl b (by simp)
  obtain ⟨_, _, hA0, _, hc0o⟩ := SlS.at hsp (k := 0) (by simp)
  injection hA0 with hA0
  injection hA0 with e1 e2 _
  subst e1; subst e2
  obtain ⟨_, _, hA1, _, hc1o⟩ := SlS.at hsp (k := 1) (by simp)
  injection hA1 with hA1
  injection hA1 with e1 e2 _
  subst e1; subst e2
  rw [Nat.zero_add] at hc0o hc1o
  have hc0 := hc0o
  have hc1 := hc1o
  go_enter Tryd.func31, Tryd.ntmps31
  go_wp2
  all_goals
    first
      | exact bodyPost_ret (v := .tuple #[(⟨4, 0, 0, 0, b, []⟩ : OpR).val, .bool (true)]) (by simp [results, Tryd.results31, go_sem] <;> simp_all) rfl ⟨⟨4, 0, 0, 0, b, []⟩, true, rfl, rfl, (by repeat (first | (with_reducible exact Below.refl _ _) | (with_reducible assumption) | (with_reducible refine Below.drew ?_) | (with_reducible refine Below.alloc ?_ (by first | omega | (simp <;> omega)) _) | (with_reducible refine Below.setCell ?_ (by first | omega | (simp <;> omega)) _) | (with_reducible refine belowN ?_ _)))⟩
end Go.Proofs.YtkoefklgfkhmpaaDoor
