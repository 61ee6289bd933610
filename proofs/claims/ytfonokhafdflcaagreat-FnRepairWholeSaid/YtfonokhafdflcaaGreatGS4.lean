import Derived.Test.YtfonokhafdflcaaGreatGS3
import Derived.Test.YtfonokhafdflcaaGreatGS2
import Derived.Test.YtfonokhafdflcaaGreatGP1
/- Walks: what is known at the start, and learned from a dictionary; data compressed with it. -/
namespace Go.Proofs.YtfonokhafdflcaaGreat
open Go.RowKit
set_option linter.unusedVariables false
set_option linter.unusedSimpArgs false
set_option maxRecDepth 100000
attribute [local go_sem high] run_index_S binOp_eql_S binOp_neq_S append_S toList_S size_S run_slice_S run_slice_from_S run_slice_to_S wrap64_byteAt wrap64_byteAt_mul bits_or_bytes convU conv1_some convU2 conv2_some
set_option maxHeartbeats 1000000 in
theorem start_any (o l m : Int) (w : World) (hst : stOk o l m) :
    Calls Tryz.prog 115 #[.agg #[.int .i64 o, .int .i64 l, .int .i64 m]] w fun e w' => e = .returned (.tuple #[knV (startK o l m) none 0, .bool true]) ∧ Below w.heap.size w w' := by
  have hd : decide (stOk o l m) = true := decide_eq_true hst
  go_enter Tryz.func115, Tryz.ntmps115
  go_wp2_with fail
  refine (sSettingValid_any _ _ _ _).mono ?_
  rintro e w2 ⟨rfl, hb2⟩
  have hI : Bk ((w.alloc (.cells #[.int .i64 o, .int .i64 l, .int .i64 m] 24)).alloc (.cells knZ 67)) w.heap.size 24 #[.int .i64 o, .int .i64 l, .int .i64 m] := (by (repeat (first | (with_reducible assumption) | (with_reducible exact Bk.new _ _ _) | (with_reducible refine Bk.newAt _ _ _ (by simp; done)) | (with_reducible refine Bk.drew ?_) | (with_reducible refine Bk.drewN ?_ _) | (with_reducible refine Bk.alloc ?_ _))); done)
  have hK : Bk ((w.alloc (.cells #[.int .i64 o, .int .i64 l, .int .i64 m] 24)).alloc (.cells knZ 67)) (w.heap.size + 1) 67 knZ := (by (repeat (first | (with_reducible assumption) | (with_reducible exact Bk.new _ _ _) | (with_reducible refine Bk.newAt _ _ _ (by simp; done)) | (with_reducible refine Bk.drew ?_) | (with_reducible refine Bk.drewN ?_ _) | (with_reducible refine Bk.alloc ?_ _))); done)
  have g0 : Below w.heap.size w ((w.alloc (.cells #[.int .i64 o, .int .i64 l, .int .i64 m] 24)).alloc (.cells knZ 67)) := (by repeat (first | (with_reducible exact Below.refl _ _) | (with_reducible assumption) | (with_reducible refine Below.drew ?_) | (with_reducible refine Below.alloc ?_ (by first | omega | (simp <;> omega)) _) | (with_reducible refine Below.setCell ?_ (by first | omega | (simp <;> omega)) _) | (with_reducible refine belowN ?_ _)))
  generalize (w.alloc (.cells #[.int .i64 o, .int .i64 l, .int .i64 m] 24)).alloc (.cells knZ 67) = w0 at *
  have hz := hK.lt
  have hI2 := hI.below hb2 (by omega)
  have hK2 := hK.below hb2 (by omega)
  have g2 := g0.trans (hb2.mono (by omega))
  have hX := hI2.cell
  have hF := hK2.free
  have hY := hK2.cell
  clear hI hK g0 hb2
  go_wp2
  have hQ := (kn_put0 hK2 (startK o l m) none 0).cell
  have g3 := kn_below g2 (b := w.heap.size + 1) (by omega) (startK o l m) none 0
  simp only [startK, List.length_nil] at hQ g3
  exact bodyPost_ret (v := .tuple #[knV (startK o l m) none 0, .bool true]) (by simp [results, Tryz.results115, go_sem, hQ, startK]) rfl ⟨rfl, g3⟩
/-- It returns what is known, and true, its pairs in a row of its own. -/
def KtRes (K : Kn) (w : World) (e : Ending) (w' : World) : Prop := ∃ A cap, e = .returned (.tuple #[knV K A cap, .bool true]) ∧ w'.ownsRow w.heap.size 141 2 (.slice A K.ps.length cap) K.ps.length (psV K.ps) ∧ Below w.heap.size w w'
set_option maxHeartbeats 1000000 in
theorem learnKnown_any (K : Kn) (A : Option Addr) (cap : Nat) (d : Bs) (w : World) (hk : K.ok) (hs : Sl w A K.ps.length cap 2 (psV K.ps)) (hf : fits K.o K.l K.m d) :
    Calls Tryz.prog 116 #[knV K A cap, .string ⟨d.toArray⟩] w (KtRes (K.learn d) w) := by
  have hd : decide (fits K.o K.l K.m d) = true := decide_eq_true hf
  have hdl : d.length ≤ 2000 := hf.2.1
  have cV : Go.RowKit.Hid (∀ wr, Below w.heap.size w wr → Calls Tryz.prog 117 #[knV K A cap] wr fun e w' => e = .returned (.bool true) ∧ Below wr.heap.size wr w') := fun wr h => knownValid_any K A cap wr hk (hs.below h)
  have cL : Go.RowKit.Hid (∀ wr, Below w.heap.size w wr → Calls Tryz.prog 128 #[knV K A cap, .string ⟨d.toArray⟩] wr (KnRes (K.learn d) wr)) := fun wr h => l4Learn_any K A cap d wr hk (hs.below h) (by omega) hf.2.2
  clear hs hf
  generalize K.learn d = K1 at *
  go_enter Tryz.func116, Tryz.ntmps116
  go_wp2_with fail
  have hK : Bk ((w.alloc (.cells (knC K A cap) 67)).alloc (.cells knZ 67)) w.heap.size 67 (knC K A cap) := (by (repeat (first | (with_reducible assumption) | (with_reducible exact Bk.new _ _ _) | (with_reducible refine Bk.newAt _ _ _ (by simp; done)) | (with_reducible refine Bk.drew ?_) | (with_reducible refine Bk.drewN ?_ _) | (with_reducible refine Bk.alloc ?_ _))); done)
  have hI : Bk ((w.alloc (.cells (knC K A cap) 67)).alloc (.cells knZ 67)) (w.heap.size + 1) 67 knZ := (by (repeat (first | (with_reducible assumption) | (with_reducible exact Bk.new _ _ _) | (with_reducible refine Bk.newAt _ _ _ (by simp; done)) | (with_reducible refine Bk.drew ?_) | (with_reducible refine Bk.drewN ?_ _) | (with_reducible refine Bk.alloc ?_ _))); done)
  have g0 : Below w.heap.size w ((w.alloc (.cells (knC K A cap) 67)).alloc (.cells knZ 67)) := (by repeat (first | (with_reducible exact Below.refl _ _) | (with_reducible assumption) | (with_reducible refine Below.drew ?_) | (with_reducible refine Below.alloc ?_ (by first | omega | (simp <;> omega)) _) | (with_reducible refine Below.setCell ?_ (by first | omega | (simp <;> omega)) _) | (with_reducible refine belowN ?_ _)))
  generalize (w.alloc (.cells (knC K A cap) 67)).alloc (.cells knZ 67) = w0 at *
  refine (cV.out _ g0).mono ?_
  rintro e w2 ⟨rfl, hb2⟩
  have z0 := hI.lt
  have z2 := hb2.size
  have hK2 := hK.below hb2 (by omega)
  have hI2 := hI.below hb2 (by omega)
  have g2 := g0.trans (hb2.mono (by omega))
  have hX := hK2.cell
  clear hK hI g0 hb2
  go_wp2_with fail
  refine (sDataFits_any _ _ _ _ _ (by omega)).mono ?_
  rintro e w3 ⟨rfl, hb3⟩
  have z3 := hb3.size
  have hK3 := hK2.below hb3 (by omega)
  have hI3 := hI2.below hb3 (by omega)
  have g3 := g2.trans (hb3.mono (by omega))
  clear hX
  have hX := hK3.cell
  clear hK2 hI2 g2 hb3
  go_wp2_with fail
  refine (cL.out _ g3).mono ?_
  rintro e w4 ⟨A4, c4, rfl, o4, hb4⟩
  have z4 := hb4.size
  have hI4 := hI3.below hb4 (by omega)
  have g4 := g3.trans (hb4.mono (by omega))
  have hF := hI4.free
  have hY := hI4.cell
  clear hK3 hI3 g3 hb4 hX
  go_wp2
  have hQ := (kn_put0 hI4 K1 A4 c4).cell
  have g5 := kn_below g4 (b := w.heap.size + 1) (by omega) K1 A4 c4
  have o5 := own_mono (B' := w.heap.size) (kn_own o4 (b := w.heap.size + 1) (by omega) K1 A4 c4) (by omega)
  exact bodyPost_ret (v := .tuple #[knV K1 A4 c4, .bool true]) (by simp [results, Tryz.results116, go_sem, hQ]) rfl ⟨A4, c4, rfl, o5, g5⟩
set_option maxHeartbeats 1000000 in
theorem startWith_any (o l m : Int) (d : Bs) (w : World) (hf : fits o l m d) :
    Calls Tryz.prog 100 #[.agg #[.int .i64 o, .int .i64 l, .int .i64 m], .string ⟨d.toArray⟩] w (KtRes (startW o l m d) w) := by
  have cS : Go.RowKit.Hid (∀ w, Calls Tryz.prog 115 #[.agg #[.int .i64 o, .int .i64 l, .int .i64 m]] w fun e w' => e = .returned (.tuple #[.agg #[.int .i64 o, .int .i64 l, .int .i64 m, .slice none 0 0, .int .i64 0, .int .i64 (-1)], .bool true]) ∧ Below w.heap.size w w') := fun w => start_any o l m w hf.1
  have cL : Go.RowKit.Hid (∀ w, Calls Tryz.prog 116 #[.agg #[.int .i64 o, .int .i64 l, .int .i64 m, .slice none 0 0, .int .i64 0, .int .i64 (-1)], .string ⟨d.toArray⟩] w (KtRes (startW o l m d) w)) := fun w => learnKnown_any (startK o l m) none 0 d w (startK_ok hf.1) (Sl.nil _ _) hf
  clear hf
  generalize startW o l m d = K1 at *
  go_enter Tryz.func100, Tryz.ntmps100
  go_wp2_with fail
  have hJ : Bk ((w.alloc (.cells #[.int .i64 o, .int .i64 l, .int .i64 m] 24)).alloc (.cells knZ 67)) w.heap.size 24 #[.int .i64 o, .int .i64 l, .int .i64 m] := (by (repeat (first | (with_reducible assumption) | (with_reducible exact Bk.new _ _ _) | (with_reducible refine Bk.newAt _ _ _ (by simp; done)) | (with_reducible refine Bk.drew ?_) | (with_reducible refine Bk.drewN ?_ _) | (with_reducible refine Bk.alloc ?_ _))); done)
  have hI : Bk ((w.alloc (.cells #[.int .i64 o, .int .i64 l, .int .i64 m] 24)).alloc (.cells knZ 67)) (w.heap.size + 1) 67 knZ := (by (repeat (first | (with_reducible assumption) | (with_reducible exact Bk.new _ _ _) | (with_reducible refine Bk.newAt _ _ _ (by simp; done)) | (with_reducible refine Bk.drew ?_) | (with_reducible refine Bk.drewN ?_ _) | (with_reducible refine Bk.alloc ?_ _))); done)
  have g0 : Below w.heap.size w ((w.alloc (.cells #[.int .i64 o, .int .i64 l, .int .i64 m] 24)).alloc (.cells knZ 67)) := (by repeat (first | (with_reducible exact Below.refl _ _) | (with_reducible assumption) | (with_reducible refine Below.drew ?_) | (with_reducible refine Below.alloc ?_ (by first | omega | (simp <;> omega)) _) | (with_reducible refine Below.setCell ?_ (by first | omega | (simp <;> omega)) _) | (with_reducible refine belowN ?_ _)))
  generalize (w.alloc (.cells #[.int .i64 o, .int .i64 l, .int .i64 m] 24)).alloc (.cells knZ 67) = w0 at *
  refine (cS.out _).mono ?_
  rintro e w2 ⟨rfl, hb2⟩
  have z0 := hI.lt
  have z2 := hb2.size
  have hI2 := (hI.below hb2 (by omega)).alloc (.cells #[.int .i64 o, .int .i64 l, .int .i64 m, .slice none 0 0, .int .i64 0, .int .i64 (-1)] 67)
  have hK2 := Bk.new w2 #[.int .i64 o, .int .i64 l, .int .i64 m, .slice none 0 0, .int .i64 0, .int .i64 (-1)] 67
  have g2 := (g0.trans (hb2.mono (by omega))).alloc (by omega) (.cells #[.int .i64 o, .int .i64 l, .int .i64 m, .slice none 0 0, .int .i64 0, .int .i64 (-1)] 67)
  have hX := hK2.cell
  have hF := hK2.free
  clear hJ hI g0 hb2
  go_wp2_with fail
  refine (cL.out _).mono ?_
  rintro e w4 ⟨A4, c4, rfl, o4, hb4⟩
  have z4 := hb4.size
  simp only [World.size_alloc] at z4
  have hI4 := hI2.below hb4 (by simp; omega)
  have g4 := g2.trans (hb4.mono (by simp; omega))
  clear hX hF
  have hF := hI4.free
  have hY := hI4.cell
  clear hK2 hI2 g2 hb4
  go_wp2
  have hQ := (kn_put0 hI4 K1 A4 c4).cell
  have g5 := kn_below g4 (b := w.heap.size + 1) (by omega) K1 A4 c4
  have o5 := own_mono (B' := w.heap.size) (kn_own o4 (b := w.heap.size + 1) (by simp; omega) K1 A4 c4) (by simp; omega)
  exact bodyPost_ret (v := .tuple #[knV K1 A4 c4, .bool true]) (by simp [results, Tryz.results100, go_sem, hQ]) rfl ⟨A4, c4, rfl, o5, g5⟩
end Go.Proofs.YtfonokhafdflcaaGreat
/- Walks: data compressed with a dictionary; blocks and containers made, by the reference. -/
namespace Go.Proofs.YtfonokhafdflcaaGreat
open Go.RowKit
set_option linter.unusedVariables false
set_option linter.unusedSimpArgs false
set_option maxRecDepth 100000
attribute [local go_sem high] run_index_S binOp_eql_S binOp_neq_S append_S toList_S size_S run_slice_S run_slice_from_S run_slice_to_S wrap64_byteAt wrap64_byteAt_mul bits_or_bytes convU conv1_some convU2 conv2_some
/-- Some bytes and true, or none and false. -/
def cmRes (o : Option Bs) : Ending := .returned (.tuple #[sv (o.getD []), .bool o.isSome])
def compO (K : Kn) (d : Bs) : Option Bs := if fits K.o K.l K.m d then some (K.comp d) else none
def compW (o l m : Int) (dict d : Bs) : Option Bs := compO (startW o l m dict) d
theorem startW_ok {o l m : Int} {dict : Bs} (hf : fits o l m dict) : (startW o l m dict).ok := (Kn.learn_ok (startK_ok hf.1) hf.2.2).1
set_option maxHeartbeats 1000000 in
theorem compress_any (K : Kn) (A : Option Addr) (cap : Nat) (d : Bs) (w : World) (hk : K.ok) (hs : Sl w A K.ps.length cap 2 (psV K.ps)) (hl : d.length ≤ 9223372036854775807) :
    Calls Tryz.prog 101 #[knV K A cap, .string ⟨d.toArray⟩] w fun e w' => e = cmRes (compO K d) ∧ Below w.heap.size w w' := by
  have cV : Go.RowKit.Hid (∀ wr, Below w.heap.size w wr → Calls Tryz.prog 117 #[knV K A cap] wr fun e w' => e = .returned (.bool true) ∧ Below wr.heap.size wr w') := fun wr h => knownValid_any K A cap wr hk (hs.below h)
  by_cases hf : fits K.o K.l K.m d
  · have hd : decide (fits K.o K.l K.m d) = true := decide_eq_true hf
    have cL : Go.RowKit.Hid (∀ wr, Below w.heap.size w wr → Calls Tryz.prog 118 #[knV K A cap, .string ⟨d.toArray⟩] wr fun e w' => e = .returned (.string ⟨(K.comp d).toArray⟩) ∧ Below wr.heap.size wr w') := fun wr h => l2Compress_any K A cap d wr hk (hs.below h) hf.2.1 hf.2.2
    have hG : Go.RowKit.Hid (cmRes (compO K d) = .returned (.tuple #[sv (K.comp d), .bool true])) := by show _ = _; unfold compO; rw [if_pos hf]; rfl
    clear hs hf
    generalize K.comp d = R at *
    generalize cmRes (compO K d) = G at *
    go_enter Tryz.func101, Tryz.ntmps101
    go_wp2_with fail
    have hK := Bk.new w (knC K A cap) 67
    have g0 : Below w.heap.size w (w.alloc (.cells (knC K A cap) 67)) := (by repeat (first | (with_reducible exact Below.refl _ _) | (with_reducible assumption) | (with_reducible refine Below.drew ?_) | (with_reducible refine Below.alloc ?_ (by first | omega | (simp <;> omega)) _) | (with_reducible refine Below.setCell ?_ (by first | omega | (simp <;> omega)) _) | (with_reducible refine belowN ?_ _)))
    refine (cV.out _ g0).mono ?_
    rintro e w2 ⟨rfl, hb2⟩
    have z0 := hK.lt
    have z2 := hb2.size
    have hK2 := hK.below hb2 (by omega)
    have g2 := g0.trans (hb2.mono (by omega))
    have hX := hK2.cell
    clear hK g0 hb2
    go_wp2_with fail
    refine (sDataFits_any _ _ _ _ _ (by omega)).mono ?_
    rintro e w3 ⟨rfl, hb3⟩
    have z3 := hb3.size
    have hK3 := hK2.below hb3 (by omega)
    have g3 := g2.trans (hb3.mono (by omega))
    clear hX
    have hX := hK3.cell
    clear hK2 g2 hb3
    go_wp2_with fail
    refine (cL.out _ g3).mono ?_
    rintro e w4 ⟨rfl, hb4⟩
    have g4 := g3.trans (hb4.mono (by omega))
    go_wp2
    go_ret2
    exact ⟨hG.out.symm, g4⟩
  · have hd : decide (fits K.o K.l K.m d) = false := decide_eq_false hf
    have hG : Go.RowKit.Hid (cmRes (compO K d) = .returned (.tuple #[sv [], .bool false])) := by show _ = _; unfold compO; rw [if_neg hf]; rfl
    clear hs hf
    generalize cmRes (compO K d) = G at *
    go_enter Tryz.func101, Tryz.ntmps101
    go_wp2_with fail
    have hK := Bk.new w (knC K A cap) 67
    have g0 : Below w.heap.size w (w.alloc (.cells (knC K A cap) 67)) := (by repeat (first | (with_reducible exact Below.refl _ _) | (with_reducible assumption) | (with_reducible refine Below.drew ?_) | (with_reducible refine Below.alloc ?_ (by first | omega | (simp <;> omega)) _) | (with_reducible refine Below.setCell ?_ (by first | omega | (simp <;> omega)) _) | (with_reducible refine belowN ?_ _)))
    refine (cV.out _ g0).mono ?_
    rintro e w2 ⟨rfl, hb2⟩
    have z0 := hK.lt
    have z2 := hb2.size
    have hK2 := hK.below hb2 (by omega)
    have g2 := g0.trans (hb2.mono (by omega))
    have hX := hK2.cell
    clear hK g0 hb2
    go_wp2_with fail
    refine (sDataFits_any _ _ _ _ _ (by omega)).mono ?_
    rintro e w3 ⟨rfl, hb3⟩
    have g3 := g2.trans (hb3.mono (by omega))
    go_wp2
    go_ret2
    exact ⟨hG.out.symm, g3⟩
set_option maxHeartbeats 1000000 in
theorem compressWith_any (o l m : Int) (dict d : Bs) (w : World) (hf : fits o l m dict) (hl : d.length ≤ 9223372036854775807) :
    Calls Tryz.prog 79 #[.agg #[.int .i64 o, .int .i64 l, .int .i64 m], .string ⟨dict.toArray⟩, .string ⟨d.toArray⟩] w fun e w' => e = cmRes (compW o l m dict d) ∧ Below w.heap.size w w' := by
  have cS : Go.RowKit.Hid (∀ w, Calls Tryz.prog 100 #[.agg #[.int .i64 o, .int .i64 l, .int .i64 m], .string ⟨dict.toArray⟩] w (KtRes (startW o l m dict) w)) := fun w => startWith_any o l m dict w hf
  have hk := startW_ok hf
  unfold compW
  generalize startW o l m dict = K at *
  obtain ⟨R, hR⟩ : ∃ R, (compO K d).getD [] = R := ⟨_, rfl⟩
  obtain ⟨b, hbb⟩ : ∃ b, (compO K d).isSome = b := ⟨_, rfl⟩
  have hG : cmRes (compO K d) = .returned (.tuple #[sv R, .bool b]) := by unfold cmRes; rw [hR, hbb]
  have cC0 : Go.RowKit.Hid (∀ A cap w, Sl w A K.ps.length cap 2 (psV K.ps) → Calls Tryz.prog 101 #[knV K A cap, .string ⟨d.toArray⟩] w fun e w' => e = .returned (.tuple #[sv R, .bool b]) ∧ Below w.heap.size w w') := fun A cap w hs => by rw [← hG]; exact compress_any K A cap d w hk hs hl
  rw [hG]
  clear hG hR hbb
  go_enter Tryz.func79, Tryz.ntmps79
  go_wp2_with fail
  refine (cS.out _).mono ?_
  rintro e w2 ⟨A, cap, rfl, o2, hb2⟩
  have z2 := hb2.size
  simp only [World.size_alloc] at z2
  have hK2 := Bk.new w2 (knC K A cap) 67
  have s2 := Sl.own (o2.alloc (.cells (knC K A cap) 67))
  have g0 : Below w.heap.size w (w.alloc (.cells #[.int .i64 o, .int .i64 l, .int .i64 m] 24)) := (by repeat (first | (with_reducible exact Below.refl _ _) | (with_reducible assumption) | (with_reducible refine Below.drew ?_) | (with_reducible refine Below.alloc ?_ (by first | omega | (simp <;> omega)) _) | (with_reducible refine Below.setCell ?_ (by first | omega | (simp <;> omega)) _) | (with_reducible refine belowN ?_ _)))
  have g2 := (g0.trans (hb2.mono (by simp))).alloc (by omega) (.cells (knC K A cap) 67)
  have hX := hK2.cell
  have hF := hK2.free
  have cC := cC0.out A cap _ s2
  clear g0 hb2 o2 s2 cC0
  go_wp2_with fail
  refine cC.mono ?_
  rintro e w3 ⟨rfl, hb3⟩
  have g3 := g2.trans (hb3.mono (by simp; omega))
  go_wp2
  go_ret2
  exact ⟨rfl, g3⟩
/-- The block of data. -/
def blkW (o l m : Int) (dict : Bs) (n : Int) (d : Bs) : Blk := match compW o l m dict d with
  | some s => if s.length < d.length then ⟨n, false, d.length, s⟩ else ⟨n, true, d.length, d⟩
  | none => ⟨n, true, d.length, d⟩
theorem blkW_sm (o l m : Int) (dict : Bs) (n : Int) (d : Bs) (h0 : 0 ≤ n) (h1 : n ≤ 65535) (hd : d.length ≤ 65535) : (blkW o l m dict n d).sm := by
  unfold blkW Blk.sm
  split
  · split <;> simp only <;> omega
  · simp only; omega
theorem blkW_len (o l m : Int) (dict : Bs) (n : Int) (d : Bs) : (blkW o l m dict n d).text.length ≤ 10 + d.length := by
  rw [Blk.text_len]
  unfold blkW
  split
  · split <;> simp only <;> omega
  · simp only; omega
set_option maxHeartbeats 1000000 in
theorem l5Block_any (o l m : Int) (dict : Bs) (n : Int) (d : Bs) (w : World) (hf : fits o l m dict) (hl : d.length ≤ 9223372036854775807) :
    Calls Tryz.prog 55 #[.agg #[.int .i64 o, .int .i64 l, .int .i64 m], .string ⟨dict.toArray⟩, .int .i64 n, .string ⟨d.toArray⟩] w fun e w' => e = .returned (bkV (blkW o l m dict n d)) ∧ Below w.heap.size w w' := by
  have cC : Go.RowKit.Hid (∀ w, Calls Tryz.prog 79 #[.agg #[.int .i64 o, .int .i64 l, .int .i64 m], .string ⟨dict.toArray⟩, .string ⟨d.toArray⟩] w fun e w' => e = cmRes (compW o l m dict d) ∧ Below w.heap.size w w') := fun w => compressWith_any o l m dict d w hf hl
  unfold blkW
  clear hf
  generalize compW o l m dict d = O at *
  go_enter Tryz.func55, Tryz.ntmps55
  go_wp2_with fail
  have hI : Bk ((w.alloc (.cells #[.int .i64 o, .int .i64 l, .int .i64 m] 24)).alloc (.cells bkZC 38)) (w.heap.size + 1) 38 bkZC := (by (repeat (first | (with_reducible assumption) | (with_reducible exact Bk.new _ _ _) | (with_reducible refine Bk.newAt _ _ _ (by simp; done)) | (with_reducible refine Bk.drew ?_) | (with_reducible refine Bk.drewN ?_ _) | (with_reducible refine Bk.alloc ?_ _))); done)
  have g0 : Below w.heap.size w ((w.alloc (.cells #[.int .i64 o, .int .i64 l, .int .i64 m] 24)).alloc (.cells bkZC 38)) := (by repeat (first | (with_reducible exact Below.refl _ _) | (with_reducible assumption) | (with_reducible refine Below.drew ?_) | (with_reducible refine Below.alloc ?_ (by first | omega | (simp <;> omega)) _) | (with_reducible refine Below.setCell ?_ (by first | omega | (simp <;> omega)) _) | (with_reducible refine belowN ?_ _)))
  refine (cC.out _).mono ?_
  generalize (w.alloc (.cells #[.int .i64 o, .int .i64 l, .int .i64 m] 24)).alloc (.cells bkZC 38) = w0 at *
  rintro e w2 ⟨rfl, hb2⟩
  have z0 := hI.lt
  have hI2 := hI.below hb2 (by omega)
  have g2 := g0.trans (hb2.mono (by omega))
  have hX := hI2.cell
  have hF := hI2.free
  clear cC hb2 hI g0
  cases O with
  | none =>
    unfold cmRes
    go_wp2
    have Q := ((((hI2.set 0 (.int .i64 n)).set 1 (.bool true)).set 2 (.int .i64 (d.length : Int))).set 3 (.string ⟨d.toArray⟩)).cell
    exact bodyPost_ret (v := bkV ⟨n, true, d.length, d⟩) (by simp [results, Tryz.results55, go_sem, Q]) rfl ⟨rfl, (by repeat (first | (with_reducible exact Below.refl _ _) | (with_reducible assumption) | (with_reducible refine Below.drew ?_) | (with_reducible refine Below.alloc ?_ (by first | omega | (simp <;> omega)) _) | (with_reducible refine Below.setCell ?_ (by first | omega | (simp <;> omega)) _) | (with_reducible refine belowN ?_ _)))⟩
  | some s =>
    unfold cmRes
    by_cases hc : s.length < d.length
    · have hc' : (s.length : Int) < d.length := by omega
      simp only [if_pos hc]
      go_wp2
      have Q := ((((hI2.set 0 (.int .i64 n)).set 1 (.bool false)).set 2 (.int .i64 (d.length : Int))).set 3 (.string ⟨s.toArray⟩)).cell
      exact bodyPost_ret (v := bkV ⟨n, false, d.length, s⟩) (by simp [results, Tryz.results55, go_sem, Q]) rfl ⟨rfl, (by repeat (first | (with_reducible exact Below.refl _ _) | (with_reducible assumption) | (with_reducible refine Below.drew ?_) | (with_reducible refine Below.alloc ?_ (by first | omega | (simp <;> omega)) _) | (with_reducible refine Below.setCell ?_ (by first | omega | (simp <;> omega)) _) | (with_reducible refine belowN ?_ _)))⟩
    · have hc' : ¬ (s.length : Int) < d.length := by omega
      simp only [if_neg hc]
      go_wp2
      have Q := ((((hI2.set 0 (.int .i64 n)).set 1 (.bool true)).set 2 (.int .i64 (d.length : Int))).set 3 (.string ⟨d.toArray⟩)).cell
      exact bodyPost_ret (v := bkV ⟨n, true, d.length, d⟩) (by simp [results, Tryz.results55, go_sem, Q]) rfl ⟨rfl, (by repeat (first | (with_reducible exact Below.refl _ _) | (with_reducible assumption) | (with_reducible refine Below.drew ?_) | (with_reducible refine Below.alloc ?_ (by first | omega | (simp <;> omega)) _) | (with_reducible refine Below.setCell ?_ (by first | omega | (simp <;> omega)) _) | (with_reducible refine belowN ?_ _)))⟩
end Go.Proofs.YtfonokhafdflcaaGreat
/- Walks: containers made by the reference. -/
namespace Go.Proofs.YtfonokhafdflcaaGreat
open Go.RowKit
set_option linter.unusedVariables false
set_option linter.unusedSimpArgs false
set_option maxRecDepth 100000
attribute [local go_sem high] run_index_S binOp_eql_S binOp_neq_S append_S toList_S size_S run_slice_S run_slice_from_S run_slice_to_S wrap64_byteAt wrap64_byteAt_mul bits_or_bytes convU conv1_some convU2 conv2_some
theorem sv_ext_to (p : Bs) (n : Nat) : (ByteArray.mk p.toArray).extract 0 n = ⟨(p.take n).toArray⟩ := by
  apply ByteArray.ext
  simp [ByteArray.data_extract]
def strNn : Value → Nat
  | .string b => b.data.size
  | _ => 0
/-- The blocks of data, of so many bytes each. -/
def mkGo (o l m : Int) (dict : Bs) (size : Nat) : Nat → Nat → Bs → Bs
  | 0, _, _ => []
  | n + 1, f, d => if d = [] then [] else (blkW o l m dict (f : Int) (d.take size)).text ++ mkGo o l m dict size n (f + 1) (d.drop size)
theorem mkGo_nil (o l m : Int) (dict : Bs) (size n f : Nat) : mkGo o l m dict size n f [] = [] := by
  cases n with
  | zero => rfl
  | succ n => unfold mkGo; rw [if_pos rfl]
theorem mkGo_go (o l m : Int) (dict : Bs) (size n f : Nat) (d : Bs) (h : d ≠ []) : mkGo o l m dict size (n + 1) f d = (blkW o l m dict (f : Int) (d.take size)).text ++ mkGo o l m dict size n (f + 1) (d.drop size) := by
  rw [mkGo, if_neg h]
theorem mkGo_len (o l m : Int) (dict : Bs) (size : Nat) (hs : 1 ≤ size) : ∀ (n f : Nat) (d : Bs), (mkGo o l m dict size n f d).length ≤ 11 * d.length
  | 0, f, d => by simp [mkGo]
  | n + 1, f, d => by
    by_cases h : d = []
    · rw [h, mkGo_nil]; simp
    · rw [mkGo_go _ _ _ _ _ _ _ _ h, List.length_append]
      have h1 := blkW_len o l m dict (f : Int) (d.take size)
      have h2 := mkGo_len o l m dict size hs n (f + 1) (d.drop size)
      have h3 := List.length_pos_iff.2 h
      simp at h1 h2
      omega
def mkB (o l m : Int) (dict : Bs) (size : Nat) (f : Nat) (d : Bs) : Bs := mkGo o l m dict size d.length f d
set_option maxHeartbeats 2000000 in
theorem l5Make_any (o l m : Int) (dict : Bs) (size f : Nat) (d : Bs) (w : World) (hf : fits o l m dict) (hs1 : 1 ≤ size) (hs2 : size ≤ 64) (hd : d.length ≤ 2000) (hf0 : f ≤ 1000) :
    Calls Tryz.prog 32 #[.agg #[.int .i64 o, .int .i64 l, .int .i64 m], .string ⟨dict.toArray⟩, .int .i64 (f : Int), sv d, .int .i64 (size : Int)] w fun e w' => e = .returned (sv (mkB o l m dict size f d)) ∧ Below w.heap.size w w' := by
  have cB : Go.RowKit.Hid (∀ (n : Nat) (x : Bs) w, x.length ≤ 2000 → Calls Tryz.prog 55 #[.agg #[.int .i64 o, .int .i64 l, .int .i64 m], .string ⟨dict.toArray⟩, .int .i64 (n : Int), .string ⟨x.toArray⟩] w fun e w' => e = .returned (bkV (blkW o l m dict n x)) ∧ Below w.heap.size w w') := fun n x w h => l5Block_any o l m dict n x w hf (by omega)
  have cT : Go.RowKit.Hid (∀ (n : Nat) (x : Bs) w, n ≤ 4000 → x.length ≤ 2000 → Calls Tryz.prog 54 #[bkV (blkW o l m dict n x)] w fun e w' => e = .returned (.string ⟨(blkW o l m dict n x).text.toArray⟩) ∧ Below w.heap.size w w') := fun n x w h1 h2 => l5Text_any _ w (blkW_sm o l m dict n x (by omega) (by omega) (by omega))
  have hG : Go.RowKit.Hid (mkB o l m dict size f d = mkGo o l m dict size d.length f d) := rfl
  generalize mkB o l m dict size f d = G at *
  clear hf
  go_enter Tryz.func32, Tryz.ntmps32
  go_wp2
  have hI := Bk.new w #[.int .i64 o, .int .i64 l, .int .i64 m] 24
  have g0 : Below w.heap.size w (w.alloc (.cells #[.int .i64 o, .int .i64 l, .int .i64 m] 24)) := (by repeat (first | (with_reducible exact Below.refl _ _) | (with_reducible assumption) | (with_reducible refine Below.drew ?_) | (with_reducible refine Below.alloc ?_ (by first | omega | (simp <;> omega)) _) | (with_reducible refine Below.setCell ?_ (by first | omega | (simp <;> omega)) _) | (with_reducible refine belowN ?_ _)))
  go_loopw [2, 3, 11] (fun a b c wr => ∃ (D X : Bs) (q k : Nat), a = .int .i64 (q : Int) ∧ b = sv D ∧ c = sv X ∧ q + D.length ≤ 3000 ∧ D.length ≤ k ∧ X.length + 11 * D.length ≤ 22000 ∧ D.length ≤ 2000 ∧ Go.RowKit.Hid (G = X ++ mkGo o l m dict size k q D) ∧ Bk wr w.heap.size 24 #[.int .i64 o, .int .i64 l, .int .i64 m] ∧ Below w.heap.size w wr) (fun _ b _ _ => strNn b)
  case atStart => exact ⟨d, [], f, d.length, rfl, rfl, rfl, by omega, Nat.le_refl _, by simp; omega, hd, by show _ = _; rw [hG.out]; rfl, hI, g0⟩
  case round =>
    obtain ⟨D, X, q, k, rfl, rfl, rfl, hq, hk, hX, hD, HG, hK, g⟩ := hrel
    clear hI g0 hG
    have hz := hK.lt
    by_cases hne : D = []
    · subst hne
      have hE : Go.RowKit.Hid (G = X) := by show _ = _; rw [HG.out, mkGo_nil, List.append_nil]
      go_wp2
      go_ret
      exact ⟨by rw [hE.out]; rfl, g⟩
    · have hl1 := List.length_pos_iff.2 hne
      have hte : (decide (D = [])) = false := by simpa using hne
      have hte2 : (D != []) = true := by simpa using hne
      obtain ⟨k', rfl⟩ : ∃ k', k = k' + 1 := ⟨k - 1, by omega⟩
      have HG2 := Go.Lib.hid (HG.out.trans (by rw [mkGo_go _ _ _ _ _ _ _ _ hne]))
      by_cases hsz : D.length < size
      · have etk : D.take size = D := List.take_of_length_le (by omega)
        have edr : D.drop size = [] := List.drop_eq_nil_of_le (by omega)
        rw [etk, edr, mkGo_nil, List.append_nil] at HG2
        have cB1 := fun w => cB.out q D w (by omega)
        have cT1 := fun w => cT.out q D w (by omega) (by omega)
        have hbl := blkW_len o l m dict (q : Int) D
        have hq1 : ¬ 9223372036854775807 < X.length + (blkW o l m dict (q : Int) D).text.length := by omega
        clear etk edr hne HG
        have hY := hK.cell
        go_wp2_with fail
        refine wp_region_held_drew (S := (fun w' => w'.cell? ⟨w.heap.size, 0, none⟩ = some (.int .i64 o) ∧ w'.cell? ⟨w.heap.size, 1, none⟩ = some (.int .i64 l) ∧ w'.cell? ⟨w.heap.size, 2, none⟩ = some (.int .i64 m))) (by kernel_rfl) ?_ (fun hSS => ?_)
        focus ((refine ⟨?_, ?_, ?_⟩; all_goals first | (simp [hY9]; done) | (simp [hY8]; done) | (simp [hY]; done)))
        refine wpAnyH_take (i := 0) (v := ?_) rfl (by kernel_rfl) (by kernel_rfl) (by kernel_rfl) (fun _ _ _ h => h) (Or.inl ⟨by rfl, ?_⟩) (by assumption) ?_
        rotate_left
        focus (intro w hSw; (try dsimp only at hSw); go_simp; try with_reducible rfl)
        try simp only [Act.put, List.setIfInBounds_toArray, List.set_cons_zero, List.set_cons_succ]
        refine wpAnyH_take (i := 1) (v := ?_) rfl (by kernel_rfl) (by kernel_rfl) (by kernel_rfl) (fun _ _ _ h => h) (Or.inl ⟨by rfl, ?_⟩) (by assumption) ?_
        rotate_left
        focus (intro w hSw; (try dsimp only at hSw); go_simp; try with_reducible rfl)
        try simp only [Act.put, List.setIfInBounds_toArray, List.set_cons_zero, List.set_cons_succ]
        refine wpAnyH_take (i := 2) (v := ?_) rfl (by kernel_rfl) (by kernel_rfl) (by kernel_rfl) (fun _ _ _ h => h) (Or.inl ⟨by rfl, ?_⟩) (by assumption) ?_
        rotate_left
        focus (intro w hSw; (try dsimp only at hSw); go_simp; try with_reducible rfl)
        try simp only [Act.put, List.setIfInBounds_toArray, List.set_cons_zero, List.set_cons_succ]
        refine wpAnyH_take (i := 3) (v := ?_) rfl (by kernel_rfl) (by kernel_rfl) (by kernel_rfl) (fun _ _ _ h => h) (Or.inl ⟨by rfl, ?_⟩) (by assumption) ?_
        rotate_left
        focus (intro w hSw; (try dsimp only at hSw); go_simp; try with_reducible rfl)
        try simp only [Act.put, List.setIfInBounds_toArray, List.set_cons_zero, List.set_cons_succ]
        refine wpAnyH_take (i := 4) (v := ?_) rfl (by kernel_rfl) (by kernel_rfl) (by kernel_rfl) (fun _ _ _ h => h) (Or.inl ⟨by rfl, ?_⟩) (by assumption) ?_
        rotate_left
        focus (intro w hSw; (try dsimp only at hSw); go_simp; try with_reducible rfl)
        try simp only [Act.put, List.setIfInBounds_toArray, List.set_cons_zero, List.set_cons_succ]
        refine wpAnyH_take (i := 5) (v := ?_) rfl (by kernel_rfl) (by kernel_rfl) (by kernel_rfl) (fun _ _ _ h => h) (Or.inl ⟨by rfl, ?_⟩) (by assumption) ?_
        rotate_left
        focus (intro w hSw; (try dsimp only at hSw); go_simp; try with_reducible rfl)
        try simp only [Act.put, List.setIfInBounds_toArray, List.set_cons_zero, List.set_cons_succ]
        refine wpAnyH_take (i := 6) (v := ?_) rfl (by kernel_rfl) (by kernel_rfl) (by kernel_rfl) (fun _ _ _ h => h) (Or.inl ⟨by rfl, ?_⟩) (by assumption) ?_
        rotate_left
        focus (intro w hSw; (try dsimp only at hSw); go_simp; try with_reducible rfl)
        try simp only [Act.put, List.setIfInBounds_toArray, List.set_cons_zero, List.set_cons_succ]
        refine wpAnyH_ready (rs := [7]) (by kernel_rfl) (by simp) ?_
        refine AllReadyH.cons (o := _) rfl (fun KK hKK => ?_) AllReadyH.nil
        go_simp
        (go_at_call 55; refine (cB1 _).mono ?_; rintro e w8 ⟨rfl, hb8⟩; have hb8 : Below wr.heap.size wr w8 := below_undrew hb8; have z8 := hb8.size; have hK8 := hK.below hb8 (by omega); have g8 := g.trans (hb8.mono (by omega)); have hY8 := hK8.cell)
        refine hKK.out _ _ ?_ (fun hSS => ?_)
        focus ((refine ⟨?_, ?_, ?_⟩; all_goals first | (simp [hY9]; done) | (simp [hY8]; done) | (simp [hY]; done)))
        try simp only [Act.put, List.setIfInBounds_toArray, List.set_cons_zero, List.set_cons_succ]
        refine wpAnyH_ready (rs := [8]) (by kernel_rfl) (by simp) ?_
        refine AllReadyH.cons (o := _) rfl (fun KK hKK => ?_) AllReadyH.nil
        go_simp
        (go_at_call 54; refine (cT1 _).mono ?_; rintro e w9 ⟨rfl, hb9⟩; have z9 := hb9.size; have hK9 := hK8.below hb9 (by omega); have g9 := g8.trans (hb9.mono (by omega)); have hY9 := hK9.cell)
        refine hKK.out _ _ ?_ (fun hSS => ?_)
        focus ((refine ⟨?_, ?_, ?_⟩; all_goals first | (simp [hY9]; done) | (simp [hY8]; done) | (simp [hY]; done)))
        try simp only [Act.put, List.setIfInBounds_toArray, List.set_cons_zero, List.set_cons_succ]
        refine wpAnyH_take (i := 9) (v := ?_) rfl (by kernel_rfl) (by kernel_rfl) (by kernel_rfl) (fun _ _ _ h => h) (Or.inl ⟨by rfl, ?_⟩) (by assumption) ?_
        rotate_left
        focus (intro w hSw; (try dsimp only at hSw); go_simp; try with_reducible rfl)
        try simp only [Act.put, List.setIfInBounds_toArray, List.set_cons_zero, List.set_cons_succ]
        refine wpAnyH_take (i := 10) (v := ?_) rfl (by kernel_rfl) (by kernel_rfl) (by kernel_rfl) (fun _ _ _ h => h) (Or.inl ⟨by rfl, ?_⟩) (by assumption) ?_
        rotate_left
        focus (intro w hSw; (try dsimp only at hSw); go_simp; try with_reducible rfl)
        try simp only [Act.put, List.setIfInBounds_toArray, List.set_cons_zero, List.set_cons_succ]
        refine wpAnyH_done (by kernel_rfl) ?_ _
        simp only [List.getElem_toArray, List.getElem_cons_succ, List.getElem_cons_zero, Act.put, List.setIfInBounds_toArray, List.set_cons_zero, List.set_cons_succ]
        go_wp2
        go_roundw
        case rel => exact ⟨[], X ++ (blkW o l m dict (q : Int) D).text, q + 1, k', by go_num, by first | rfl | (simp; done), by first | rfl | (simp [sv]; done), by simp; omega, by simp, by simp; omega, by simp, by show _ = _; rw [HG2.out, mkGo_nil, List.append_nil], hK9, g9⟩
        case measure => simp [strNn]; omega
      · have htl : (D.take size).length = size := by simp; omega
        have hdl : (D.drop size).length = D.length - size := by simp
        have cB1 := fun w => cB.out q (D.take size) w (by omega)
        have cT1 := fun w => cT.out q (D.take size) w (by omega) (by omega)
        have hbl := blkW_len o l m dict (q : Int) (D.take size)
        have hq1 : ¬ 9223372036854775807 < X.length + (blkW o l m dict (q : Int) (D.take size)).text.length := by omega
        have hsz2 : size ≤ D.length := by omega
        clear hne HG
        have hY := hK.cell
        go_wp2_with fail
        refine wp_region_held_drew (S := (fun w' => w'.cell? ⟨w.heap.size, 0, none⟩ = some (.int .i64 o) ∧ w'.cell? ⟨w.heap.size, 1, none⟩ = some (.int .i64 l) ∧ w'.cell? ⟨w.heap.size, 2, none⟩ = some (.int .i64 m))) (by kernel_rfl) ?_ (fun hSS => ?_)
        focus ((refine ⟨?_, ?_, ?_⟩; all_goals first | (simp [hY9]; done) | (simp [hY8]; done) | (simp [hY]; done)))
        refine wpAnyH_take (i := 0) (v := ?_) rfl (by kernel_rfl) (by kernel_rfl) (by kernel_rfl) (fun _ _ _ h => h) (Or.inl ⟨by rfl, ?_⟩) (by assumption) ?_
        rotate_left
        focus (intro w hSw; (try dsimp only at hSw); go_simp; try with_reducible rfl)
        try simp only [Act.put, List.setIfInBounds_toArray, List.set_cons_zero, List.set_cons_succ]
        refine wpAnyH_take (i := 1) (v := ?_) rfl (by kernel_rfl) (by kernel_rfl) (by kernel_rfl) (fun _ _ _ h => h) (Or.inl ⟨by rfl, ?_⟩) (by assumption) ?_
        rotate_left
        focus (intro w hSw; (try dsimp only at hSw); go_simp; try with_reducible rfl)
        try simp only [Act.put, List.setIfInBounds_toArray, List.set_cons_zero, List.set_cons_succ]
        refine wpAnyH_take (i := 2) (v := ?_) rfl (by kernel_rfl) (by kernel_rfl) (by kernel_rfl) (fun _ _ _ h => h) (Or.inl ⟨by rfl, ?_⟩) (by assumption) ?_
        rotate_left
        focus (intro w hSw; (try dsimp only at hSw); go_simp; try with_reducible rfl)
        try simp only [Act.put, List.setIfInBounds_toArray, List.set_cons_zero, List.set_cons_succ]
        refine wpAnyH_take (i := 3) (v := ?_) rfl (by kernel_rfl) (by kernel_rfl) (by kernel_rfl) (fun _ _ _ h => h) (Or.inl ⟨by rfl, ?_⟩) (by assumption) ?_
        rotate_left
        focus (intro w hSw; (try dsimp only at hSw); go_simp; try with_reducible rfl)
        try simp only [Act.put, List.setIfInBounds_toArray, List.set_cons_zero, List.set_cons_succ]
        refine wpAnyH_take (i := 4) (v := ?_) rfl (by kernel_rfl) (by kernel_rfl) (by kernel_rfl) (fun _ _ _ h => h) (Or.inl ⟨by rfl, ?_⟩) (by assumption) ?_
        rotate_left
        focus (intro w hSw; (try dsimp only at hSw); go_simp; try with_reducible rfl)
        try simp only [Act.put, List.setIfInBounds_toArray, List.set_cons_zero, List.set_cons_succ]
        refine wpAnyH_take (i := 5) (v := ?_) rfl (by kernel_rfl) (by kernel_rfl) (by kernel_rfl) (fun _ _ _ h => h) (Or.inl ⟨by rfl, ?_⟩) (by assumption) ?_
        rotate_left
        focus (intro w hSw; (try dsimp only at hSw); go_simp; try with_reducible rfl)
        try simp only [Act.put, List.setIfInBounds_toArray, List.set_cons_zero, List.set_cons_succ]
        refine wpAnyH_take (i := 6) (v := ?_) rfl (by kernel_rfl) (by kernel_rfl) (by kernel_rfl) (fun _ _ _ h => h) (Or.inl ⟨by rfl, ?_⟩) (by assumption) ?_
        rotate_left
        focus (intro w hSw; (try dsimp only at hSw); go_simp; try with_reducible rfl)
        try simp only [Act.put, List.setIfInBounds_toArray, List.set_cons_zero, List.set_cons_succ]
        refine wpAnyH_ready (rs := [7]) (by kernel_rfl) (by simp) ?_
        refine AllReadyH.cons (o := _) rfl (fun KK hKK => ?_) AllReadyH.nil
        go_simp
        (go_at_call 55; refine (cB1 _).mono ?_; rintro e w8 ⟨rfl, hb8⟩; have hb8 : Below wr.heap.size wr w8 := below_undrew hb8; have z8 := hb8.size; have hK8 := hK.below hb8 (by omega); have g8 := g.trans (hb8.mono (by omega)); have hY8 := hK8.cell)
        refine hKK.out _ _ ?_ (fun hSS => ?_)
        focus ((refine ⟨?_, ?_, ?_⟩; all_goals first | (simp [hY9]; done) | (simp [hY8]; done) | (simp [hY]; done)))
        try simp only [Act.put, List.setIfInBounds_toArray, List.set_cons_zero, List.set_cons_succ]
        refine wpAnyH_ready (rs := [8]) (by kernel_rfl) (by simp) ?_
        refine AllReadyH.cons (o := _) rfl (fun KK hKK => ?_) AllReadyH.nil
        go_simp
        (go_at_call 54; refine (cT1 _).mono ?_; rintro e w9 ⟨rfl, hb9⟩; have z9 := hb9.size; have hK9 := hK8.below hb9 (by omega); have g9 := g8.trans (hb9.mono (by omega)); have hY9 := hK9.cell)
        refine hKK.out _ _ ?_ (fun hSS => ?_)
        focus ((refine ⟨?_, ?_, ?_⟩; all_goals first | (simp [hY9]; done) | (simp [hY8]; done) | (simp [hY]; done)))
        try simp only [Act.put, List.setIfInBounds_toArray, List.set_cons_zero, List.set_cons_succ]
        refine wpAnyH_take (i := 9) (v := ?_) rfl (by kernel_rfl) (by kernel_rfl) (by kernel_rfl) (fun _ _ _ h => h) (Or.inl ⟨by rfl, ?_⟩) (by assumption) ?_
        rotate_left
        focus (intro w hSw; (try dsimp only at hSw); go_simp; try with_reducible rfl)
        try simp only [Act.put, List.setIfInBounds_toArray, List.set_cons_zero, List.set_cons_succ]
        refine wpAnyH_take (i := 10) (v := ?_) rfl (by kernel_rfl) (by kernel_rfl) (by kernel_rfl) (fun _ _ _ h => h) (Or.inl ⟨by rfl, ?_⟩) (by assumption) ?_
        rotate_left
        focus (intro w hSw; (try dsimp only at hSw); go_simp; try with_reducible rfl)
        try simp only [Act.put, List.setIfInBounds_toArray, List.set_cons_zero, List.set_cons_succ]
        refine wpAnyH_done (by kernel_rfl) ?_ _
        simp only [List.getElem_toArray, List.getElem_cons_succ, List.getElem_cons_zero, Act.put, List.setIfInBounds_toArray, List.set_cons_zero, List.set_cons_succ]
        go_wp2
        go_roundw
        case rel => exact ⟨D.drop size, X ++ (blkW o l m dict (q : Int) (D.take size)).text, q + 1, k', by go_num, by first | rfl | (simp; done), by first | rfl | (simp [sv]; done), by simp; omega, by simp; omega, by simp; omega, by simp; omega, by show _ = _; rw [HG2.out, List.append_assoc], hK9, g9⟩
        case measure => simp [strNn]; omega
def mkC (o l m : Int) (dict d : Bs) (size : Int) : Option Bs := if fits o l m dict ∧ 1 ≤ size ∧ size ≤ 64 ∧ (d.length : Int) ≤ size * 40 ∧ d.length ≤ 2000 then some (mkB o l m dict size.toNat 0 d) else none
theorem mkC_len {o l m : Int} {dict d : Bs} {size : Int} {x : Bs} (h : mkC o l m dict d size = some x) : x.length ≤ 22000 := by
  unfold mkC at h
  split at h
  · rename_i hc
    injection h with h
    subst h
    have := mkGo_len o l m dict size.toNat (by omega) d.length 0 d
    unfold mkB; omega
  · cases h
set_option maxHeartbeats 2000000 in
theorem makeContainer_any (o l m : Int) (dict d : Bs) (size : Int) (w : World) (hl : dict.length ≤ 9223372036854775807) (hd : d.length ≤ 9223372036854775807) (hs0 : -1000000 ≤ size) (hs1 : size ≤ 1000000) :
    Calls Tryz.prog 8 #[.agg #[.int .i64 o, .int .i64 l, .int .i64 m], .string ⟨dict.toArray⟩, sv d, .int .i64 size] w fun e w' => e = cmRes (mkC o l m dict d size) ∧ Below w.heap.size w w' := by
  have cR : Go.RowKit.Hid (∀ w, Calls Tryz.prog 30 #[.agg #[.int .i64 o, .int .i64 l, .int .i64 m], .string ⟨dict.toArray⟩] w fun e w' => e = .returned (.bool (decide (fits o l m dict))) ∧ Below w.heap.size w w') := fun w => l5Ready_any o l m dict w hl
  have g0 : Below w.heap.size w (w.alloc (.cells #[.int .i64 o, .int .i64 l, .int .i64 m] 24)) := (by repeat (first | (with_reducible exact Below.refl _ _) | (with_reducible assumption) | (with_reducible refine Below.drew ?_) | (with_reducible refine Below.alloc ?_ (by first | omega | (simp <;> omega)) _) | (with_reducible refine Below.setCell ?_ (by first | omega | (simp <;> omega)) _) | (with_reducible refine belowN ?_ _)))
  have hNO : Go.RowKit.Hid (¬ (fits o l m dict ∧ 1 ≤ size ∧ size ≤ 64 ∧ (d.length : Int) ≤ size * 40 ∧ d.length ≤ 2000) → cmRes (mkC o l m dict d size) = .returned (.tuple #[sv [], .bool false])) := fun h => by unfold mkC; rw [if_neg h]; rfl
  have hYES : Go.RowKit.Hid ((fits o l m dict ∧ 1 ≤ size ∧ size ≤ 64 ∧ (d.length : Int) ≤ size * 40 ∧ d.length ≤ 2000) → cmRes (mkC o l m dict d size) = .returned (.tuple #[sv (mkB o l m dict size.toNat 0 d), .bool true])) := fun h => by unfold mkC; rw [if_pos h]; rfl
  generalize cmRes (mkC o l m dict d size) = G at *
  by_cases h1 : fits o l m dict
  case neg =>
    have hN := Go.Lib.hid (hNO.out (fun h => h1 h.1))
    have hdf : decide (fits o l m dict) = false := decide_eq_false h1
    clear h1 hNO hYES
    go_enter Tryz.func8, Tryz.ntmps8
    go_wp2_with fail
    refine (cR.out _).mono ?_
    rintro e w2 ⟨rfl, hb2⟩
    have g2 := g0.trans (hb2.mono (by simp))
    go_wp2
    go_ret2
    exact ⟨hN.out.symm, g2⟩
  have hdf : decide (fits o l m dict) = true := decide_eq_true h1
  by_cases h2 : 1 ≤ size ∧ size ≤ 64
  case neg =>
    have hN := Go.Lib.hid (hNO.out (fun h => h2 ⟨h.2.1, h.2.2.1⟩))
    have hdi : decide (1 ≤ size ∧ size ≤ 64) = false := decide_eq_false h2
    clear h1 hNO hYES
    go_enter Tryz.func8, Tryz.ntmps8
    go_wp2_with fail
    refine (cR.out _).mono ?_
    rintro e w2 ⟨rfl, hb2⟩
    have g2 := g0.trans (hb2.mono (by simp))
    go_wp2_with (go_at_call 31; refine (l1In_any _ _ _ _).mono ?_; rintro e w' ⟨rfl, rfl⟩)
    go_ret2
    exact ⟨hN.out.symm, g2⟩
  have hdi : decide (1 ≤ size ∧ size ≤ 64) = true := decide_eq_true h2
  obtain ⟨h2a, h2b⟩ := h2
  obtain ⟨n, rfl⟩ := Int.eq_ofNat_of_zero_le (by omega : 0 ≤ size)
  by_cases h3 : (d.length : Int) ≤ (n : Int) * 40
  case neg =>
    have hN := Go.Lib.hid (hNO.out (fun h => h3 h.2.2.2.1))
    have h3' : (n : Int) * 40 < d.length := by omega
    clear h1 hNO hYES
    go_enter Tryz.func8, Tryz.ntmps8
    go_wp2_with fail
    refine (cR.out _).mono ?_
    rintro e w2 ⟨rfl, hb2⟩
    have g2 := g0.trans (hb2.mono (by simp))
    go_wp2_with (go_at_call 31; refine (l1In_any _ _ _ _).mono ?_; rintro e w' ⟨rfl, rfl⟩)
    go_ret2
    exact ⟨hN.out.symm, g2⟩
  have h3' : ¬ (n : Int) * 40 < d.length := by omega
  by_cases h4 : d.length ≤ 2000
  case neg =>
    have hN := Go.Lib.hid (hNO.out (fun h => h4 h.2.2.2.2))
    have h4' : (2000 : Int) < d.length := by omega
    clear h1 hNO hYES
    go_enter Tryz.func8, Tryz.ntmps8
    go_wp2_with fail
    refine (cR.out _).mono ?_
    rintro e w2 ⟨rfl, hb2⟩
    have g2 := g0.trans (hb2.mono (by simp))
    go_wp2_with (go_at_call 31; refine (l1In_any _ _ _ _).mono ?_; rintro e w' ⟨rfl, rfl⟩)
    go_ret2
    exact ⟨hN.out.symm, g2⟩
  have h4' : ¬ (2000 : Int) < d.length := by omega
  have hY := Go.Lib.hid (hYES.out ⟨h1, h2a, h2b, h3, h4⟩)
  have cM : Go.RowKit.Hid (∀ w, Calls Tryz.prog 32 #[.agg #[.int .i64 o, .int .i64 l, .int .i64 m], .string ⟨dict.toArray⟩, .int .i64 0, sv d, .int .i64 (n : Int)] w fun e w' => e = .returned (sv (mkB o l m dict n 0 d)) ∧ Below w.heap.size w w') := fun w => l5Make_any o l m dict n 0 d w h1 (by omega) (by omega) h4 (by omega)
  rw [Int.toNat_natCast] at hY
  clear h1 hNO hYES
  generalize mkB o l m dict n 0 d = R at *
  go_enter Tryz.func8, Tryz.ntmps8
  go_wp2_with fail
  have hI := Bk.new w #[.int .i64 o, .int .i64 l, .int .i64 m] 24
  refine (cR.out _).mono ?_
  rintro e w2 ⟨rfl, hb2⟩
  have g2 := g0.trans (hb2.mono (by simp))
  have hX := (hI.below hb2 (by simp)).cell
  go_wp2_with (first | (go_at_call 31; refine (l1In_any _ _ _ _).mono ?_; rintro e w' ⟨rfl, rfl⟩) | (go_at_call 32; refine (cM.out _).mono ?_; rintro e w4 ⟨rfl, hb4⟩; have z4 := hb4.size))
  go_ret2
  exact ⟨hY.out.symm, g2.trans (hb4.mono (by have := hb2.size; simp at this; omega))⟩
end Go.Proofs.YtfonokhafdflcaaGreat
