/- Walks: what is known at the start, and learned from a dictionary; data compressed with it. -/
import Derived.Test.YtgcjfddkgbigoaaS12
import Derived.Test.YtgcjfddkgbigoaaS8
namespace Go.Proofs.Ytgcjfddkgbigoaa
open Go.RowKit
set_option linter.unusedVariables false
set_option linter.unusedSimpArgs false
set_option maxRecDepth 100000
attribute [local go_sem high] run_index_S binOp_eql_S binOp_neq_S append_S toList_S size_S run_slice_S run_slice_from_S run_slice_to_S wrap64_byteAt wrap64_byteAt_mul bits_or_bytes convU conv1_some convU2 conv2_some
set_option maxHeartbeats 1000000 in
theorem start_any (o l m : Int) (w : World) (hst : stOk o l m) :
    Calls Try.prog 116 #[.agg #[.int .i64 o, .int .i64 l, .int .i64 m]] w fun e w' => e = .returned (.tuple #[knV (startK o l m) none 0, .bool true]) ∧ Below w.heap.size w w' := by
  have hd : decide (stOk o l m) = true := decide_eq_true hst
  go_enter Try.func116, Try.ntmps116
  go_wp2_with fail
  refine (sSettingValid_any _ _ _ _).mono ?_
  rintro e w2 ⟨rfl, hb2⟩
  have hI : Bk ((w.alloc (.cells #[.int .i64 o, .int .i64 l, .int .i64 m] 69)).alloc (.cells knZ 127)) w.heap.size 69 #[.int .i64 o, .int .i64 l, .int .i64 m] := (by (repeat (first | (with_reducible assumption) | (with_reducible exact Bk.new _ _ _) | (with_reducible refine Bk.newAt _ _ _ (by simp; done)) | (with_reducible refine Bk.drew ?_) | (with_reducible refine Bk.drewN ?_ _) | (with_reducible refine Bk.alloc ?_ _))); done)
  have hK : Bk ((w.alloc (.cells #[.int .i64 o, .int .i64 l, .int .i64 m] 69)).alloc (.cells knZ 127)) (w.heap.size + 1) 127 knZ := (by (repeat (first | (with_reducible assumption) | (with_reducible exact Bk.new _ _ _) | (with_reducible refine Bk.newAt _ _ _ (by simp; done)) | (with_reducible refine Bk.drew ?_) | (with_reducible refine Bk.drewN ?_ _) | (with_reducible refine Bk.alloc ?_ _))); done)
  have g0 : Below w.heap.size w ((w.alloc (.cells #[.int .i64 o, .int .i64 l, .int .i64 m] 69)).alloc (.cells knZ 127)) := (by repeat (first | (with_reducible exact Below.refl _ _) | (with_reducible assumption) | (with_reducible refine Below.drew ?_) | (with_reducible refine Below.alloc ?_ (by first | omega | (simp <;> omega)) _) | (with_reducible refine Below.setCell ?_ (by first | omega | (simp <;> omega)) _) | (with_reducible refine belowN ?_ _)))
  generalize (w.alloc (.cells #[.int .i64 o, .int .i64 l, .int .i64 m] 69)).alloc (.cells knZ 127) = w0 at *
  have hz := hK.lt
  have hI2 := hI.below hb2 (by omega)
  have hK2 := hK.below hb2 (by omega)
  have g2 := g0.trans (hb2.mono (by omega))
  have hX := hI2.cell
  have hF := hK2.free
  have hY := hK2.cell
  clear hI hK g0 hb2
  go_wp2
  have hQ := (kn_put0 hK2 (startK o l m) none 0).cell
  have g3 := kn_below g2 (b := w.heap.size + 1) (by omega) (startK o l m) none 0
  simp only [startK, List.length_nil] at hQ g3
  exact bodyPost_ret (v := .tuple #[knV (startK o l m) none 0, .bool true]) (by simp [results, Try.results116, go_sem, hQ, startK]) rfl ⟨rfl, g3⟩
/-- It returns what is known, and true, its pairs in a row of its own. -/
def KtRes (K : Kn) (w : World) (e : Ending) (w' : World) : Prop := ∃ A cap, e = .returned (.tuple #[knV K A cap, .bool true]) ∧ w'.ownsRow w.heap.size 138 2 (.slice A K.ps.length cap) K.ps.length (psV K.ps) ∧ Below w.heap.size w w'
set_option maxHeartbeats 1000000 in
theorem learnKnown_any (K : Kn) (A : Option Addr) (cap : Nat) (d : Bs) (w : World) (hk : K.ok) (hs : Sl w A K.ps.length cap 2 (psV K.ps)) (hf : fits K.o K.l K.m d) :
    Calls Try.prog 117 #[knV K A cap, .string ⟨d.toArray⟩] w (KtRes (K.learn d) w) := by
  have hd : decide (fits K.o K.l K.m d) = true := decide_eq_true hf
  have hdl : d.length ≤ 2000 := hf.2.1
  have cV : Go.RowKit.Hid (∀ wr, Below w.heap.size w wr → Calls Try.prog 118 #[knV K A cap] wr fun e w' => e = .returned (.bool true) ∧ Below wr.heap.size wr w') := fun wr h => knownValid_any K A cap wr hk (hs.below h)
  have cL : Go.RowKit.Hid (∀ wr, Below w.heap.size w wr → Calls Try.prog 120 #[knV K A cap, .string ⟨d.toArray⟩] wr (KnRes (K.learn d) wr)) := fun wr h => l4Learn_any K A cap d wr hk (hs.below h) (by omega) hf.2.2
  clear hs hf
  generalize K.learn d = K1 at *
  go_enter Try.func117, Try.ntmps117
  go_wp2_with fail
  have hK : Bk ((w.alloc (.cells (knC K A cap) 127)).alloc (.cells knZ 127)) w.heap.size 127 (knC K A cap) := (by (repeat (first | (with_reducible assumption) | (with_reducible exact Bk.new _ _ _) | (with_reducible refine Bk.newAt _ _ _ (by simp; done)) | (with_reducible refine Bk.drew ?_) | (with_reducible refine Bk.drewN ?_ _) | (with_reducible refine Bk.alloc ?_ _))); done)
  have hI : Bk ((w.alloc (.cells (knC K A cap) 127)).alloc (.cells knZ 127)) (w.heap.size + 1) 127 knZ := (by (repeat (first | (with_reducible assumption) | (with_reducible exact Bk.new _ _ _) | (with_reducible refine Bk.newAt _ _ _ (by simp; done)) | (with_reducible refine Bk.drew ?_) | (with_reducible refine Bk.drewN ?_ _) | (with_reducible refine Bk.alloc ?_ _))); done)
  have g0 : Below w.heap.size w ((w.alloc (.cells (knC K A cap) 127)).alloc (.cells knZ 127)) := (by repeat (first | (with_reducible exact Below.refl _ _) | (with_reducible assumption) | (with_reducible refine Below.drew ?_) | (with_reducible refine Below.alloc ?_ (by first | omega | (simp <;> omega)) _) | (with_reducible refine Below.setCell ?_ (by first | omega | (simp <;> omega)) _) | (with_reducible refine belowN ?_ _)))
  generalize (w.alloc (.cells (knC K A cap) 127)).alloc (.cells knZ 127) = w0 at *
  refine (cV.out _ g0).mono ?_
  rintro e w2 ⟨rfl, hb2⟩
  have z0 := hI.lt
  have z2 := hb2.size
  have hK2 := hK.below hb2 (by omega)
  have hI2 := hI.below hb2 (by omega)
  have g2 := g0.trans (hb2.mono (by omega))
  have hX := hK2.cell
  clear hK hI g0 hb2
  go_wp2_with fail
  refine (sDataFits_any _ _ _ _ _ (by omega)).mono ?_
  rintro e w3 ⟨rfl, hb3⟩
  have z3 := hb3.size
  have hK3 := hK2.below hb3 (by omega)
  have hI3 := hI2.below hb3 (by omega)
  have g3 := g2.trans (hb3.mono (by omega))
  clear hX
  have hX := hK3.cell
  clear hK2 hI2 g2 hb3
  go_wp2_with fail
  refine (cL.out _ g3).mono ?_
  rintro e w4 ⟨A4, c4, rfl, o4, hb4⟩
  have z4 := hb4.size
  have hI4 := hI3.below hb4 (by omega)
  have g4 := g3.trans (hb4.mono (by omega))
  have hF := hI4.free
  have hY := hI4.cell
  clear hK3 hI3 g3 hb4 hX
  go_wp2
  have hQ := (kn_put0 hI4 K1 A4 c4).cell
  have g5 := kn_below g4 (b := w.heap.size + 1) (by omega) K1 A4 c4
  have o5 := own_mono (B' := w.heap.size) (kn_own o4 (b := w.heap.size + 1) (by omega) K1 A4 c4) (by omega)
  exact bodyPost_ret (v := .tuple #[knV K1 A4 c4, .bool true]) (by simp [results, Try.results117, go_sem, hQ]) rfl ⟨A4, c4, rfl, o5, g5⟩
set_option maxHeartbeats 1000000 in
theorem startWith_any (o l m : Int) (d : Bs) (w : World) (hf : fits o l m d) :
    Calls Try.prog 114 #[.agg #[.int .i64 o, .int .i64 l, .int .i64 m], .string ⟨d.toArray⟩] w (KtRes (startW o l m d) w) := by
  have cS : Go.RowKit.Hid (∀ w, Calls Try.prog 116 #[.agg #[.int .i64 o, .int .i64 l, .int .i64 m]] w fun e w' => e = .returned (.tuple #[.agg #[.int .i64 o, .int .i64 l, .int .i64 m, .slice none 0 0, .int .i64 0, .int .i64 (-1)], .bool true]) ∧ Below w.heap.size w w') := fun w => start_any o l m w hf.1
  have cL : Go.RowKit.Hid (∀ w, Calls Try.prog 117 #[.agg #[.int .i64 o, .int .i64 l, .int .i64 m, .slice none 0 0, .int .i64 0, .int .i64 (-1)], .string ⟨d.toArray⟩] w (KtRes (startW o l m d) w)) := fun w => learnKnown_any (startK o l m) none 0 d w (startK_ok hf.1) (Sl.nil _ _) hf
  clear hf
  generalize startW o l m d = K1 at *
  go_enter Try.func114, Try.ntmps114
  go_wp2_with fail
  have hJ : Bk ((w.alloc (.cells #[.int .i64 o, .int .i64 l, .int .i64 m] 69)).alloc (.cells knZ 127)) w.heap.size 69 #[.int .i64 o, .int .i64 l, .int .i64 m] := (by (repeat (first | (with_reducible assumption) | (with_reducible exact Bk.new _ _ _) | (with_reducible refine Bk.newAt _ _ _ (by simp; done)) | (with_reducible refine Bk.drew ?_) | (with_reducible refine Bk.drewN ?_ _) | (with_reducible refine Bk.alloc ?_ _))); done)
  have hI : Bk ((w.alloc (.cells #[.int .i64 o, .int .i64 l, .int .i64 m] 69)).alloc (.cells knZ 127)) (w.heap.size + 1) 127 knZ := (by (repeat (first | (with_reducible assumption) | (with_reducible exact Bk.new _ _ _) | (with_reducible refine Bk.newAt _ _ _ (by simp; done)) | (with_reducible refine Bk.drew ?_) | (with_reducible refine Bk.drewN ?_ _) | (with_reducible refine Bk.alloc ?_ _))); done)
  have g0 : Below w.heap.size w ((w.alloc (.cells #[.int .i64 o, .int .i64 l, .int .i64 m] 69)).alloc (.cells knZ 127)) := (by repeat (first | (with_reducible exact Below.refl _ _) | (with_reducible assumption) | (with_reducible refine Below.drew ?_) | (with_reducible refine Below.alloc ?_ (by first | omega | (simp <;> omega)) _) | (with_reducible refine Below.setCell ?_ (by first | omega | (simp <;> omega)) _) | (with_reducible refine belowN ?_ _)))
  generalize (w.alloc (.cells #[.int .i64 o, .int .i64 l, .int .i64 m] 69)).alloc (.cells knZ 127) = w0 at *
  refine (cS.out _).mono ?_
  rintro e w2 ⟨rfl, hb2⟩
  have z0 := hI.lt
  have z2 := hb2.size
  have hI2 := (hI.below hb2 (by omega)).alloc (.cells #[.int .i64 o, .int .i64 l, .int .i64 m, .slice none 0 0, .int .i64 0, .int .i64 (-1)] 127)
  have hK2 := Bk.new w2 #[.int .i64 o, .int .i64 l, .int .i64 m, .slice none 0 0, .int .i64 0, .int .i64 (-1)] 127
  have g2 := (g0.trans (hb2.mono (by omega))).alloc (by omega) (.cells #[.int .i64 o, .int .i64 l, .int .i64 m, .slice none 0 0, .int .i64 0, .int .i64 (-1)] 127)
  have hX := hK2.cell
  have hF := hK2.free
  clear hJ hI g0 hb2
  go_wp2_with fail
  refine (cL.out _).mono ?_
  rintro e w4 ⟨A4, c4, rfl, o4, hb4⟩
  have z4 := hb4.size
  simp only [World.size_alloc] at z4
  have hI4 := hI2.below hb4 (by simp; omega)
  have g4 := g2.trans (hb4.mono (by simp; omega))
  clear hX hF
  have hF := hI4.free
  have hY := hI4.cell
  clear hK2 hI2 g2 hb4
  go_wp2
  have hQ := (kn_put0 hI4 K1 A4 c4).cell
  have g5 := kn_below g4 (b := w.heap.size + 1) (by omega) K1 A4 c4
  have o5 := own_mono (B' := w.heap.size) (kn_own o4 (b := w.heap.size + 1) (by simp; omega) K1 A4 c4) (by simp; omega)
  exact bodyPost_ret (v := .tuple #[knV K1 A4 c4, .bool true]) (by simp [results, Try.results114, go_sem, hQ]) rfl ⟨A4, c4, rfl, o5, g5⟩
end Go.Proofs.Ytgcjfddkgbigoaa
