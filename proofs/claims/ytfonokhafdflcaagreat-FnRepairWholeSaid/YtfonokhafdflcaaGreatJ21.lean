/- Walks: the codes of the longest words, clipped, by the program. -/
import Derived.Test.YtfonokhafdflcaaGreatJ20
import Derived.Test.YtfonokhafdflcaaGreatQ7
import Derived.Test.YtfonokhafdflcaaGreatGW
namespace Go.Proofs.YtfonokhafdflcaaGreat
open Go.RowKit
set_option linter.unusedVariables false
set_option linter.unusedSimpArgs false
set_option maxRecDepth 100000
attribute [local go_sem high] run_index_S binOp_eql_S binOp_neq_S append_S toList_S size_S run_slice_S run_slice_from_S run_slice_to_S wrap64_byteAt wrap64_byteAt_mul bits_or_bytes convU conv1_some convU2 conv2_some
theorem clip_any (g off n cap : Nat) (w : World) (h : n ≤ cap) (hc : cap ≤ 9223372036854775807) :
    Calls Tryz.prog 110 #[.slice (some ⟨g, off, none⟩) n cap] w fun e w' => e = .returned (.slice (some ⟨g, off, none⟩) n n) ∧ w = w' := by
  go_enter Tryz.func110, Tryz.ntmps110
  go_wp2
  go_ret
  exact ⟨rfl, rfl⟩
/-- Codes and that there are some, in a row that nobody else writes. -/
def GcRes (cs : List Int) (w : World) (e : Ending) (w' : World) : Prop := ∃ A, e = .returned (.tuple #[.slice A cs.length cs.length, .bool true]) ∧ Sl w' A cs.length cs.length 1 (cs.map iv) ∧ Below w.heap.size w w'
theorem Sl.clip {w : World} {A : Option Addr} {n cap k : Nat} {xs : List Value} (h : Sl w A n cap k xs) : Sl w A n n k xs := by
  obtain ⟨h1, h2, h3, h4⟩ := h
  exact ⟨Nat.le_refl _, by omega, h3, h4⟩
theorem greedy_pos (K : Kn) (t : Bs) : 0 < (K.greedy t).length := by unfold Kn.greedy; simp
set_option maxHeartbeats 1000000 in
theorem greedyCodes_yes (K : Kn) (A : Option Addr) (cap : Nat) (d : Bs) (w : World) (hk : K.ok) (hs : Sl w A K.ps.length cap 2 (psV K.ps)) (hf : fits K.o K.l K.m d) :
    Calls Tryz.prog 97 #[knV K A cap, sv d] w (GcRes (K.greedy d) w) := by
  have hd : decide (fits K.o K.l K.m d) = true := decide_eq_true hf
  have hdl : d.length ≤ 2000 := hf.2.1
  have cV : Go.RowKit.Hid (∀ wr, Below w.heap.size w wr → Calls Tryz.prog 70 #[knV K A cap] wr fun e w' => e = .returned (.bool true) ∧ Below wr.heap.size wr w') := fun wr h => iKnownValid_any K A cap wr hk (hs.below h)
  have cG : Go.RowKit.Hid (∀ wr, Below w.heap.size w wr → Calls Tryz.prog 111 #[knV K A cap, sv d] wr (GrRes (K.greedy d) wr)) := fun wr h => greedy_any K A cap d wr hk (hs.below h) (by omega) hf.2.2
  unfold GrRes at cG
  have hp := greedy_pos K d
  unfold GcRes
  generalize K.greedy d = cs at *
  clear hs hf
  go_enter Tryz.func97, Tryz.ntmps97
  go_wp2_with fail
  have hK : Bk (w.alloc (.cells (knC K A cap) 67)) w.heap.size 67 (knC K A cap) := (by (repeat (first | (with_reducible assumption) | (with_reducible exact Bk.new _ _ _) | (with_reducible refine Bk.newAt _ _ _ (by simp; done)) | (with_reducible refine Bk.drew ?_) | (with_reducible refine Bk.drewN ?_ _) | (with_reducible refine Bk.alloc ?_ _))); done)
  have g0 : Below w.heap.size w (w.alloc (.cells (knC K A cap) 67)) := (by repeat (first | (with_reducible exact Below.refl _ _) | (with_reducible assumption) | (with_reducible refine Below.drew ?_) | (with_reducible refine Below.alloc ?_ (by first | omega | (simp <;> omega)) _) | (with_reducible refine Below.setCell ?_ (by first | omega | (simp <;> omega)) _) | (with_reducible refine belowN ?_ _)))
  generalize w.alloc (.cells (knC K A cap) 67) = w0 at *
  refine (cV.out _ g0).mono ?_
  rintro e w2 ⟨rfl, hb2⟩
  have z0 := hK.lt
  have z2 := hb2.size
  have hK2 := hK.below hb2 (by omega)
  have g2 := g0.trans (hb2.mono (by omega))
  have hX := hK2.cell
  clear hK g0 hb2 cV
  go_wp2_with fail
  refine (dataFits_any _ _ _ _ _ (by omega)).mono ?_
  rintro e w3 ⟨rfl, hb3⟩
  rw [hd]
  have z3 := hb3.size
  have hK3 := hK2.below hb3 (by omega)
  have g3 := g2.trans (hb3.mono (by omega))
  clear hX hK2 g2 hb3 hd
  have hX := hK3.cell
  go_wp2_with fail
  refine (cG.out _ g3).mono ?_
  rintro e w4 ⟨A4, c4, rfl, o4, hb4⟩
  have z4 := hb4.size
  have g4 := g3.trans (hb4.mono (by omega))
  have s4 := Sl.own o4
  have hc1 := s4.1
  have hc2 := s4.2.1
  obtain ⟨g, off, rfl, hg, _⟩ := s4.2.2.2 hp
  clear cG hX hK3 g3 hb4 o4
  go_wp2_with fail
  refine (clip_any _ _ _ _ _ hc1 hc2).mono ?_
  rintro e w5 ⟨rfl, rfl⟩
  go_wp2
  go_ret2
  exact ⟨_, rfl, s4.clip, g4⟩
set_option maxHeartbeats 1000000 in
theorem greedyCodes_no (K : Kn) (A : Option Addr) (cap : Nat) (d : Bs) (w : World) (hk : K.ok) (hs : Sl w A K.ps.length cap 2 (psV K.ps)) (hf : ¬ fits K.o K.l K.m d) (hdl : d.length ≤ 9223372036854775807) :
    Calls Tryz.prog 97 #[knV K A cap, sv d] w fun e w' => e = .returned (.tuple #[.slice none 0 0, .bool false]) ∧ Below w.heap.size w w' := by
  have hd : decide (fits K.o K.l K.m d) = false := decide_eq_false hf
  have cV : Go.RowKit.Hid (∀ wr, Below w.heap.size w wr → Calls Tryz.prog 70 #[knV K A cap] wr fun e w' => e = .returned (.bool true) ∧ Below wr.heap.size wr w') := fun wr h => iKnownValid_any K A cap wr hk (hs.below h)
  clear hs hf
  go_enter Tryz.func97, Tryz.ntmps97
  go_wp2_with fail
  have hK : Bk (w.alloc (.cells (knC K A cap) 67)) w.heap.size 67 (knC K A cap) := (by (repeat (first | (with_reducible assumption) | (with_reducible exact Bk.new _ _ _) | (with_reducible refine Bk.newAt _ _ _ (by simp; done)) | (with_reducible refine Bk.drew ?_) | (with_reducible refine Bk.drewN ?_ _) | (with_reducible refine Bk.alloc ?_ _))); done)
  have g0 : Below w.heap.size w (w.alloc (.cells (knC K A cap) 67)) := (by repeat (first | (with_reducible exact Below.refl _ _) | (with_reducible assumption) | (with_reducible refine Below.drew ?_) | (with_reducible refine Below.alloc ?_ (by first | omega | (simp <;> omega)) _) | (with_reducible refine Below.setCell ?_ (by first | omega | (simp <;> omega)) _) | (with_reducible refine belowN ?_ _)))
  generalize w.alloc (.cells (knC K A cap) 67) = w0 at *
  refine (cV.out _ g0).mono ?_
  rintro e w2 ⟨rfl, hb2⟩
  have z0 := hK.lt
  have z2 := hb2.size
  have hK2 := hK.below hb2 (by omega)
  have g2 := g0.trans (hb2.mono (by omega))
  have hX := hK2.cell
  clear hK g0 hb2 cV
  go_wp2_with fail
  refine (dataFits_any _ _ _ _ _ hdl).mono ?_
  rintro e w3 ⟨rfl, hb3⟩
  rw [hd]
  have z3 := hb3.size
  have g3 := g2.trans (hb3.mono (by omega))
  clear hX hK2 g2 hb3 hd
  go_wp2
  go_ret2
  exact ⟨rfl, g3⟩
end Go.Proofs.YtfonokhafdflcaaGreat
