/- Walks: data compressed with a dictionary; blocks and containers made, by the reference. -/
import Derived.Test.YtgcjfddkgbigoaaS13
import Derived.Test.YtgcjfddkgbigoaaP1
namespace Go.Proofs.Ytgcjfddkgbigoaa
open Go.RowKit
set_option linter.unusedVariables false
set_option linter.unusedSimpArgs false
set_option maxRecDepth 100000
attribute [local go_sem high] run_index_S binOp_eql_S binOp_neq_S append_S toList_S size_S run_slice_S run_slice_from_S run_slice_to_S wrap64_byteAt wrap64_byteAt_mul bits_or_bytes convU conv1_some convU2 conv2_some
/-- Some bytes and true, or none and false. -/
def cmRes (o : Option Bs) : Ending := .returned (.tuple #[sv (o.getD []), .bool o.isSome])
def compO (K : Kn) (d : Bs) : Option Bs := if fits K.o K.l K.m d then some (K.comp d) else none
def compW (o l m : Int) (dict d : Bs) : Option Bs := compO (startW o l m dict) d
theorem startW_ok {o l m : Int} {dict : Bs} (hf : fits o l m dict) : (startW o l m dict).ok := (Kn.learn_ok (startK_ok hf.1) hf.2.2).1
set_option maxHeartbeats 1000000 in
theorem compress_any (K : Kn) (A : Option Addr) (cap : Nat) (d : Bs) (w : World) (hk : K.ok) (hs : Sl w A K.ps.length cap 2 (psV K.ps)) (hl : d.length ≤ 9223372036854775807) :
    Calls Try.prog 115 #[knV K A cap, .string ⟨d.toArray⟩] w fun e w' => e = cmRes (compO K d) ∧ Below w.heap.size w w' := by
  have cV : Go.RowKit.Hid (∀ wr, Below w.heap.size w wr → Calls Try.prog 118 #[knV K A cap] wr fun e w' => e = .returned (.bool true) ∧ Below wr.heap.size wr w') := fun wr h => knownValid_any K A cap wr hk (hs.below h)
  by_cases hf : fits K.o K.l K.m d
  · have hd : decide (fits K.o K.l K.m d) = true := decide_eq_true hf
    have cL : Go.RowKit.Hid (∀ wr, Below w.heap.size w wr → Calls Try.prog 119 #[knV K A cap, .string ⟨d.toArray⟩] wr fun e w' => e = .returned (.string ⟨(K.comp d).toArray⟩) ∧ Below wr.heap.size wr w') := fun wr h => l2Compress_any K A cap d wr hk (hs.below h) hf.2.1 hf.2.2
    have hG : Go.RowKit.Hid (cmRes (compO K d) = .returned (.tuple #[sv (K.comp d), .bool true])) := by show _ = _; unfold compO; rw [if_pos hf]; rfl
    clear hs hf
    generalize K.comp d = R at *
    generalize cmRes (compO K d) = G at *
    go_enter Try.func115, Try.ntmps115
    go_wp2_with fail
    have hK := Bk.new w (knC K A cap) 127
    have g0 : Below w.heap.size w (w.alloc (.cells (knC K A cap) 127)) := (by repeat (first | (with_reducible exact Below.refl _ _) | (with_reducible assumption) | (with_reducible refine Below.drew ?_) | (with_reducible refine Below.alloc ?_ (by first | omega | (simp <;> omega)) _) | (with_reducible refine Below.setCell ?_ (by first | omega | (simp <;> omega)) _) | (with_reducible refine belowN ?_ _)))
    refine (cV.out _ g0).mono ?_
    rintro e w2 ⟨rfl, hb2⟩
    have z0 := hK.lt
    have z2 := hb2.size
    have hK2 := hK.below hb2 (by omega)
    have g2 := g0.trans (hb2.mono (by omega))
    have hX := hK2.cell
    clear hK g0 hb2
    go_wp2_with fail
    refine (sDataFits_any _ _ _ _ _ (by omega)).mono ?_
    rintro e w3 ⟨rfl, hb3⟩
    have z3 := hb3.size
    have hK3 := hK2.below hb3 (by omega)
    have g3 := g2.trans (hb3.mono (by omega))
    clear hX
    have hX := hK3.cell
    clear hK2 g2 hb3
    go_wp2_with fail
    refine (cL.out _ g3).mono ?_
    rintro e w4 ⟨rfl, hb4⟩
    have g4 := g3.trans (hb4.mono (by omega))
    go_wp2
    go_ret2
    exact ⟨hG.out.symm, g4⟩
  · have hd : decide (fits K.o K.l K.m d) = false := decide_eq_false hf
    have hG : Go.RowKit.Hid (cmRes (compO K d) = .returned (.tuple #[sv [], .bool false])) := by show _ = _; unfold compO; rw [if_neg hf]; rfl
    clear hs hf
    generalize cmRes (compO K d) = G at *
    go_enter Try.func115, Try.ntmps115
    go_wp2_with fail
    have hK := Bk.new w (knC K A cap) 127
    have g0 : Below w.heap.size w (w.alloc (.cells (knC K A cap) 127)) := (by repeat (first | (with_reducible exact Below.refl _ _) | (with_reducible assumption) | (with_reducible refine Below.drew ?_) | (with_reducible refine Below.alloc ?_ (by first | omega | (simp <;> omega)) _) | (with_reducible refine Below.setCell ?_ (by first | omega | (simp <;> omega)) _) | (with_reducible refine belowN ?_ _)))
    refine (cV.out _ g0).mono ?_
    rintro e w2 ⟨rfl, hb2⟩
    have z0 := hK.lt
    have z2 := hb2.size
    have hK2 := hK.below hb2 (by omega)
    have g2 := g0.trans (hb2.mono (by omega))
    have hX := hK2.cell
    clear hK g0 hb2
    go_wp2_with fail
    refine (sDataFits_any _ _ _ _ _ (by omega)).mono ?_
    rintro e w3 ⟨rfl, hb3⟩
    have g3 := g2.trans (hb3.mono (by omega))
    go_wp2
    go_ret2
    exact ⟨hG.out.symm, g3⟩
set_option maxHeartbeats 1000000 in
theorem compressWith_any (o l m : Int) (dict d : Bs) (w : World) (hf : fits o l m dict) (hl : d.length ≤ 9223372036854775807) :
    Calls Try.prog 112 #[.agg #[.int .i64 o, .int .i64 l, .int .i64 m], .string ⟨dict.toArray⟩, .string ⟨d.toArray⟩] w fun e w' => e = cmRes (compW o l m dict d) ∧ Below w.heap.size w w' := by
  have cS : Go.RowKit.Hid (∀ w, Calls Try.prog 114 #[.agg #[.int .i64 o, .int .i64 l, .int .i64 m], .string ⟨dict.toArray⟩] w (KtRes (startW o l m dict) w)) := fun w => startWith_any o l m dict w hf
  have hk := startW_ok hf
  unfold compW
  generalize startW o l m dict = K at *
  obtain ⟨R, hR⟩ : ∃ R, (compO K d).getD [] = R := ⟨_, rfl⟩
  obtain ⟨b, hbb⟩ : ∃ b, (compO K d).isSome = b := ⟨_, rfl⟩
  have hG : cmRes (compO K d) = .returned (.tuple #[sv R, .bool b]) := by unfold cmRes; rw [hR, hbb]
  have cC0 : Go.RowKit.Hid (∀ A cap w, Sl w A K.ps.length cap 2 (psV K.ps) → Calls Try.prog 115 #[knV K A cap, .string ⟨d.toArray⟩] w fun e w' => e = .returned (.tuple #[sv R, .bool b]) ∧ Below w.heap.size w w') := fun A cap w hs => by rw [← hG]; exact compress_any K A cap d w hk hs hl
  rw [hG]
  clear hG hR hbb
  go_enter Try.func112, Try.ntmps112
  go_wp2_with fail
  refine (cS.out _).mono ?_
  rintro e w2 ⟨A, cap, rfl, o2, hb2⟩
  have z2 := hb2.size
  simp only [World.size_alloc] at z2
  have hK2 := Bk.new w2 (knC K A cap) 127
  have s2 := Sl.own (o2.alloc (.cells (knC K A cap) 127))
  have g0 : Below w.heap.size w (w.alloc (.cells #[.int .i64 o, .int .i64 l, .int .i64 m] 69)) := (by repeat (first | (with_reducible exact Below.refl _ _) | (with_reducible assumption) | (with_reducible refine Below.drew ?_) | (with_reducible refine Below.alloc ?_ (by first | omega | (simp <;> omega)) _) | (with_reducible refine Below.setCell ?_ (by first | omega | (simp <;> omega)) _) | (with_reducible refine belowN ?_ _)))
  have g2 := (g0.trans (hb2.mono (by simp))).alloc (by omega) (.cells (knC K A cap) 127)
  have hX := hK2.cell
  have hF := hK2.free
  have cC := cC0.out A cap _ s2
  clear g0 hb2 o2 s2 cC0
  go_wp2_with fail
  refine cC.mono ?_
  rintro e w3 ⟨rfl, hb3⟩
  have g3 := g2.trans (hb3.mono (by simp; omega))
  go_wp2
  go_ret2
  exact ⟨rfl, g3⟩
/-- The block of data. -/
def blkW (o l m : Int) (dict : Bs) (n : Int) (d : Bs) : Blk := match compW o l m dict d with
  | some s => if s.length < d.length then ⟨n, false, d.length, s⟩ else ⟨n, true, d.length, d⟩
  | none => ⟨n, true, d.length, d⟩
theorem blkW_sm (o l m : Int) (dict : Bs) (n : Int) (d : Bs) (h0 : 0 ≤ n) (h1 : n ≤ 65535) (hd : d.length ≤ 65535) : (blkW o l m dict n d).sm := by
  unfold blkW Blk.sm
  split
  · split <;> simp only <;> omega
  · simp only; omega
theorem blkW_len (o l m : Int) (dict : Bs) (n : Int) (d : Bs) : (blkW o l m dict n d).text.length ≤ 10 + d.length := by
  rw [Blk.text_len]
  unfold blkW
  split
  · split <;> simp only <;> omega
  · simp only; omega
set_option maxHeartbeats 1000000 in
theorem l5Block_any (o l m : Int) (dict : Bs) (n : Int) (d : Bs) (w : World) (hf : fits o l m dict) (hl : d.length ≤ 9223372036854775807) :
    Calls Try.prog 106 #[.agg #[.int .i64 o, .int .i64 l, .int .i64 m], .string ⟨dict.toArray⟩, .int .i64 n, .string ⟨d.toArray⟩] w fun e w' => e = .returned (bkV (blkW o l m dict n d)) ∧ Below w.heap.size w w' := by
  have cC : Go.RowKit.Hid (∀ w, Calls Try.prog 112 #[.agg #[.int .i64 o, .int .i64 l, .int .i64 m], .string ⟨dict.toArray⟩, .string ⟨d.toArray⟩] w fun e w' => e = cmRes (compW o l m dict d) ∧ Below w.heap.size w w') := fun w => compressWith_any o l m dict d w hf hl
  unfold blkW
  clear hf
  generalize compW o l m dict d = O at *
  go_enter Try.func106, Try.ntmps106
  go_wp2_with fail
  have hI : Bk ((w.alloc (.cells #[.int .i64 o, .int .i64 l, .int .i64 m] 69)).alloc (.cells bkZC 32)) (w.heap.size + 1) 32 bkZC := (by (repeat (first | (with_reducible assumption) | (with_reducible exact Bk.new _ _ _) | (with_reducible refine Bk.newAt _ _ _ (by simp; done)) | (with_reducible refine Bk.drew ?_) | (with_reducible refine Bk.drewN ?_ _) | (with_reducible refine Bk.alloc ?_ _))); done)
  have g0 : Below w.heap.size w ((w.alloc (.cells #[.int .i64 o, .int .i64 l, .int .i64 m] 69)).alloc (.cells bkZC 32)) := (by repeat (first | (with_reducible exact Below.refl _ _) | (with_reducible assumption) | (with_reducible refine Below.drew ?_) | (with_reducible refine Below.alloc ?_ (by first | omega | (simp <;> omega)) _) | (with_reducible refine Below.setCell ?_ (by first | omega | (simp <;> omega)) _) | (with_reducible refine belowN ?_ _)))
  refine (cC.out _).mono ?_
  generalize (w.alloc (.cells #[.int .i64 o, .int .i64 l, .int .i64 m] 69)).alloc (.cells bkZC 32) = w0 at *
  rintro e w2 ⟨rfl, hb2⟩
  have z0 := hI.lt
  have hI2 := hI.below hb2 (by omega)
  have g2 := g0.trans (hb2.mono (by omega))
  have hX := hI2.cell
  have hF := hI2.free
  clear cC hb2 hI g0
  cases O with
  | none =>
    unfold cmRes
    go_wp2
    have Q := ((((hI2.set 0 (.int .i64 n)).set 1 (.bool true)).set 2 (.int .i64 (d.length : Int))).set 3 (.string ⟨d.toArray⟩)).cell
    exact bodyPost_ret (v := bkV ⟨n, true, d.length, d⟩) (by simp [results, Try.results106, go_sem, Q]) rfl ⟨rfl, (by repeat (first | (with_reducible exact Below.refl _ _) | (with_reducible assumption) | (with_reducible refine Below.drew ?_) | (with_reducible refine Below.alloc ?_ (by first | omega | (simp <;> omega)) _) | (with_reducible refine Below.setCell ?_ (by first | omega | (simp <;> omega)) _) | (with_reducible refine belowN ?_ _)))⟩
  | some s =>
    unfold cmRes
    by_cases hc : s.length < d.length
    · have hc' : (s.length : Int) < d.length := by omega
      simp only [if_pos hc]
      go_wp2
      have Q := ((((hI2.set 0 (.int .i64 n)).set 1 (.bool false)).set 2 (.int .i64 (d.length : Int))).set 3 (.string ⟨s.toArray⟩)).cell
      exact bodyPost_ret (v := bkV ⟨n, false, d.length, s⟩) (by simp [results, Try.results106, go_sem, Q]) rfl ⟨rfl, (by repeat (first | (with_reducible exact Below.refl _ _) | (with_reducible assumption) | (with_reducible refine Below.drew ?_) | (with_reducible refine Below.alloc ?_ (by first | omega | (simp <;> omega)) _) | (with_reducible refine Below.setCell ?_ (by first | omega | (simp <;> omega)) _) | (with_reducible refine belowN ?_ _)))⟩
    · have hc' : ¬ (s.length : Int) < d.length := by omega
      simp only [if_neg hc]
      go_wp2
      have Q := ((((hI2.set 0 (.int .i64 n)).set 1 (.bool true)).set 2 (.int .i64 (d.length : Int))).set 3 (.string ⟨d.toArray⟩)).cell
      exact bodyPost_ret (v := bkV ⟨n, true, d.length, d⟩) (by simp [results, Try.results106, go_sem, Q]) rfl ⟨rfl, (by repeat (first | (with_reducible exact Below.refl _ _) | (with_reducible assumption) | (with_reducible refine Below.drew ?_) | (with_reducible refine Below.alloc ?_ (by first | omega | (simp <;> omega)) _) | (with_reducible refine Below.setCell ?_ (by first | omega | (simp <;> omega)) _) | (with_reducible refine belowN ?_ _)))⟩
end Go.Proofs.Ytgcjfddkgbigoaa
