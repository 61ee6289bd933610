/- The law of operations and their texts. -/
import Derived.Test.YtkoefklgfkhmpaaDoorD6
import Derived.Test.YtkoefklgfkhmpaaDoorW17
import Derived.Laws.StructEq
namespace Go.Proofs.YtkoefklgfkhmpaaDoor
open Go.RowKit
set_option linter.unusedVariables false
set_option linter.unusedSimpArgs false
set_option maxRecDepth 100000
attribute [local go_sem high] run_index_S binOp_eql_S binOp_neq_S append_S toList_S size_S run_slice_S run_slice_from_S run_slice_to_S wrap64_byteAt wrap64_byteAt_mul bits_or_bytes convU conv1_some convU2 conv2_some
theorem parse_fmt {x : OpR} (h : x.ok) : parseOpR x.fmt = some x := by
  unfold parseOpR
  rw [OpR.fmt_join h, cut_join 32 _ x.parts_ne (OpR.nosp h), OpR.implB h]
  simp [h]
theorem parse_is {t : Bs} {x : OpR} (h : parseOpR t = some x) : x.ok ∧ x.fmt = t := by
  unfold parseOpR at h
  cases hi : implCand (cut 32 t) with
  | none => rw [hi] at h; cases h
  | some y =>
    rw [hi] at h
    simp only at h
    split at h
    · rename_i hy
      injection h with h
      subst h
      exact ⟨hy, by rw [OpR.fmt_join hy, implC hi, join_cut]⟩
    · cases h
theorem fmt_ne {x : OpR} (h : x.ok) : x.fmt ≠ [] := by
  rw [OpR.fmt_join h]
  unfold OpR.parts
  split
  · simp [join]
  · split
    · simp [join]
    · split
      · simp [join]
      · split <;> simp [join]
theorem stood_Op : Tryd.prog.stoodInHeld 24 = false := by kernel_rfl
theorem guard_Op : Tryd.prog.eqGuardType Tryd.prog.depth 24 = false := by kernel_rfl
set_option maxHeartbeats 8000000 in
theorem law_OpText (A0 : Option Addr) (c0 : Nat) (bs0 : Bs) (A1 : Option Addr) (c1 : Nat) (bs1 : Bs) (w : World) (m : Int) (hm : w.cell? ⟨1, 0, none⟩ = some (.int .i64 m)) (B : Nat) (hB : B ≤ w.heap.size) (hT : HasTab B w) (hE : ErrVars w)
    (hs0 : Sl w A0 bs0.length c0 1 (bs0.map u8v)) (hs1 : Sl w A1 bs1.length c1 1 (bs1.map u8v)) :
    Calls Tryd.prog 4 #[.slice A0 bs0.length c0, .slice A1 bs1.length c1] w fun e w' => e = .returned (.bool true) ∧ Below w.heap.size w w' := by
  have h0 := lt_of_cell hm
  have HT := Go.Lib.hid hT
  have hst := stood_Op
  have hgd := guard_Op
  clear hT
  go_enter Tryd.func4, Tryd.ntmps4
  by_cases hl0 : 1048576 < bs0.length
  · have hli : (1048576 : Int) < bs0.length := by omega
    go_wp2
    go_ret
    exact ⟨rfl, Below.refl _ _⟩
  have hli0 : ¬ (1048576 : Int) < bs0.length := by omega
  by_cases hl1 : 1048576 < bs1.length
  · have hli : (1048576 : Int) < bs1.length := by omega
    go_wp2
    go_ret
    exact ⟨rfl, Below.refl _ _⟩
  have hli1 : ¬ (1048576 : Int) < bs1.length := by omega
  clear hl0 hl1
  go_wp2_with fail
  refine (drawFormatOp_any bs0 A0 c0 _ hs0).mono ?_
  rintro e w1 ⟨⟨x, rfl, hx⟩, g1⟩
  obtain ⟨k, f, t, s, nm, d⟩ := x
  have z1 := g1.size
  have hnm : nm.length ≤ 9223372036854775807 := Nat.le_trans hx.1 (by omega)
  have hdd : d.length ≤ 9223372036854775807 := Nat.le_trans hx.2 (by omega)
  have hfl := fmtOp_len k nm f t s d
  have hP : opOk k nm f t s d → parseOpR (fmtOp k nm f t s d) = some ⟨k, f, t, s, nm, d⟩ := fun h => parse_fmt (x := ⟨k, f, t, s, nm, d⟩) h
  have hN : opOk k nm f t s d → fmtOp k nm f t s d ≠ [] := fun h => fmt_ne (x := ⟨k, f, t, s, nm, d⟩) h
  have hZ : ¬ opOk k nm f t s d → fmtOp k nm f t s d = [] := fun h => fmt_nil (x := ⟨k, f, t, s, nm, d⟩) h
  have HP := Go.Lib.hid hP
  have HN := Go.Lib.hid hN
  have HZ := Go.Lib.hid hZ
  clear hP hN hZ hx
  have K1 := Bk.new w1 (⟨k, f, t, s, nm, d⟩ : OpR).cells 24
  have g1' : Below w.heap.size w (w1.alloc (.cells (⟨k, f, t, s, nm, d⟩ : OpR).cells 24)) := (by repeat (first | (with_reducible exact Below.refl _ _) | (with_reducible assumption) | (with_reducible refine Below.drew ?_) | (with_reducible refine Below.alloc ?_ (by first | omega | (simp <;> omega)) _) | (with_reducible refine Below.setCell ?_ (by first | omega | (simp <;> omega)) _) | (with_reducible refine belowN ?_ _)))
  go_wp2_with fail
  refine (formatOp_any k f t s nm d _ B (by simp; omega) (Lib.TabBelow.on HT.out (g1'.mono hB)) hnm hdd).mono ?_
  rintro e w2 ⟨rfl, hb2⟩
  have z2 := hb2.size
  simp only [World.size_alloc] at z2
  have K2 := K1.below hb2 K1.lt
  have g2 := g1'.trans (hb2.mono (by simp; omega))
  have X2 := K2.cell
  clear hb2 K1 g1'
  go_wp2_with fail
  refine (sFormatOp_any k f t s nm d _ hnm hdd).mono ?_
  rintro e w3 ⟨rfl, hb3⟩
  have z3 := hb3.size
  have K3 := K2.below hb3 K2.lt
  have g3 := g2.trans (hb3.mono (by omega))
  have X3 := K3.cell
  clear hb3 K2 g2 X2
  have hself : decide (fmtOp k nm f t s d ≠ fmtOp k nm f t s d) = false := by simp
  go_wp2_with fail
  refine (opValid_any k f t s nm d _ hnm hdd).mono ?_
  rintro e w4 ⟨rfl, hb4⟩
  have z4 := hb4.size
  have K4 := K3.below hb4 K3.lt
  have g4 := g3.trans (hb4.mono (by omega))
  have X4 := K4.cell
  clear hb4 K3 g3 X3
  have hs14 := hs1.below g4
  by_cases hok : opOk k nm f t s d
  · rw [decide_eq_true hok]
    have hne : decide (fmtOp k nm f t s d = []) = false := by simpa using HN.out hok
    have HP2 := Go.Lib.hid (HP.out hok)
    clear hok HP HN HZ
    generalize fmtOp k nm f t s d = FT at *
    go_wp2_with fail
    refine (parseOp_any FT m w4 B (by omega) (Lib.TabBelow.on HT.out (g4.mono hB)) (hE.on g4) ((g4.cell (p := ⟨1, 0, none⟩) h0).trans hm) (by omega)).mono ?_
    rintro e w5 ⟨rfl, hb5⟩
    rw [HP2.out]
    simp only [opRes, Option.getD_some, Option.isSome_some]
    have z5 := hb5.size
    have K5 := K4.below hb5 K4.lt
    have g5 := g4.trans (hb5.mono (by omega))
    have K5' := K5.alloc (.cells (⟨k, f, t, s, nm, d⟩ : OpR).cells 24)
    have g5' : Below w.heap.size w (w5.alloc (.cells (⟨k, f, t, s, nm, d⟩ : OpR).cells 24)) := (by repeat (first | (with_reducible exact Below.refl _ _) | (with_reducible assumption) | (with_reducible refine Below.drew ?_) | (with_reducible refine Below.alloc ?_ (by first | omega | (simp <;> omega)) _) | (with_reducible refine Below.setCell ?_ (by first | omega | (simp <;> omega)) _) | (with_reducible refine belowN ?_ _)))
    have X5 := K5'.cell
    simp only [OpR.cells] at X5
    clear hb5 K4 X4 K5 g4
    go_wp2_with fail
    refine (drawParseOp_any bs1 A1 c1 _ (hs1.below g5')).mono ?_
    rintro e w6 ⟨⟨u, rfl, hu⟩, hb6⟩
    have z6 := hb6.size
    try simp only [World.size_alloc] at z6
    have g6 := g5'.trans (hb6.mono (by first | omega | (simp; omega)))
    clear hb6
    have cI := fun w hB hT hE hm => parseOp_any u m w B hB hT hE hm (by omega)
    have cS := fun w => sParseOp_any u w (by omega)
    have hY : (parseOpR u).isSome = true → ((parseOpR u).getD opZ).ok ∧ ((parseOpR u).getD opZ).fmt = u := by
      intro h
      obtain ⟨y, hy⟩ := Option.isSome_iff_exists.1 h
      rw [hy]
      exact parse_is hy
    unfold opRes at cI cS
    generalize (parseOpR u).getD opZ = y at *
    generalize (parseOpR u).isSome = ob at *
    obtain ⟨k2, f2, t2, s2, nm2, d2⟩ := y
    have HY := Go.Lib.hid hY
    clear hY
    go_wp2_with fail
    refine (cI w6 (by omega) (Lib.TabBelow.on HT.out (g6.mono hB)) (hE.on g6) ((g6.cell (p := ⟨1, 0, none⟩) h0).trans hm)).mono ?_
    rintro e w7 ⟨rfl, hb7⟩
    have z7 := hb7.size
    have g7 := g6.trans (hb7.mono (by omega))
    clear hb7 g6
    have K8 := Bk.new w7 (⟨k2, f2, t2, s2, nm2, d2⟩ : OpR).cells 24
    have g8 : Below w.heap.size w (w7.alloc (.cells (⟨k2, f2, t2, s2, nm2, d2⟩ : OpR).cells 24)) := (by repeat (first | (with_reducible exact Below.refl _ _) | (with_reducible assumption) | (with_reducible refine Below.drew ?_) | (with_reducible refine Below.alloc ?_ (by first | omega | (simp <;> omega)) _) | (with_reducible refine Below.setCell ?_ (by first | omega | (simp <;> omega)) _) | (with_reducible refine belowN ?_ _)))
    go_wp2_with fail
    refine (cS _).mono ?_
    rintro e w9 ⟨rfl, hb9⟩
    have z9 := hb9.size
    simp only [World.size_alloc] at z9
    have K9 := K8.below hb9 K8.lt
    have g9 := g8.trans (hb9.mono (by simp; omega))
    have K9' := K9.alloc (.cells (⟨k2, f2, t2, s2, nm2, d2⟩ : OpR).cells 24)
    have g9' : Below w.heap.size w (w9.alloc (.cells (⟨k2, f2, t2, s2, nm2, d2⟩ : OpR).cells 24)) := (by repeat (first | (with_reducible exact Below.refl _ _) | (with_reducible assumption) | (with_reducible refine Below.drew ?_) | (with_reducible refine Below.alloc ?_ (by first | omega | (simp <;> omega)) _) | (with_reducible refine Below.setCell ?_ (by first | omega | (simp <;> omega)) _) | (with_reducible refine belowN ?_ _)))
    have X9 := K9'.cell
    simp only [OpR.cells] at X9
    clear hb9 g8 K8 K9 cI cS
    cases ob with
    | false =>
      go_wp2
      go_ret
      exact ⟨rfl, g9'⟩
    | true =>
      have hy := HY.out rfl
      have hy1 : opOk k2 nm2 f2 t2 s2 d2 := hy.1
      have hy2 : fmtOp k2 nm2 f2 t2 s2 d2 = u := hy.2
      have hn2 := nameV_len hy1.1
      have hd2 := hy1.2.1
      have cF := fun w hB hT => formatOp_any k2 f2 t2 s2 nm2 d2 w B hB hT (by omega) (by omega)
      rw [hy2] at cF
      clear hy hy1 hy2 HY
      go_wp2_with fail
      refine (cF _ (by simp; omega) (Lib.TabBelow.on HT.out (g9'.mono hB))).mono ?_
      rintro e w10 ⟨rfl, hb10⟩
      have g10 := g9'.trans (hb10.mono (by simp; omega))
      have hself2 : decide (u = u) = true := by simp
      go_wp2
      go_ret
      exact ⟨rfl, g10⟩
  · have hZ2 := HZ.out hok
    rw [decide_eq_false hok]
    rw [hZ2]
    clear hok HP HN HZ hZ2
    go_wp2_with fail
    refine (drawParseOp_any bs1 A1 c1 _ (hs1.below g4)).mono ?_
    rintro e w6 ⟨⟨u, rfl, hu⟩, hb6⟩
    have z6 := hb6.size
    try simp only [World.size_alloc] at z6
    have g6 := g4.trans (hb6.mono (by first | omega | (simp; omega)))
    clear hb6
    have cI := fun w hB hT hE hm => parseOp_any u m w B hB hT hE hm (by omega)
    have cS := fun w => sParseOp_any u w (by omega)
    have hY : (parseOpR u).isSome = true → ((parseOpR u).getD opZ).ok ∧ ((parseOpR u).getD opZ).fmt = u := by
      intro h
      obtain ⟨y, hy⟩ := Option.isSome_iff_exists.1 h
      rw [hy]
      exact parse_is hy
    unfold opRes at cI cS
    generalize (parseOpR u).getD opZ = y at *
    generalize (parseOpR u).isSome = ob at *
    obtain ⟨k2, f2, t2, s2, nm2, d2⟩ := y
    have HY := Go.Lib.hid hY
    clear hY
    go_wp2_with fail
    refine (cI w6 (by omega) (Lib.TabBelow.on HT.out (g6.mono hB)) (hE.on g6) ((g6.cell (p := ⟨1, 0, none⟩) h0).trans hm)).mono ?_
    rintro e w7 ⟨rfl, hb7⟩
    have z7 := hb7.size
    have g7 := g6.trans (hb7.mono (by omega))
    clear hb7 g6
    have K8 := Bk.new w7 (⟨k2, f2, t2, s2, nm2, d2⟩ : OpR).cells 24
    have g8 : Below w.heap.size w (w7.alloc (.cells (⟨k2, f2, t2, s2, nm2, d2⟩ : OpR).cells 24)) := (by repeat (first | (with_reducible exact Below.refl _ _) | (with_reducible assumption) | (with_reducible refine Below.drew ?_) | (with_reducible refine Below.alloc ?_ (by first | omega | (simp <;> omega)) _) | (with_reducible refine Below.setCell ?_ (by first | omega | (simp <;> omega)) _) | (with_reducible refine belowN ?_ _)))
    go_wp2_with fail
    refine (cS _).mono ?_
    rintro e w9 ⟨rfl, hb9⟩
    have z9 := hb9.size
    simp only [World.size_alloc] at z9
    have K9 := K8.below hb9 K8.lt
    have g9 := g8.trans (hb9.mono (by simp; omega))
    have K9' := K9.alloc (.cells (⟨k2, f2, t2, s2, nm2, d2⟩ : OpR).cells 24)
    have g9' : Below w.heap.size w (w9.alloc (.cells (⟨k2, f2, t2, s2, nm2, d2⟩ : OpR).cells 24)) := (by repeat (first | (with_reducible exact Below.refl _ _) | (with_reducible assumption) | (with_reducible refine Below.drew ?_) | (with_reducible refine Below.alloc ?_ (by first | omega | (simp <;> omega)) _) | (with_reducible refine Below.setCell ?_ (by first | omega | (simp <;> omega)) _) | (with_reducible refine belowN ?_ _)))
    have X9 := K9'.cell
    simp only [OpR.cells] at X9
    clear hb9 g8 K8 K9 cI cS
    cases ob with
    | false =>
      go_wp2
      go_ret
      exact ⟨rfl, g9'⟩
    | true =>
      have hy := HY.out rfl
      have hy1 : opOk k2 nm2 f2 t2 s2 d2 := hy.1
      have hy2 : fmtOp k2 nm2 f2 t2 s2 d2 = u := hy.2
      have hn2 := nameV_len hy1.1
      have hd2 := hy1.2.1
      have cF := fun w hB hT => formatOp_any k2 f2 t2 s2 nm2 d2 w B hB hT (by omega) (by omega)
      rw [hy2] at cF
      clear hy hy1 hy2 HY
      go_wp2_with fail
      refine (cF _ (by simp; omega) (Lib.TabBelow.on HT.out (g9'.mono hB))).mono ?_
      rintro e w10 ⟨rfl, hb10⟩
      have g10 := g9'.trans (hb10.mono (by simp; omega))
      have hself2 : decide (u = u) = true := by simp
      go_wp2
      go_ret
      exact ⟨rfl, g10⟩
end Go.Proofs.YtkoefklgfkhmpaaDoor
