/- The law of operations and their records. -/
import Derived.Test.YtkoefklgfkhmpaaDoorL1
import Derived.Test.YtkoefklgfkhmpaaDoorW19
namespace Go.Proofs.YtkoefklgfkhmpaaDoor
open Go.RowKit
set_option linter.unusedVariables false
set_option linter.unusedSimpArgs false
set_option maxRecDepth 100000
attribute [local go_sem high] run_index_S binOp_eql_S binOp_neq_S append_S toList_S size_S run_slice_S run_slice_from_S run_slice_to_S wrap64_byteAt wrap64_byteAt_mul bits_or_bytes convU conv1_some convU2 conv2_some
theorem numAt_two {L : Bs} {a : Nat} {n : Int} (h0 : 0 ≤ n) (h1 : n < 65536) (h : (L.drop a).take 2 = two n) (ha : a + 1 < L.length) : numAt L a = n := by
  have hb := numAt_bd L a
  exact two_inj (by omega) (by omega) h0 h1 ((two_bytes L a ha).trans h)
theorem rec_len (T : Bs) : (recOf T).length = T.length + 4 := by unfold recOf; simp [two_len]; omega
/-- A record is read, whatever stands before and behind it. -/
theorem rec_read {T b : Bs} {x : OpR} (hT : T.length ≤ 9000) (hx : parseOpR T = some x) : readOpR (b ++ recOf T ++ b) b.length = some (x, (b.length : Int) + (recOf T).length) := by
  have hl := rec_len T
  have hL : (b ++ recOf T ++ b).length = b.length + (T.length + 4) + b.length := by simp [hl]; omega
  have hd : (b ++ recOf T ++ b).drop b.length = recOf T ++ b := by simp
  have h2 : ((b ++ recOf T ++ b).drop b.length).take 2 = two (T.length : Int) := by
    rw [hd]
    unfold recOf
    rw [List.append_assoc, List.append_assoc, List.take_append_of_le_length (by rw [two_len]; omega), List.take_of_length_le (by rw [two_len]; omega)]
  have hn := numAt_two (L := b ++ recOf T ++ b) (a := b.length) (n := (T.length : Int)) (by omega) (by omega) h2 (by omega)
  have hdr : (b ++ recOf T ++ b).drop (b.length + 2) = T ++ (two (sumOf T) ++ b) := by
    rw [← List.drop_drop, hd]
    unfold recOf
    rw [List.append_assoc, List.append_assoc, List.drop_append_of_le_length (by rw [two_len]; omega), List.drop_of_length_le (by rw [two_len]; omega)]
    simp
  have hr : recT (b ++ recOf T ++ b) b.length = T := by
    unfold recT
    rw [hn, hdr]
    simp
  have h3 : ((b ++ recOf T ++ b).drop (b.length + 2 + T.length)).take 2 = two (sumOf T) := by
    rw [← List.drop_drop, hdr, List.drop_left, List.take_append_of_le_length (by rw [two_len]; omega), List.take_of_length_le (by rw [two_len]; omega)]
  have hsb := sumOf_bd T
  have hs := numAt_two (L := b ++ recOf T ++ b) (a := b.length + 2 + T.length) (n := sumOf T) hsb.1 hsb.2 h3 (by omega)
  have e3 : ((b.length + 2 + T.length : Nat) : Int) = (b.length : Int) + 2 + T.length := by omega
  rw [e3] at hs
  unfold readOpR
  rw [Int.toNat_natCast, hn, hr, hx, if_pos ⟨by omega, by omega, by omega⟩]
  simp only
  rw [if_pos hs.symm, hl]
  congr 2
  omega
/-- Without its last byte a record is not read. -/
theorem rec_short {T : Bs} (hT : T.length ≤ 9000) : readOpR ((recOf T).take ((recOf T).length - 1)) 0 = none := by
  have hl := rec_len T
  have hL : ((recOf T).take ((recOf T).length - 1)).length = T.length + 3 := by simp [hl]
  have h2 : (((recOf T).take ((recOf T).length - 1)).drop 0).take 2 = two (T.length : Int) := by
    rw [List.drop_zero, List.take_take, show min 2 ((recOf T).length - 1) = 2 by omega]
    unfold recOf
    rw [List.append_assoc, List.take_append_of_le_length (by rw [two_len]; omega), List.take_of_length_le (by rw [two_len]; omega)]
  have hn := numAt_two (a := 0) (n := (T.length : Int)) (by omega) (by omega) h2 (by omega)
  have hn' : numAt ((recOf T).take ((recOf T).length - 1)) 0 = T.length := hn
  unfold readOpR
  rw [hn', if_neg (by rw [hL]; omega)]
theorem soMany_any (n : Nat) (w : World) (hn : n ≤ 1000) :
    Calls Tryd.prog 9 #[.string ⟨[120].toArray⟩, .int .i64 (n : Int)] w fun e w' => (∃ b : Bs, e = .returned (sv b) ∧ b.length = n) ∧ w = w' := by
  go_enter Tryd.func9, Tryd.ntmps9
  go_wp2
  go_loop [5, 6] (fun a b => ∃ (k : Nat) (o : Bs), k ≤ n ∧ b = .int .i64 (k : Int) ∧ a = .string ⟨o.toArray⟩ ∧ Go.RowKit.Hid (o.length = k)) (fun _ b => n - (intOf b).toNat)
  case atStart => exact ⟨0, [], by omega, rfl, rfl, rfl⟩
  case round =>
    obtain ⟨k, o, hk, rfl, rfl, ho⟩ := hrel
    have hol : o.length ≤ 1000 := by have := ho.out; omega
    by_cases hlt : k < n
    · have hi : (k : Int) < n := by omega
      go_wp2
      go_round
      case rel => exact ⟨k + 1, o ++ [120], by omega, by go_num, by simp, by show _ = _; have := ho.out; simp; omega⟩
      case measure => simp [intOf]; omega
    · have hi : ¬ (k : Int) < n := by omega
      go_wp2
      go_ret
      exact ⟨⟨o, rfl, by have := ho.out; omega⟩, rfl⟩
set_option maxHeartbeats 8000000 in
theorem law_Record (A0 : Option Addr) (c0 : Nat) (bs0 : Bs) (A1 : Option Addr) (c1 : Nat) (bs1 : Bs) (w : World) (m : Int) (hm : w.cell? ⟨1, 0, none⟩ = some (.int .i64 m)) (B : Nat) (hB : B ≤ w.heap.size) (hT : HasTab B w) (hE : ErrVars w)
    (hs0 : Sl w A0 bs0.length c0 1 (bs0.map u8v)) (hs1 : Sl w A1 bs1.length c1 1 (bs1.map u8v)) :
    Calls Tryd.prog 3 #[.slice A0 bs0.length c0, .slice A1 bs1.length c1] w fun e w' => e = .returned (.bool true) ∧ Below w.heap.size w w' := by
  have h0 := lt_of_cell hm
  have HT := Go.Lib.hid hT
  have hst := stood_Op
  have hgd := guard_Op
  clear hT
  go_enter Tryd.func3, Tryd.ntmps3
  by_cases hl0 : 1048576 < bs0.length
  · have hli : (1048576 : Int) < bs0.length := by omega
    go_wp2
    go_ret
    exact ⟨rfl, Below.refl _ _⟩
  have hli0 : ¬ (1048576 : Int) < bs0.length := by omega
  by_cases hl1 : 1048576 < bs1.length
  · have hli : (1048576 : Int) < bs1.length := by omega
    go_wp2
    go_ret
    exact ⟨rfl, Below.refl _ _⟩
  have hli1 : ¬ (1048576 : Int) < bs1.length := by omega
  obtain ⟨q, hq, hq8⟩ : ∃ q : Nat, (bs1.length : Int) % 9 = (q : Int) ∧ q ≤ 8 := ⟨bs1.length % 9, by simp, by omega⟩
  clear hl0 hl1
  go_wp2_with fail
  refine (drawLogRecord_any bs0 A0 c0 _ hs0).mono ?_
  rintro e w1 ⟨⟨x, rfl, hx⟩, g1⟩
  obtain ⟨k, f, t, s, nm, d⟩ := x
  have z1 := g1.size
  have hnm : nm.length ≤ 9223372036854775807 := Nat.le_trans hx.1 (by omega)
  have hdd : d.length ≤ 9223372036854775807 := Nat.le_trans hx.2 (by omega)
  have hfl := fmtOp_len k nm f t s d
  clear hx
  have K1 := Bk.new w1 (⟨k, f, t, s, nm, d⟩ : OpR).cells 24
  have g1' : Below w.heap.size w (w1.alloc (.cells (⟨k, f, t, s, nm, d⟩ : OpR).cells 24)) := (by repeat (first | (with_reducible exact Below.refl _ _) | (with_reducible assumption) | (with_reducible refine Below.drew ?_) | (with_reducible refine Below.alloc ?_ (by first | omega | (simp <;> omega)) _) | (with_reducible refine Below.setCell ?_ (by first | omega | (simp <;> omega)) _) | (with_reducible refine belowN ?_ _)))
  have cI := fun w hB hT => logRecord_any k f t s nm d w B hB hT hnm hdd
  have cS := fun w => sLogRecord_any k f t s nm d w hnm hdd
  by_cases hok : opOk k nm f t s d
  · have hP : parseOpR (fmtOp k nm f t s d) = some ⟨k, f, t, s, nm, d⟩ := parse_fmt (x := ⟨k, f, t, s, nm, d⟩) hok
    have HRd : Go.RowKit.Hid (∀ b : Bs, readOpR (b ++ recOf (fmtOp k nm f t s d) ++ b) b.length = some (⟨k, f, t, s, nm, d⟩, (b.length : Int) + (recOf (fmtOp k nm f t s d)).length)) := fun b => rec_read hfl hP
    have HSh := Go.Lib.hid (rec_short hfl)
    have HRL := Go.Lib.hid (rec_len (fmtOp k nm f t s d))
    have eR : logRec k nm f t s d = .tuple #[.string ⟨(recOf (fmtOp k nm f t s d)).toArray⟩, .bool true] := by unfold logRec; rw [if_pos hok]
    rw [eR] at cI cS
    have cV := fun w => opValid_any k f t s nm d w hnm hdd
    rw [decide_eq_true hok] at cV
    have cF := fun w hB hT => formatOp_any k f t s nm d w B hB hT hnm hdd
    have hR0 : (recOf (fmtOp k nm f t s d)).length ≤ 9004 := by have := HRL.out; omega
    have hR1 : 4 ≤ (recOf (fmtOp k nm f t s d)).length := by have := HRL.out; omega
    have hR2 : (((recOf (fmtOp k nm f t s d)).length : Int) == ((fmtOp k nm f t s d).length : Int) + 4) = true := by
      rw [beq_iff_eq]; have := HRL.out; omega
    clear hP eR hok
    generalize recOf (fmtOp k nm f t s d) = R at *
    generalize fmtOp k nm f t s d = FT at *
    go_wp2_with fail
    refine (cI _ (by simp; omega) (Lib.TabBelow.on HT.out (g1'.mono hB))).mono ?_
    rintro e w2 ⟨rfl, hb2⟩
    have z2 := hb2.size
    simp only [World.size_alloc] at z2
    have K2 := K1.below hb2 K1.lt
    have g2 := g1'.trans (hb2.mono (by simp; omega))
    have X2 := K2.cell
    clear hb2 K1 g1' cI
    go_wp2_with fail
    refine (cS _).mono ?_
    rintro e w3 ⟨rfl, hb3⟩
    have z3 := hb3.size
    have K3 := K2.below hb3 K2.lt
    have g3 := g2.trans (hb3.mono (by omega))
    have X3 := K3.cell
    clear hb3 K2 g2 X2 cS
    have hself : decide (R = R) = true := by simp
    go_wp2_with fail
    refine (cV _).mono ?_
    rintro e w4 ⟨rfl, hb4⟩
    have z4 := hb4.size
    have K4 := K3.below hb4 K3.lt
    have g4 := g3.trans (hb4.mono (by omega))
    have X4 := K4.cell
    clear hb4 K3 g3 X3 cV
    go_wp2_with fail
    refine (soMany_any q _ (by omega)).mono ?_
    rintro e w5 ⟨⟨b, rfl, hb⟩, rfl⟩
    have hb8 : b.length ≤ 8 := by omega
    have hRdb := HRd.out b
    have cRd := fun w hB hT hE hm => readRecord_any (b ++ R ++ b) b.length m w B hB hT hE hm (by simp; omega) (by omega) (by omega)
    rw [hRdb, rdRes_some, List.append_assoc] at cRd
    have cSh := fun w hB hT hE hm => readRecord_any (R.take (R.length - 1)) 0 m w B hB hT hE hm (by simp; omega) (by omega) (by omega)
    rw [HSh.out, rdRes_none] at cSh
    have hsub : (R.length : Int) - 1 = ((R.length - 1 : Nat) : Int) := by omega
    have hsub0 : 0 ≤ (R.length : Int) - 1 := by omega
    have hsx : (⟨R.toArray⟩ : ByteArray).extract 0 (R.length - 1) = ⟨(R.take (R.length - 1)).toArray⟩ := by rw [ByteArray.extract_mk]; simp
    clear hRdb HRd hb
    go_wp2_with fail
    refine (cRd w4 (by omega) (Lib.TabBelow.on HT.out (g4.mono hB)) (hE.on g4) ((g4.cell (p := ⟨1, 0, none⟩) h0).trans hm)).mono ?_
    rintro e w6 ⟨rfl, hb6⟩
    have z6 := hb6.size
    have K6 := (K4.below hb6 K4.lt).alloc (.cells (⟨k, f, t, s, nm, d⟩ : OpR).cells 24)
    have K11 := Bk.new w6 (⟨k, f, t, s, nm, d⟩ : OpR).cells 24
    have g6a := g4.trans (hb6.mono (by omega))
    have g6 : Below w.heap.size w (w6.alloc (.cells (⟨k, f, t, s, nm, d⟩ : OpR).cells 24)) := (by repeat (first | (with_reducible exact Below.refl _ _) | (with_reducible assumption) | (with_reducible refine Below.drew ?_) | (with_reducible refine Below.alloc ?_ (by first | omega | (simp <;> omega)) _) | (with_reducible refine Below.setCell ?_ (by first | omega | (simp <;> omega)) _) | (with_reducible refine belowN ?_ _)))
    clear hb6 K4 X4 cRd g4 g6a
    go_wp2_with fail
    refine (cSh _ (by simp; omega) (Lib.TabBelow.on HT.out (g6.mono hB)) (hE.on g6) ((g6.cell (p := ⟨1, 0, none⟩) h0).trans hm)).mono ?_
    rintro e w7 ⟨rfl, hb7⟩
    have z7 := hb7.size
    simp only [World.size_alloc] at z7
    have K7 := (K6.below hb7 K6.lt).alloc (.cells opZ.cells 24)
    have K17 := (K11.below hb7 K11.lt).alloc (.cells opZ.cells 24)
    have g7a := g6.trans (hb7.mono (by simp; omega))
    have g7 : Below w.heap.size w (w7.alloc (.cells opZ.cells 24)) := (by repeat (first | (with_reducible exact Below.refl _ _) | (with_reducible assumption) | (with_reducible refine Below.drew ?_) | (with_reducible refine Below.alloc ?_ (by first | omega | (simp <;> omega)) _) | (with_reducible refine Below.setCell ?_ (by first | omega | (simp <;> omega)) _) | (with_reducible refine belowN ?_ _)))
    have X7 := K7.cell
    have X17 := K17.cell
    simp only [OpR.cells] at X7 X17
    clear hb7 K6 K11 cSh g6 g7a
    go_wp2_with fail
    refine (cF _ (by simp; omega) (Lib.TabBelow.on HT.out (g7.mono hB))).mono ?_
    rintro e w8 ⟨rfl, hb8⟩
    have g8 := g7.trans (hb8.mono (by simp; omega))
    go_wp2
    go_ret
    exact ⟨rfl, g8⟩
  · have eR : logRec k nm f t s d = .tuple #[.string ⟨[].toArray⟩, .bool false] := by unfold logRec; rw [if_neg hok]
    rw [eR] at cI cS
    have cV := fun w => opValid_any k f t s nm d w hnm hdd
    rw [decide_eq_false hok] at cV
    clear eR hok
    go_wp2_with fail
    refine (cI _ (by simp; omega) (Lib.TabBelow.on HT.out (g1'.mono hB))).mono ?_
    rintro e w2 ⟨rfl, hb2⟩
    have z2 := hb2.size
    simp only [World.size_alloc] at z2
    have K2 := K1.below hb2 K1.lt
    have g2 := g1'.trans (hb2.mono (by simp; omega))
    have X2 := K2.cell
    clear hb2 K1 g1' cI
    go_wp2_with fail
    refine (cS _).mono ?_
    rintro e w3 ⟨rfl, hb3⟩
    have z3 := hb3.size
    have K3 := K2.below hb3 K2.lt
    have g3 := g2.trans (hb3.mono (by omega))
    have X3 := K3.cell
    clear hb3 K2 g2 X2 cS
    go_wp2_with fail
    refine (cV _).mono ?_
    rintro e w4 ⟨rfl, hb4⟩
    have z4 := hb4.size
    have K4 := K3.below hb4 K3.lt
    have g4 := g3.trans (hb4.mono (by omega))
    have X4 := K4.cell
    clear hb4 K3 g3 X3
    go_wp2_with fail
    refine (cV _).mono ?_
    rintro e w5 ⟨rfl, hb5⟩
    have g5 := g4.trans (hb5.mono (by omega))
    go_wp2
    go_ret
    exact ⟨rfl, g5⟩
end Go.Proofs.YtkoefklgfkhmpaaDoor
