/- Walks: what the law of bytes between blocks needs. -/
import Derived.Test.YtoogaalbnnlloaaGreatLb
import Derived.Test.YtoogaalbnnlloaaGreatSo
import Derived.Test.YtoogaalbnnlloaaGreatR3
import Derived.Test.YtoogaalbnnlloaaGreatIx
import Derived.Test.YtoogaalbnnlloaaGreatQ6
import Derived.Test.YtoogaalbnnlloaaGreatE11
import Derived.Laws.StructEq
import Derived.Deep.Cut
namespace Go.Proofs.YtoogaalbnnlloaaGreat
open Go.RowKit
set_option linter.unusedSimpArgs false
set_option linter.unusedVariables false
set_option maxRecDepth 100000
attribute [local go_sem high] run_index_S binOp_eql_S binOp_neq_S append_S toList_S size_S run_slice_S run_slice_from_S run_slice_to_S wrap64_byteAt wrap64_byteAt_mul bits_or_bytes convU conv1_some convU2 conv2_some
theorem soMany_jk (n : Nat) (w : World) (hn : n ≤ 1000) :
    Calls Tryz.prog 36 #[.string ⟨[120].toArray⟩, .int .i64 (n : Int)] w fun e w' => e = .returned (sv (jk n)) ∧ w = w' := by
  go_enter Tryz.func36, Tryz.ntmps36
  go_wp2
  go_loop [5, 6] (fun a b => ∃ (k : Nat) (o : Bs), k ≤ n ∧ b = .int .i64 (k : Int) ∧ a = .string ⟨o.toArray⟩ ∧ Go.RowKit.Hid (o = jk k)) (fun _ b => n - (intOf b).toNat)
  case atStart => exact ⟨0, [], by omega, rfl, rfl, rfl⟩
  case round =>
    obtain ⟨k, o, hk, rfl, rfl, ho⟩ := hrel
    have hol : o.length ≤ 1000 := by rw [ho.out, jk_length]; omega
    by_cases hlt : k < n
    · have hi : (k : Int) < n := by omega
      go_wp2
      go_round
      case rel => exact ⟨k + 1, o ++ [120], by omega, by go_num, by simp, by show _ = _; rw [ho.out]; unfold jk; rw [List.replicate_succ']⟩
      case measure => simp [intOf]; omega
    · have hi : ¬ (k : Int) < n := by omega
      have hkn : k = n := by omega
      go_wp2
      go_ret
      exact ⟨by rw [ho.out, hkn]; rfl, rfl⟩
theorem stood_PlaceJ : Tryz.prog.stoodInHeld 63 = false := by kernel_rfl
theorem guard_PlaceJ : Tryz.prog.eqGuardType Tryz.prog.depth 63 = false := by kernel_rfl
theorem Sl.plJ {w : World} {A : Option Addr} {ps : List (Int × Int)} {cap : Nat} (h : Sl w A ps.length cap 2 (plV ps)) {k : Nat} (hk : k < ps.length) : ∃ g off, A = some ⟨g, off, none⟩ ∧ g < w.heap.size ∧
    w.cell? ⟨g, off + k * 2, none⟩ = some (.int .i64 ps[k].1) ∧ w.cell? ⟨g, off + k * 2 + 1, none⟩ = some (.int .i64 ps[k].2) := by
  obtain ⟨g, off, e, hg, hc⟩ := Sl.cellK h hk
  have hcs := plV_at ps k hk
  exact ⟨g, off, e, hg, hc 0 _ hcs.1, hc 1 _ hcs.2⟩
set_option maxHeartbeats 1000000 in
theorem soPlaces_same (ps : List (Int × Int)) (A B : Option Addr) (ca cb : Nat) (w : World) (ha : Sl w A ps.length ca 2 (plV ps)) (hb : Sl w B ps.length cb 2 (plV ps)) (hn : ps.length ≤ 9000000) :
    Calls Tryz.prog 35 #[.slice A ps.length ca, .slice B ps.length cb] w fun e w' => e = .returned (.bool true) ∧ Below w.heap.size w w' := by
  have hst := stood_PlaceJ
  have hgd := guard_PlaceJ
  have h1 := ha.1
  have h2 := hb.1
  have HA : Go.RowKit.Hid (∀ wr, Below w.heap.size w wr → Sl wr A ps.length ca 2 (plV ps)) := fun wr h => ha.below h
  have HB : Go.RowKit.Hid (∀ wr, Below w.heap.size w wr → Sl wr B ps.length cb 2 (plV ps)) := fun wr h => hb.below h
  clear ha hb
  go_enter Tryz.func35, Tryz.ntmps35
  go_wp2
  go_loopw [5] (fun a wr => ∃ k : Nat, k ≤ ps.length ∧ a = .int .i64 (k : Int) ∧ Below w.heap.size w wr) (fun a _ => ps.length - (intOf a).toNat)
  case atStart => exact ⟨0, by omega, rfl, Below.refl _ _⟩
  case round =>
    obtain ⟨k, hk, rfl, hbw⟩ := hrel
    have hz := hbw.size
    by_cases hlt : k < ps.length
    · have h1 : (k : Int) < ps.length := by omega
      obtain ⟨g, off, rfl, hg, c0, c1⟩ := (HA.out wr hbw).plJ hlt
      obtain ⟨g2, off2, rfl, hg2, d0, d1⟩ := (HB.out wr hbw).plJ hlt
      generalize ps[k].1 = a at *
      generalize ps[k].2 = b at *
      go_wp2_with fail
      go_quiet (fail)
      go_wp2
      go_roundw
      case rel => exact ⟨k + 1, by omega, by go_num, (by repeat (first | (with_reducible exact Below.refl _ _) | (with_reducible assumption) | (with_reducible refine Below.drew ?_) | (with_reducible refine Below.alloc ?_ (by first | omega | (simp <;> omega)) _) | (with_reducible refine Below.setCell ?_ (by first | omega | (simp <;> omega)) _) | (with_reducible refine belowN ?_ _)))⟩
      case measure => simp [intOf]; omega
    · have h1 : ¬ (k : Int) < ps.length := by omega
      go_wp2
      go_ret
      exact ⟨rfl, hbw⟩
set_option maxHeartbeats 2000000 in
theorem drawContainerData_any (bs : Bs) (A : Option Addr) (cap : Nat) (w : World) (hs : Sl w A bs.length cap 1 (bs.map u8v)) :
    Calls Tryz.prog 32 #[.slice A bs.length cap] w fun e w' => (∃ (o l m : Int) (dict t : Bs), e = .returned (.tuple #[.agg #[.int .i64 o, .int .i64 l, .int .i64 m], sv dict, sv t]) ∧ dict.length ≤ 40 ∧ t.length ≤ 100000) ∧ Below w.heap.size w w' := by
  go_enter Tryz.func32, Tryz.ntmps32
  have hZ0 := Bk.new w #[.int .i64 0, .int .i64 0, .int .i64 0] 38
  have gz : Below w.heap.size w (w.alloc (.cells #[.int .i64 0, .int .i64 0, .int .i64 0] 38)) := (by repeat (first | (with_reducible exact Below.refl _ _) | (with_reducible assumption) | (with_reducible refine Below.drew ?_) | (with_reducible refine Below.alloc ?_ (by first | omega | (simp <;> omega)) _) | (with_reducible refine Below.setCell ?_ (by first | omega | (simp <;> omega)) _) | (with_reducible refine belowN ?_ _)))
  have hs0 := hs.below gz
  go_upto_region 1 with (fail)
  generalize w.alloc (.cells #[.int .i64 0, .int .i64 0, .int .i64 0] 38) = w0 at *
  have z0 := hZ0.lt
  go_wp2_with fail
  refine (l9Open_any bs A cap _ hs0).mono ?_
  rintro e w1 ⟨rfl, R1, hb1⟩
  have z1 := hb1.size
  have K0_1 := hZ0.below hb1 z0
  have g1 : BelowR w.heap.size w0.heap.size w w1 := below_toR (gz.trans (hb1.mono (by omega))) _
  clear hb1 hs hs0 hZ0 gz
  generalize hr0 : w0.heap.size = r at *
  have hrl := R1.lt
  go_wp2_with fail
  refine (l5Some_any _ _ _ R1 (by omega)).mono ?_
  rintro e w2 ⟨⟨o, l, m, dict, d, n, rfl, hst, hdl, hd, hk0, hk1⟩, R2, b2⟩
  have z2 := b2.size
  try simp only [World.size_alloc, World.size_setCell, World.size_drew] at z2
  have K0_2 := K0_1.belowR b2 (by first | omega | (simp; done) | (simp; omega)) (by omega)
  have g2 := g1.trans (b2.mono (by first | omega | (simp; done) | (simp; omega)))
  clear b2 g1 K0_1
  obtain ⟨X, hX⟩ : ∃ X, (mkC o l m dict d n).getD [] = X := ⟨_, rfl⟩
  have hXl : X.length ≤ 22000 := by
    rw [← hX]
    cases h : mkC o l m dict d n
    · simp
    · exact mkC_len h
  rw [hX]
  clear hX
  have K1_3 := Bk.new w2 #[.int .i64 o, .int .i64 l, .int .i64 m] 38
  have K0_3 := K0_2.alloc (.cells #[.int .i64 o, .int .i64 l, .int .i64 m] 38)
  have R3 := R2.alloc (.cells #[.int .i64 o, .int .i64 l, .int .i64 m] 38)
  have g3 := g2.alloc (by omega) (.cells #[.int .i64 o, .int .i64 l, .int .i64 m] 38)
  have z3 : w2.heap.size < (w2.alloc (.cells #[.int .i64 o, .int .i64 l, .int .i64 m] 38)).heap.size := by simp
  clear R2 g2 K0_2
  go_upto_region 3 with (fail)
  generalize w2.alloc (.cells #[.int .i64 o, .int .i64 l, .int .i64 m] 38) = w3 at *
  go_wp2_with fail
  refine (pick_any _ _ 12 _ R3 (by omega) (by omega) (by omega)).mono ?_
  rintro e w4 ⟨⟨v, rfl, hv0, hv1⟩, R4, b4⟩
  have z4 := b4.size
  try simp only [World.size_alloc, World.size_setCell, World.size_drew] at z4
  have K0_4 := K0_3.belowR b4 (by first | omega | (simp; done) | (simp; omega)) (by omega)
  have K1_4 := K1_3.belowR b4 (by first | omega | (simp; done) | (simp; omega)) (by omega)
  have g4 := g3.trans (b4.mono (by first | omega | (simp; done) | (simp; omega)))
  clear b4 g3 K0_3 K1_3
  by_cases hv : v = 0
  · subst hv
    have hX1 := K1_4.cell
    go_wp2_with fail
    refine (l1Data_any r _ 8 o l m _ R4 (by omega) (by omega) hst).mono ?_
    rintro e w5 ⟨⟨d2, rfl, hd2⟩, R5, b5⟩
    have z5 := b5.size
    try simp only [World.size_alloc, World.size_setCell, World.size_drew] at z5
    have K0_5 := K0_4.belowR b5 (by first | omega | (simp; done) | (simp; omega)) (by omega)
    have K1_5 := K1_4.belowR b5 (by first | omega | (simp; done) | (simp; omega)) (by omega)
    have g5 := g4.trans (b5.mono (by first | omega | (simp; done) | (simp; omega)))
    clear b5 g4 K0_4 K1_4
    replace hd2 : d2.length ≤ 40 := by omega
    clear hX1
    replace R5 := R5.mono (show _ ≤ 30000 by omega)
    have hX2 := K1_5.cell
    go_wp2_with fail
    refine (l1Bad_any r _ o l m _ R5 (by omega) hst).mono ?_
    rintro e w6 ⟨⟨o', l', m', rfl⟩, R6, b6⟩
    have z6 := b6.size
    try simp only [World.size_alloc, World.size_setCell, World.size_drew] at z6
    have K0_6 := K0_5.belowR b6 (by first | omega | (simp; done) | (simp; omega)) (by omega)
    have K1_6 := K1_5.belowR b6 (by first | omega | (simp; done) | (simp; omega)) (by omega)
    have g6 := g5.trans (b6.mono (by first | omega | (simp; done) | (simp; omega)))
    clear b6 g5 K0_5 K1_5
    clear hX2
    go_wp2_with fail
    refine (l5Bad_any _ _ X _ R6 (by omega) (by omega)).mono ?_
    rintro e w7 ⟨⟨x, rfl, hx⟩, R7, b7⟩
    have z7 := b7.size
    try simp only [World.size_alloc, World.size_setCell, World.size_drew] at z7
    have K0_7 := K0_6.belowR b7 (by first | omega | (simp; done) | (simp; omega)) (by omega)
    have g7 := g6.trans (b7.mono (by first | omega | (simp; done) | (simp; omega)))
    clear b7 g6 K0_6
    have hF := K0_7.free
    have hY := K0_7.cell
    go_wp2
    have Q := (((K0_7.set 0 (.int .i64 o')).set 1 (.int .i64 l')).set 2 (.int .i64 m')).cell
    have g9 : BelowR w.heap.size r w (((w7.setCell ⟨w.heap.size, 0, none⟩ (.int .i64 o')).setCell ⟨w.heap.size, 1, none⟩ (.int .i64 l')).setCell ⟨w.heap.size, 2, none⟩ (.int .i64 m')) := BelowR.setCell (BelowR.setCell (BelowR.setCell g7 (.inr (Nat.le_refl _)) _) (.inr (Nat.le_refl _)) _) (.inr (Nat.le_refl _)) _
    exact bodyPost_ret (v := .tuple #[.agg #[.int .i64 o', .int .i64 l', .int .i64 m'], sv d2, sv x]) (by simp [results, Tryz.results32, go_sem, Q]) rfl ⟨⟨o', l', m', d2, x, rfl, by omega, by omega⟩, g9.below (by omega)⟩
  have hvb : (v == 0) = false := by rw [beq_eq_false_iff_ne]; exact hv
  have R5 := R4.mono (show _ ≤ 30000 by omega)
  have K0_5 := K0_4
  have K1_5 := K1_4
  have g5 := g4
  have hX2 := K1_5.cell
  go_wp2_with fail
  refine (l1Bad_any r _ o l m _ R5 (by omega) hst).mono ?_
  rintro e w6 ⟨⟨o', l', m', rfl⟩, R6, b6⟩
  have z6 := b6.size
  try simp only [World.size_alloc, World.size_setCell, World.size_drew] at z6
  have K0_6 := K0_5.belowR b6 (by first | omega | (simp; done) | (simp; omega)) (by omega)
  have K1_6 := K1_5.belowR b6 (by first | omega | (simp; done) | (simp; omega)) (by omega)
  have g6 := g5.trans (b6.mono (by first | omega | (simp; done) | (simp; omega)))
  clear b6 g5 K0_5 K1_5
  clear hX2
  go_wp2_with fail
  refine (l5Bad_any _ _ X _ R6 (by omega) (by omega)).mono ?_
  rintro e w7 ⟨⟨x, rfl, hx⟩, R7, b7⟩
  have z7 := b7.size
  try simp only [World.size_alloc, World.size_setCell, World.size_drew] at z7
  have K0_7 := K0_6.belowR b7 (by first | omega | (simp; done) | (simp; omega)) (by omega)
  have g7 := g6.trans (b7.mono (by first | omega | (simp; done) | (simp; omega)))
  clear b7 g6 K0_6
  have hF := K0_7.free
  have hY := K0_7.cell
  go_wp2
  have Q := (((K0_7.set 0 (.int .i64 o')).set 1 (.int .i64 l')).set 2 (.int .i64 m')).cell
  have g9 : BelowR w.heap.size r w (((w7.setCell ⟨w.heap.size, 0, none⟩ (.int .i64 o')).setCell ⟨w.heap.size, 1, none⟩ (.int .i64 l')).setCell ⟨w.heap.size, 2, none⟩ (.int .i64 m')) := BelowR.setCell (BelowR.setCell (BelowR.setCell g7 (.inr (Nat.le_refl _)) _) (.inr (Nat.le_refl _)) _) (.inr (Nat.le_refl _)) _
  exact bodyPost_ret (v := .tuple #[.agg #[.int .i64 o', .int .i64 l', .int .i64 m'], sv dict, sv x]) (by simp [results, Tryz.results32, go_sem, Q]) rfl ⟨⟨o', l', m', dict, x, rfl, by omega, by omega⟩, g9.below (by omega)⟩
def plE (l : Bs) (bs : List Blk) (n : Nat) : Int := if n + 1 < bs.length then (plcAt bs (n + 1)).1 else (l.length : Int)
theorem plE_is {l : Bs} {bs : List Blk} (hB : blocksB l = some bs) {n : Nat} (hn : n < bs.length) : plE l bs n = (plcAt bs n).1 + bs[n].text.length := by
  obtain ⟨h1, h2, h3⟩ := blocks_some hB
  have hnx := plcAt_next bs n hn
  unfold plE
  split
  · rw [hnx]; simp [Blk.text_len]
  · have e : bs.take (n + 1) = bs := List.take_of_length_le (by omega)
    have : (plcAt bs (n + 1)).1 = l.length := by unfold plcAt; rw [e, h2]
    rw [← this, hnx]; simp [Blk.text_len]
theorem jx_le {l : Bs} {bs : List Blk} (hB : blocksB l = some bs) {q : Nat} (hq : q ≤ 29) (k : Nat) : (jx q (bs.take k)).length ≤ 4120 := by
  have h1 := jx_len q (bs.take k) (fun b hb => NumOk_mem (blocks_some hB).1 b (List.mem_of_mem_take hb))
  have h2 := (blocks_short hB).2
  have h3 : (bs.take k).length ≤ 40 := by simp; omega
  have : (74 + q) * (bs.take k).length ≤ 103 * 40 := Nat.mul_le_mul (by omega) h3
  omega
theorem jx_step {l : Bs} {bs : List Blk} (hB : blocksB l = some bs) (q : Nat) {k : Nat} (hk : k < bs.length) :
    ∃ a b : Nat, (plcAt bs k).1 = (a : Int) ∧ plE l bs k = (b : Int) ∧ a ≤ b ∧ b ≤ l.length ∧ jx q (bs.take (k + 1)) = jx q (bs.take k) ++ jk q ++ ((l.drop a).take (b - a)) := by
  have hcat := (blocks_some hB).2.1
  have hsp := catT_split bs k hk
  have hE := plE_is hB hk
  have hP : (plcAt bs k).1 = ((catT (bs.take k)).length : Int) := rfl
  refine ⟨(catT (bs.take k)).length, (catT (bs.take k)).length + bs[k].text.length, hP, by rw [hE, hP]; omega, by omega, ?_, ?_⟩
  · rw [← hcat, hsp]; simp
  · rw [List.take_succ_eq_append_getElem hk, jx_snoc]
    congr 1
    rw [← hcat, hsp, List.drop_left, Nat.add_sub_cancel_left, List.take_left]
set_option maxHeartbeats 4000000 in
theorem law_FindJunk (bs : Bs) (A : Option Addr) (cap : Nat) (bs2 : Bs) (A2 : Option Addr) (cap2 : Nat) (w : World) (hs : Sl w A bs.length cap 1 (bs.map u8v)) (hs2 : Sl w A2 bs2.length cap2 1 (bs2.map u8v)) :
    Calls Tryz.prog 7 #[.slice A bs.length cap, .slice A2 bs2.length cap2] w fun e w' => e = .returned (.bool true) ∧ Below w.heap.size w w' := by
  go_enter Tryz.func7, Tryz.ntmps7
  by_cases hl0 : 1048576 < bs.length
  · have hli : (1048576 : Int) < bs.length := by omega
    go_wp2
    go_ret
    exact ⟨rfl, Below.refl _ _⟩
  have hli0 : ¬ (1048576 : Int) < bs.length := by omega
  by_cases hl1 : 1048576 < bs2.length
  · have hli : (1048576 : Int) < bs2.length := by omega
    go_wp2
    go_ret
    exact ⟨rfl, Below.refl _ _⟩
  have hli1 : ¬ (1048576 : Int) < bs2.length := by omega
  clear hl0
  go_wp2_with fail
  refine (drawContainerData_any bs A cap _ hs).mono ?_
  rintro e w1 ⟨⟨o, l, m, dict, t, rfl, hdl, htl⟩, g1⟩
  have z1 := g1.size
  have hK2 := Bk.new w1 #[.int .i64 o, .int .i64 l, .int .i64 m] 38
  have g2 := g1.alloc z1 (.cells #[.int .i64 o, .int .i64 l, .int .i64 m] 38)
  clear hs hs2
  go_upto_region 4 with (fail)
  generalize w1.alloc (.cells #[.int .i64 o, .int .i64 l, .int .i64 m] 38) = W at *
  have z2 := hK2.lt
  generalize w1.heap.size = q1 at *
  have cI := fun w => indexOf_any t w (by omega)
  have cS := fun w => sIndexOf_any t w (by omega)
  unfold PlRes2 PlRow at cI
  unfold PlRes PlRow at cS
  have hpl := plcs_len t
  have HB : Go.RowKit.Hid (∃ bb, (blocksB t).isSome = bb) := ⟨_, rfl⟩
  obtain ⟨ps, hps⟩ : ∃ ps, (blocksB t).elim [] plc = ps := ⟨_, rfl⟩
  obtain ⟨bb, hbb⟩ : ∃ bb, (blocksB t).isSome = bb := ⟨_, rfl⟩
  rw [hps] at cI cS hpl
  rw [hbb] at cI cS
  have HPS := Go.Lib.hid hps
  have HBB := Go.Lib.hid hbb
  clear hps hbb HB
  go_wp2_with fail
  refine (cI _).mono ?_
  rintro e w3 ⟨A3, c3, rfl, o3, b3⟩
  have z3 := b3.size
  have hK3 := hK2.below b3 z2
  have g3 := g2.trans (b3.mono (by omega))
  have s3 := own_Sl o3
  clear b3 o3 hK2 g2 cI
  go_wp2_with fail
  refine (cS _).mono ?_
  rintro e w4 ⟨A4, c4, rfl, o4, b4⟩
  have z4 := b4.size
  have hK4 := hK3.below b4 (by omega)
  have g4 := g3.trans (b4.mono (by omega))
  have s4 := s3.below b4
  have t4 := own_Sl o4
  clear b4 o4 hK3 g3 cS s3
  go_wp2_with fail
  refine (soPlaces_same ps _ _ _ _ w4 s4 t4 (by omega)).mono ?_
  rintro e w5 ⟨rfl, b5⟩
  have z5 := b5.size
  have hK5 := hK4.below b5 (by omega)
  have g5 := g4.trans (b5.mono (by omega))
  have s5 := s4.below b5
  have t5 := t4.below b5
  clear b5 hK4 g4 s4 t4
  cases bb with
  | false =>
    go_wp2_with fail
    refine (soPlaces_same ps _ _ _ _ w5 s5 t5 (by omega)).mono ?_
    rintro e w6 ⟨rfl, b6⟩
    have g6 := g5.trans (b6.mono (by omega))
    go_wp2
    go_ret
    exact ⟨rfl, g6⟩
  | true =>
    clear t5
    obtain ⟨bks, hBk⟩ : ∃ bks, blocksB t = some bks := by
      cases h : blocksB t with
      | none => have := HBB.out; rw [h] at this; simp at this
      | some bks => exact ⟨bks, rfl⟩
    obtain rfl : ps = plc bks := by have := HPS.out; rw [hBk] at this; exact this.symm
    have hcap := s5.1
    have hcap2 := s5.2.1
    have HPA : Go.RowKit.Hid (∀ k (h : k < bks.length) wr, Below w5.heap.size w5 wr → ∃ g off, A3 = some ⟨g, off, none⟩ ∧ g < wr.heap.size ∧ wr.cell? ⟨g, off + k * 2, none⟩ = some (.int .i64 (plcAt bks k).1)) := fun k h wr hw => by
      have hn : k < (plc bks).length := by rw [plc_length]; exact h
      obtain ⟨g, off, hA, hg, c0, _⟩ := (s5.below hw).plJ hn
      rw [plc_at] at c0
      exact ⟨g, off, hA, hg, c0⟩
    rw [plc_length] at hpl hcap ⊢
    obtain ⟨q, hq, hq29⟩ : ∃ q : Nat, (bs2.length : Int) % 30 = (q : Int) ∧ q ≤ 29 := ⟨bs2.length % 30, by simp, by omega⟩
    have HBK := Go.Lib.hid hBk
    have HQ := Go.Lib.hid hq29
    clear HPS HBB hBk s5
    go_wp2_with fail
    refine (soMany_jk q _ (by omega)).mono ?_
    rintro e w' ⟨rfl, rfl⟩
    obtain ⟨J, hJ⟩ : ∃ J, J = jk q := ⟨_, rfl⟩
    have hJl : J.length ≤ 29 := by rw [hJ, jk_length]; omega
    have HJ := Go.Lib.hid hJ
    rw [← hJ]
    clear hJ
    go_wp2
    go_loop [13, 14] (fun x i => ∃ (k : Nat) (u : Bs), k ≤ bks.length ∧ i = .int .i64 (k : Int) ∧ x = .string ⟨u.toArray⟩ ∧ Go.RowKit.Hid (u = jx q (bks.take k))) (fun _ i => bks.length - (intOf i).toNat)
    case atStart => exact ⟨0, [], by omega, rfl, rfl, rfl⟩
    case round =>
      obtain ⟨k, u, hk, rfl, rfl, hu⟩ := hrel
      have hul : u.length ≤ 4120 := by rw [hu.out]; exact jx_le HBK.out HQ.out k
      by_cases hlt : k < bks.length
      · have hki : (k : Int) < bks.length := by omega
        obtain ⟨g, off, eA, hg, c0⟩ := HPA.out k hlt w5 (Below.refl _ _)
        obtain ⟨a, b, ea, eb, hab, hbl, hj⟩ := jx_step HBK.out q hlt
        rw [ea] at c0
        have HN : Go.RowKit.Hid (u ++ J ++ (t.drop a).take (b - a) = jx q (bks.take (k + 1))) := by
          show _ = _
          rw [hj, hu.out, HJ.out]
        have hsl : ((t.drop a).take (b - a)).length ≤ 100000 := by simp; omega
        subst eA
        by_cases h2 : k + 1 < bks.length
        · have h2i : (k : Int) + 1 < bks.length := by omega
          obtain ⟨g', off', eA', _, d0⟩ := HPA.out (k + 1) h2 w5 (Below.refl _ _)
          injection eA' with eA'
          injection eA' with eA1 eA2
          subst eA1 eA2
          have eb' : (plcAt bks (k + 1)).1 = b := by unfold plE at eb; rw [if_pos h2] at eb; exact eb
          rw [eb'] at d0
          clear eb' eb ea hj
          go_wp2
          go_round
          case rel => exact ⟨k + 1, u ++ (J ++ (t.drop a).take (b - a)), by omega, by go_num, rfl, by show _ = _; rw [← List.append_assoc]; exact HN.out⟩
          case measure => simp [intOf]; omega
        · have h2i : ¬ (k : Int) + 1 < bks.length := by omega
          have eb' : (t.length : Int) = b := by unfold plE at eb; rw [if_neg h2] at eb; exact eb
          have eb2 : b = t.length := by omega
          subst eb2
          clear eb' eb ea hj
          go_wp2
          go_round
          case rel => exact ⟨k + 1, u ++ (J ++ (t.drop a).take (t.length - a)), by omega, by go_num, (by first | rfl | simp), by show _ = _; rw [← List.append_assoc]; exact HN.out⟩
          case measure => simp [intOf]; omega
      · have hki : ¬ (k : Int) < bks.length := by omega
        have hke : k = bks.length := by omega
        obtain ⟨X, hX⟩ : ∃ X, X = u ++ J := ⟨_, rfl⟩
        have hXl : X.length ≤ 10000 := by rw [hX]; simp; omega
        have hXj : X = jx q bks ++ jk q := by rw [hX, hu.out, HJ.out, hke, List.take_length]
        obtain ⟨hpc, hfd⟩ := pcsB_junk o l m dict q (by omega) HBK.out
        rw [← hXj] at hpc hfd
        have cF := fun w => findBlocks_any X w (by omega)
        have cG := fun w => salvage_any o l m dict X w (by omega) (by omega)
        have cP := fun w => salvage_any o l m dict t w (by omega) (by omega)
        unfold PcRes at cG cP
        unfold FsRes at cF
        rw [hfd] at cF
        rw [hpc] at cG
        have hpl2 := pcsB_len o l m dict t
        have hwl := withJ_length q bks 0
        have HWA := Go.Lib.hid (withJ_at q bks 0)
        generalize pcsB o l m dict t = P at *
        generalize withJ q 0 bks = fs at *
        clear hpc hfd hXj
        rw [hwl] at cF
        go_upto_region 18 with (fail)
        rw [← hX]
        have hJq : (J.length : Int) = q := by rw [HJ.out, jk_length]
        clear hX hu hul hlt hki
        go_wp2_with fail
        refine (cF _).mono ?_
        rintro e w6 ⟨A6, c6, rfl, o6, b6⟩
        have z6 := b6.size
        have hK6 := hK5.below b6 (by omega)
        have f6 := own_Sl o6
        have g6 := g5.trans (b6.mono (by omega))
        have zg6 := g6.size
        have hcf := f6.1
        have hcf2 := f6.2.1
        have HW : Go.RowKit.Hid (∀ wr, Below w6.heap.size w6 wr → Bk wr q1 38 #[.int .i64 o, .int .i64 l, .int .i64 m] ∧ Sl wr A6 bks.length c6 5 (fsV fs) ∧ Below w5.heap.size w5 wr ∧ Below w.heap.size w wr) := fun wr h => ⟨hK6.below h (by omega), f6.below h, b6.trans (h.mono (by omega)), g6.trans (h.mono zg6)⟩
        have HPD : Go.RowKit.Hid (∀ k, 0 ≤ (plcAt bks k).1 ∧ (plcAt bks k).1 ≤ 74 * bks.length) := fun k => by
          have := plcAt_bd bks (NumOk_mem (blocks_some HBK.out).1) k
          exact ⟨this.1, this.2.1⟩
        have HFA : Go.RowKit.Hid (∀ k (h : k < fs.length), fs[k].1 = (plcAt bks k).1 + ((k : Int) + 1) * q) := fun k h => by
          rw [HWA.out k h]
          show ((0 : Nat) : Int) + (plcAt bks k).1 + _ = _
          omega
        clear cF o6 b6 hK6 f6 g6 HWA hK5 g5 HJ
        go_wp2
        go_loopw [17] (fun i wr => ∃ k : Nat, i = .int .i64 (k : Int) ∧ k ≤ bks.length ∧ Below w6.heap.size w6 wr) (fun i _ => bks.length - (intOf i).toNat)
        case atStart => exact ⟨0, rfl, by omega, Below.refl _ _⟩
        case round =>
          clear hke
          obtain ⟨k, rfl, hk, hb⟩ := hrel
          have hz := hb.size
          by_cases hlt : k < bks.length
          · have hki : (k : Int) < bks.length := by omega
            have hkd : decide ((bks.length : Int) ≤ (k : Int)) = false := by simp; omega
            have hkd2 : decide (bks.length ≤ k) = false := by simp; omega
            obtain ⟨_, hsf, h5, _⟩ := HW.out wr hb
            obtain ⟨g, off, eA, hg, c0⟩ := HPA.out k hlt wr h5
            obtain ⟨g2, off2, eF, hg2, hcf5⟩ := Sl.cellK hsf hlt
            have hfv := (fsV_at fs k (by omega)).1
            simp only [Nat.mul_comm 5 k] at hfv
            have e0 := hcf5 0 _ hfv
            rw [Nat.add_zero] at e0
            rw [HFA.out k (by omega)] at e0
            have hzn : ((k : Int) + 1) * (q : Int) = (((k + 1) * q : Nat) : Int) := by simp
            have hzl : (k + 1) * q ≤ 41 * 29 := Nat.mul_le_mul (by omega) hq29
            have hpd := HPD.out k
            generalize (k + 1) * q = z at *
            rw [hzn] at e0
            generalize (plcAt bks k).1 = p at *
            subst eA eF
            clear hcf5 hfv hsf h5
            have hw1 : IntKind.i64.wrap ((k : Int) + 1) = (k : Int) + 1 := IntWalk.i64_in _ (by omega)
            have hw2 : IntKind.i64.wrap (((k : Int) + 1) * (q : Int)) = (z : Int) := by rw [hzn]; exact IntWalk.i64_in _ (by omega)
            have hw3 : IntKind.i64.wrap (p + (z : Int)) = p + (z : Int) := IntWalk.i64_in _ (by omega)
            go_wp2_with fail
            go_quiet (fail)
            clear hw1 hw2 hw3 hzn
            go_wp2
            go_roundw
            case rel => exact ⟨k + 1, by go_num, by omega, (by repeat (first | (with_reducible exact Below.refl _ _) | (with_reducible assumption) | (with_reducible refine Below.drew ?_) | (with_reducible refine Below.alloc ?_ (by first | omega | (simp <;> omega)) _) | (with_reducible refine Below.setCell ?_ (by first | omega | (simp <;> omega)) _) | (with_reducible refine belowN ?_ _)))⟩
            case measure => simp [intOf]; omega
          · have hki : ¬ (k : Int) < bks.length := by omega
            obtain ⟨hBk, _, _, hgw⟩ := HW.out wr hb
            have hC := hBk.cell
            have hbl := hBk.lt
            go_upto_region 24 with (fail)
            refine wp_region_held_drew (S := (fun w' => w'.cell? ⟨q1, 0, none⟩ = some (.int .i64 o) ∧ w'.cell? ⟨q1, 1, none⟩ = some (.int .i64 l) ∧ w'.cell? ⟨q1, 2, none⟩ = some (.int .i64 m))) (by kernel_rfl) ?_ (fun hSS => ?_)
            focus ((refine ⟨?_, ?_, ?_⟩; all_goals first | (simp [hC9]; done) | (simp [hC8]; done) | (simp [hC7]; done) | (simp [hC]; done)))
            refine wpAnyH_take (i := 0) (v := ?_) rfl (by kernel_rfl) (by kernel_rfl) (by kernel_rfl) (fun _ _ _ h => h) (Or.inl ⟨by rfl, ?_⟩) (by assumption) ?_
            rotate_left
            focus (intro w hSw; (try dsimp only at hSw); go_simp; try with_reducible rfl)
            try simp only [Act.put, List.setIfInBounds_toArray, List.set_cons_zero, List.set_cons_succ]
            refine wpAnyH_take (i := 1) (v := ?_) rfl (by kernel_rfl) (by kernel_rfl) (by kernel_rfl) (fun _ _ _ h => h) (Or.inl ⟨by rfl, ?_⟩) (by assumption) ?_
            rotate_left
            focus (intro w hSw; (try dsimp only at hSw); go_simp; try with_reducible rfl)
            try simp only [Act.put, List.setIfInBounds_toArray, List.set_cons_zero, List.set_cons_succ]
            refine wpAnyH_take (i := 2) (v := ?_) rfl (by kernel_rfl) (by kernel_rfl) (by kernel_rfl) (fun _ _ _ h => h) (Or.inl ⟨by rfl, ?_⟩) (by assumption) ?_
            rotate_left
            focus (intro w hSw; (try dsimp only at hSw); go_simp; try with_reducible rfl)
            try simp only [Act.put, List.setIfInBounds_toArray, List.set_cons_zero, List.set_cons_succ]
            refine wpAnyH_take (i := 3) (v := ?_) rfl (by kernel_rfl) (by kernel_rfl) (by kernel_rfl) (fun _ _ _ h => h) (Or.inl ⟨by rfl, ?_⟩) (by assumption) ?_
            rotate_left
            focus (intro w hSw; (try dsimp only at hSw); go_simp; try with_reducible rfl)
            try simp only [Act.put, List.setIfInBounds_toArray, List.set_cons_zero, List.set_cons_succ]
            refine wpAnyH_take (i := 4) (v := ?_) rfl (by kernel_rfl) (by kernel_rfl) (by kernel_rfl) (fun _ _ _ h => h) (Or.inl ⟨by rfl, ?_⟩) (by assumption) ?_
            rotate_left
            focus (intro w hSw; (try dsimp only at hSw); go_simp; try with_reducible rfl)
            try simp only [Act.put, List.setIfInBounds_toArray, List.set_cons_zero, List.set_cons_succ]
            refine wpAnyH_take (i := 5) (v := ?_) rfl (by kernel_rfl) (by kernel_rfl) (by kernel_rfl) (fun _ _ _ h => h) (Or.inl ⟨by rfl, ?_⟩) (by assumption) ?_
            rotate_left
            focus (intro w hSw; (try dsimp only at hSw); go_simp; try with_reducible rfl)
            try simp only [Act.put, List.setIfInBounds_toArray, List.set_cons_zero, List.set_cons_succ]
            refine wpAnyH_take (i := 6) (v := ?_) rfl (by kernel_rfl) (by kernel_rfl) (by kernel_rfl) (fun _ _ _ h => h) (Or.inl ⟨by kernel_rfl, ?_⟩) (by assumption) ?_
            rotate_left
            focus (intro w hSw; (try dsimp only at hSw); go_simp; try with_reducible rfl)
            try simp only [Act.put, List.setIfInBounds_toArray, List.set_cons_zero, List.set_cons_succ]
            refine wpAnyH_take (i := 7) (v := ?_) rfl (by kernel_rfl) (by kernel_rfl) (by kernel_rfl) (fun _ _ _ h => h) (Or.inl ⟨by kernel_rfl, ?_⟩) (by assumption) ?_
            rotate_left
            focus (intro w hSw; (try dsimp only at hSw); go_simp; try with_reducible rfl)
            try simp only [Act.put, List.setIfInBounds_toArray, List.set_cons_zero, List.set_cons_succ]
            refine wpAnyH_take (i := 8) (v := ?_) rfl (by kernel_rfl) (by kernel_rfl) (by kernel_rfl) (fun _ _ _ h => h) (Or.inl ⟨by kernel_rfl, ?_⟩) (by assumption) ?_
            rotate_left
            focus (intro w hSw; (try dsimp only at hSw); go_simp; try with_reducible rfl)
            try simp only [Act.put, List.setIfInBounds_toArray, List.set_cons_zero, List.set_cons_succ]
            refine wpAnyH_take (i := 10) (v := ?_) rfl (by kernel_rfl) (by kernel_rfl) (by kernel_rfl) (fun _ _ _ h => h) (Or.inl ⟨by kernel_rfl, ?_⟩) (by assumption) ?_
            rotate_left
            focus (intro w hSw; (try dsimp only at hSw); go_simp; try with_reducible rfl)
            try simp only [Act.put, List.setIfInBounds_toArray, List.set_cons_zero, List.set_cons_succ]
            refine wpAnyH_take (i := 11) (v := ?_) rfl (by kernel_rfl) (by kernel_rfl) (by kernel_rfl) (fun _ _ _ h => h) (Or.inl ⟨by kernel_rfl, ?_⟩) (by assumption) ?_
            rotate_left
            focus (intro w hSw; (try dsimp only at hSw); go_simp; try with_reducible rfl)
            try simp only [Act.put, List.setIfInBounds_toArray, List.set_cons_zero, List.set_cons_succ]
            refine wpAnyH_take (i := 12) (v := ?_) rfl (by kernel_rfl) (by kernel_rfl) (by kernel_rfl) (fun _ _ _ h => h) (Or.inl ⟨by kernel_rfl, ?_⟩) (by assumption) ?_
            rotate_left
            focus (intro w hSw; (try dsimp only at hSw); go_simp; try with_reducible rfl)
            try simp only [Act.put, List.setIfInBounds_toArray, List.set_cons_zero, List.set_cons_succ]
            refine wpAnyH_ready (rs := [9]) (by kernel_rfl) (by simp) ?_
            refine AllReadyH.cons (o := _) rfl (fun KK hKK => ?_) AllReadyH.nil
            go_simp
            (go_at_call 21; refine (cG _).mono ?_; rintro e w7 ⟨A7, c7, rfl, o7, b7⟩; have b7 : Below wr.heap.size wr w7 := below_undrew b7; have z7 := b7.size; have K7 := hBk.below b7 hbl; have g7 := hgw.trans (b7.mono (by omega)); have s7 := own_Sl o7; have hC7 := K7.cell)
            refine hKK.out _ _ ?_ (fun hSS => ?_)
            focus ((refine ⟨?_, ?_, ?_⟩; all_goals first | (simp [hC9]; done) | (simp [hC8]; done) | (simp [hC7]; done) | (simp [hC]; done)))
            try simp only [Act.put, List.setIfInBounds_toArray, List.set_cons_zero, List.set_cons_succ]
            refine wpAnyH_ready (rs := [13]) (by kernel_rfl) (by simp) ?_
            refine AllReadyH.cons (o := _) rfl (fun KK hKK => ?_) AllReadyH.nil
            go_simp
            (go_at_call 21; refine (cP _).mono ?_; rintro e w8 ⟨A8, c8, rfl, o8, b8⟩; have z8 := b8.size; have K8 := K7.below b8 (by omega); have g8 := g7.trans (b8.mono (by omega)); have s8 := s7.below b8; have t8 := own_Sl o8; have hC8 := K8.cell)
            refine hKK.out _ _ ?_ (fun hSS => ?_)
            focus ((refine ⟨?_, ?_, ?_⟩; all_goals first | (simp [hC9]; done) | (simp [hC8]; done) | (simp [hC7]; done) | (simp [hC]; done)))
            try simp only [Act.put, List.setIfInBounds_toArray, List.set_cons_zero, List.set_cons_succ]
            refine wpAnyH_ready (rs := [14]) (by kernel_rfl) (by simp) ?_
            refine AllReadyH.cons (o := _) rfl (fun KK hKK => ?_) AllReadyH.nil
            go_simp
            (go_at_call 38; refine (soPieces_same P _ _ _ _ w8 s8 t8 (by omega)).mono ?_; rintro e w9 ⟨rfl, b9⟩; have K9 := K8.below b9 (by omega); have g9 := g8.trans (b9.mono (by omega)); have hC9 := K9.cell)
            refine hKK.out _ _ ?_ (fun hSS => ?_)
            focus ((refine ⟨?_, ?_, ?_⟩; all_goals first | (simp [hC9]; done) | (simp [hC8]; done) | (simp [hC7]; done) | (simp [hC]; done)))
            try simp only [Act.put, List.setIfInBounds_toArray, List.set_cons_zero, List.set_cons_succ]
            refine wpAnyH_take (i := 15) (v := ?_) rfl (by kernel_rfl) (by kernel_rfl) (by kernel_rfl) (fun _ _ _ h => h) (Or.inl ⟨by rfl, ?_⟩) (by assumption) ?_
            rotate_left
            focus (intro w hSw; (try dsimp only at hSw); go_simp; try with_reducible rfl)
            try simp only [Act.put, List.setIfInBounds_toArray, List.set_cons_zero, List.set_cons_succ]
            refine wpAnyH_take (i := 16) (v := ?_) rfl (by kernel_rfl) (by kernel_rfl) (by kernel_rfl) (fun _ _ _ h => h) (Or.inl ⟨by rfl, ?_⟩) (by assumption) ?_
            rotate_left
            focus (intro w hSw; (try dsimp only at hSw); go_simp; try with_reducible rfl)
            try simp only [Act.put, List.setIfInBounds_toArray, List.set_cons_zero, List.set_cons_succ]
            refine wpAnyH_done (by kernel_rfl) ?_ _
            go_wp2
            go_ret
            exact ⟨rfl, g9⟩
end Go.Proofs.YtoogaalbnnlloaaGreat
