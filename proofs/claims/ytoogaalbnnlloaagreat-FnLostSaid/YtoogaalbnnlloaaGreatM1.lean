/- Walks: the draws of pieces. -/
import Derived.Test.YtoogaalbnnlloaaGreatE4
import Derived.Test.YtoogaalbnnlloaaGreatR1
import Derived.Test.YtoogaalbnnlloaaGreatGU3
import Derived.Deep.Cut
namespace Go.Proofs.YtoogaalbnnlloaaGreat
open Go.RowKit
set_option linter.unusedSimpArgs false
set_option linter.unusedVariables false
set_option maxRecDepth 100000
attribute [local go_sem high] run_index_S binOp_eql_S binOp_neq_S append_S toList_S size_S run_slice_S run_slice_from_S run_slice_to_S wrap64_byteAt wrap64_byteAt_mul bits_or_bytes convU conv1_some convU2 conv2_some
theorem cblk_any (l : Bs) (w : World) (hs : l.length ≤ 1500000) :
    Calls Tryz.prog 112 #[.string ⟨l.toArray⟩] w (BksRes (blocksB l) w) := by
  have cB := fun w => l5Blocks_any l w hs
  unfold BksRes at *
  go_enter Tryz.func112, Tryz.ntmps112
  go_wp2_with fail
  refine (cB _).mono ?_
  rintro e w1 ⟨A1, c1, rfl, o1, hb1⟩
  have H := Go.Lib.hid (And.intro o1 hb1)
  clear o1 hb1 cB
  go_wp2
  go_ret2
  exact ⟨A1, c1, rfl, H.out.1, H.out.2⟩
theorem bksLen (l : Bs) : ((blocksB l).getD []).length ≤ 40 := by
  cases h : blocksB l with
  | none => simp
  | some bs => exact (blocks_short h).2
/-- Pieces that are drawn, and a count. -/
def PkRes (r M : Nat) (w : World) (e : Ending) (w' : World) : Prop := (∃ (ps : List Pc) (c : Int) (A : Option Addr) (cap : Nat), e = .returned (.tuple #[.slice A ps.length cap, .int .i64 c]) ∧ ps.length ≤ 41 ∧ (∀ p ∈ ps, p.2.length ≤ 64) ∧ -1 ≤ c ∧ c ≤ 41 ∧ w'.ownsRow w.heap.size 33 2 (.slice A ps.length cap) ps.length (pcsV ps)) ∧ Rd w' r M ∧ BelowR w.heap.size r w w'
set_option maxHeartbeats 2000000 in
theorem l7Pick_any (r M : Nat) (w : World) (hR : Rd w r M) (hM : M ≤ 20000000) :
    Calls Tryz.prog 54 #[.pointer (some ⟨r, 0, none⟩)] w (PkRes r (M + 510) w) := by
  obtain ⟨i, hi, hz0, hz1, hz2⟩ := info_parts info_piece
  have hr := hR.lt
  have R0 := hR
  have g0 : BelowR w.heap.size r w w := below_toR (Below.refl _ _) r
  unfold PkRes
  go_enter Tryz.func54, Tryz.ntmps54
  go_wp2_with fail
  refine (l7Some_any r M _ hR (by omega)).mono ?_
  rintro e w1 ⟨⟨o, l, m, dict, X, Y, rfl, hst, hdl, hX, hY⟩, R1, g1⟩
  have z1 := g1.size
  clear R0 g0
  have hK2 := Bk.new w1 #[.int .i64 o, .int .i64 l, .int .i64 m] 38
  have R2 := R1.alloc (.cells #[.int .i64 o, .int .i64 l, .int .i64 m] 38)
  have g2 := g1.alloc z1 (.cells #[.int .i64 o, .int .i64 l, .int .i64 m] 38)
  have z2 : w1.heap.size < (w1.alloc (.cells #[.int .i64 o, .int .i64 l, .int .i64 m] 38)).heap.size := by simp
  go_upto_region 2 with (fail)
  generalize w1.alloc (.cells #[.int .i64 o, .int .i64 l, .int .i64 m] 38) = W at *
  generalize w1.heap.size = q1 at *
  have cB := fun w => cblk_any X w (by omega)
  have hbl := bksLen X
  unfold BksRes at cB
  generalize (blocksB X).getD [] = bks at *
  generalize (blocksB X).isSome = bo at *
  go_wp2_with fail
  refine (cB _).mono ?_
  rintro e w3 ⟨A3, c3, rfl, o3, hb3⟩
  have z3 := hb3.size
  have hc3 := (own_Sl o3).1
  have R3 := R2.keep hb3
  have hK3 := hK2.below hb3 z2
  have g3 := g2.trans (below_toR (hb3.mono (by omega)) r)
  have hX3 := hK3.cell
  clear hb3 o3 cB g2 R2 hK2
  have cS := fun w => sSalvage_any o l m dict Y w (by omega) (by omega)
  have hpl := pcsB_len o l m dict Y
  have hpd : ∀ p ∈ pcsB o l m dict Y, p.2.length ≤ 64 := fun p hp => by
    obtain ⟨i, hi, rfl⟩ := List.getElem_of_mem hp
    exact ((pcsB_ok o l m dict Y).1 i hi).2.2.2
  have HPD := Go.Lib.hid hpd
  clear hpd
  unfold PcRes at cS
  generalize pcsB o l m dict Y = ps at *
  go_wp2_with fail
  refine (cS _).mono ?_
  rintro e w4 ⟨A4, c4, rfl, o4, hb4⟩
  have z4 := hb4.size
  have R4 := R3.keep hb4
  have g4 := g3.trans (below_toR (hb4.mono (by omega)) r)
  have O0_4 := own_mono (B' := w.heap.size) o4 (by omega)
  have hcp := (own_Sl o4).1
  clear hb4 o4 cS g3 R3 hK3 hX3 R1 g1
  go_wp2_with fail
  refine (pick_any r _ 20 _ R4 (by omega) (by omega) (by omega)).mono ?_
  rintro e w5 ⟨⟨k, rfl, hk0, hk1⟩, R5, b5⟩
  have z5 := b5.size
  try simp only [World.size_alloc, World.size_setCell, World.size_drew] at z5
  have O0_5 := ownsR_keep O0_4 b5 (by omega)
  have g5 := g4.trans (b5.mono (by first | omega | (simp; done) | (simp; omega)))
  clear b5 g4 O0_4
  by_cases h0 : k = 0
  · subst h0
    have hr5 := R5.lt
    have s1 := Sl.list w5 [.int .i64 (-1), .int .i64 0, .int .i64 40, .int .i64 41] 3 w5.heap.size 4 rfl rfl (by omega)
    go_wp2_with fail
    refine (num_any r _ [-1, 0, 40, 41] (some ⟨w5.heap.size, 0, none⟩) 4 _ (R5.alloc _) (by omega) s1 (by simp) (by simp) (by rintro g off ⟨⟩; omega)).mono ?_
    rintro e w6 ⟨⟨y, hy, rfl⟩, R6, b6⟩
    have z6 := b6.size
    try simp only [World.size_alloc, World.size_setCell, World.size_drew] at z6
    have O0_6 := ownsR_keep (World.ownsRow.alloc O0_5 _) b6 (by omega)
    have g6 := (g5.alloc (by first | omega | (simp <;> omega)) _).trans (b6.mono (by first | omega | (simp; done) | (simp; omega)))
    clear b6 g5 O0_5
    have hy2 : -1 ≤ y ∧ y ≤ 41 := by simp at hy; omega
    clear s1 hy
    go_wp2
    go_ret2
    exact ⟨⟨ps, y, A4, c4, rfl, by omega, HPD.out, hy2.1, hy2.2, O0_6⟩, R6.mono (by omega), g6⟩
  have hkb0 : (k == 0) = false := by rw [beq_eq_false_iff_ne]; exact h0
  by_cases h1 : k = 1
  · subst h1
    go_wp2_with fail
    refine (pick_any r _ 4 _ R5 (by omega) (by omega) (by omega)).mono ?_
    rintro e w6 ⟨⟨y, rfl, hy0, hy1⟩, R6, b6⟩
    have z6 := b6.size
    try simp only [World.size_alloc, World.size_setCell, World.size_drew] at z6
    have O0_6 := ownsR_keep O0_5 b6 (by omega)
    have g6 := g5.trans (b6.mono (by first | omega | (simp; done) | (simp; omega)))
    clear b6 g5 O0_5
    have hm1 : ps.length + 1 ≤ maxLen := by unfold maxLen; omega
    have hm2 : (ps.length + 1) * 24 ≤ 140737488355328 := by omega
    have hlt6 := O0_6.lt
    go_wp2_with (at_builtin; go_must (refine wpList_ap _ rfl _ _ 23 rfl (w.heap.size) 33 i _ 2 24 Tryz.underlying23 hi hz0 hz1 hz2 rfl (by omega) _ _ _ rfl (O0_6.alloc _) _ 1 1 [.int .i64 y, .string ⟨#[120]⟩] rfl (Sl.newAt w6 #[.int .i64 y, .string ⟨#[120]⟩] _ 1 2 (by first | rfl | simp) (by simp) (by omega)) (by simp [Value.oneCell']) hm1 hm2 ?_ ?_))
    try (case refine_1 => first | omega | (simp <;> omega; done))
    intro A7 c7 w7 O7 hg7 _
    have g7 := appR g6 hg7 (by omega) (fun q hq => by have := (hlt6 q hq).1; omega)
    have R7 := R6.app hg7 (fun q hq => by have := (hlt6 q hq).1; omega)
    have O8 : w7.ownsRow w.heap.size 33 2 (.slice A7 (ps ++ [(y, [120])]).length c7) (ps ++ [(y, [120])]).length (pcsV (ps ++ [(y, [120])])) := by
      rw [pcsV_snoc, List.length_append]; exact O7
    have HL : Go.RowKit.Hid ((ps ++ [(y, [120])]).length = ps.length + 1) := by show _ = _; simp
    have HH := Go.Lib.hid (And.intro O8 (And.intro R7 g7))
    clear O7 O8 R7 g7 hg7 O0_6 R6 g6
    go_wp2
    go_ret2
    refine ⟨⟨ps ++ [(y, [120])], bks.length, A7, c7, by rw [HL.out]; rfl, by rw [HL.out]; omega, fun p hp => ?_, by omega, by omega, HH.out.1⟩, HH.out.2.1.mono (by omega), HH.out.2.2⟩
    rcases List.mem_append.1 hp with h | h
    · exact HPD.out p h
    · simp at h; subst h; simp
  have hkb1 : (k == 1) = false := by rw [beq_eq_false_iff_ne]; exact h1
  by_cases h2 : k = 2
  · subst h2
    have hm1 : ps.length + 1 ≤ maxLen := by unfold maxLen; omega
    have hm2 : (ps.length + 1) * 24 ≤ 140737488355328 := by omega
    have hlt6 := O0_5.lt
    go_wp2_with (at_builtin; go_must (refine wpList_ap _ rfl _ _ 23 rfl (w.heap.size) 33 i _ 2 24 Tryz.underlying23 hi hz0 hz1 hz2 rfl (by omega) _ _ _ rfl (O0_5.alloc _) _ 1 1 [.int .i64 (bks.length : Int), .string ⟨#[]⟩] rfl (Sl.newAt w5 #[.int .i64 (bks.length : Int), .string ⟨#[]⟩] _ 1 2 (by first | rfl | simp) (by simp) (by omega)) (by simp [Value.oneCell']) hm1 hm2 ?_ ?_))
    try (case refine_1 => first | omega | (simp <;> omega; done))
    intro A7 c7 w7 O7 hg7 _
    have g7 := appR g5 hg7 (by omega) (fun q hq => by have := (hlt6 q hq).1; omega)
    have R7 := R5.app hg7 (fun q hq => by have := (hlt6 q hq).1; omega)
    have O8 : w7.ownsRow w.heap.size 33 2 (.slice A7 (ps ++ [((bks.length : Int), [])]).length c7) (ps ++ [((bks.length : Int), [])]).length (pcsV (ps ++ [((bks.length : Int), [])])) := by
      rw [pcsV_snoc, List.length_append]; exact O7
    have HL : Go.RowKit.Hid ((ps ++ [((bks.length : Int), ([] : Bs))]).length = ps.length + 1) := by show _ = _; simp
    have HH := Go.Lib.hid (And.intro O8 (And.intro R7 g7))
    clear O7 O8 R7 g7 hg7 O0_5 R5 g5
    go_wp2
    go_ret2
    refine ⟨⟨ps ++ [((bks.length : Int), [])], bks.length, A7, c7, by rw [HL.out]; rfl, by rw [HL.out]; omega, fun p hp => ?_, by omega, by omega, HH.out.1⟩, HH.out.2.1.mono (by omega), HH.out.2.2⟩
    rcases List.mem_append.1 hp with h | h
    · exact HPD.out p h
    · simp at h; subst h; simp
  have hkb2 : (k == 2) = false := by rw [beq_eq_false_iff_ne]; exact h2
  go_wp2
  go_ret2
  exact ⟨⟨ps, bks.length, A4, c4, rfl, by omega, HPD.out, by omega, by omega, O0_5⟩, R5.mono (by omega), g5⟩
theorem drawLost_any (bs : Bs) (A : Option Addr) (cap : Nat) (w : World) (hs : Sl w A bs.length cap 1 (bs.map u8v)) :
    Calls Tryz.prog 14 #[.slice A bs.length cap] w fun e w' => (∃ (ps : List Pc) (c : Int) (A : Option Addr) (cap : Nat), e = .returned (.tuple #[.slice A ps.length cap, .int .i64 c]) ∧ ps.length ≤ 41 ∧ (∀ p ∈ ps, p.2.length ≤ 64) ∧ -1 ≤ c ∧ c ≤ 41 ∧ Sl w' A ps.length cap 2 (pcsV ps)) ∧ Below w.heap.size w w' := by
  go_enter Tryz.func14, Tryz.ntmps14
  go_wp2_with fail
  refine (l9Open_any bs A cap _ hs).mono ?_
  rintro e w1 ⟨rfl, R1, hb1⟩
  have z1 := hb1.size
  have g1 : BelowR w.heap.size w.heap.size w w1 := below_toR hb1 _
  clear hb1 hs
  generalize hr0 : w.heap.size = r at *
  have cP := l7Pick_any r _ w1 R1 (by omega)
  unfold PkRes at cP
  go_wp2_with fail
  refine cP.mono ?_
  rintro e w2 ⟨⟨ps, c, A2, c2, rfl, hl, hd, hc0, hc1, o2⟩, R2, b2⟩
  have g2 := g1.trans (b2.mono z1)
  have HD := Go.Lib.hid hd
  have S2 := own_Sl o2
  clear hd o2 cP b2
  go_wp2
  go_ret2
  exact ⟨⟨ps, c, A2, c2, rfl, hl, HD.out, hc0, hc1, S2⟩, by rw [hr0]; exact g2.below (Nat.le_refl _)⟩
end Go.Proofs.YtoogaalbnnlloaaGreat
