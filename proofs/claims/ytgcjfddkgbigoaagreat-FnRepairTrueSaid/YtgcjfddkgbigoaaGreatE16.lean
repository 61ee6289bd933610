/- Walks: the draw of restored containers. -/
import Derived.Test.YtgcjfddkgbigoaaGreatE11
import Derived.Test.YtgcjfddkgbigoaaGreatE4
import Derived.Test.YtgcjfddkgbigoaaGreatE9
import Derived.Deep.Cut
namespace Go.Proofs.YtgcjfddkgbigoaaGreat
open Go.RowKit
set_option linter.unusedSimpArgs false
set_option linter.unusedVariables false
set_option maxRecDepth 100000
attribute [local go_sem high] run_index_S binOp_eql_S binOp_neq_S append_S toList_S size_S run_slice_S run_slice_from_S run_slice_to_S wrap64_byteAt wrap64_byteAt_mul bits_or_bytes convU conv1_some convU2 conv2_some
theorem bks_lenR (l : Bs) : ((blocksB l).getD []).length ≤ 40 := by
  cases h : blocksB l with
  | none => simp
  | some bs => exact (blocks_short h).2
theorem parB_bd (l : Bs) (g : Int) : ((parB l g).getD []).length ≤ 40 ∧ ∀ t ∈ (parB l g).getD [], t.length ≤ 1000 := by
  unfold parB
  split
  · next hc =>
    cases hB : blocksB l with
    | none => simp
    | some bs =>
      have hok := NumOk_mem (blocks_some hB).1
      have hlen := (blocks_short hB).2
      simp only [Option.map_some, Option.getD_some]
      refine ⟨by rw [parL_length]; have := cnt_le (n := bs.length) (g := g.toNat) (by omega); omega, fun t ht => by have := parL_bd hok t ht; omega⟩
  · simp
theorem sContainerBlocksR (l : Bs) (w : World) (hs : l.length ≤ 1500000) :
    Calls Tryz.prog 26 #[.string ⟨l.toArray⟩] w (BksRes (blocksB l) w) := by
  have cB := fun w => l5Blocks_any l w hs
  unfold BksRes at *
  go_enter Tryz.func26, Tryz.ntmps26
  go_wp2_with fail
  refine (cB _).mono ?_
  rintro e w1 ⟨A1, c1, rfl, o1, hb1⟩
  have H := Go.Lib.hid (And.intro o1 hb1)
  clear o1 hb1 cB
  go_wp2
  go_ret2
  exact ⟨A1, c1, rfl, H.out.1, H.out.2⟩
def RcRes (w : World) (e : Ending) (w' : World) : Prop := (∃ (l : Bs) (ps : List Bs) (g c : Int) (A : Option Addr) (cap : Nat), e = .returned (.tuple #[sv l, .slice A ps.length cap, .int .i64 g, .int .i64 c]) ∧ l.length ≤ 22000 ∧ ps.length ≤ 40 ∧ (∀ t ∈ ps, t.length ≤ 1000) ∧ -1 ≤ g ∧ g ≤ 41 ∧ 0 ≤ c ∧ c ≤ 40 ∧ Sl w' A ps.length cap 1 (ps.map sv)) ∧ Below w.heap.size w w'
set_option maxHeartbeats 2000000 in
theorem drawRepair_any (bs : Bs) (A : Option Addr) (cap : Nat) (w : World) (hs : Sl w A bs.length cap 1 (bs.map u8v)) :
    Calls Tryz.prog 10 #[.slice A bs.length cap] w (RcRes w) := by
  unfold RcRes
  go_enter Tryz.func10, Tryz.ntmps10
  go_wp2_with fail
  refine (l9Open_any bs A cap _ hs).mono ?_
  rintro e w1 ⟨rfl, R1, hb1⟩
  have z1 := hb1.size
  have g1 : BelowR w.heap.size w.heap.size w w1 := below_toR hb1 _
  have hlt := R1.lt
  clear hb1 hs
  generalize hr0 : w.heap.size = r at *
  go_wp2_with fail
  refine (l7Some_any _ _ _ R1 (by omega)).mono ?_
  rintro e w2 ⟨⟨o, l, m, dict, X, Y, rfl, hst, hdl, hX, hY⟩, R2, b2⟩
  have z2 := b2.size
  try simp only [World.size_alloc, World.size_setCell, World.size_drew] at z2
  have g2 := g1.trans (b2.mono (by first | omega | (simp; done) | (simp; omega)))
  clear b2 g1 
  have cB := fun w => sContainerBlocksR X w (by omega)
  have hbl := bks_lenR X
  unfold BksRes at cB
  generalize (blocksB X).getD [] = bks at *
  generalize (blocksB X).isSome = bo at *
  go_wp2_with fail
  refine (cB _).mono ?_
  rintro e w3 ⟨A3, c3, rfl, o3, hb3⟩
  have z3 := hb3.size
  simp only [World.size_alloc] at z3
  have R3 := (R2.alloc (.cells #[.int .i64 o, .int .i64 l, .int .i64 m] 65)).keep hb3
  have g3 := (g2.alloc (by omega) (.cells #[.int .i64 o, .int .i64 l, .int .i64 m] 65)).trans (below_toR (hb3.mono (by simp; omega)) r)
  clear hb3 o3 cB g2 R2
  go_wp2_with fail
  refine (l7Size_any _ _ _ R3 (by omega)).mono ?_
  rintro e w4 ⟨⟨g, rfl, hg0, hg1⟩, R4, b4⟩
  have z4 := b4.size
  try simp only [World.size_alloc, World.size_setCell, World.size_drew] at z4
  have g4 := g3.trans (b4.mono (by first | omega | (simp; done) | (simp; omega)))
  clear b4 g3 
  have cP := fun w => sParityOf_any X g w (by omega) (by omega) (by omega)
  have hpb := parB_bd X g
  unfold PaRes at cP
  generalize (parB X g).getD [] = ps at *
  generalize (parB X g).isSome = po at *
  obtain ⟨hp1, hp2⟩ := hpb
  have HP2 := Go.Lib.hid hp2
  clear hp2
  go_wp2_with fail
  refine (cP _).mono ?_
  rintro e w5 ⟨A5, c5, rfl, O0_5, hb5⟩
  have z5 := hb5.size
  have R5 := R4.keep hb5
  have g5 := g4.trans (below_toR (hb5.mono (by omega)) r)
  generalize hB0 : w4.heap.size = B0 at *
  have hrB : r < B0 := by omega
  clear hb5 cP R4 g4
  have hq0 : (0 : Int) ≤ bks.length := by omega
  by_cases hpl : 0 < ps.length
  · have hpli : (0 : Int) < ps.length := by omega
    go_wp2_with fail
    refine (pick_any r _ 12 _ R5 (by omega) (by omega) (by omega)).mono ?_
    rintro e w6 ⟨⟨x, rfl, hx0, hx1⟩, R6, b6⟩
    have z6 := b6.size
    try simp only [World.size_alloc, World.size_setCell, World.size_drew] at z6
    have O0_6 := ownsR_keep O0_5 b6 (by omega)
    have g6 := g5.trans (b6.mono (by first | omega | (simp; done) | (simp; omega)))
    clear b6 g5 O0_5
    by_cases hx : x = 0
    · subst hx
      go_wp2_with fail
      refine (pick_any r _ (ps.length : Int) _ R6 (by omega) (by omega) (by omega)).mono ?_
      rintro e w7 ⟨⟨y, rfl, hy0, hy1⟩, R7, b7⟩
      have z7 := b7.size
      try simp only [World.size_alloc, World.size_setCell, World.size_drew] at z7
      have O0_7 := ownsR_keep O0_6 b7 (by omega)
      have g7 := g6.trans (b7.mono (by first | omega | (simp; done) | (simp; omega)))
      clear b7 g6 O0_6
      obtain ⟨v, rfl⟩ := Int.eq_ofNat_of_zero_le hy0
      have hv : v < ps.length := by omega
      have hvi : (v : Int) < ps.length := by omega
      clear hy0 hy1
      go_wp2_with fail
      refine (l1Bytes_any r _ 12 _ R7 (by omega) (by omega)).mono ?_
      rintro e w8 ⟨⟨t, rfl, ht⟩, R8, b8⟩
      have z8 := b8.size
      try simp only [World.size_alloc, World.size_setCell, World.size_drew] at z8
      have O0_8 := ownsR_keep O0_7 b8 (by omega)
      have g8 := g7.trans (b8.mono (by first | omega | (simp; done) | (simp; omega)))
      clear b8 g7 O0_7
      obtain ⟨gq, rfl, hgB, hgl⟩ := own_pos O0_8 hpl
      have cv := (O0_8.cellAt v (by omega)).trans (by rw [List.getElem?_map, List.getElem?_eq_getElem hv]; rfl : (ps.map sv)[v]? = some (sv ps[v]))
      have fv := O0_8.frozenAt v
      have O9 := (O0_8.stored v (sv t)).1
      have g9 := g8.setCell (p := ⟨gq, v, none⟩) (.inr (by show r ≤ gq; omega)) (sv t)
      rw [show (ps.map sv).set v (sv t) = (ps.set v t).map sv by rw [List.map_set]] at O9
      have hl9 : (ps.set v t).length = ps.length := by simp
      have HM : Go.RowKit.Hid (∀ u ∈ ps.set v t, u.length ≤ 1000) := fun u hu => by
        rcases List.mem_or_eq_of_mem_set hu with h | rfl
        · exact HP2.out u h
        · omega
      have S9 := Sl.of_own O9
      rw [← hl9] at S9
      have HS9 := Go.Lib.hid S9
      have HL9 := Go.Lib.hid hl9
      generalize ps[v] = p0 at *
      clear O9 O0_8 S9 hl9 HP2
      generalize ps.set v t = us at *
      go_wp2
      refine bodyPost_ret (v := .tuple #[sv Y, .slice (some ⟨gq, 0, none⟩) ps.length c5, .int .i64 g, .int .i64 bks.length]) (by simp [results, Tryz.results10, go_sem]) rfl ?_
      refine ⟨⟨Y, us, g, bks.length, some ⟨gq, 0, none⟩, c5, by rw [HL9.out], hY, by rw [HL9.out]; omega, HM.out, by omega, by omega, by omega, by omega, ?_⟩, (by rw [hr0]; exact g9.below (Nat.le_refl _))⟩
      obtain ⟨A', c', e1, hs9⟩ := HS9.out
      rw [HL9.out] at *
      injection e1 with e2 e3 e4
      subst e2 e4
      exact hs9
    · have hxb : (x == 0) = false := by rw [beq_eq_false_iff_ne]; exact hx
      have S9 := Go.Lib.hid (Sl.of_own O0_6)
      clear O0_6
      go_wp2
      refine bodyPost_ret (v := .tuple #[sv Y, .slice A5 ps.length c5, .int .i64 g, .int .i64 bks.length]) (by simp [results, Tryz.results10, go_sem]) rfl ?_
      refine ⟨⟨Y, ps, g, bks.length, A5, c5, rfl, hY, hp1, HP2.out, by omega, by omega, by omega, by omega, ?_⟩, (by rw [hr0]; exact g6.below (Nat.le_refl _))⟩
      obtain ⟨A', c', e1, hs9⟩ := S9.out
      injection e1 with e2 e3 e4
      subst e2 e4
      exact hs9
  · have hpli : ¬ (0 : Int) < ps.length := by omega
    have S9 := Go.Lib.hid (Sl.of_own O0_5)
    clear O0_5
    go_wp2
    refine bodyPost_ret (v := .tuple #[sv Y, .slice A5 ps.length c5, .int .i64 g, .int .i64 bks.length]) (by simp [results, Tryz.results10, go_sem]) rfl ?_
    refine ⟨⟨Y, ps, g, bks.length, A5, c5, rfl, hY, hp1, HP2.out, by omega, by omega, by omega, by omega, ?_⟩, (by rw [hr0]; exact g5.below (Nat.le_refl _))⟩
    obtain ⟨A', c', e1, hs9⟩ := S9.out
    injection e1 with e2 e3 e4
    subst e2 e4
    exact hs9
end Go.Proofs.YtgcjfddkgbigoaaGreat
