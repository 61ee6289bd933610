/- Walks: draws of parities and of their texts. -/
import Derived.Test.YtoogaalbnnlloaaGreatDoorGD2
import Derived.Test.YtoogaalbnnlloaaGreatDoorE9
import Derived.Test.YtoogaalbnnlloaaGreatDoorW9
import Derived.Test.YtoogaalbnnlloaaGreatDoorBent
namespace Go.Proofs.YtoogaalbnnlloaaGreatDoor
open Go.RowKit
set_option linter.unusedSimpArgs false
set_option linter.unusedVariables false
set_option maxRecDepth 100000
attribute [local go_sem high] run_index_S binOp_eql_S binOp_neq_S append_S toList_S size_S run_slice_S run_slice_from_S run_slice_to_S wrap64_byteAt wrap64_byteAt_mul bits_or_bytes convU conv1_some convU2 conv2_some
theorem parB_bd2 (l : Bs) (g : Int) : ((parB l g).getD []).length ≤ 40 ∧ ∀ t ∈ (parB l g).getD [], t.length ≤ 76 := by
  unfold parB
  split
  · next hc =>
    cases hB : blocksB l with
    | none => simp
    | some bs =>
      have hok := NumOk_mem (blocks_some hB).1
      have hlen := (blocks_short hB).2
      simp only [Option.map_some, Option.getD_some]
      exact ⟨by rw [parL_length]; have := cnt_le (n := bs.length) (g := g.toNat) (by omega); omega, fun t ht => parL_bd hok t ht⟩
  · simp
def FpRes (w : World) (e : Ending) (w' : World) : Prop := (∃ (ps : List Bs) (A : Option Addr) (cap : Nat), e = .returned (.slice A ps.length cap) ∧ ps.length ≤ 41 ∧ (∀ t ∈ ps, t.length ≤ 76) ∧ SlS w' A cap ps) ∧ Below w.heap.size w w'
set_option maxHeartbeats 2000000 in
theorem drawFormatParity_any (bs : Bs) (A : Option Addr) (cap : Nat) (w : World) (hs : Sl w A bs.length cap 1 (bs.map u8v)) :
    Calls Tryz.prog 4 #[.slice A bs.length cap] w (FpRes w) := by
  obtain ⟨i, hi, hz0, hz1, hz2⟩ := info_parts info_str
  unfold FpRes
  go_enter Tryz.func4, Tryz.ntmps4
  go_wp2_with fail
  refine (l9Open_any bs A cap _ hs).mono ?_
  rintro e w1 ⟨rfl, R1, hb1⟩
  have z1 := hb1.size
  have g1 : BelowR w.heap.size w.heap.size w w1 := below_toR hb1 _
  have hlt := R1.lt
  clear hb1 hs
  generalize hr0 : w.heap.size = r at *
  go_wp2_with fail
  refine (l5Some_any _ _ _ R1 (by omega)).mono ?_
  rintro e w2 ⟨⟨o, l, m, dict, d, q, rfl, hst, hdl, hd, hk0, hk1⟩, R2, b2⟩
  have z2 := b2.size
  try simp only [World.size_alloc, World.size_setCell, World.size_drew] at z2
  have g2 := g1.trans (b2.mono (by first | omega | (simp; done) | (simp; omega)))
  clear b2 g1 
  obtain ⟨X, hX⟩ : ∃ X, (mkC o l m dict d q).getD [] = X := ⟨_, rfl⟩
  have hXl : X.length ≤ 22000 := by
    rw [← hX]
    cases h : mkC o l m dict d q
    · simp
    · exact mkC_len h
  rw [hX]
  clear hX
  go_wp2_with fail
  refine (pick_any r _ 4 _ (R2.alloc _) (by omega) (by omega) (by omega)).mono ?_
  rintro e w3 ⟨⟨v, rfl, hv0, hv1⟩, R3, b3⟩
  have z3 := b3.size
  try simp only [World.size_alloc, World.size_setCell, World.size_drew] at z3
  have g3 := (g2.alloc (by first | omega | (simp <;> omega)) _).trans (b3.mono (by first | omega | (simp; done) | (simp; omega)))
  clear b3 g2 
  have hwv : IntKind.i64.wrap (1 + v) = 1 + v := IntWalk.i64_in _ (by omega)
  have cP := fun w => sParityOf_any X (1 + v) w (by omega) (by omega) (by omega)
  have hpb := parB_bd2 X (1 + v)
  unfold PaRes at cP
  generalize (parB X (1 + v)).getD [] = ps at *
  generalize (parB X (1 + v)).isSome = po at *
  obtain ⟨hp1, hp2⟩ := hpb
  have HP2 := Go.Lib.hid hp2
  clear hp2
  go_wp2_with fail
  refine (cP _).mono ?_
  rintro e w5 ⟨A5, c5, rfl, O0_5, hb5⟩
  have z5 := hb5.size
  have R5 := R3.keep hb5
  have g5 := g3.trans (below_toR (hb5.mono (by omega)) r)
  generalize hB0 : w3.heap.size = B0 at *
  have hrB : r < B0 := by omega
  clear hb5 cP R3 g3
  go_wp2_with fail
  refine (pick_any r _ 12 _ R5 (by omega) (by omega) (by omega)).mono ?_
  rintro e w6 ⟨⟨x, rfl, hx0, hx1⟩, R6, b6⟩
  have z6 := b6.size
  try simp only [World.size_alloc, World.size_setCell, World.size_drew] at z6
  have O0_6 := ownsR_keep O0_5 b6 (by omega)
  have g6 := g5.trans (b6.mono (by first | omega | (simp; done) | (simp; omega)))
  clear b6 g5 O0_5
  by_cases hx : x = 0
  · subst hx
    have s1 := Sl.list w6 [sv [], sv [120], sv [120, 121]] 9 w6.heap.size 3 rfl rfl (by omega)
    have hr6 := R6.lt
    go_wp2_with fail
    refine (of_any r _ [[], [120], [120, 121]] (some ⟨w6.heap.size, 0, none⟩) 3 _ (R6.alloc _) (by omega) s1 (by simp) (by simp) (by rintro g off ⟨⟩; omega)).mono ?_
    rintro e w7 ⟨⟨y, hy, rfl⟩, R7, b7⟩
    have z7 := b7.size
    try simp only [World.size_alloc, World.size_setCell, World.size_drew] at z7
    have O0_7 := ownsR_keep (World.ownsRow.alloc O0_6 _) b7 (by omega)
    have g7 := (g6.alloc (by first | omega | (simp <;> omega)) _).trans (b7.mono (by first | omega | (simp; done) | (simp; omega)))
    clear b7 g6 O0_6
    have hyl : y.length ≤ 2 := by
      simp at hy
      rcases hy with h | h | h <;> rw [h] <;> simp
    have hm1 : ps.length + 1 ≤ maxLen := by unfold maxLen; omega
    have hm2 : (ps.length + 1) * 16 ≤ 140737488355328 := by omega
    have hlt7 := O0_7.lt
    clear s1 hy R5 R6
    go_wp2_with (at_builtin; go_must (refine wpList_ap _ rfl _ _ 23 rfl (B0) 9 i _ 1 16 Tryz.underlying23 hi hz0 hz1 hz2 rfl (by omega) _ _ _ rfl (O0_7.alloc _) _ 1 1 [sv y] rfl (Sl.newAt w7 #[sv y] _ 1 1 (by first | rfl | simp) (by simp) (by omega)) (by simp [Value.oneCell']) hm1 hm2 ?_ ?_))
    try (case refine_1 => first | omega | (simp <;> omega; done))
    intro A8 c8 w8 O8 hg8 _
    have g8 := appR g7 hg8 (by omega) (fun q hq => by have := (hlt7 q hq).1; omega)
    have S8 : w8.ownsRow B0 9 1 (.slice A8 (ps ++ [y]).length c8) (ps ++ [y]).length ((ps ++ [y]).map sv) := by rw [List.length_append, List.map_append]; exact O8
    have HSS := Go.Lib.hid (SlS.of_own S8)
    have HVY : (ps ++ [y]).length = ps.length + 1 := by simp
    have HM : Go.RowKit.Hid (∀ t ∈ ps ++ [y], t.length ≤ 76) := fun t ht => by
      rcases List.mem_append.1 ht with h | h
      · exact HP2.out t h
      · simp at h; subst h; omega
    rw [← HVY]
    have HVL : (ps ++ [y]).length ≤ 41 := by omega
    clear hg8 O8 O0_7 S8 R7 g7 HVY
    generalize ps ++ [y] = us at *
    go_wp2
    go_ret
    exact ⟨⟨us, A8, c8, rfl, HVL, HM.out, HSS.out⟩, (by rw [hr0]; exact g8.below (Nat.le_refl _))⟩
  · have hxb : (x == 0) = false := by rw [beq_eq_false_iff_ne]; exact hx
    have HSS := Go.Lib.hid (SlS.of_own O0_6)
    clear O0_6
    go_wp2
    go_ret
    exact ⟨⟨ps, A5, c5, rfl, by omega, HP2.out, HSS.out⟩, (by rw [hr0]; exact g6.below (Nat.le_refl _))⟩
set_option maxHeartbeats 2000000 in
theorem drawParseParity_any (bs : Bs) (A : Option Addr) (cap : Nat) (w : World) (hs : Sl w A bs.length cap 1 (bs.map u8v)) :
    Calls Tryz.prog 9 #[.slice A bs.length cap] w fun e w' => (∃ t : Bs, e = .returned (sv t) ∧ t.length ≤ 100000) ∧ Below w.heap.size w w' := by
  go_enter Tryz.func9, Tryz.ntmps9
  go_wp2_with fail
  refine (l9Open_any bs A cap _ hs).mono ?_
  rintro e w1 ⟨rfl, R1, hb1⟩
  have z1 := hb1.size
  have g1 : BelowR w.heap.size w.heap.size w w1 := below_toR hb1 _
  have hlt := R1.lt
  clear hb1 hs
  generalize hr0 : w.heap.size = r at *
  go_wp2_with fail
  refine (l5Some_any _ _ _ R1 (by omega)).mono ?_
  rintro e w2 ⟨⟨o, l, m, dict, d, q, rfl, hst, hdl, hd, hk0, hk1⟩, R2, b2⟩
  have z2 := b2.size
  try simp only [World.size_alloc, World.size_setCell, World.size_drew] at z2
  have g2 := g1.trans (b2.mono (by first | omega | (simp; done) | (simp; omega)))
  clear b2 g1 
  obtain ⟨X, hX⟩ : ∃ X, (mkC o l m dict d q).getD [] = X := ⟨_, rfl⟩
  have hXl : X.length ≤ 22000 := by
    rw [← hX]
    cases h : mkC o l m dict d q
    · simp
    · exact mkC_len h
  rw [hX]
  clear hX
  go_wp2_with fail
  refine (pick_any r _ 4 _ (R2.alloc _) (by omega) (by omega) (by omega)).mono ?_
  rintro e w3 ⟨⟨v, rfl, hv0, hv1⟩, R3, b3⟩
  have z3 := b3.size
  try simp only [World.size_alloc, World.size_setCell, World.size_drew] at z3
  have g3 := (g2.alloc (by first | omega | (simp <;> omega)) _).trans (b3.mono (by first | omega | (simp; done) | (simp; omega)))
  clear b3 g2 
  have hwv : IntKind.i64.wrap (1 + v) = 1 + v := IntWalk.i64_in _ (by omega)
  have cP := fun w => sParityOf_any X (1 + v) w (by omega) (by omega) (by omega)
  have hpb := parB_bd2 X (1 + v)
  unfold PaRes at cP
  generalize (parB X (1 + v)).getD [] = ps at *
  generalize (parB X (1 + v)).isSome = po at *
  obtain ⟨hp1, hp2⟩ := hpb
  go_wp2_with fail
  refine (cP _).mono ?_
  rintro e w5 ⟨A5, c5, rfl, O5, hb5⟩
  have z5 := hb5.size
  have R5 := R3.keep hb5
  have g5 := g3.trans (below_toR (hb5.mono (by omega)) r)
  have S5 := SlS.of_own O5
  have cF := formatParity_any ps A5 c5 w5 S5 (fun t ht => by have := hp2 t ht; omega) (by omega)
  have hfl : (fmtPar ps).length ≤ 90000 := by
    unfold fmtPar
    split
    · have h1 := join_len ps (fun t ht => hp2 t ht)
      unfold orDash
      split <;> simp <;> omega
    · simp
  generalize fmtPar ps = F at *
  clear O5 S5 hp2 hb5 R3 g3 cP
  go_wp2_with fail
  refine cF.mono ?_
  rintro e w6 ⟨rfl, hb6⟩
  have z6 := hb6.size
  have R6 := R5.keep hb6
  have g6 := g5.trans (below_toR (hb6.mono (by omega)) r)
  clear hb6 R5 g5 cF
  go_wp2_with fail
  refine (l3Bent_any r _ F _ R6 (by omega) (by omega)).mono ?_
  rintro e w7 ⟨⟨u, rfl, hu⟩, R7, b7⟩
  have z7 := b7.size
  try simp only [World.size_alloc, World.size_setCell, World.size_drew] at z7
  have g7 := g6.trans (b7.mono (by first | omega | (simp; done) | (simp; omega)))
  clear b7 g6 
  go_wp2
  go_ret
  exact ⟨⟨u, rfl, by omega⟩, (by rw [hr0]; exact g7.below (Nat.le_refl _))⟩
end Go.Proofs.YtoogaalbnnlloaaGreatDoor
