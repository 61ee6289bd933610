/- Walks: which blocks of a container are still found. -/
import Derived.Test.YtfonokhafdflcaaGreatGP2
import Derived.Test.YtfonokhafdflcaaGreatGB
import Derived.Laws.StructEq
namespace Go.Proofs.YtfonokhafdflcaaGreat
open Go.RowKit
set_option linter.unusedVariables false
set_option linter.unusedSimpArgs false
set_option maxRecDepth 100000
attribute [local go_sem high] run_index_S binOp_eql_S binOp_neq_S append_S toList_S size_S run_slice_S run_slice_from_S run_slice_to_S wrap64_byteAt wrap64_byteAt_mul bits_or_bytes convU conv1_some convU2 conv2_some
theorem info_intS : (Tryz.prog.info? 3).map (fun i => (i.zero, i.size, i.bytes)) = some (some (.int .i64 0), 1, 8) := by kernel_rfl
theorem stoodB : Tryz.prog.stoodInHeld 38 = false := by kernel_rfl
theorem guardB : Tryz.prog.eqGuardType Tryz.prog.depth 38 = false := by kernel_rfl
theorem own_ownS {w : World} {B B' : Nat} {e e' : TypeId} {s s' n n' : Nat} {v v' : Value} {xs xs' : List Value} (h : w.ownsRow B e s v n xs) (h' : w.ownsRow B' e' s' v' n' xs') (hne : e ≠ e') : v.ownBlock = none ∨ v.ownBlock ≠ v'.ownBlock := by
  rcases h.2 with ⟨rfl, _⟩ | ⟨g, cap, cur, rfl, _, hh, _⟩
  · exact .inl rfl
  · right
    rcases h'.2 with ⟨rfl, _⟩ | ⟨g', cap', cur', rfl, _, hh', _⟩
    · intro hc; cases hc
    · intro hc
      injection hc with hc
      have hc : g = g' := hc
      subst hc
      rw [hh] at hh'
      injection hh' with hh'
      injection hh' with _ hh'
      exact hne hh'
/-- It returns numbers in a row of its own. -/
def IsResS (ns : List Int) (w : World) (e : Ending) (w' : World) : Prop := ∃ A cap, e = .returned (.slice A ns.length cap) ∧ w'.ownsRow w.heap.size 3 1 (.slice A ns.length cap) ns.length (ns.map (Value.int .i64)) ∧ Below w.heap.size w w'
theorem survB_some {l d : Bs} {bs : List Blk} (h : blocksB l = some bs) : survB l d = survL bs (findB d) := by unfold survB; rw [h]
theorem survB_none {l d : Bs} (h : blocksB l = none) : survB l d = [] := by unfold survB; rw [h]
theorem surv_yes {bs : List Blk} {fs : List Fd} {k : Nat} (hk : k < bs.length) (h : firstF fs bs[k].num = some bs[k]) : survL (bs.take (k + 1)) fs = survL (bs.take k) fs ++ [bs[k].num] := by
  rw [List.take_succ_eq_append_getElem hk, survL_snoc, if_pos h]
theorem surv_no {bs : List Blk} {fs : List Fd} {k : Nat} (hk : k < bs.length) (h : ¬ firstF fs bs[k].num = some bs[k]) : survL (bs.take (k + 1)) fs = survL (bs.take k) fs := by
  rw [List.take_succ_eq_append_getElem hk, survL_snoc, if_neg h, List.append_nil]
theorem Blk.ne_part {n : Int} {r r' : Bool} {z z' : Int} {D D' : Bs} (h : ¬ (⟨n, r', z', D'⟩ : Blk) = ⟨n, r, z, D⟩) : (r' == r) = false ∨ (r' = r ∧ (z' == z) = false) ∨ (r' = r ∧ z' = z ∧ (D' == D) = false) := by
  by_cases h1 : r' = r
  · subst h1
    by_cases h2 : z' = z
    · subst h2
      exact .inr (.inr ⟨rfl, rfl, by rw [beq_eq_false_iff_ne]; intro e; subst e; exact h rfl⟩)
    · exact .inr (.inl ⟨rfl, by rw [beq_eq_false_iff_ne]; exact h2⟩)
  · exact .inl (by rw [beq_eq_false_iff_ne]; exact h1)
theorem findB_lenS (d : Bs) : (findB d).length ≤ 10000 := by
  by_cases h : d.length ≤ 8000
  · have := chain_len (find_chain d) (by omega)
    omega
  · unfold findB
    rw [show nextB d 0 = -1 by unfold nextB; rw [if_neg (by omega)], findGo_neg _ _ (by omega)]
    simp
set_option maxHeartbeats 4000000 in
theorem survivors_any (l d : Bs) (w : World) (hl : l.length ≤ 1500000) (hd : d.length ≤ 1500000) :
    Calls Tryz.prog 15 #[sv l, sv d] w (IsResS (survB l d) w) := by
  obtain ⟨i, hi, hz0, hz1, hz2⟩ := info_parts info_intS
  have cB := fun w => containerBlocks_any l w hl
  have cF := fun w => findBlocks_any d w hd
  have hst := stoodB
  have hgd := guardB
  unfold IsResS
  unfold BksRes at cB
  cases hB : blocksB l with
  | none =>
    rw [survB_none hB]
    rw [hB] at cB
    go_enter Tryz.func15, Tryz.ntmps15
    go_wp2_with fail
    refine (cB _).mono ?_
    rintro e w1 ⟨A1, c1, rfl, o1, hb1⟩
    go_wp2
    go_ret
    exact ⟨none, 0, rfl, ⟨by simp, .inl ⟨rfl, rfl⟩⟩, hb1⟩
  | some bs =>
    have hlen := (blocks_short hB).2
    rw [survB_some hB]
    rw [hB] at cB
    have hfl := findB_lenS d
    simp only [Option.getD_some, Option.isSome_some] at cB
    clear hB
    unfold FsRes at cF
    generalize findB d = fs at *
    go_enter Tryz.func15, Tryz.ntmps15
    go_wp2_with fail
    refine (cB _).mono ?_
    rintro e w1 ⟨A1, c1, rfl, o1, hb1⟩
    have z1 := hb1.size
    go_wp2_with fail
    refine (cF _).mono ?_
    rintro e w2 ⟨A2, c2, rfl, o2, hb2⟩
    have z2 := hb2.size
    have O1 := owns_keep o1 hb2
    have O2 := own_mono o2 z1
    have g2 := hb1.trans (hb2.mono (by omega))
    have hc1 := (own_Sl O1).1
    have hc2 := (own_Sl O2).1
    clear hb1 hb2 o1 o2 cB cF
    go_wp2
    go_loopw [8, 24] (fun o x wr => ∃ (A3 : Option Addr) (c3 k : Nat), o = .slice A3 (survL (bs.take k) fs).length c3 ∧ x = .int .i64 (k : Int) ∧ k ≤ bs.length ∧ wr.ownsRow w.heap.size 3 1 (.slice A3 (survL (bs.take k) fs).length c3) (survL (bs.take k) fs).length ((survL (bs.take k) fs).map (Value.int .i64)) ∧ wr.ownsRow w.heap.size 38 4 (.slice A1 bs.length c1) bs.length (bksV bs) ∧ wr.ownsRow w.heap.size 40 5 (.slice A2 fs.length c2) fs.length (fsV fs) ∧ Below w.heap.size w wr) (fun _ x _ => bs.length - (intOf x).toNat)
    case atStart => exact ⟨none, 0, 0, rfl, rfl, by omega, ⟨by simp [survL], .inl ⟨rfl, rfl⟩⟩, O1, O2, g2⟩
    case round =>
      obtain ⟨A3, c3, k, rfl, rfl, hk, hown, hbo, hfo, hb⟩ := hrel
      have hz := hb.size
      clear O1 O2 g2
      by_cases hlt : k < bs.length
      · have hki : (k : Int) < bs.length := by omega
        obtain ⟨g, off, rfl, hg, hc⟩ := Sl.cellK (own_Sl hbo) hlt
        have hcs := bksV_at bs k hlt
        have c0 := hc 0 _ hcs.1
        have c1' := hc 1 _ hcs.2.1
        have c2' := hc 2 _ hcs.2.2.1
        have c3' := hc 3 _ hcs.2.2.2
        clear hc hcs
        have HY := Go.Lib.hid (surv_yes (fs := fs) hlt)
        have HN := Go.Lib.hid (surv_no (fs := fs) hlt)
        have hsl := survL_len_le (bs.take k) fs
        rw [List.length_take] at hsl
        generalize bs[k] = b at *
        obtain ⟨n2, r, n4, D⟩ := b
        simp only [Nat.add_zero] at c0 c1' c2' c3' HY HN
        have cX : Go.RowKit.Hid (∀ w, Sl w A2 fs.length c2 5 (fsV fs) → Calls Tryz.prog 36 #[.slice A2 fs.length c2, .int .i64 n2] w fun e w' => e = ffRes (firstF fs n2) ∧ Below w.heap.size w w') := fun w hs => firstFound_any fs n2 A2 c2 w hs (by omega)
        have hFN := Go.Lib.hid (fun b' (h : firstF fs n2 = some b') => firstF_num h)
        generalize survL (bs.take k) fs = ns at *
        have K0 := Bk.new wr (bkC ⟨n2, r, n4, D⟩) 38
        have hX0 := K0.cell
        have hF0 := K0.free
        have o1 := hown.alloc (.cells (bkC ⟨n2, r, n4, D⟩) 38)
        have p1 := hbo.alloc (.cells (bkC ⟨n2, r, n4, D⟩) 38)
        have q1 := hfo.alloc (.cells (bkC ⟨n2, r, n4, D⟩) 38)
        have g1 : Below w.heap.size w (wr.alloc (.cells (bkC ⟨n2, r, n4, D⟩) 38)) := hb.alloc (by omega) _
        clear hown hbo hfo
        go_wp2_with fail
        refine (cX.out _ (own_Sl q1)).mono ?_
        rintro e w3 ⟨rfl, hb3⟩
        have z3 := hb3.size
        simp only [World.size_alloc] at z3
        have o3 := owns_keep o1 hb3
        have p3 := owns_keep p1 hb3
        have q3 := owns_keep q1 hb3
        have g3 := g1.trans (hb3.mono (by simp; omega))
        have K3 := K0.below hb3 (by simp)
        clear hX0 hF0 o1 p1 q1 g1 hb3 K0 c0 c1' c2' c3' cX
        unfold ffRes
        cases hf : firstF fs n2 with
        | none =>
          have HE := Go.Lib.hid (HN.out (by rw [hf]; simp))
          clear HY HN hf hFN
          simp only [Option.getD_none, Option.isSome_none]
          have K4 := K3.alloc (.cells bkZC 38)
          have o4 := o3.alloc (.cells bkZC 38)
          have p4 := p3.alloc (.cells bkZC 38)
          have q4 := q3.alloc (.cells bkZC 38)
          have hX4 := K4.cell
          have hX5 := (Bk.new w3 bkZC 38).cell
          have hF5 := (Bk.new w3 bkZC 38).free
          have g4 : Below w.heap.size w (w3.alloc (.cells bkZC 38)) := g3.alloc (by omega) _
          have O4 := Go.Lib.hid o4
          have P4 := Go.Lib.hid p4
          have Q4 := Go.Lib.hid q4
          clear o3 p3 q3 o4 p4 q4 g3 hb
          go_wp2
          go_roundw
          case rel => exact ⟨A3, c3, k + 1, by rw [HE.out], by go_num, by omega, by rw [HE.out]; exact O4.out, P4.out, Q4.out, g4⟩
          case measure => simp [intOf]; omega
        | some b' =>
          have hnum := hFN.out _ hf
          obtain ⟨n3, r', z', D'⟩ := b'
          simp only at hnum
          subst hnum
          simp only [Option.getD_some, Option.isSome_some]
          have K4 := K3.alloc (.cells (bkC ⟨n3, r', z', D'⟩) 38)
          have o4 := o3.alloc (.cells (bkC ⟨n3, r', z', D'⟩) 38)
          have p4 := p3.alloc (.cells (bkC ⟨n3, r', z', D'⟩) 38)
          have q4 := q3.alloc (.cells (bkC ⟨n3, r', z', D'⟩) 38)
          have hX4 := K4.cell
          have hX5 := (Bk.new w3 (bkC ⟨n3, r', z', D'⟩) 38).cell
          have hF5 := (Bk.new w3 (bkC ⟨n3, r', z', D'⟩) 38).free
          have g4 : Below w.heap.size w (w3.alloc (.cells (bkC ⟨n3, r', z', D'⟩) 38)) := g3.alloc (by omega) _
          clear o3 p3 q3 g3 hb
          by_cases he : (⟨n3, r', z', D'⟩ : Blk) = ⟨n3, r, n4, D⟩
          · have HE := Go.Lib.hid (HY.out (by rw [hf, he]))
            injection he with _ he1 he2 he3
            subst he1 he2 he3
            clear HY HN hf hFN
            have hm1 : ns.length + 1 ≤ maxLen := by unfold maxLen; omega
            have hm2 : (ns.length + 1) * 8 ≤ 140737488355328 := by omega
            go_wp2_with (at_builtin; go_must (refine wpList_ap _ rfl _ _ 46 rfl (w.heap.size) 3 i _ 1 8 Tryz.underlying46 hi hz0 hz1 hz2 rfl (by first | omega | (simp; done) | (simp; omega)) _ _ _ rfl (o4.alloc _) _ 1 1 [.int .i64 n3] rfl (Sl.newAt _ #[.int .i64 n3] _ 1 1 (by first | rfl | simp) (by simp) (by omega)) (by simp [Value.oneCell']) hm1 hm2 ?_ ?_))
            try (case refine_1 => first | omega | (simp <;> omega; done))
            intro A8 c8 w8 o8 hg8 _
            have g8 := app_below g4 hg8 (by simp; omega) (fun k hk => by have := (o4.lt k hk).1; omega)
            have p8 := (p4.alloc _).kept hg8 (own_ownS p4 o4 (by decide))
            have q8 := (q4.alloc _).kept hg8 (own_ownS q4 o4 (by decide))
            have O8 := Go.Lib.hid o8
            have P8 := Go.Lib.hid p8
            have Q8 := Go.Lib.hid q8
            clear hg8 o8 o4 p4 q4 p8 q8 g4
            go_wp2
            go_roundw
            case rel => exact ⟨A8, c8, k + 1, by rw [HE.out, List.length_append]; rfl, by go_num, by omega, by rw [HE.out, List.length_append, List.map_append]; exact O8.out, P8.out, Q8.out, g8⟩
            case measure => simp [intOf]; omega
          · have HE := Go.Lib.hid (HN.out (by rw [hf]; intro h; injection h with h; exact he h))
            have hp := Blk.ne_part he
            have O4 := Go.Lib.hid o4
            have P4 := Go.Lib.hid p4
            have Q4 := Go.Lib.hid q4
            clear HY HN hf hFN he o4 p4 q4
            rcases hp with h1 | ⟨rfl, h2⟩ | ⟨rfl, rfl, h3⟩
            all_goals
              go_wp2
              go_roundw
              case rel => exact ⟨A3, c3, k + 1, by rw [HE.out], by go_num, by omega, by rw [HE.out]; exact O4.out, P4.out, Q4.out, g4⟩
              case measure => simp [intOf]; omega
      · have hki : ¬ (k : Int) < bs.length := by omega
        have hke : bs.take k = bs := List.take_of_length_le (by omega)
        rw [hke] at hown
        have HKE := Go.Lib.hid hke
        clear hke
        go_wp2
        go_ret
        rw [HKE.out]
        exact ⟨A3, c3, rfl, hown, hb⟩
end Go.Proofs.YtfonokhafdflcaaGreat
