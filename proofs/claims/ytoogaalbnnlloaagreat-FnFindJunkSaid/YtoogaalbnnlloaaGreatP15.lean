/- Walks: the places of a container's blocks, by both. -/
import Derived.Test.YtoogaalbnnlloaaGreatGP2
import Derived.Test.YtoogaalbnnlloaaGreatGB
namespace Go.Proofs.YtoogaalbnnlloaaGreat
open Go.RowKit
set_option linter.unusedVariables false
set_option linter.unusedSimpArgs false
set_option maxRecDepth 100000
attribute [local go_sem high] run_index_S binOp_eql_S binOp_neq_S append_S toList_S size_S run_slice_S run_slice_from_S run_slice_to_S wrap64_byteAt wrap64_byteAt_mul bits_or_bytes convU conv1_some convU2 conv2_some
theorem info_place : (Tryz.prog.info? 63).map (fun i => (i.zero, i.size, i.bytes)) = some (some (.agg #[.int .i64 0, .int .i64 0]), 2, 16) := by kernel_rfl
/-- Where block i begins, in the stream and in the data. -/
def plcAt (bs : List Blk) (i : Nat) : Int × Int := (((catT (bs.take i)).length : Int), sizesOf (bs.take i))
def plc (bs : List Blk) : List (Int × Int) := (List.range bs.length).map (plcAt bs)
def plV (ps : List (Int × Int)) : List Value := ps.flatMap fun p => [.int .i64 p.1, .int .i64 p.2]
theorem plV_snoc (ps : List (Int × Int)) (p : Int × Int) : plV (ps ++ [p]) = plV ps ++ [.int .i64 p.1, .int .i64 p.2] := by unfold plV; rw [List.flatMap_append]; simp
theorem plV_length (ps : List (Int × Int)) : (plV ps).length = ps.length * 2 := by
  induction ps with
  | nil => rfl
  | cons f fs ih => unfold plV at *; rw [List.flatMap_cons, List.length_append, ih]; simp; omega
theorem plV_at (ps : List (Int × Int)) (k : Nat) (h : k < ps.length) : (plV ps)[k * 2 + 0]? = some (.int .i64 ps[k].1) ∧ (plV ps)[k * 2 + 1]? = some (.int .i64 ps[k].2) := by
  have e : ps = ps.take k ++ (ps[k] :: ps.drop (k + 1)) := by rw [List.getElem_cons_drop, List.take_append_drop]
  have hl : (plV (ps.take k)).length = k * 2 := by rw [plV_length, List.length_take]; omega
  have e2 : plV ps = plV (ps.take k) ++ ([.int .i64 ps[k].1, .int .i64 ps[k].2] ++ plV (ps.drop (k + 1))) := by
    conv => lhs; rw [e]
    unfold plV; rw [List.flatMap_append, List.flatMap_cons]
  rw [e2]
  refine ⟨?_, ?_⟩ <;> (rw [List.getElem?_append_right (by omega), hl]; simp)
theorem plc_length (bs : List Blk) : (plc bs).length = bs.length := by simp [plc]
theorem plc_at (bs : List Blk) (k : Nat) (h : k < (plc bs).length) : (plc bs)[k] = plcAt bs k := by simp [plc]
theorem range_plc_snoc (bs : List Blk) (k : Nat) : (List.range (k + 1)).map (plcAt bs) = (List.range k).map (plcAt bs) ++ [plcAt bs k] := by rw [List.range_succ, List.map_append]; rfl
theorem plcAt_next (bs : List Blk) (k : Nat) (h : k < bs.length) : plcAt bs (k + 1) = ((plcAt bs k).1 + (10 + bs[k].body.length), (plcAt bs k).2 + bs[k].size) := by
  unfold plcAt
  rw [List.take_succ_eq_append_getElem h, catT_snoc, sizesOf_app1, List.length_append, Blk.text_len]
  simp
theorem plcAt_bd (bs : List Blk) (hok : ∀ b ∈ bs, b.ok = true) (k : Nat) : 0 ≤ (plcAt bs k).1 ∧ (plcAt bs k).1 ≤ 74 * bs.length ∧ 0 ≤ (plcAt bs k).2 ∧ (plcAt bs k).2 ≤ 64 * bs.length := by
  have h1 := catT_le (bs.take k) (fun b hb => hok b (List.mem_of_mem_take hb))
  have h2 := sizesOf_bd (bs.take k) (fun b hb => hok b (List.mem_of_mem_take hb))
  have h3 : (bs.take k).length ≤ bs.length := by simp; omega
  unfold plcAt
  simp only
  omega
theorem plcs_len (l : Bs) : ((blocksB l).elim [] plc).length ≤ 40 := by
  cases hB : blocksB l with
  | none => simp
  | some bs => simp only [Option.elim_some, plc_length]; exact (blocks_short hB).2
/-- It returns the places in a row of its own. -/
def PlRow (w : World) (A : Option Addr) (cap : Nat) (ps : List (Int × Int)) (w' : World) : Prop :=
  w'.ownsRow w.heap.size 63 2 (.slice A ps.length cap) ps.length (plV ps) ∧ Below w.heap.size w w'
set_option maxHeartbeats 2000000 in
theorem l5Places_any (bs : List Blk) (A : Option Addr) (cap : Nat) (w : World) (hs : Sl w A bs.length cap 4 (bksV bs)) (hok : ∀ b ∈ bs, b.ok = true) (hl : bs.length ≤ 1000) :
    Calls Tryz.prog 87 #[.slice A bs.length cap] w fun e w' => ∃ A' cap', e = .returned (.slice A' (plc bs).length cap') ∧ PlRow w A' cap' (plc bs) w' := by
  obtain ⟨i, hi, hz0, hz1, hz2⟩ := info_parts info_place
  have HOK := Go.Lib.hid hok
  have hcap := hs.1
  have HBD : Go.RowKit.Hid (∀ k, 0 ≤ (plcAt bs k).1 ∧ (plcAt bs k).1 ≤ 74 * bs.length ∧ 0 ≤ (plcAt bs k).2 ∧ (plcAt bs k).2 ≤ 64 * bs.length) := plcAt_bd bs hok
  have hPL := plc_length bs
  unfold PlRow
  rw [hPL]
  go_enter Tryz.func87, Tryz.ntmps87
  go_wp2
  have hS : Go.RowKit.Hid (∀ wr, Below w.heap.size w wr → Sl wr A bs.length cap 4 (bksV bs)) := fun wr h => hs.below h
  have o0 := lit_own (base := w.heap.size) (size := 2) (Bk.new w #[] 63) (Nat.le_refl _)
  clear hs hok hPL
  go_loopw [3, 4, 5, 6] (fun o a f i wr => ∃ (k : Nat) (A3 : Option Addr) (c3 : Nat), o = .slice A3 k c3 ∧ a = .int .i64 (plcAt bs k).1 ∧ f = .int .i64 (plcAt bs k).2 ∧ i = .int .i64 k ∧ k ≤ bs.length ∧ wr.ownsRow w.heap.size 63 2 (.slice A3 k c3) k (plV ((List.range k).map (plcAt bs))) ∧ Below w.heap.size w wr) (fun _ _ _ i _ => bs.length - (intOf i).toNat)
  case atStart => exact ⟨0, _, 0, rfl, rfl, rfl, rfl, by omega, o0, (by repeat (first | (with_reducible exact Below.refl _ _) | (with_reducible assumption) | (with_reducible refine Below.drew ?_) | (with_reducible refine Below.alloc ?_ (by first | omega | (simp <;> omega)) _) | (with_reducible refine Below.setCell ?_ (by first | omega | (simp <;> omega)) _) | (with_reducible refine belowN ?_ _)))⟩
  case round =>
    obtain ⟨k, A3, c3, rfl, rfl, rfl, rfl, hk, hown, hb⟩ := hrel
    have hbs := hb.size
    clear o0
    by_cases hlt : k < bs.length
    · have hki : (k : Int) < bs.length := by omega
      have HNX := Go.Lib.hid (plcAt_next bs k hlt)
      have hbd := HBD.out k
      have HOL : Go.RowKit.Hid (plV ((List.range (k + 1)).map (plcAt bs)) = plV ((List.range k).map (plcAt bs)) ++ [.int .i64 (plcAt bs k).1, .int .i64 (plcAt bs k).2]) := by
        show _ = _; rw [range_plc_snoc, plV_snoc]
      have hblen := Blk.ok_len (HOK.out bs[k] (List.getElem_mem hlt))
      have hsz := Blk.ok_size (HOK.out bs[k] (List.getElem_mem hlt))
      obtain ⟨hz1', hz2', _, _⟩ := hsz
      generalize plcAt bs k = P at *
      obtain ⟨p1, p2⟩ := P
      simp only at hbd HNX HOL
      obtain ⟨hb1, hb2, hb3, hb4⟩ := hbd
      have hp1 : p1 ≤ 74000 := by omega
      have hp2 : p2 ≤ 64000 := by omega
      clear hb2 hb4
      have hm1 : k + 1 ≤ maxLen := by unfold maxLen; omega
      have hm2 : (k + 1) * 16 ≤ 140737488355328 := by omega
      generalize hXS : plV ((List.range k).map (plcAt bs)) = xs at *
      clear hXS
      go_wp2_with (at_builtin; go_must (refine wpList_ap _ rfl _ _ 57 rfl (w.heap.size) 63 i _ 2 16 Tryz.underlying57 hi hz0 hz1 hz2 rfl (by omega) _ _ _ rfl (hown.alloc _) _ 1 1 [.int .i64 p1, .int .i64 p2] rfl (Sl.newAt wr #[.int .i64 p1, .int .i64 p2] _ 1 2 (by first | rfl | simp) (by simp) (by omega)) (by simp [Value.oneCell']) hm1 hm2 ?_ ?_))
      try (case refine_1 => first | omega | (simp <;> omega; done))
      intro A4 c4 w4 o4 hg4 _
      have g4 : Below w.heap.size w w4 := app_below hb hg4 (by omega) (fun j hj => by have := (hown.lt j hj).1; omega)
      have hsr := hS.out w4 g4
      obtain ⟨g, off, rfl, hg, hc⟩ := Sl.cellK hsr hlt
      have hcs := bksV_at bs k hlt
      have c0 := hc 0 _ hcs.1
      have c1 := hc 1 _ hcs.2.1
      have c2 := hc 2 _ hcs.2.2.1
      have c3' := hc 3 _ hcs.2.2.2
      clear hc hcs hsr hg4 hown
      generalize bs[k] = b at *
      obtain ⟨n2, r, n4, D⟩ := b
      simp only [Nat.add_zero] at c0 c1 c2 c3' hz1' hz2' HNX hblen
      have hD2 : D.length ≤ 64 := hblen.2
      clear hblen hb
      go_wp2
      go_roundw
      case rel => exact ⟨k + 1, A4, c4, rfl, by rw [HNX.out]; go_num, by rw [HNX.out], by go_num, by omega, (by rw [HOL.out]; exact o4), g4⟩
      case measure => simp [intOf]; omega
    · have hki : ¬ (k : Int) < bs.length := by omega
      have hke : k = bs.length := by omega
      subst hke
      go_wp2
      go_ret
      exact ⟨A3, c3, rfl, hown, hb⟩
def PlRes (l : Bs) (w : World) (e : Ending) (w' : World) : Prop :=
  ∃ A cap, e = .returned (.tuple #[.slice A ((blocksB l).elim [] plc).length cap, .bool (blocksB l).isSome]) ∧ PlRow w A cap ((blocksB l).elim [] plc) w'
set_option maxHeartbeats 1000000 in
theorem sIndexOf_any (l : Bs) (w : World) (hl : l.length ≤ 1500000) : Calls Tryz.prog 34 #[sv l] w (PlRes l w) := by
  have cB := fun w => l5Blocks_any l w hl
  unfold PlRes
  cases hB : blocksB l with
  | none =>
    rw [hB] at cB
    go_enter Tryz.func34, Tryz.ntmps34
    go_wp2_with fail
    refine (cB _).mono ?_
    rintro e w1 ⟨A1, c1, rfl, o1, hb1⟩
    have z1 := hb1.size
    go_wp2
    go_ret2
    exact ⟨_, 0, rfl, lit_own (size := 2) (Bk.newAt _ _ _ (by first | rfl | simp)) (by first | omega | (simp; omega)), (by repeat (first | (with_reducible exact Below.refl _ _) | (with_reducible assumption) | (with_reducible refine Below.drew ?_) | (with_reducible refine Below.alloc ?_ (by first | omega | (simp <;> omega)) _) | (with_reducible refine Below.setCell ?_ (by first | omega | (simp <;> omega)) _) | (with_reducible refine belowN ?_ _)))⟩
  | some bs =>
    have hok := NumOk_mem (blocks_some hB).1
    have hlen := (blocks_short hB).2
    rw [hB] at cB
    show Calls Tryz.prog 34 #[sv l] w fun e w' => ∃ A cap, e = .returned (.tuple #[.slice A (plc bs).length cap, .bool true]) ∧ PlRow w A cap (plc bs) w'
    go_enter Tryz.func34, Tryz.ntmps34
    go_wp2_with fail
    refine (cB _).mono ?_
    rintro e w1 ⟨A1, c1, rfl, o1, hb1⟩
    have z1 := hb1.size
    have S1 := own_Sl o1
    simp only [Option.getD_some] at S1
    go_wp2_with fail
    refine (l5Places_any bs A1 c1 _ S1 hok (by omega)).mono ?_
    rintro e w2 ⟨A2, c2, rfl, o2, hb2⟩
    go_wp2
    go_ret2
    exact ⟨A2, c2, rfl, own_mono o2 (by omega), hb1.trans (hb2.mono (by omega))⟩
end Go.Proofs.YtoogaalbnnlloaaGreat
