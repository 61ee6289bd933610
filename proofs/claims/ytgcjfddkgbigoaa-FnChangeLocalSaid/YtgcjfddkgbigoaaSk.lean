/- Walks: places are valid, and the place of an offset is sought. -/
import Derived.Test.YtgcjfddkgbigoaaIx
namespace Go.Proofs.Ytgcjfddkgbigoaa
open Go.RowKit
set_option linter.unusedVariables false
set_option linter.unusedSimpArgs false
set_option maxRecDepth 100000
attribute [local go_sem high] run_index_S binOp_eql_S binOp_neq_S append_S toList_S size_S run_slice_S run_slice_from_S run_slice_to_S wrap64_byteAt wrap64_byteAt_mul bits_or_bytes convU conv1_some convU2 conv2_some
structure PlOk (ps : List (Int × Int)) : Prop where
  len : ps.length ≤ 40
  bd : ∀ k (h : k < ps.length), 0 ≤ ps[k].1 ∧ ps[k].1 ≤ 4000 ∧ 0 ≤ ps[k].2 ∧ ps[k].2 ≤ 2000
  zero : ∀ (h : 0 < ps.length), ps[0].1 = 0 ∧ ps[0].2 = 0
  inc : ∀ k (h : k + 1 < ps.length), ps[k].1 < ps[k + 1].1 ∧ ps[k].2 < ps[k + 1].2
theorem plc_ok {l : Bs} {bs : List Blk} (h : blocksB l = some bs) : PlOk (plc bs) := by
  obtain ⟨h1, h2, h3⟩ := blocks_some h
  have hok := NumOk_mem h1
  have hlen := (blocks_short h).2
  refine ⟨by rw [plc_length]; omega, fun k hk => ?_, fun h0 => ?_, fun k hk => ?_⟩
  · rw [plc_at]
    have hb := plcAt_bd bs hok k
    have hs := sizesOf_app (bs.take k) (bs.drop k)
    rw [List.take_append_drop] at hs
    have hd := (sizesOf_bd (bs.drop k) (fun b hb => hok b (List.mem_of_mem_drop hb))).1
    have e : (plcAt bs k).2 = sizesOf (bs.take k) := rfl
    omega
  · rw [plc_at]; simp [plcAt, catT, sizesOf]
  · rw [plc_length] at hk
    rw [plc_at, plc_at, plcAt_next bs k (by omega)]
    have hz := Blk.ok_size (hok bs[k] (List.getElem_mem (by omega)))
    simp only
    omega
/-- The last place that does not begin behind an offset, of the first k. -/
def seekTo (ps : List (Int × Int)) (off : Int) : Nat → Int
  | 0 => -1
  | k + 1 => if (ps[k]?.getD (0, 0)).2 ≤ off then (k : Int) else seekTo ps off k
theorem seekTo_succ (ps : List (Int × Int)) (off : Int) (k : Nat) (h : k < ps.length) : seekTo ps off (k + 1) = if ps[k].2 ≤ off then (k : Int) else seekTo ps off k := by
  rw [seekTo, List.getElem?_eq_getElem h]; rfl
theorem seekTo_bd (ps : List (Int × Int)) (off : Int) : ∀ k, -1 ≤ seekTo ps off k ∧ seekTo ps off k < k
  | 0 => by simp [seekTo]
  | k + 1 => by
    have := seekTo_bd ps off k
    unfold seekTo
    split <;> omega
theorem stood_Place : Try.prog.stoodInHeld 47 = false := by kernel_rfl
theorem guard_Place : Try.prog.eqGuardType Try.prog.depth 47 = false := by kernel_rfl
theorem Sl.pl {w : World} {A : Option Addr} {ps : List (Int × Int)} {cap : Nat} (h : Sl w A ps.length cap 2 (plV ps)) {k : Nat} (hk : k < ps.length) : ∃ g off, A = some ⟨g, off, none⟩ ∧ g < w.heap.size ∧
    w.cell? ⟨g, off + k * 2, none⟩ = some (.int .i64 ps[k].1) ∧ w.cell? ⟨g, off + k * 2 + 1, none⟩ = some (.int .i64 ps[k].2) := by
  obtain ⟨g, off, e, hg, hc⟩ := Sl.cellK h hk
  have hcs := plV_at ps k hk
  exact ⟨g, off, e, hg, hc 0 _ hcs.1, hc 1 _ hcs.2⟩
set_option maxHeartbeats 2000000 in
theorem placesValid_true (ps : List (Int × Int)) (A : Option Addr) (cap : Nat) (w : World) (hs : Sl w A ps.length cap 2 (plV ps)) (hp : PlOk ps) :
    Calls Try.prog 60 #[.slice A ps.length cap] w fun e w' => e = .returned (.bool true) ∧ Below w.heap.size w w' := by
  have hst := stood_Place
  have hgd := guard_Place
  have HP := Go.Lib.hid hp
  have hcap := hs.1
  have hl := hp.len
  have HS : Go.RowKit.Hid (∀ wr, Below w.heap.size w wr → Sl wr A ps.length cap 2 (plV ps)) := fun wr h => hs.below h
  clear hs hp
  go_enter Try.func60, Try.ntmps60
  go_wp2
  go_loopw [10] (fun i wr => ∃ k : Nat, i = .int .i64 (k : Int) ∧ k ≤ ps.length ∧ Below w.heap.size w wr) (fun i _ => ps.length - (intOf i).toNat)
  case atStart => exact ⟨0, rfl, by omega, (by repeat (first | (with_reducible exact Below.refl _ _) | (with_reducible assumption) | (with_reducible refine Below.drew ?_) | (with_reducible refine Below.alloc ?_ (by first | omega | (simp <;> omega)) _) | (with_reducible refine Below.setCell ?_ (by first | omega | (simp <;> omega)) _) | (with_reducible refine belowN ?_ _)))⟩
  case round =>
    obtain ⟨k, rfl, hk, hb⟩ := hrel
    have hz := hb.size
    by_cases hlt : k < ps.length
    · have hki : (k : Int) < ps.length := by omega
      obtain ⟨g, off, rfl, hg, c0, c1⟩ := (HS.out wr hb).pl hlt
      have hbd := HP.out.bd k hlt
      obtain ⟨hb0, hb1, hb2, hb3⟩ := hbd
      have n0 : ¬ ps[k].1 < 0 := by omega
      have n1 : ¬ 4000 < ps[k].1 := by omega
      have n2 : ¬ ps[k].2 < 0 := by omega
      have n3 : ¬ 2000 < ps[k].2 := by omega
      by_cases hk0 : k = 0
      · subst hk0
        obtain ⟨e1, e2⟩ := HP.out.zero hlt
        rw [e1] at c0
        rw [e2] at c1
        simp only [Nat.zero_mul, Nat.add_zero] at c0 c1
        clear e1 e2 hb0 hb1 hb2 hb3 n0 n1 n2 n3
        have X0 := (Bk.new wr #[.int .i64 0, .int .i64 0] 47).cell
        go_wp2_with fail
        go_quiet (fail)
        go_wp2
        go_roundw
        case rel => exact ⟨1, by go_num, by omega, (by repeat (first | (with_reducible exact Below.refl _ _) | (with_reducible assumption) | (with_reducible refine Below.drew ?_) | (with_reducible refine Below.alloc ?_ (by first | omega | (simp <;> omega)) _) | (with_reducible refine Below.setCell ?_ (by first | omega | (simp <;> omega)) _) | (with_reducible refine belowN ?_ _)))⟩
        case measure => simp [intOf]; omega
      · obtain ⟨j, rfl⟩ : ∃ j, k = j + 1 := ⟨k - 1, by omega⟩
        have hinc := HP.out.inc j hlt
        obtain ⟨g', off', hA, hg', d0, d1⟩ := (HS.out wr hb).pl (show j < ps.length by omega)
        injection hA with hA
        injection hA with hA1 hA2
        subst hA1 hA2
        have hkb : (((j + 1 : Nat) : Int) == 0) = false := by simp; omega
        have hkp : (0 : Int) < ((j + 1 : Nat) : Int) := by omega
        have hwj : IntKind.i64.wrap (j : Int) = (j : Int) := IntWalk.i64_in _ (by omega)
        have hkb2 : ((j : Int) + 1 == 0) = false := by simp; omega
        have hkp2 : (0 : Int) < (j : Int) + 1 := by omega
        generalize ps[j + 1].1 = x at *
        generalize ps[j + 1].2 = y at *
        generalize ps[j].1 = x' at *
        generalize ps[j].2 = y' at *
        have m1 : ¬ x ≤ x' := by omega
        have m2 : ¬ y ≤ y' := by omega
        have hji : (j : Int) < ps.length := by omega
        clear hinc hk0
        have X0 := (Bk.new wr #[.int .i64 x, .int .i64 y] 47).cell
        go_wp2_with fail
        go_quiet (fail)
        go_wp2
        go_roundw
        case rel => exact ⟨j + 2, by go_num, by omega, (by repeat (first | (with_reducible exact Below.refl _ _) | (with_reducible assumption) | (with_reducible refine Below.drew ?_) | (with_reducible refine Below.alloc ?_ (by first | omega | (simp <;> omega)) _) | (with_reducible refine Below.setCell ?_ (by first | omega | (simp <;> omega)) _) | (with_reducible refine belowN ?_ _)))⟩
        case measure => simp [intOf]; omega
    · have hki : ¬ (k : Int) < ps.length := by omega
      go_wp2
      go_ret
      exact ⟨rfl, hb⟩
set_option maxHeartbeats 1000000 in
theorem seekBlock_any (ps : List (Int × Int)) (off : Int) (A : Option Addr) (cap : Nat) (w : World) (hs : Sl w A ps.length cap 2 (plV ps)) (hp : PlOk ps) :
    Calls Try.prog 27 #[.slice A ps.length cap, .int .i64 off] w fun e w' => e = .returned (.int .i64 (seekTo ps off ps.length)) ∧ Below w.heap.size w w' := by
  have cV := placesValid_true ps A cap w hs hp
  have hcap := hs.1
  have hl := hp.len
  have HS : Go.RowKit.Hid (∀ wr, Below w.heap.size w wr → Sl wr A ps.length cap 2 (plV ps)) := fun wr h => hs.below h
  clear hs hp
  go_enter Try.func27, Try.ntmps27
  go_wp2_with fail
  refine cV.mono ?_
  rintro e w1 ⟨rfl, hb1⟩
  clear cV
  go_wp2
  go_loopw [5, 13] (fun f i wr => ∃ k : Nat, f = .int .i64 (seekTo ps off k) ∧ i = .int .i64 (k : Int) ∧ k ≤ ps.length ∧ Below w.heap.size w wr) (fun _ i _ => ps.length - (intOf i).toNat)
  case atStart => exact ⟨0, rfl, rfl, by omega, hb1⟩
  case round =>
    obtain ⟨k, rfl, rfl, hk, hb⟩ := hrel
    have hz := hb.size
    clear hb1
    by_cases hlt : k < ps.length
    · have hki : (k : Int) < ps.length := by omega
      obtain ⟨g, of, rfl, hg, c0, c1⟩ := (HS.out wr hb).pl hlt
      have HSE := Go.Lib.hid (seekTo_succ ps off k hlt)
      generalize ps[k].1 = x at *
      generalize ps[k].2 = y at *
      have X0 := (Bk.new wr #[.int .i64 x, .int .i64 y] 47).cell
      by_cases hy : y ≤ off
      · have HE : Go.RowKit.Hid (seekTo ps off (k + 1) = (k : Int)) := by show _ = _; rw [HSE.out, if_pos hy]
        clear HSE
        go_wp2
        go_roundw
        case rel => exact ⟨k + 1, by rw [HE.out], by go_num, by omega, (by repeat (first | (with_reducible exact Below.refl _ _) | (with_reducible assumption) | (with_reducible refine Below.drew ?_) | (with_reducible refine Below.alloc ?_ (by first | omega | (simp <;> omega)) _) | (with_reducible refine Below.setCell ?_ (by first | omega | (simp <;> omega)) _) | (with_reducible refine belowN ?_ _)))⟩
        case measure => simp [intOf]; omega
      · have HE : Go.RowKit.Hid (seekTo ps off (k + 1) = seekTo ps off k) := by show _ = _; rw [HSE.out, if_neg hy]
        clear HSE
        go_wp2
        go_roundw
        case rel => exact ⟨k + 1, by rw [HE.out], by go_num, by omega, (by repeat (first | (with_reducible exact Below.refl _ _) | (with_reducible assumption) | (with_reducible refine Below.drew ?_) | (with_reducible refine Below.alloc ?_ (by first | omega | (simp <;> omega)) _) | (with_reducible refine Below.setCell ?_ (by first | omega | (simp <;> omega)) _) | (with_reducible refine belowN ?_ _)))⟩
        case measure => simp [intOf]; omega
    · have hki : ¬ (k : Int) < ps.length := by omega
      have hke : k = ps.length := by omega
      subst hke
      go_wp2
      go_ret
      exact ⟨rfl, hb⟩
end Go.Proofs.Ytgcjfddkgbigoaa
