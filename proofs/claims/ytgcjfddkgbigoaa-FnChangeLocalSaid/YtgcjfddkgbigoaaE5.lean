/- Walks: checks of containers, by both; sizes of containers. -/
import Derived.Test.YtgcjfddkgbigoaaGP2
import Derived.Test.YtgcjfddkgbigoaaGB
namespace Go.Proofs.Ytgcjfddkgbigoaa
open Go.RowKit
set_option linter.unusedVariables false
set_option linter.unusedSimpArgs false
set_option maxRecDepth 100000
attribute [local go_sem high] run_index_S binOp_eql_S binOp_neq_S append_S toList_S size_S run_slice_S run_slice_from_S run_slice_to_S wrap64_byteAt wrap64_byteAt_mul bits_or_bytes convU conv1_some convU2 conv2_some
def ckRes (x : Int × Int) : Ending := .returned (.tuple #[.int .i64 x.1, .int .i64 x.2])
theorem ck_end {l : Bs} {m x : Nat} {n s : Int} (h : ¬ x < l.length) : ckGo l (m + 1) x n s = (0, (l.length : Int)) := by unfold ckGo; rw [if_pos (by omega)]
theorem ck_bad {l : Bs} {m x : Nat} {n s : Int} (h : x < l.length) (hp : parseOk l x = false) : ckGo l (m + 1) x n s = (1, (x : Int)) := by unfold ckGo; rw [if_neg (by omega), if_pos hp]
theorem ck_num {l : Bs} {m x : Nat} {n s : Int} (h : x < l.length) (hp : parseOk l x = true) (hn : ¬ (blkAt l x).num = n) : ckGo l (m + 1) x n s = (2, (x : Int)) := by
  unfold ckGo; rw [if_neg (by omega), if_neg (by simp [hp]), if_pos hn]
theorem ck_long {l : Bs} {m x : Nat} {n s : Int} (h : x < l.length) (hp : parseOk l x = true) (hn : (blkAt l x).num = n) (hs : 2000 < s + (blkAt l x).size) : ckGo l (m + 1) x n s = (3, (x : Int)) := by
  unfold ckGo; rw [if_neg (by omega), if_neg (by simp [hp]), if_neg (fun h => h hn), if_pos hs]
theorem ck_go {l : Bs} {m x : Nat} {n s : Int} (h : x < l.length) (hp : parseOk l x = true) (hn : (blkAt l x).num = n) (hs : ¬ 2000 < s + (blkAt l x).size) : ckGo l (m + 1) x n s = ckGo l m (endAt l x) (n + 1) (s + (blkAt l x).size) := by
  rw [ckGo, if_neg (by omega), if_neg (by simp [hp]), if_neg (fun h => h hn), if_neg hs]
set_option maxHeartbeats 2000000 in
theorem checkContainer_any (l : Bs) (w : World) (hs : l.length ≤ 1500000) :
    Calls Try.prog 32 #[sv l] w fun e w' => e = ckRes (checkB l) ∧ Below w.heap.size w w' := by
  have HG0 : Go.RowKit.Hid (checkB l = ckGo l (l.length + 1) 0 0 0) := rfl
  generalize checkB l = G at *
  go_enter Try.func32, Try.ntmps32
  go_wp2
  go_loopw [4, 5, 6] (fun s c a wr => ∃ (m x : Nat) (n S : Int), s = .int .i64 S ∧ c = .int .i64 n ∧ a = .int .i64 x ∧ 0 ≤ n ∧ n ≤ x ∧ 0 ≤ S ∧ S ≤ 2000 ∧ x ≤ l.length ∧ l.length < m + x ∧ Go.RowKit.Hid (G = ckGo l m x n S) ∧ Below w.heap.size w wr) (fun _ _ a _ => l.length - (intOf a).toNat)
  case atStart => exact ⟨l.length + 1, 0, 0, 0, rfl, rfl, rfl, by omega, by omega, by omega, by omega, by omega, by omega, HG0, (by repeat (first | (with_reducible exact Below.refl _ _) | (with_reducible assumption) | (with_reducible refine Below.drew ?_) | (with_reducible refine Below.alloc ?_ (by first | omega | (simp <;> omega)) _) | (with_reducible refine Below.setCell ?_ (by first | omega | (simp <;> omega)) _) | (with_reducible refine belowN ?_ _)))⟩
  case round =>
    obtain ⟨m, x, n, S, rfl, rfl, rfl, hn0, hn1, hS0, hS1, hx, hm, HG, hb⟩ := hrel
    have hws := hb.size
    clear HG0
    obtain ⟨m', rfl⟩ : ∃ m', m = m' + 1 := ⟨m - 1, by omega⟩
    by_cases hlt : x < l.length
    · have hxi : (x : Int) < l.length := by omega
      by_cases hp : parseOk l x = true
      · have hpb := parse_bd hp
        obtain ⟨_, hpb1, hpb2, hbok⟩ := hpb
        have cP := fun w => iParse_yes l x w (by omega) (by omega) (by omega) hp
        have hsz := Blk.ok_size hbok
        obtain ⟨hzz1, hzz2, _, _⟩ := hsz
        have H2 : Go.RowKit.Hid (¬ (blkAt l x).num = n → G = (2, (x : Int))) := fun h => by rw [HG.out, ck_num hlt hp h]
        have H3 : Go.RowKit.Hid ((blkAt l x).num = n → 2000 < S + (blkAt l x).size → G = (3, (x : Int))) := fun h h2 => by rw [HG.out, ck_long hlt hp h h2]
        have H4 : Go.RowKit.Hid ((blkAt l x).num = n → ¬ 2000 < S + (blkAt l x).size → G = ckGo l m' (endAt l x) (n + 1) (S + (blkAt l x).size)) := fun h h2 => by rw [HG.out, ck_go hlt hp h h2]
        clear hp HG hbok
        generalize blkAt l x = b at *
        generalize endAt l x = ex at *
        obtain ⟨y, rfl⟩ := Int.eq_ofNat_of_zero_le (by omega : 0 ≤ ex)
        obtain ⟨n2, r, n4, D⟩ := b
        simp only at H2 H3 H4 hzz1 hzz2
        go_wp2_with fail
        refine (cP _).mono ?_
        rintro e w2 ⟨rfl, hb2⟩
        have y2 := hb2.size
        have g2 := hb.trans (hb2.mono (by omega))
        clear cP hb2 hb
        by_cases hn : n2 = n
        · have hd : (n2 != n) = false := by simpa using hn
          by_cases hz : 2000 < S + n4
          · have HG2 := Go.Lib.hid (H3.out hn hz)
            clear H2 H3 H4 hn
            go_wp2
            go_ret2
            exact ⟨by rw [HG2.out]; rfl, (by repeat (first | (with_reducible exact Below.refl _ _) | (with_reducible assumption) | (with_reducible refine Below.drew ?_) | (with_reducible refine Below.alloc ?_ (by first | omega | (simp <;> omega)) _) | (with_reducible refine Below.setCell ?_ (by first | omega | (simp <;> omega)) _) | (with_reducible refine belowN ?_ _)))⟩
          · have HG2 := Go.Lib.hid (H4.out hn (by omega))
            clear H2 H3 H4 hn
            go_wp2
            go_roundw
            case rel => exact ⟨m', y, n + 1, S + n4, (by first | rfl | go_num), (by first | rfl | go_num), rfl, by omega, by omega, by omega, by omega, by omega, by omega, HG2, (by repeat (first | (with_reducible exact Below.refl _ _) | (with_reducible assumption) | (with_reducible refine Below.drew ?_) | (with_reducible refine Below.alloc ?_ (by first | omega | (simp <;> omega)) _) | (with_reducible refine Below.setCell ?_ (by first | omega | (simp <;> omega)) _) | (with_reducible refine belowN ?_ _)))⟩
            case measure => simp [intOf]; omega
        · have hd : (n2 != n) = true := by simpa using hn
          have HG2 := Go.Lib.hid (H2.out hn)
          clear H2 H3 H4 hn
          go_wp2
          go_ret2
          exact ⟨by rw [HG2.out]; rfl, (by repeat (first | (with_reducible exact Below.refl _ _) | (with_reducible assumption) | (with_reducible refine Below.drew ?_) | (with_reducible refine Below.alloc ?_ (by first | omega | (simp <;> omega)) _) | (with_reducible refine Below.setCell ?_ (by first | omega | (simp <;> omega)) _) | (with_reducible refine belowN ?_ _)))⟩
      · have hp' : parseOk l x = false := by simpa using hp
        have cP := fun w => iParse_no l x w (by omega) (by omega) (by omega) hp'
        have HG2 : Go.RowKit.Hid (G = (1, (x : Int))) := by show _ = _; rw [HG.out, ck_bad hlt hp']
        clear hp hp' HG
        go_wp2_with fail
        refine (cP _).mono ?_
        rintro e w2 ⟨rfl, hb2⟩
        have y2 := hb2.size
        have g2 := hb.trans (hb2.mono (by omega))
        clear cP hb2 hb
        go_wp2
        go_ret2
        exact ⟨by rw [HG2.out]; rfl, (by repeat (first | (with_reducible exact Below.refl _ _) | (with_reducible assumption) | (with_reducible refine Below.drew ?_) | (with_reducible refine Below.alloc ?_ (by first | omega | (simp <;> omega)) _) | (with_reducible refine Below.setCell ?_ (by first | omega | (simp <;> omega)) _) | (with_reducible refine belowN ?_ _)))⟩
    · have hxi : ¬ (x : Int) < l.length := by omega
      have HG2 : Go.RowKit.Hid (G = (0, (l.length : Int))) := by show _ = _; rw [HG.out, ck_end hlt]
      clear HG
      go_wp2
      go_ret2
      exact ⟨by rw [HG2.out]; rfl, hb⟩
set_option maxHeartbeats 2000000 in
theorem sCheckContainer_any (l : Bs) (w : World) (hs : l.length ≤ 1500000) :
    Calls Try.prog 33 #[sv l] w fun e w' => e = ckRes (checkB l) ∧ Below w.heap.size w w' := by
  have HG0 : Go.RowKit.Hid (checkB l = ckGo l (l.length + 1) 0 0 0) := rfl
  generalize checkB l = G at *
  go_enter Try.func33, Try.ntmps33
  go_wp2
  go_loopw [4, 5, 6] (fun c s a wr => ∃ (m x : Nat) (n S : Int), s = .int .i64 S ∧ c = .int .i64 n ∧ a = .int .i64 x ∧ 0 ≤ n ∧ n ≤ x ∧ 0 ≤ S ∧ S ≤ 2000 ∧ x ≤ l.length ∧ l.length < m + x ∧ Go.RowKit.Hid (G = ckGo l m x n S) ∧ Below w.heap.size w wr) (fun _ _ a _ => l.length - (intOf a).toNat)
  case atStart => exact ⟨l.length + 1, 0, 0, 0, rfl, rfl, rfl, by omega, by omega, by omega, by omega, by omega, by omega, HG0, (by repeat (first | (with_reducible exact Below.refl _ _) | (with_reducible assumption) | (with_reducible refine Below.drew ?_) | (with_reducible refine Below.alloc ?_ (by first | omega | (simp <;> omega)) _) | (with_reducible refine Below.setCell ?_ (by first | omega | (simp <;> omega)) _) | (with_reducible refine belowN ?_ _)))⟩
  case round =>
    obtain ⟨m, x, n, S, rfl, rfl, rfl, hn0, hn1, hS0, hS1, hx, hm, HG, hb⟩ := hrel
    have hws := hb.size
    clear HG0
    obtain ⟨m', rfl⟩ : ∃ m', m = m' + 1 := ⟨m - 1, by omega⟩
    by_cases hlt : x < l.length
    · have hxi : (x : Int) < l.length := by omega
      by_cases hp : parseOk l x = true
      · have hpb := parse_bd hp
        obtain ⟨_, hpb1, hpb2, hbok⟩ := hpb
        have cP := fun w => sParse_yes l x w (by omega) (by omega) (by omega) hp
        have hsz := Blk.ok_size hbok
        obtain ⟨hzz1, hzz2, _, _⟩ := hsz
        have H2 : Go.RowKit.Hid (¬ (blkAt l x).num = n → G = (2, (x : Int))) := fun h => by rw [HG.out, ck_num hlt hp h]
        have H3 : Go.RowKit.Hid ((blkAt l x).num = n → 2000 < S + (blkAt l x).size → G = (3, (x : Int))) := fun h h2 => by rw [HG.out, ck_long hlt hp h h2]
        have H4 : Go.RowKit.Hid ((blkAt l x).num = n → ¬ 2000 < S + (blkAt l x).size → G = ckGo l m' (endAt l x) (n + 1) (S + (blkAt l x).size)) := fun h h2 => by rw [HG.out, ck_go hlt hp h h2]
        clear hp HG hbok
        generalize blkAt l x = b at *
        generalize endAt l x = ex at *
        obtain ⟨y, rfl⟩ := Int.eq_ofNat_of_zero_le (by omega : 0 ≤ ex)
        obtain ⟨n2, r, n4, D⟩ := b
        simp only at H2 H3 H4 hzz1 hzz2
        go_wp2_with fail
        refine (cP _).mono ?_
        rintro e w2 ⟨rfl, hb2⟩
        have y2 := hb2.size
        have g2 := hb.trans (hb2.mono (by omega))
        clear cP hb2 hb
        by_cases hn : n2 = n
        · have hd : (n2 != n) = false := by simpa using hn
          by_cases hz : 2000 < S + n4
          · have HG2 := Go.Lib.hid (H3.out hn hz)
            clear H2 H3 H4 hn
            go_wp2
            go_ret2
            exact ⟨by rw [HG2.out]; rfl, (by repeat (first | (with_reducible exact Below.refl _ _) | (with_reducible assumption) | (with_reducible refine Below.drew ?_) | (with_reducible refine Below.alloc ?_ (by first | omega | (simp <;> omega)) _) | (with_reducible refine Below.setCell ?_ (by first | omega | (simp <;> omega)) _) | (with_reducible refine belowN ?_ _)))⟩
          · have HG2 := Go.Lib.hid (H4.out hn (by omega))
            clear H2 H3 H4 hn
            go_wp2
            go_roundw
            case rel => exact ⟨m', y, n + 1, S + n4, (by first | rfl | go_num), (by first | rfl | go_num), rfl, by omega, by omega, by omega, by omega, by omega, by omega, HG2, (by repeat (first | (with_reducible exact Below.refl _ _) | (with_reducible assumption) | (with_reducible refine Below.drew ?_) | (with_reducible refine Below.alloc ?_ (by first | omega | (simp <;> omega)) _) | (with_reducible refine Below.setCell ?_ (by first | omega | (simp <;> omega)) _) | (with_reducible refine belowN ?_ _)))⟩
            case measure => simp [intOf]; omega
        · have hd : (n2 != n) = true := by simpa using hn
          have HG2 := Go.Lib.hid (H2.out hn)
          clear H2 H3 H4 hn
          go_wp2
          go_ret2
          exact ⟨by rw [HG2.out]; rfl, (by repeat (first | (with_reducible exact Below.refl _ _) | (with_reducible assumption) | (with_reducible refine Below.drew ?_) | (with_reducible refine Below.alloc ?_ (by first | omega | (simp <;> omega)) _) | (with_reducible refine Below.setCell ?_ (by first | omega | (simp <;> omega)) _) | (with_reducible refine belowN ?_ _)))⟩
      · have hp' : parseOk l x = false := by simpa using hp
        have cP := fun w => sParse_no l x w (by omega) (by omega) (by omega) hp'
        have HG2 : Go.RowKit.Hid (G = (1, (x : Int))) := by show _ = _; rw [HG.out, ck_bad hlt hp']
        clear hp hp' HG
        go_wp2_with fail
        refine (cP _).mono ?_
        rintro e w2 ⟨rfl, hb2⟩
        have y2 := hb2.size
        have g2 := hb.trans (hb2.mono (by omega))
        clear cP hb2 hb
        go_wp2
        go_ret2
        exact ⟨by rw [HG2.out]; rfl, (by repeat (first | (with_reducible exact Below.refl _ _) | (with_reducible assumption) | (with_reducible refine Below.drew ?_) | (with_reducible refine Below.alloc ?_ (by first | omega | (simp <;> omega)) _) | (with_reducible refine Below.setCell ?_ (by first | omega | (simp <;> omega)) _) | (with_reducible refine belowN ?_ _)))⟩
    · have hxi : ¬ (x : Int) < l.length := by omega
      have HG2 : Go.RowKit.Hid (G = (0, (l.length : Int))) := by show _ = _; rw [HG.out, ck_end hlt]
      clear HG
      go_wp2
      go_ret2
      exact ⟨by rw [HG2.out]; rfl, hb⟩
def csB (l : Bs) : Int := match blocksB l with
  | some bs => sizesOf bs
  | none => -1
theorem csB_some {l : Bs} {bs : List Blk} (h : blocksB l = some bs) : csB l = sizesOf bs := by unfold csB; rw [h]
theorem csB_none {l : Bs} (h : blocksB l = none) : csB l = -1 := by unfold csB; rw [h]
theorem containerSize_any (l : Bs) (w : World) (hs : l.length ≤ 1500000) :
    Calls Try.prog 28 #[sv l] w fun e w' => e = .returned (.int .i64 (csB l)) ∧ Below w.heap.size w w' := by
  have cB := fun w => containerBlocks_any l w hs
  unfold BksRes at cB
  cases hB : blocksB l with
  | none =>
    rw [hB] at cB
    rw [csB_none hB]
    clear hB
    go_enter Try.func28, Try.ntmps28
    go_wp2_with fail
    refine (cB _).mono ?_
    rintro e w1 ⟨A1, c1, rfl, o1, hb1⟩
    go_wp2
    go_ret
    exact ⟨rfl, hb1⟩
  | some bs =>
    have hok := NumOk_mem (blocks_some hB).1
    have hlen := (blocks_short hB).2
    rw [hB] at cB
    rw [csB_some hB]
    clear hB
    have cZ := fun A cap w hs => sizeOf_any bs A cap w hs hok (by omega)
    go_enter Try.func28, Try.ntmps28
    go_wp2_with fail
    refine (cB _).mono ?_
    rintro e w1 ⟨A1, c1, rfl, o1, hb1⟩
    have z1 := hb1.size
    have S1 := own_Sl o1
    simp only [Option.getD_some] at S1
    clear o1
    go_wp2_with fail
    refine (cZ _ _ _ S1).mono ?_
    rintro e w2 ⟨rfl, hb2⟩
    have g2 := hb1.trans (hb2.mono (by omega))
    go_wp2
    go_ret
    exact ⟨rfl, g2⟩
end Go.Proofs.Ytgcjfddkgbigoaa
