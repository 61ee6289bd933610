/- Walks: the next block, by both. -/
import Derived.Test.YtgcjfddkgbigoaaP4
namespace Go.Proofs.Ytgcjfddkgbigoaa
open Go.RowKit
set_option linter.unusedVariables false
set_option linter.unusedSimpArgs false
set_option maxRecDepth 100000
attribute [local go_sem high] run_index_S binOp_eql_S binOp_neq_S append_S toList_S size_S run_slice_S run_slice_from_S run_slice_to_S wrap64_byteAt wrap64_byteAt_mul bits_or_bytes convU conv1_some convU2 conv2_some
theorem pb_yes {l : Bs} {a : Int} (h : parseOk l a = true) : pbRes (parseB l a) = .returned (.tuple #[bkV (blkAt l a), .int .i64 (endAt l a), .bool true]) := by
  unfold parseB; rw [if_pos h]; rfl
theorem nextGo_zero (l : Bs) (a : Int) : nextGo l 0 a = -1 := rfl
theorem nextGo_yes {l : Bs} {a : Int} (n : Nat) (h : parseOk l a = true) : nextGo l (n + 1) a = a := by unfold nextGo; rw [if_pos h]
theorem nextGo_no {l : Bs} {a : Int} (n : Nat) (h : parseOk l a = false) : nextGo l (n + 1) a = nextGo l n (a + 1) := by rw [nextGo, if_neg (by rw [h]; simp)]
theorem nextB_bd (l : Bs) (a : Int) : -1 ≤ nextB l a ∧ nextB l a ≤ 8000 ∧ (0 ≤ nextB l a → a ≤ nextB l a ∧ parseOk l (nextB l a) = true) := by
  unfold nextB
  split
  · rename_i h
    rcases nextGo_spec l (l.length - a).toNat a with ⟨h1, _⟩ | ⟨h1, h2, h3, _⟩
    · rw [h1]; exact ⟨by omega, by omega, fun h => by omega⟩
    · exact ⟨by omega, by omega, fun _ => ⟨h1, h3⟩⟩
  · exact ⟨by omega, by omega, fun h => by omega⟩
theorem l7Most_any (l : Bs) (w : World) (hs : l.length ≤ 1500000) :
    Calls Try.prog 50 #[.string ⟨l.toArray⟩] w fun e w' => e = .returned (.bool (decide ((l.length : Int) ≤ 8000))) ∧ w = w' := by
  go_enter Try.func50, Try.ntmps50
  go_wp2
  go_ret
  exact ⟨ret_bool (by simp), rfl⟩
theorem sParse_yes (l : Bs) (a : Int) (w : World) (hs : l.length ≤ 1500000) (ha0 : -9223372036854775808 ≤ a) (ha1 : a ≤ 9223372036854775807) (h : parseOk l a = true) :
    Calls Try.prog 54 #[.string ⟨l.toArray⟩, .int .i64 a] w fun e w' => e = .returned (.tuple #[bkV (blkAt l a), .int .i64 (endAt l a), .bool true]) ∧ Below w.heap.size w w' :=
  (sParseBlock_any l a w hs ha0 ha1).mono fun e w' ⟨he, hb⟩ => ⟨he.trans (pb_yes h), hb⟩
theorem sParse_no (l : Bs) (a : Int) (w : World) (hs : l.length ≤ 1500000) (ha0 : -9223372036854775808 ≤ a) (ha1 : a ≤ 9223372036854775807) (h : parseOk l a = false) :
    Calls Try.prog 54 #[.string ⟨l.toArray⟩, .int .i64 a] w fun e w' => e = .returned (.tuple #[.agg bkZC, .int .i64 0, .bool false]) ∧ Below w.heap.size w w' :=
  (sParseBlock_any l a w hs ha0 ha1).mono fun e w' ⟨he, hb⟩ => ⟨he.trans (parseB_no h), hb⟩
theorem iParse_yes (l : Bs) (a : Int) (w : World) (hs : l.length ≤ 1500000) (ha0 : -9223372036854775808 ≤ a) (ha1 : a ≤ 9223372036854775807) (h : parseOk l a = true) :
    Calls Try.prog 21 #[.string ⟨l.toArray⟩, .int .i64 a] w fun e w' => e = .returned (.tuple #[bkV (blkAt l a), .int .i64 (endAt l a), .bool true]) ∧ Below w.heap.size w w' :=
  (parseBlock_any l a w hs ha0 ha1).mono fun e w' ⟨he, hb⟩ => ⟨he.trans (pb_yes h), hb⟩
theorem iParse_no (l : Bs) (a : Int) (w : World) (hs : l.length ≤ 1500000) (ha0 : -9223372036854775808 ≤ a) (ha1 : a ≤ 9223372036854775807) (h : parseOk l a = false) :
    Calls Try.prog 21 #[.string ⟨l.toArray⟩, .int .i64 a] w fun e w' => e = .returned (.tuple #[.agg bkZC, .int .i64 0, .bool false]) ∧ Below w.heap.size w w' :=
  (parseBlock_any l a w hs ha0 ha1).mono fun e w' ⟨he, hb⟩ => ⟨he.trans (parseB_no h), hb⟩
set_option maxHeartbeats 1000000 in
theorem nextBlock_any (l : Bs) (a : Int) (w : World) (hs : l.length ≤ 1500000) (ha0 : -9223372036854775808 ≤ a) (ha1 : a ≤ 9223372036854775807) :
    Calls Try.prog 19 #[.string ⟨l.toArray⟩, .int .i64 a] w fun e w' => e = .returned (.int .i64 (nextB l a)) ∧ Below w.heap.size w w' := by
  by_cases hl : l.length ≤ 8000
  · have hl1 : ¬ (8000 : Int) < l.length := by omega
    by_cases h0 : a < 0
    · have HR : Go.RowKit.Hid (nextB l a = -1) := by show _ = _; unfold nextB; rw [if_neg (by omega)]
      go_enter Try.func19, Try.ntmps19
      go_wp2
      go_ret
      exact ⟨ret_int HR.out.symm, (by repeat (first | (with_reducible exact Below.refl _ _) | (with_reducible assumption) | (with_reducible refine Below.drew ?_) | (with_reducible refine Below.alloc ?_ (by first | omega | (simp <;> omega)) _) | (with_reducible refine Below.setCell ?_ (by first | omega | (simp <;> omega)) _) | (with_reducible refine belowN ?_ _)))⟩
    · obtain ⟨n, rfl⟩ := Int.eq_ofNat_of_zero_le (by omega : 0 ≤ a)
      have HR : Go.RowKit.Hid (nextB l n = nextGo l (l.length - n) n) := by
        show _ = _
        unfold nextB; rw [if_pos ⟨hl, by omega⟩, show ((l.length : Int) - n).toNat = l.length - n by omega]
      generalize nextB l n = R at *
      go_enter Try.func19, Try.ntmps19
      go_wp2
      go_loopw [1] (fun i wr => ∃ k : Nat, i = .int .i64 k ∧ k ≤ max n l.length ∧ Go.RowKit.Hid (R = nextGo l (l.length - k) k) ∧ Below w.heap.size w wr) (fun i _ => l.length - (intOf i).toNat)
      case atStart => exact ⟨n, rfl, by omega, HR, (by repeat (first | (with_reducible exact Below.refl _ _) | (with_reducible assumption) | (with_reducible refine Below.drew ?_) | (with_reducible refine Below.alloc ?_ (by first | omega | (simp <;> omega)) _) | (with_reducible refine Below.setCell ?_ (by first | omega | (simp <;> omega)) _) | (with_reducible refine belowN ?_ _)))⟩
      case round =>
        obtain ⟨k, rfl, hk2, HK, hb⟩ := hrel
        clear HR
        by_cases hlt : k < l.length
        · have hki : (k : Int) < l.length := by omega
          obtain ⟨m, hm⟩ : ∃ m, l.length - k = m + 1 := ⟨l.length - k - 1, by omega⟩
          have HM := Go.Lib.hid hm
          clear hm
          cases hp : parseOk l k
          · have HK2 : Go.RowKit.Hid (R = nextGo l (l.length - (k + 1)) ((k : Int) + 1)) := by
              show _ = _
              rw [HK.out, HM.out, nextGo_no m hp, show l.length - (k + 1) = m by have := HM.out; omega]
            have cP := fun w => iParse_no l k w (by omega) (by omega) (by omega) hp
            clear hp HK HM
            go_wp2_with fail
            refine (cP _).mono ?_
            rintro e w1 ⟨rfl, hb1⟩
            have hbs := hb.size
            have g1 := hb.trans (hb1.mono (by omega))
            have gs := g1.size
            clear cP hb1
            go_wp2
            go_roundw
            case rel => exact ⟨k + 1, by go_num, by omega, HK2, (by repeat (first | (with_reducible exact Below.refl _ _) | (with_reducible assumption) | (with_reducible refine Below.drew ?_) | (with_reducible refine Below.alloc ?_ (by first | omega | (simp <;> omega)) _) | (with_reducible refine Below.setCell ?_ (by first | omega | (simp <;> omega)) _) | (with_reducible refine belowN ?_ _)))⟩
            case measure => simp [intOf]; omega
          · have HK2 : Go.RowKit.Hid (R = (k : Int)) := by
              show _ = _
              rw [HK.out, HM.out, nextGo_yes m hp]
            have cP := fun w => iParse_yes l k w (by omega) (by omega) (by omega) hp
            clear hp HK HM
            generalize blkAt l k = b at *
            obtain ⟨n2, r, n4, D⟩ := b
            go_wp2_with fail
            refine (cP _).mono ?_
            rintro e w1 ⟨rfl, hb1⟩
            have hbs := hb.size
            have g1 := hb.trans (hb1.mono (by omega))
            have gs := g1.size
            clear cP hb1
            go_wp2
            go_ret
            exact ⟨ret_int HK2.out.symm, (by repeat (first | (with_reducible exact Below.refl _ _) | (with_reducible assumption) | (with_reducible refine Below.drew ?_) | (with_reducible refine Below.alloc ?_ (by first | omega | (simp <;> omega)) _) | (with_reducible refine Below.setCell ?_ (by first | omega | (simp <;> omega)) _) | (with_reducible refine belowN ?_ _)))⟩
        · have hki : ¬ (k : Int) < l.length := by omega
          have HK2 : Go.RowKit.Hid (R = -1) := by
            show _ = _
            rw [HK.out, show l.length - k = 0 by omega]; rfl
          clear HK
          go_wp2
          go_ret
          exact ⟨ret_int HK2.out.symm, (by repeat (first | (with_reducible exact Below.refl _ _) | (with_reducible assumption) | (with_reducible refine Below.drew ?_) | (with_reducible refine Below.alloc ?_ (by first | omega | (simp <;> omega)) _) | (with_reducible refine Below.setCell ?_ (by first | omega | (simp <;> omega)) _) | (with_reducible refine belowN ?_ _)))⟩
  · have hl1 : (8000 : Int) < l.length := by omega
    have HR : Go.RowKit.Hid (nextB l a = -1) := by show _ = _; unfold nextB; rw [if_neg (by omega)]
    go_enter Try.func19, Try.ntmps19
    go_wp2
    go_ret
    exact ⟨ret_int HR.out.symm, (by repeat (first | (with_reducible exact Below.refl _ _) | (with_reducible assumption) | (with_reducible refine Below.drew ?_) | (with_reducible refine Below.alloc ?_ (by first | omega | (simp <;> omega)) _) | (with_reducible refine Below.setCell ?_ (by first | omega | (simp <;> omega)) _) | (with_reducible refine belowN ?_ _)))⟩
set_option maxHeartbeats 1000000 in
theorem sNextBlock_any (l : Bs) (a : Int) (w : World) (hs : l.length ≤ 1500000) (ha0 : -9223372036854775808 ≤ a) (ha1 : a ≤ 9223372036854775807) :
    Calls Try.prog 20 #[.string ⟨l.toArray⟩, .int .i64 a] w fun e w' => e = .returned (.int .i64 (nextB l a)) ∧ Below w.heap.size w w' := by
  by_cases hl : l.length ≤ 8000
  · have hl1 : (l.length : Int) ≤ 8000 := by omega
    by_cases h0 : a < 0
    · have HR : Go.RowKit.Hid (nextB l a = -1) := by show _ = _; unfold nextB; rw [if_neg (by omega)]
      go_enter Try.func20, Try.ntmps20
      go_wp2_with (go_at_call 50; refine (l7Most_any _ _ (by omega)).mono ?_; rintro e w' ⟨rfl, rfl⟩)
      go_ret
      exact ⟨ret_int HR.out.symm, (by repeat (first | (with_reducible exact Below.refl _ _) | (with_reducible assumption) | (with_reducible refine Below.drew ?_) | (with_reducible refine Below.alloc ?_ (by first | omega | (simp <;> omega)) _) | (with_reducible refine Below.setCell ?_ (by first | omega | (simp <;> omega)) _) | (with_reducible refine belowN ?_ _)))⟩
    · obtain ⟨n, rfl⟩ := Int.eq_ofNat_of_zero_le (by omega : 0 ≤ a)
      have HR : Go.RowKit.Hid (nextB l n = nextGo l (l.length - n) n) := by
        show _ = _
        unfold nextB; rw [if_pos ⟨hl, by omega⟩, show ((l.length : Int) - n).toNat = l.length - n by omega]
      generalize nextB l n = R at *
      go_enter Try.func20, Try.ntmps20
      go_wp2_with (go_at_call 50; refine (l7Most_any _ _ (by omega)).mono ?_; rintro e w' ⟨rfl, rfl⟩)
      go_loopw [1] (fun i wr => ∃ k : Nat, i = .int .i64 k ∧ k ≤ max n l.length ∧ Go.RowKit.Hid (R = nextGo l (l.length - k) k) ∧ Below w.heap.size w wr) (fun i _ => l.length - (intOf i).toNat)
      case atStart => exact ⟨n, rfl, by omega, HR, (by repeat (first | (with_reducible exact Below.refl _ _) | (with_reducible assumption) | (with_reducible refine Below.drew ?_) | (with_reducible refine Below.alloc ?_ (by first | omega | (simp <;> omega)) _) | (with_reducible refine Below.setCell ?_ (by first | omega | (simp <;> omega)) _) | (with_reducible refine belowN ?_ _)))⟩
      case round =>
        obtain ⟨k, rfl, hk2, HK, hb⟩ := hrel
        clear HR
        by_cases hlt : k < l.length
        · have hki : (k : Int) < l.length := by omega
          obtain ⟨m, hm⟩ : ∃ m, l.length - k = m + 1 := ⟨l.length - k - 1, by omega⟩
          have HM := Go.Lib.hid hm
          clear hm
          have hbs := hb.size
          cases hp : parseOk l k
          · have HK2 : Go.RowKit.Hid (R = nextGo l (l.length - (k + 1)) ((k : Int) + 1)) := by
              show _ = _
              rw [HK.out, HM.out, nextGo_no m hp, show l.length - (k + 1) = m by have := HM.out; omega]
            have cP := fun w => sParse_no l k w (by omega) (by omega) (by omega) hp
            clear hp HK HM
            have hmk : (byteAt l k != 181) = true ∨ (byteAt l k != 181) = false := by cases (byteAt l k != 181) <;> simp
            rcases hmk with hmk | hmk
            · go_wp2
              go_roundw
              case rel => exact ⟨k + 1, by go_num, by omega, HK2, (by repeat (first | (with_reducible exact Below.refl _ _) | (with_reducible assumption) | (with_reducible refine Below.drew ?_) | (with_reducible refine Below.alloc ?_ (by first | omega | (simp <;> omega)) _) | (with_reducible refine Below.setCell ?_ (by first | omega | (simp <;> omega)) _) | (with_reducible refine belowN ?_ _)))⟩
              case measure => simp [intOf]; omega
            · go_wp2_with fail
              refine (cP _).mono ?_
              rintro e w1 ⟨rfl, hb1⟩
              have g1 := hb.trans (hb1.mono (by omega))
              have gs := g1.size
              clear cP hb1
              go_wp2
              go_roundw
              case rel => exact ⟨k + 1, by go_num, by omega, HK2, (by repeat (first | (with_reducible exact Below.refl _ _) | (with_reducible assumption) | (with_reducible refine Below.drew ?_) | (with_reducible refine Below.alloc ?_ (by first | omega | (simp <;> omega)) _) | (with_reducible refine Below.setCell ?_ (by first | omega | (simp <;> omega)) _) | (with_reducible refine belowN ?_ _)))⟩
              case measure => simp [intOf]; omega
          · have HK2 : Go.RowKit.Hid (R = (k : Int)) := by
              show _ = _
              rw [HK.out, HM.out, nextGo_yes m hp]
            have hmk : (byteAt l k != 181) = false := by
              have h := hp
              simp only [parseOk, headOk, Bool.and_eq_true, decide_eq_true_eq] at h
              simp [h.1.2.1]
            have cP := fun w => sParse_yes l k w (by omega) (by omega) (by omega) hp
            clear hp HK HM
            generalize blkAt l k = b at *
            obtain ⟨n2, r, n4, D⟩ := b
            go_wp2_with fail
            refine (cP _).mono ?_
            rintro e w1 ⟨rfl, hb1⟩
            have g1 := hb.trans (hb1.mono (by omega))
            have gs := g1.size
            clear cP hb1
            go_wp2
            go_ret
            exact ⟨ret_int HK2.out.symm, (by repeat (first | (with_reducible exact Below.refl _ _) | (with_reducible assumption) | (with_reducible refine Below.drew ?_) | (with_reducible refine Below.alloc ?_ (by first | omega | (simp <;> omega)) _) | (with_reducible refine Below.setCell ?_ (by first | omega | (simp <;> omega)) _) | (with_reducible refine belowN ?_ _)))⟩
        · have hki : ¬ (k : Int) < l.length := by omega
          have HK2 : Go.RowKit.Hid (R = -1) := by
            show _ = _
            rw [HK.out, show l.length - k = 0 by omega]; rfl
          clear HK
          go_wp2
          go_ret
          exact ⟨ret_int HK2.out.symm, (by repeat (first | (with_reducible exact Below.refl _ _) | (with_reducible assumption) | (with_reducible refine Below.drew ?_) | (with_reducible refine Below.alloc ?_ (by first | omega | (simp <;> omega)) _) | (with_reducible refine Below.setCell ?_ (by first | omega | (simp <;> omega)) _) | (with_reducible refine belowN ?_ _)))⟩
  · have hl1 : ¬ (l.length : Int) ≤ 8000 := by omega
    have HR : Go.RowKit.Hid (nextB l a = -1) := by show _ = _; unfold nextB; rw [if_neg (by omega)]
    go_enter Try.func20, Try.ntmps20
    go_wp2_with (go_at_call 50; refine (l7Most_any _ _ (by omega)).mono ?_; rintro e w' ⟨rfl, rfl⟩)
    go_ret
    exact ⟨ret_int HR.out.symm, (by repeat (first | (with_reducible exact Below.refl _ _) | (with_reducible assumption) | (with_reducible refine Below.drew ?_) | (with_reducible refine Below.alloc ?_ (by first | omega | (simp <;> omega)) _) | (with_reducible refine Below.setCell ?_ (by first | omega | (simp <;> omega)) _) | (with_reducible refine belowN ?_ _)))⟩
end Go.Proofs.Ytgcjfddkgbigoaa
