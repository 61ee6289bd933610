/- Walks: the laws of changed, dropped and repeated bytes. -/
import Derived.Test.YtgcjfddkgbigoaaGD2
namespace Go.Proofs.Ytgcjfddkgbigoaa
open Go.RowKit
set_option linter.unusedSimpArgs false
set_option linter.unusedVariables false
set_option maxRecDepth 100000
attribute [local go_sem high] run_index_S binOp_eql_S binOp_neq_S append_S toList_S size_S run_slice_S run_slice_from_S run_slice_to_S wrap64_byteAt wrap64_byteAt_mul bits_or_bytes convU conv1_some convU2 conv2_some
/-- What is known of a changed byte. -/
structure CbF (l y : Bs) (k : Nat) (v : Int) : Prop where
  lt : k < l.length
  len : l.length ≤ 8000
  v0 : 0 ≤ v
  v1 : v ≤ 255
  ylen : y.length = l.length
  at_ : byteAt y k = v
  take : y.take k = l.take k
  drop : y.drop (k + 1) = l.drop (k + 1)
  back : cbO y k (byteAt l k) = some l
theorem cb_some {l y : Bs} {a v : Int} (h : cbO l a v = some y) : ∃ k : Nat, a = k ∧ CbF l y k v := by
  unfold cbO at h
  split at h
  case isFalse => cases h
  case isTrue hc =>
    obtain ⟨h1, h2, h3, h4, h5⟩ := hc
    obtain ⟨k, rfl⟩ := Int.eq_ofNat_of_zero_le h2
    have hk : k < l.length := by omega
    have hy : y = l.take k ++ UInt8.ofNat v.toNat :: l.drop (k + 1) := by injection h with h; rw [← h]; simp
    have hyl : y.length = l.length := by rw [hy]; simp; omega
    have htl : (l.take k).length = k := by simp; omega
    have hyt : y.take k = l.take k := by
      rw [hy, List.take_append_of_le_length (by omega), List.take_of_length_le (by omega)]
    have hyd : y.drop (k + 1) = l.drop (k + 1) := by
      have h2 : y = (l.take k ++ [UInt8.ofNat v.toNat]) ++ l.drop (k + 1) := by rw [hy]; simp
      rw [h2, List.drop_left' (by simp; omega)]
    have hyb : byteAt y k = v := by
      rw [byteAt_nat y k (by omega)]
      have : y[k]? = some (UInt8.ofNat v.toNat) := by
        rw [hy, List.getElem?_append_right (by omega), htl]; simp
      rw [List.getElem?_eq_getElem (by omega)] at this
      injection this with this
      rw [this]; simp; omega
    refine ⟨k, rfl, hk, h1, h4, h5, hyl, hyb, hyt, hyd, ?_⟩
    have b0 := byteAt_nonneg l k
    have b1 := byteAt_le l k
    unfold cbO
    rw [if_pos ⟨by omega, by omega, by omega, b0, b1⟩]
    have e1 : ((k : Int)).toNat = k := by omega
    rw [e1, hyt, hyd, byteAt_nat l k hk]
    have e2 : UInt8.ofNat ((l[k].toNat : Int)).toNat = l[k] := by simp
    rw [e2, ← List.drop_eq_getElem_cons hk, List.take_append_drop]
structure DrF (l y : Bs) (k n : Nat) : Prop where
  len : l.length ≤ 8000
  le : k + n ≤ l.length
  ylen : y.length = l.length + n
  one : drO y k n = some l
  two : drO y (k + n) n = some l
  less : drO l k n = some (l.take k ++ l.drop (k + n))
  ll : (l.take k ++ l.drop (k + n)).length + n = l.length
theorem rp_some {l y : Bs} {a v : Int} (h : rpO l a v = some y) : ∃ k n : Nat, a = k ∧ v = n ∧ DrF l y k n := by
  unfold rpO at h
  split at h
  case isFalse => cases h
  case isTrue hc =>
    obtain ⟨hs, h6⟩ := hc
    have hs2 := hs
    rw [spanOk_iff] at hs
    obtain ⟨h1, h2, h3, h4, h5⟩ := hs
    obtain ⟨k, rfl⟩ := Int.eq_ofNat_of_zero_le h2
    obtain ⟨n, rfl⟩ := Int.eq_ofNat_of_zero_le h4
    have e1 : ((k : Int)).toNat = k := by omega
    have e2 : ((n : Int)).toNat = n := by omega
    have e3 : ((k : Int) + n).toNat = k + n := by omega
    have hy : y = l.take (k + n) ++ l.drop k := by injection h with h; rw [← h, e1, e2]
    have hkn : k + n ≤ l.length := by omega
    have hyl : y.length = l.length + n := by rw [hy]; simp; omega
    refine ⟨k, n, rfl, rfl, h1, hkn, hyl, ?_, ?_, ?_, by simp; omega⟩
    · unfold drO
      rw [if_pos (by rw [spanOk_iff]; omega), e1, e2]
      congr 1
      have ht : y.take k = l.take k := by rw [hy, List.take_append_of_le_length (by simp; omega), List.take_take, Nat.min_eq_left (by omega)]
      have hd : y.drop (k + n) = l.drop k := by rw [hy, List.drop_left' (by simp; omega)]
      rw [ht, hd, List.take_append_drop]
    · unfold drO
      rw [if_pos (by rw [spanOk_iff]; omega), e3, e2]
      congr 1
      have ht : y.take (k + n) = l.take (k + n) := by rw [hy, List.take_left' (by simp; omega)]
      have hd : y.drop (k + n + n) = l.drop (k + n) := by
        rw [← List.drop_drop]
        rw [hy, List.drop_left' (by simp; omega), List.drop_drop]
      rw [ht, hd, List.take_append_drop]
    · unfold drO
      rw [if_pos hs2, e1, e2]
theorem obR_none : obR none = .returned (.tuple #[.string ⟨([] : Bs).toArray⟩, .bool false]) := rfl
theorem obR_some (y : Bs) : obR (some y) = .returned (.tuple #[.string ⟨y.toArray⟩, .bool true]) := rfl
set_option maxHeartbeats 4000000 in
theorem law_ChangeByte (bs : Bs) (A : Option Addr) (cap : Nat) (w : World) (hs : Sl w A bs.length cap 1 (bs.map u8v)) :
    Calls Try.prog 3 #[.slice A bs.length cap] w fun e w' => e = .returned (.bool true) ∧ Below w.heap.size w w' := by
  go_enter Try.func3, Try.ntmps3
  by_cases hl0 : 1048576 < bs.length
  · have hli : (1048576 : Int) < bs.length := by omega
    go_wp2
    go_ret
    exact ⟨rfl, Below.refl _ _⟩
  have hli0 : ¬ (1048576 : Int) < bs.length := by omega
  clear hl0
  go_wp2_with fail
  refine (drawChangeByte_any bs A cap _ hs).mono ?_
  rintro e w1 ⟨⟨l, a, v, rfl, hl, ha0, ha1, hv0, hv1⟩, g1⟩
  have z1 := g1.size
  have cI := fun w => iChangeByte_any l a v w (by omega) ha0 ha1
  have cS := fun w => sChangeByte_any l a v w (by omega) ha0 ha1
  cases hc : cbO l a v with
  | none =>
    rw [hc, obR_none] at cI cS
    go_wp2_with fail
    refine (cI _).mono ?_
    rintro e w2 ⟨rfl, hb2⟩
    have z2 := hb2.size
    have g2 := g1.trans (hb2.mono (by omega))
    go_wp2_with fail
    refine (cS _).mono ?_
    rintro e w3 ⟨rfl, hb3⟩
    have g3 := g2.trans (hb3.mono (by omega))
    go_wp2
    go_ret
    exact ⟨rfl, g3⟩
  | some y =>
    rw [hc, obR_some] at cI cS
    obtain ⟨k, rfl, hF⟩ := cb_some hc
    clear hc
    have hk := hF.lt
    have hlen := hF.len
    have hyl0 := hF.ylen
    have hky : k < y.length := by omega
    have hky2 : k + 1 ≤ y.length := by omega
    have hky3 : k ≤ y.length := by omega
    have hkl2 : k + 1 ≤ l.length := by omega
    have hkl3 : k ≤ l.length := by omega
    have hki : (k : Int) < l.length := by omega
    have hkyi : (k : Int) < y.length := by omega
    have hyl : ((y.length : Int) == (l.length : Int)) = true := by simp; omega
    have hat : (byteAt y k == v) = true := by simp [hF.at_]
    have htk : decide (y.take k = l.take k) = true := by simp [hF.take]
    have hdk : decide (y.drop (k + 1) = l.drop (k + 1)) = true := by simp [hF.drop]
    have cB := fun w => iChangeByte_any y k (byteAt l k) w (by omega) ha0 ha1
    rw [hF.back, obR_some] at cB
    clear hF hyl0
    go_wp2_with fail
    refine (cI _).mono ?_
    rintro e w2 ⟨rfl, hb2⟩
    have z2 := hb2.size
    have g2 := g1.trans (hb2.mono (by omega))
    go_wp2_with fail
    refine (cS _).mono ?_
    rintro e w3 ⟨rfl, hb3⟩
    have z3 := hb3.size
    have g3 := g2.trans (hb3.mono (by omega))
    clear hb2 hb3 g1 g2
    go_wp2_with fail
    refine (cB _).mono ?_
    rintro e w4 ⟨rfl, hb4⟩
    have g4 := g3.trans (hb4.mono (by omega))
    clear g3 hb4
    have hw1 : IntKind.i64.wrap ((k : Int) + 1) = (k : Int) + 1 := IntWalk.i64_in _ (by omega)
    have hw2 : ((k : Int) + 1).toNat = k + 1 := by omega
    have hw3 : 0 ≤ (k : Int) + 1 := by omega
    have hw4 : (k : Int) + 1 ≤ l.length := by omega
    have hw5 : (k : Int) + 1 ≤ y.length := by omega
    have hw6 : (k : Int) ≤ l.length := by omega
    have hw7 : (k : Int) ≤ y.length := by omega
    have hw8 : IntKind.i64.wrap (byteAt y k) = byteAt y k := IntWalk.i64_in _ (by have := byteAt_nonneg y k; have := byteAt_le y k; omega)
    go_wp2_with fail
    go_quiet (fail)
    clear hw1 hw2 hw3 hw4 hw5 hw6 hw7 hw8
    go_wp2
    go_ret
    exact ⟨ret_bool (by simp), (by repeat (first | (with_reducible exact Below.refl _ _) | (with_reducible assumption) | (with_reducible refine Below.drew ?_) | (with_reducible refine Below.alloc ?_ (by first | omega | (simp <;> omega)) _) | (with_reducible refine Below.setCell ?_ (by first | omega | (simp <;> omega)) _) | (with_reducible refine belowN ?_ _)))⟩
set_option maxHeartbeats 4000000 in
theorem law_DropRepeat (bs : Bs) (A : Option Addr) (cap : Nat) (w : World) (hs : Sl w A bs.length cap 1 (bs.map u8v)) :
    Calls Try.prog 4 #[.slice A bs.length cap] w fun e w' => e = .returned (.bool true) ∧ Below w.heap.size w w' := by
  go_enter Try.func4, Try.ntmps4
  by_cases hl0 : 1048576 < bs.length
  · have hli : (1048576 : Int) < bs.length := by omega
    go_wp2
    go_ret
    exact ⟨rfl, Below.refl _ _⟩
  have hli0 : ¬ (1048576 : Int) < bs.length := by omega
  clear hl0
  go_wp2_with fail
  refine (drawRepeatBytes_any bs A cap _ hs).mono ?_
  rintro e w1 ⟨⟨l, a, v, rfl, hl, ha0, ha1, hv0, hv1⟩, g1⟩
  have z1 := g1.size
  have cI := fun w => iRepeatBytes_any l a v w (by omega) ha0 ha1
  have cS := fun w => sRepeatBytes_any l a v w (by omega) ha0 ha1
  cases hc : rpO l a v with
  | none =>
    rw [hc, obR_none] at cI cS
    go_wp2_with fail
    refine (cI _).mono ?_
    rintro e w2 ⟨rfl, hb2⟩
    have z2 := hb2.size
    have g2 := g1.trans (hb2.mono (by omega))
    go_wp2_with fail
    refine (cS _).mono ?_
    rintro e w3 ⟨rfl, hb3⟩
    have z3 := hb3.size
    have g3 := g2.trans (hb3.mono (by omega))
    go_wp2
    go_ret
    exact ⟨rfl, g3⟩
  | some y =>
    rw [hc, obR_some] at cI cS
    obtain ⟨k, n, rfl, rfl, hF⟩ := rp_some hc
    clear hc
    have hlen := hF.len
    have hle := hF.le
    have hyl0 := hF.ylen
    have hll0 := hF.ll
    have c1 := fun w => iDropBytes_any y k n w (by omega) (by omega) (by omega)
    have c2 := fun w => iDropBytes_any y (k + n) n w (by omega) (by omega) (by omega)
    have c3 := fun w => iDropBytes_any l k n w (by omega) (by omega) (by omega)
    rw [hF.one, obR_some] at c1
    rw [hF.two, obR_some] at c2
    rw [hF.less, obR_some] at c3
    have hk : k ≤ l.length := by omega
    have hyl : ((y.length : Int) == (l.length : Int) + n) = true := by simp; omega
    obtain ⟨Z, hZ⟩ : ∃ Z, Z = l.take k ++ l.drop (k + n) := ⟨_, rfl⟩
    rw [← hZ] at c3 hll0
    have hll : ((Z.length : Int) == (l.length : Int) - n) = true := by rw [beq_iff_eq]; omega
    have hzz : decide (Z = l.take k ++ l.drop (k + n)) = true := by simp [hZ]
    clear hZ
    have hq : ¬ 9223372036854775807 < (l.take k).length + (l.drop (k + n)).length := by simp; omega
    clear hF hyl0 hll0
    go_wp2_with fail
    refine (cI _).mono ?_
    rintro e w2 ⟨rfl, hb2⟩
    have z2 := hb2.size
    have g2 := g1.trans (hb2.mono (by omega))
    go_wp2_with fail
    refine (cS _).mono ?_
    rintro e w3 ⟨rfl, hb3⟩
    have z3 := hb3.size
    have g3 := g2.trans (hb3.mono (by omega))
    go_wp2_with fail
    refine (c1 _).mono ?_
    rintro e w4 ⟨rfl, hb4⟩
    have z4 := hb4.size
    have g4 := g3.trans (hb4.mono (by omega))
    go_wp2_with fail
    refine (c2 _).mono ?_
    rintro e w5 ⟨rfl, hb5⟩
    have z5 := hb5.size
    have g5 := g4.trans (hb5.mono (by omega))
    go_wp2_with fail
    refine (c3 _).mono ?_
    rintro e w6 ⟨rfl, hb6⟩
    have z6 := hb6.size
    have g6 := g5.trans (hb6.mono (by omega))
    clear hb2 hb3 hb4 hb5 hb6 g1 g2 g3 g4 g5 c1 c2 c3 cI cS
    have hw1 : IntKind.i64.wrap ((k : Int) + n) = (k : Int) + n := IntWalk.i64_in _ (by omega)
    have hw2 : ((k : Int) + n).toNat = k + n := by omega
    have hw3 : 0 ≤ (k : Int) + n := by omega
    have hw4 : (k : Int) + n ≤ l.length := by omega
    have hw5 : IntKind.i64.wrap ((l.length : Int) - n) = (l.length : Int) - n := IntWalk.i64_in _ (by omega)
    have hw6 : IntKind.i64.wrap ((l.length : Int) + n) = (l.length : Int) + n := IntWalk.i64_in _ (by omega)
    have hw7 : (k : Int) ≤ l.length := by omega
    go_wp2_with fail
    go_quiet (fail)
    clear hw1 hw2 hw3 hw4 hw5 hw6 hw7
    go_wp2
    go_ret
    exact ⟨ret_bool (by simp), (by repeat (first | (with_reducible exact Below.refl _ _) | (with_reducible assumption) | (with_reducible refine Below.drew ?_) | (with_reducible refine Below.alloc ?_ (by first | omega | (simp <;> omega)) _) | (with_reducible refine Below.setCell ?_ (by first | omega | (simp <;> omega)) _) | (with_reducible refine belowN ?_ _)))⟩
end Go.Proofs.Ytgcjfddkgbigoaa
