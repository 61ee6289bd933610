/- Walks: the law of a byte that is changed in a container. -/
import Derived.Test.YtgcjfddkgbigoaaE3
import Derived.Test.YtgcjfddkgbigoaaSk
import Derived.Test.YtgcjfddkgbigoaaSv
import Derived.Test.YtgcjfddkgbigoaaE5
import Derived.Deep.Cut
namespace Go.Proofs.Ytgcjfddkgbigoaa
open Go.RowKit
set_option linter.unusedSimpArgs false
set_option linter.unusedVariables false
set_option maxRecDepth 100000
attribute [local go_sem high] run_index_S binOp_eql_S binOp_neq_S append_S toList_S size_S run_slice_S run_slice_from_S run_slice_to_S wrap64_byteAt wrap64_byteAt_mul bits_or_bytes convU conv1_some convU2 conv2_some
/-- A marker stands in a string. -/
def mkd (l : Bs) : Bool := l.any (fun c => c == 181)
theorem mkd_at {l : Bs} (h : mkd l = false) (i : Nat) (hi : i < l.length) : l[i] ≠ 181 := by
  unfold mkd at h
  rw [List.any_eq_false] at h
  have := h l[i] (List.getElem_mem hi)
  simpa using this
theorem mkd_take (l : Bs) (k : Nat) (hk : k < l.length) : mkd (l.take (k + 1)) = (mkd (l.take k) || l[k] == 181) := by
  unfold mkd
  rw [List.take_succ_eq_append_getElem hk, List.any_append]
  simp
theorem mkd_yes {l : Bs} {k : Nat} (hk : k < l.length) (h : l[k] = 181) : mkd l = true := by
  unfold mkd
  rw [List.any_eq_true]
  exact ⟨l[k], List.getElem_mem hk, by simp [h]⟩
theorem b181 (l : Bs) (k : Nat) (hk : k < l.length) : (byteAt l k == 181) = (l[k] == 181) := by
  rw [byteAt_get l k hk, Bool.eq_iff_iff]
  simp only [beq_iff_eq]
  constructor
  · intro h
    exact UInt8.toNat_inj.1 (by show _ = 181; omega)
  · intro h
    rw [h]; rfl
theorem Sl.fd0 {w : World} {A : Option Addr} {fs : List Fd} {cap : Nat} (h : Sl w A fs.length cap 5 (fsV fs)) {k : Nat} (hk : k < fs.length) : ∃ g off, A = some ⟨g, off, none⟩ ∧ g < w.heap.size ∧ w.cell? ⟨g, off + k * 5, none⟩ = some (.int .i64 fs[k].1) := by
  obtain ⟨g, off, e, hg, hc⟩ := Sl.cellK h hk
  have hcs := fsV_at fs k hk
  rw [Nat.mul_comm 5 k] at hcs
  exact ⟨g, off, e, hg, hc 0 _ hcs.1⟩
theorem soMarked_any (l : Bs) (w : World) (hl : l.length ≤ 1000000) :
    Calls Try.prog 29 #[sv l] w fun e w' => e = .returned (.bool (mkd l)) ∧ Below w.heap.size w w' := by
  go_enter Try.func29, Try.ntmps29
  go_wp2
  go_loopw [3] (fun i wr => ∃ k : Nat, i = .int .i64 k ∧ k ≤ l.length ∧ Go.RowKit.Hid (mkd (l.take k) = false) ∧ Below w.heap.size w wr) (fun i _ => l.length - (intOf i).toNat)
  case atStart => exact ⟨0, rfl, by omega, rfl, (by repeat (first | (with_reducible exact Below.refl _ _) | (with_reducible assumption) | (with_reducible refine Below.drew ?_) | (with_reducible refine Below.alloc ?_ (by first | omega | (simp <;> omega)) _) | (with_reducible refine Below.setCell ?_ (by first | omega | (simp <;> omega)) _) | (with_reducible refine belowN ?_ _)))⟩
  case round =>
    obtain ⟨k, rfl, hk, HM, hb⟩ := hrel
    by_cases hlt : k < l.length
    · have hki : (k : Int) < l.length := by omega
      have hbb := b181 l k hlt
      by_cases h181 : l[k] = 181
      · have hd : (byteAt l k == 181) = true := by rw [hbb]; simp [h181]
        have HY := Go.Lib.hid (mkd_yes hlt h181)
        clear HM hbb h181
        go_wp2
        go_ret
        exact ⟨ret_bool (by rw [HY.out]), hb⟩
      · have hd : (byteAt l k == 181) = false := by rw [hbb]; simpa using h181
        have HN : Go.RowKit.Hid (mkd (l.take (k + 1)) = false) := by show _ = _; rw [mkd_take l k hlt, HM.out]; simpa using h181
        clear HM hbb h181
        go_wp2
        go_roundw
        case rel => exact ⟨k + 1, by go_num, by omega, HN, hb⟩
        case measure => simp [intOf]; omega
    · have hki : ¬ (k : Int) < l.length := by omega
      have HN : Go.RowKit.Hid (mkd l = false) := by
        show _ = _
        have := HM.out
        rwa [List.take_of_length_le (by omega)] at this
      clear HM
      go_wp2
      go_ret
      exact ⟨ret_bool (by rw [HN.out]), hb⟩
/-- Where block n ends. -/
def plcEnd (l : Bs) (bs : List Blk) (n : Nat) : Int := if n + 1 < bs.length then (plcAt bs (n + 1)).1 else (l.length : Int)
theorem plcEnd_is {l : Bs} {bs : List Blk} (hB : blocksB l = some bs) {n : Nat} (hn : n < bs.length) : plcEnd l bs n = (plcAt bs n).1 + bs[n].text.length := by
  obtain ⟨h1, h2, h3⟩ := blocks_some hB
  have hnx := plcAt_next bs n hn
  unfold plcEnd
  split
  · rw [hnx]; simp [Blk.text_len]
  · have e : bs.take (n + 1) = bs := List.take_of_length_le (by omega)
    have : (plcAt bs (n + 1)).1 = l.length := by unfold plcAt; rw [e, h2]
    rw [← this, hnx]; simp [Blk.text_len]
theorem chl_fact {l y : Bs} {bs : List Blk} {a n p e : Nat} {v : Int} (hB : blocksB l = some bs) (hF : CbF l y a v) (hn : n < bs.length) (hp : (plcAt bs n).1 = p) (he : plcEnd l bs n = e) (h1 : p ≤ a) (h2 : a < e)
    (h6 : a - p ≠ 6) (h7 : a - p ≠ 7) (hc : (v - byteAt l a) % 255 ≠ 0) (hm : mkd ((y.drop (p + 1)).take (e - (p + 1))) = false) : ChlF bs n (findB y) := by
  have hpe := plcEnd_is hB hn
  have hpp : (catT (bs.take n)).length = p := by have : (plcAt bs n).1 = ((catT (bs.take n)).length : Int) := rfl; omega
  have hy : y = l.set a (UInt8.ofNat v.toNat) := by
    have hk := hF.lt
    have hkl := hF.ylen
    have hb := hF.at_
    rw [byteAt_get y a (by omega)] at hb
    have e1 : y[a]'(by omega) = UInt8.ofNat v.toNat := by
      apply UInt8.toNat_inj.1
      have h0 := hF.v0
      have h1 := hF.v1
      rw [UInt8.toNat_ofNat']
      omega
    rw [List.set_eq_take_append_cons_drop, if_pos hk, ← hF.take, ← hF.drop, ← e1, List.getElem_cons_drop, List.take_append_drop]
  have hva : ((UInt8.ofNat v.toNat).toNat : Int) = v := by
    have h0 := hF.v0
    have h1 := hF.v1
    rw [UInt8.toNat_ofNat']
    omega
  have key := change_local hB hn (k := a - p) (c := UInt8.ofNat v.toNat) (by omega) h6 h7
  rw [hpp, show p + (a - p) = a by omega, ← hy, hva] at key
  refine key hc (fun i hi0 hi1 => ?_)
  have hil : i < y.length := by
    have h2 := blocks_some hB
    have := catT_split bs n hn
    rw [h2.2.1] at this
    have := congrArg List.length this
    rw [hF.ylen]
    simp only [List.length_append] at this
    omega
  have hlen : ((y.drop (p + 1)).take (e - (p + 1))).length = min (e - (p + 1)) (y.length - (p + 1)) := by simp
  have hj := mkd_at hm (i - (p + 1)) (by rw [hlen]; omega)
  rw [List.getElem_take, List.getElem_drop] at hj
  have e2 : p + 1 + (i - (p + 1)) = i := by omega
  simp only [e2] at hj
  rw [byteAt_get y i hil]
  intro hc2
  exact hj (UInt8.toNat_inj.1 (by simp; omega))
theorem seek_last {l : Bs} {bs : List Blk} (hB : blocksB l = some bs) (h0 : 0 < bs.length) : seekTo (plc bs) (sizesOf bs) (plc bs).length = ((bs.length - 1 : Nat) : Int) := by
  have hok := NumOk_mem (blocks_some hB).1
  obtain ⟨m, hm⟩ : ∃ m, bs.length = m + 1 := ⟨bs.length - 1, by omega⟩
  rw [plc_length, hm, seekTo_succ _ _ _ (by rw [plc_length]; omega), if_pos]
  · simp
  · rw [plc_at]
    have hs := sizesOf_app (bs.take m) (bs.drop m)
    rw [List.take_append_drop] at hs
    have hd := (sizesOf_bd (bs.drop m) (fun b hb => hok b (List.mem_of_mem_drop hb))).1
    have e : (plcAt bs m).2 = sizesOf (bs.take m) := rfl
    omega
theorem tmod_iff (x : Int) : (x.tmod 255 = 0) ↔ (x % 255 = 0) := by
  constructor
  · intro h; exact Int.emod_eq_zero_of_dvd (Int.dvd_of_tmod_eq_zero h)
  · intro h; exact Int.tmod_eq_zero_of_dvd (Int.dvd_of_emod_eq_zero h)
set_option maxHeartbeats 4000000 in
theorem law_ChangeLocal (bs : Bs) (A : Option Addr) (cap : Nat) (w : World) (hs : Sl w A bs.length cap 1 (bs.map u8v)) :
    Calls Try.prog 7 #[.slice A bs.length cap] w fun e w' => e = .returned (.bool true) ∧ Below w.heap.size w w' := by
  go_enter Try.func7, Try.ntmps7
  by_cases hl0 : 1048576 < bs.length
  · have hli : (1048576 : Int) < bs.length := by omega
    go_wp2
    go_ret
    exact ⟨rfl, Below.refl _ _⟩
  have hli0 : ¬ (1048576 : Int) < bs.length := by omega
  clear hl0
  go_wp2_with fail
  refine (drawChangeByte_any bs A cap _ hs).mono ?_
  rintro e w1 ⟨⟨l, a, v, rfl, hl, ha0, ha1, hv0, hv1⟩, g1⟩
  have z1 := g1.size
  clear hs
  have cI := fun w => iChangeByte_any l a v w (by omega) ha0 ha1
  have cS := fun w => sChangeByte_any l a v w (by omega) ha0 ha1
  have cX := fun w => indexOf_any l w (by omega)
  have cZ := fun w => containerSize_any l w (by omega)
  unfold PlRes2 PlRow at cX
  obtain ⟨Y, hY⟩ : ∃ Y, Y = cbO l a v := ⟨_, rfl⟩
  rw [← hY] at cI cS
  have hR : obR Y = .returned (.tuple #[sv (Y.getD []), .bool Y.isSome]) := rfl
  rw [hR] at cI cS
  by_cases hbad : Y.isSome = false ∨ (blocksB l).isSome = false
  · generalize Y.isSome = yb at *
    generalize (blocksB l).isSome = bb at *
    generalize (blocksB l).elim [] plc = PS at *
    generalize Y.getD [] = y at *
    clear hY hR
    go_wp2_with fail
    refine (cI _).mono ?_
    rintro e w2 ⟨rfl, hb2⟩
    have z2 := hb2.size
    have g2 := g1.trans (hb2.mono (by omega))
    clear hb2 g1 cI
    go_wp2_with fail
    refine (cS _).mono ?_
    rintro e w3 ⟨rfl, hb3⟩
    have z3 := hb3.size
    have g3 := g2.trans (hb3.mono (by omega))
    clear hb3 g2 cS
    go_wp2_with fail
    refine (cX _).mono ?_
    rintro e w4 ⟨A4, c4, rfl, o4, hb4⟩
    have g4 := g3.trans (hb4.mono (by omega))
    clear o4 hb4 g3 cX cZ
    rcases hbad with rfl | rfl
    · go_wp2
      go_ret
      exact ⟨ret_bool (by first | rfl | simp), g4⟩
    · cases yb
      all_goals
        go_wp2
        go_ret
        exact ⟨ret_bool (by first | rfl | simp), g4⟩
  · obtain ⟨y, hYy⟩ : ∃ y, Y = some y := by
      cases Y with
      | none => simp at hbad
      | some y => exact ⟨y, rfl⟩
    obtain ⟨bks, hBk⟩ : ∃ bks, blocksB l = some bks := by
      cases h : blocksB l with
      | none => rw [h] at hbad; simp at hbad
      | some bks => exact ⟨bks, rfl⟩
    subst hYy
    clear hbad hR
    obtain ⟨k, rfl, hF⟩ := cb_some hY.symm
    clear hY
    rw [hBk] at cX
    rw [csB_some hBk] at cZ
    simp only [Option.elim_some, Option.isSome_some, Option.getD_some] at cX cI cS
    have hkl := hF.lt
    have hyl := hF.ylen
    have hl8 := hF.len
    have hpos : 0 < bks.length := by
      rcases Nat.eq_zero_or_pos bks.length with h | h
      · have h2 := (blocks_some hBk).2.1
        rw [List.eq_nil_of_length_eq_zero h] at h2
        rw [← h2] at hkl
        simp [catT] at hkl
      · exact h
    have hblen := (blocks_short hBk).2
    have hsl := seek_last hBk hpos
    have hpok := plc_ok hBk
    have cK := fun A cap w hs => seekBlock_any (plc bks) (sizesOf bks) A cap w hs hpok
    rw [hsl] at cK
    have HPL := Go.Lib.hid (plc_length bks)
    go_wp2_with fail
    refine (cI _).mono ?_
    rintro e w2 ⟨rfl, hb2⟩
    have z2 := hb2.size
    have g2 := g1.trans (hb2.mono (by omega))
    clear hb2 g1 cI
    go_wp2_with fail
    refine (cS _).mono ?_
    rintro e w3 ⟨rfl, hb3⟩
    have z3 := hb3.size
    have g3 := g2.trans (hb3.mono (by omega))
    clear hb3 g2 cS
    go_wp2_with fail
    refine (cX _).mono ?_
    rintro e w4 ⟨A4, c4, rfl, o4, hb4⟩
    have z4 := hb4.size
    have g4 := g3.trans (hb4.mono (by omega))
    have S4 := own_Sl o4
    have G4 := Go.Lib.hid g4
    have hc4 := S4.1
    have HS : Go.RowKit.Hid (∀ wr, Below w4.heap.size w4 wr → Sl wr A4 (plc bks).length c4 2 (plV (plc bks))) := fun wr h => S4.below h
    clear o4 hb4 g3 cX
    go_wp2_with fail
    refine (cZ _).mono ?_
    rintro e w5 ⟨rfl, hb5⟩
    have z5 := hb5.size
    have g5 := g4.trans (hb5.mono (by omega))
    have S5 := S4.below hb5
    have d5 := hb5
    clear hb5 g4 cZ S4
    go_wp2_with fail
    refine (cK _ _ _ S5).mono ?_
    rintro e w6 ⟨rfl, hb6⟩
    have z6 := hb6.size
    have g6 := g5.trans (hb6.mono (by omega))
    have d6 := d5.trans (hb6.mono z5)
    clear hb6 g5 cK S5 d5 hpok hsl
    have HPA : Go.RowKit.Hid (∀ n (h : n < bks.length), ∃ g off, A4 = some ⟨g, off, none⟩ ∧ ∀ wr, Below w4.heap.size w4 wr → g < wr.heap.size ∧ wr.cell? ⟨g, off + n * 2, none⟩ = some (.int .i64 (plcAt bks n).1)) := fun n h => by
      have hn : n < (plc bks).length := by rw [plc_length]; exact h
      obtain ⟨g, off, hA, _⟩ := (HS.out w4 (Below.refl _ _)).pl hn
      refine ⟨g, off, hA, fun wr hw => ?_⟩
      obtain ⟨g', off', hA', hg', c0, _⟩ := (HS.out wr hw).pl hn
      rw [hA] at hA'
      injection hA' with e
      injection e with e1 e2
      subst e1 e2
      rw [plc_at] at c0
      exact ⟨hg', c0⟩
    have HBD : Go.RowKit.Hid (∀ n, 0 ≤ (plcAt bks n).1 ∧ (plcAt bks n).1 ≤ 74 * bks.length) := fun n => by
      have := plcAt_bd bks (NumOk_mem (blocks_some hBk).1) n
      exact ⟨this.1, this.2.1⟩
    obtain ⟨g, off, hA, _⟩ := HPA.out 0 hpos
    subst hA
    have hlp : (plc bks).length = bks.length := HPL.out
    rw [hlp] at hc4 HS ⊢
    have HPA2 : Go.RowKit.Hid (∀ n (h : n < bks.length) wr, Below w4.heap.size w4 wr → g < wr.heap.size ∧ wr.cell? ⟨g, off + n * 2, none⟩ = some (.int .i64 (plcAt bks n).1)) := fun n h wr hw => by
      obtain ⟨g', off', hA, hc⟩ := HPA.out n h
      injection hA with e
      injection e with e1 e2
      subst e1 e2
      exact hc wr hw
    have HE0 : Go.RowKit.Hid ((k : Int) < plcEnd l bks (bks.length - 1)) := by
      show _ < _
      unfold plcEnd
      rw [if_neg (by omega)]; omega
    have HEN : Go.RowKit.Hid (∀ n, n + 1 < bks.length → plcEnd l bks n = (plcAt bks (n + 1)).1) := fun n h => by unfold plcEnd; rw [if_pos h]
    have HP0 : Go.RowKit.Hid ((plcAt bks 0).1 = 0) := rfl
    clear HPA HS HPL hlp
    go_wp2
    go_loopw [12] (fun i wr => ∃ n : Nat, i = .int .i64 (n : Int) ∧ n < bks.length ∧ Go.RowKit.Hid ((k : Int) < plcEnd l bks n) ∧ Below w4.heap.size w4 wr) (fun i _ => (intOf i).toNat)
    case atStart => exact ⟨bks.length - 1, rfl, by omega, HE0, d6⟩
    case round =>
      obtain ⟨n, rfl, hn, HE, hb⟩ := hrel
      have hz := hb.size
      clear HE0
      obtain ⟨hg, c0⟩ := HPA2.out n hn wr hb
      have hbd := HBD.out n
      obtain ⟨P, hP⟩ : ∃ P, (plcAt bks n).1 = P := ⟨_, rfl⟩
      rw [hP] at c0 hbd
      obtain ⟨hb0, hb1⟩ := hbd
      have hni : (n : Int) < bks.length := by omega
      by_cases hgo : 0 < n ∧ (k : Int) < P
      · obtain ⟨h1, h2⟩ := hgo
        obtain ⟨m, rfl⟩ : ∃ m, n = m + 1 := ⟨n - 1, by omega⟩
        have h1i : (0 : Int) < ((m + 1 : Nat) : Int) := by omega
        have h1j : (0 : Int) < (m : Int) + 1 := by omega
        have HE2 : Go.RowKit.Hid ((k : Int) < plcEnd l bks m) := by show _ < _; rw [HEN.out m hn, hP]; exact h2
        clear HE hP
        go_wp2
        go_roundw
        case rel => exact ⟨m, by go_num, by omega, HE2, hb⟩
        case measure => first | (simp [intOf]; done) | (simp [intOf]; omega)
      · have hPk : P ≤ k := by
          rcases Nat.eq_zero_or_pos n with h | h
          · subst h; rw [← hP, HP0.out]; omega
          · omega
        have hex : (¬ (0 : Int) < (n : Int)) ∨ (0 : Int) < (n : Int) ∧ ¬ (k : Int) < P := by omega
        obtain ⟨p, rfl⟩ := Int.eq_ofNat_of_zero_le hb0
        have hEis := plcEnd_is hBk hn
        have htl := text_le (NumOk_mem (blocks_some hBk).1 _ (List.getElem_mem hn))
        obtain ⟨e, he⟩ := Int.eq_ofNat_of_zero_le (show 0 ≤ plcEnd l bks n by omega)
        have hke : k < e := by have := HE.out; omega
        have hel : e ≤ l.length := by
          have h2 := (blocks_some hBk).2.1
          have h3 := congrArg List.length (catT_split bks n hn)
          rw [h2] at h3
          simp only [List.length_append] at h3
          have h4 : (plcAt bks n).1 = ((catT (bks.take n)).length : Int) := rfl
          omega
        have HCH := Go.Lib.hid (fun h1 h2 h3 h4 => chl_fact (y := y) hBk hF hn hP he (by omega) hke h1 h2 h3 h4)
        have HEE : Go.RowKit.Hid (n + 1 < bks.length → ∀ wr, Below w4.heap.size w4 wr → wr.cell? ⟨g, off + (n + 1) * 2, none⟩ = some (.int .i64 (e : Int))) := fun h wr hw => by
          have := (HPA2.out (n + 1) h wr hw).2
          rw [← he, HEN.out n h]; exact this
        have HEL : Go.RowKit.Hid (¬ n + 1 < bks.length → l.length = e) := fun h => by
          have : plcEnd l bks n = l.length := by unfold plcEnd; rw [if_neg h]
          omega
        have hv0' := hF.v0
        have hv1' := hF.v1
        have hby0 := byteAt_nonneg l k
        have hby1 := byteAt_le l k
        clear hEis HE hP he htl hF hb0 hb1 hgo
        have cM : Go.RowKit.Hid (∀ w, Calls Try.prog 29 #[sv ((y.drop (p + 1)).take (e - (p + 1)))] w fun e' w' => e' = .returned (.bool (mkd ((y.drop (p + 1)).take (e - (p + 1))))) ∧ Below w.heap.size w w') := fun w => soMarked_any _ w (by simp; omega)
        have hkp : p ≤ k := by omega
        have hs1 : ((p : Int) + 1).toNat = p + 1 := by omega
        have hs2 : (0 : Int) ≤ (p : Int) + 1 := by omega
        have hs3 : (p : Int) + 1 ≤ (e : Int) := by omega
        have hs4 : (e : Int) ≤ y.length := by omega
        have hw1 : IntKind.i64.wrap ((p : Int) + 1) = (p : Int) + 1 := IntWalk.i64_in _ (by omega)
        have hw2 : IntKind.i64.wrap ((n : Int) + 1) = (n : Int) + 1 := IntWalk.i64_in _ (by omega)
        obtain ⟨q, hq⟩ : ∃ q : Nat, q = k - p := ⟨_, rfl⟩
        have hqi : (k : Int) - (p : Int) = (q : Int) := by omega
        rw [← hq] at HCH
        clear hq
        have hki : (k : Int) < l.length := by omega
        have HYL := Go.Lib.hid hyl
        have GG : Below w.heap.size w wr := G4.out.trans (hb.mono (by omega))
        clear hyl
        have HD : n + 1 < bks.length ∧ (n : Int) + 1 < bks.length ∨ ¬ n + 1 < bks.length ∧ ¬ (n : Int) + 1 < bks.length := by omega
        rcases HD with ⟨hd1, hd2⟩ | ⟨hd1, hd2⟩
        · have d0 := HEE.out hd1 wr hb
          clear HEE HEL
          rcases hex with hx | ⟨hx, hx2⟩
          all_goals
            go_upto_region 15 with fail
            by_cases h6 : q = 6
            · have b6 : ((q : Int) == 6) = true := by rw [h6]; rfl
              clear h6 HCH
              go_wp2
              go_ret
              exact ⟨ret_bool (by first | rfl | simp), GG⟩
            have b6 : ((q : Int) == 6) = false := by simp; omega
            by_cases h7 : q = 7
            · have b7 : ((q : Int) == 7) = true := by rw [h7]; rfl
              clear h6 h7 HCH
              go_wp2
              go_ret
              exact ⟨ret_bool (by first | rfl | simp), GG⟩
            have b7 : ((q : Int) == 7) = false := by simp; omega
            by_cases hr : (v - byteAt l (k : Int)) % 255 = 0
            · have br : ((v - byteAt l (k : Int)).tmod 255 == 0) = true := by simpa using (tmod_iff _).2 hr
              clear h6 h7 hr HCH
              go_wp2
              go_ret
              exact ⟨ret_bool (by first | rfl | simp), GG⟩
            have br : ((v - byteAt l (k : Int)).tmod 255 == 0) = false := by rw [beq_eq_false_iff_ne]; exact fun h => hr ((tmod_iff _).1 h)
            cases hmk : mkd ((y.drop (p + 1)).take (e - (p + 1)))
            · have HC := Go.Lib.hid (HCH.out h6 h7 hr hmk)
              rw [hmk] at cM
              clear h6 h7 hr HCH hmk
              go_wp2_with fail
              refine (cM.out _).mono ?_
              rintro e' w7 ⟨rfl, hb7⟩
              have z7 := hb7.size
              have g7 := GG.trans (hb7.mono (by omega))
              clear cM b6 b7 br
              go_upto_region 18 with fail
              have hyl8 : y.length ≤ 8000 := by rw [HYL.out]; exact hl8
              have d7 := hb.trans (hb7.mono hz)
              have cFB := fun w => findBlocks_any y w (by omega)
              have cSV := fun w => survivors_any l y w (by omega) (by omega)
              unfold FsRes at cFB
              unfold IsRes at cSV
              rw [survB_some hBk] at cSV
              obtain ⟨hf1, hf2, hf3⟩ := HC.out
              have HAT : Go.RowKit.Hid (∀ (i : Nat) (h : i < (findB y).length), (findB y)[i].1 = (plcAt bks (if n ≤ i then i + 1 else i)).1) := hf2
              clear HC hf2 hb7 c0 hb hg hx
              generalize findB y = F at *
              generalize survL bks F = NS at *
              have HNS := Go.Lib.hid hf3
              clear hf3
              go_wp2_with fail
              refine (cFB _).mono ?_
              rintro e' w8 ⟨A8, c8, rfl, o8, hb8⟩
              have z8 := hb8.size
              have d8 := d7.trans (hb8.mono (by omega))
              have g8 := g7.trans (hb8.mono (by omega))
              have S8 := own_Sl o8
              have hc8 := S8.1
              have HF8 : Go.RowKit.Hid (∀ wr, Below w8.heap.size w8 wr → Sl wr A8 F.length c8 5 (fsV F)) := fun wr h => S8.below h
              have D8 := Go.Lib.hid d8
              clear hb8 d7 g7 o8 S8 cFB d8
              go_wp2
              go_loopw [16] (fun i wr => ∃ j : Nat, i = .int .i64 (j : Int) ∧ j ≤ F.length ∧ Below w8.heap.size w8 wr) (fun i _ => F.length - (intOf i).toNat)
              case atStart => exact ⟨0, rfl, by omega, (by repeat (first | (with_reducible exact Below.refl _ _) | (with_reducible assumption) | (with_reducible refine Below.drew ?_) | (with_reducible refine Below.alloc ?_ (by first | omega | (simp <;> omega)) _) | (with_reducible refine Below.setCell ?_ (by first | omega | (simp <;> omega)) _) | (with_reducible refine belowN ?_ _)))⟩
              case round =>
                obtain ⟨j, rfl, hj, hb⟩ := hrel
                have hz9 := hb.size
                by_cases hjl : j < F.length
                · have hji : (j : Int) < F.length := by omega
                  obtain ⟨gf, of, rfl, hgf, c0⟩ := (HF8.out wr hb).fd0 hjl
                  have hat := HAT.out j hjl
                  have dd := D8.out.trans (hb.mono (by omega))
                  have hwj : IntKind.i64.wrap ((j : Int) + 1) = (j : Int) + 1 := IntWalk.i64_in _ (by omega)
                  by_cases hnj : n ≤ j
                  · have hnji : (n : Int) ≤ (j : Int) := by omega
                    rw [if_pos hnj] at hat
                    obtain ⟨hg, d1⟩ := HPA2.out (j + 1) (by omega) wr dd
                    rw [← hat] at d1
                    generalize F[j].1 = X at *
                    have hpj : ¬ (bks.length : Int) ≤ (j : Int) + 1 := by omega
                    have hpj2 : (j : Int) + 1 < (bks.length : Int) := by omega
                    have hpt : ((j : Int) + 1).toNat = j + 1 := by omega
                    have hpb : decide ((bks.length : Int) ≤ (j : Int) + 1) = false := by simp; omega
                    clear hat dd hnj
                    go_wp2_with fail
                    go_quiet (fail)
                    go_wp2
                    go_roundw
                    case rel => exact ⟨j + 1, by go_num, by omega, (by repeat (first | (with_reducible exact Below.refl _ _) | (with_reducible assumption) | (with_reducible refine Below.drew ?_) | (with_reducible refine Below.alloc ?_ (by first | omega | (simp <;> omega)) _) | (with_reducible refine Below.setCell ?_ (by first | omega | (simp <;> omega)) _) | (with_reducible refine belowN ?_ _)))⟩
                    case measure => simp [intOf]; omega
                  · have hnji : ¬ (n : Int) ≤ (j : Int) := by omega
                    rw [if_neg hnj] at hat
                    obtain ⟨hg, d1⟩ := HPA2.out j (by omega) wr dd
                    rw [← hat] at d1
                    generalize F[j].1 = X at *
                    have hpj : ¬ (bks.length : Int) ≤ (j : Int) := by omega
                    have hpj2 : (j : Int) < (bks.length : Int) := by omega
                    have hpb : decide ((bks.length : Int) ≤ (j : Int)) = false := by simp; omega
                    have hpb2 : decide (bks.length ≤ j) = false := by simp; omega
                    have hpb3 : ¬ bks.length ≤ j := by omega
                    clear hat dd hnj
                    go_wp2_with fail
                    go_quiet (fail)
                    go_wp2
                    go_roundw
                    case rel => exact ⟨j + 1, by go_num, by omega, (by repeat (first | (with_reducible exact Below.refl _ _) | (with_reducible assumption) | (with_reducible refine Below.drew ?_) | (with_reducible refine Below.alloc ?_ (by first | omega | (simp <;> omega)) _) | (with_reducible refine Below.setCell ?_ (by first | omega | (simp <;> omega)) _) | (with_reducible refine belowN ?_ _)))⟩
                    case measure => simp [intOf]; omega
                · have hji : ¬ (j : Int) < F.length := by omega
                  have hq1 : ((F.length : Int) == (bks.length : Int) - 1) = true := by simp; omega
                  have hq2 : ((NS.length : Int) == (F.length : Int)) = true := by rw [HNS.out]; simp
                  have hwb : IntKind.i64.wrap ((bks.length : Int) - 1) = (bks.length : Int) - 1 := IntWalk.i64_in _ (by omega)
                  go_wp2_with fail
                  refine (cSV _).mono ?_
                  rintro e' w9 ⟨A9, c9, rfl, o9, hb9⟩
                  have g9 := (g8.trans (hb.mono (by omega))).trans (hb9.mono (by omega))
                  clear o9
                  go_wp2
                  go_ret
                  exact ⟨ret_bool (by first | rfl | simp), g9⟩
            · rw [hmk] at cM
              clear h6 h7 hr HCH hmk
              go_wp2_with fail
              refine (cM.out _).mono ?_
              rintro e' w7 ⟨rfl, hb7⟩
              go_wp2
              go_ret
              exact ⟨ret_bool (by first | rfl | simp), GG.trans (hb7.mono (by omega))⟩
        · obtain rfl : e = l.length := (HEL.out hd1).symm
          clear HEE HEL
          rcases hex with hx | ⟨hx, hx2⟩
          all_goals
            go_upto_region 15 with fail
            by_cases h6 : q = 6
            · have b6 : ((q : Int) == 6) = true := by rw [h6]; rfl
              clear h6 HCH
              go_wp2
              go_ret
              exact ⟨ret_bool (by first | rfl | simp), GG⟩
            have b6 : ((q : Int) == 6) = false := by simp; omega
            by_cases h7 : q = 7
            · have b7 : ((q : Int) == 7) = true := by rw [h7]; rfl
              clear h6 h7 HCH
              go_wp2
              go_ret
              exact ⟨ret_bool (by first | rfl | simp), GG⟩
            have b7 : ((q : Int) == 7) = false := by simp; omega
            by_cases hr : (v - byteAt l (k : Int)) % 255 = 0
            · have br : ((v - byteAt l (k : Int)).tmod 255 == 0) = true := by simpa using (tmod_iff _).2 hr
              clear h6 h7 hr HCH
              go_wp2
              go_ret
              exact ⟨ret_bool (by first | rfl | simp), GG⟩
            have br : ((v - byteAt l (k : Int)).tmod 255 == 0) = false := by rw [beq_eq_false_iff_ne]; exact fun h => hr ((tmod_iff _).1 h)
            cases hmk : mkd ((y.drop (p + 1)).take (l.length - (p + 1)))
            · have HC := Go.Lib.hid (HCH.out h6 h7 hr hmk)
              rw [hmk] at cM
              clear h6 h7 hr HCH hmk
              go_wp2_with fail
              refine (cM.out _).mono ?_
              rintro e' w7 ⟨rfl, hb7⟩
              have z7 := hb7.size
              have g7 := GG.trans (hb7.mono (by omega))
              clear cM b6 b7 br
              go_upto_region 18 with fail
              have hyl8 : y.length ≤ 8000 := by rw [HYL.out]; exact hl8
              have d7 := hb.trans (hb7.mono hz)
              have cFB := fun w => findBlocks_any y w (by omega)
              have cSV := fun w => survivors_any l y w (by omega) (by omega)
              unfold FsRes at cFB
              unfold IsRes at cSV
              rw [survB_some hBk] at cSV
              obtain ⟨hf1, hf2, hf3⟩ := HC.out
              have HAT : Go.RowKit.Hid (∀ (i : Nat) (h : i < (findB y).length), (findB y)[i].1 = (plcAt bks (if n ≤ i then i + 1 else i)).1) := hf2
              clear HC hf2 hb7 c0 hb hg hx
              generalize findB y = F at *
              generalize survL bks F = NS at *
              have HNS := Go.Lib.hid hf3
              clear hf3
              go_wp2_with fail
              refine (cFB _).mono ?_
              rintro e' w8 ⟨A8, c8, rfl, o8, hb8⟩
              have z8 := hb8.size
              have d8 := d7.trans (hb8.mono (by omega))
              have g8 := g7.trans (hb8.mono (by omega))
              have S8 := own_Sl o8
              have hc8 := S8.1
              have HF8 : Go.RowKit.Hid (∀ wr, Below w8.heap.size w8 wr → Sl wr A8 F.length c8 5 (fsV F)) := fun wr h => S8.below h
              have D8 := Go.Lib.hid d8
              clear hb8 d7 g7 o8 S8 cFB d8
              go_wp2
              go_loopw [16] (fun i wr => ∃ j : Nat, i = .int .i64 (j : Int) ∧ j ≤ F.length ∧ Below w8.heap.size w8 wr) (fun i _ => F.length - (intOf i).toNat)
              case atStart => exact ⟨0, rfl, by omega, (by repeat (first | (with_reducible exact Below.refl _ _) | (with_reducible assumption) | (with_reducible refine Below.drew ?_) | (with_reducible refine Below.alloc ?_ (by first | omega | (simp <;> omega)) _) | (with_reducible refine Below.setCell ?_ (by first | omega | (simp <;> omega)) _) | (with_reducible refine belowN ?_ _)))⟩
              case round =>
                obtain ⟨j, rfl, hj, hb⟩ := hrel
                have hz9 := hb.size
                by_cases hjl : j < F.length
                · have hji : (j : Int) < F.length := by omega
                  obtain ⟨gf, of, rfl, hgf, c0⟩ := (HF8.out wr hb).fd0 hjl
                  have hat := HAT.out j hjl
                  have dd := D8.out.trans (hb.mono (by omega))
                  have hwj : IntKind.i64.wrap ((j : Int) + 1) = (j : Int) + 1 := IntWalk.i64_in _ (by omega)
                  by_cases hnj : n ≤ j
                  · exact absurd hnj (by omega)
                  · have hnji : ¬ (n : Int) ≤ (j : Int) := by omega
                    rw [if_neg hnj] at hat
                    obtain ⟨hg, d1⟩ := HPA2.out j (by omega) wr dd
                    rw [← hat] at d1
                    generalize F[j].1 = X at *
                    have hpj : ¬ (bks.length : Int) ≤ (j : Int) := by omega
                    have hpj2 : (j : Int) < (bks.length : Int) := by omega
                    have hpb : decide ((bks.length : Int) ≤ (j : Int)) = false := by simp; omega
                    have hpb2 : decide (bks.length ≤ j) = false := by simp; omega
                    have hpb3 : ¬ bks.length ≤ j := by omega
                    clear hat dd hnj
                    go_wp2_with fail
                    go_quiet (fail)
                    go_wp2
                    go_roundw
                    case rel => exact ⟨j + 1, by go_num, by omega, (by repeat (first | (with_reducible exact Below.refl _ _) | (with_reducible assumption) | (with_reducible refine Below.drew ?_) | (with_reducible refine Below.alloc ?_ (by first | omega | (simp <;> omega)) _) | (with_reducible refine Below.setCell ?_ (by first | omega | (simp <;> omega)) _) | (with_reducible refine belowN ?_ _)))⟩
                    case measure => simp [intOf]; omega
                · have hji : ¬ (j : Int) < F.length := by omega
                  have hq1 : ((F.length : Int) == (bks.length : Int) - 1) = true := by simp; omega
                  have hq2 : ((NS.length : Int) == (F.length : Int)) = true := by rw [HNS.out]; simp
                  have hwb : IntKind.i64.wrap ((bks.length : Int) - 1) = (bks.length : Int) - 1 := IntWalk.i64_in _ (by omega)
                  go_wp2_with fail
                  refine (cSV _).mono ?_
                  rintro e' w9 ⟨A9, c9, rfl, o9, hb9⟩
                  have g9 := (g8.trans (hb.mono (by omega))).trans (hb9.mono (by omega))
                  clear o9
                  go_wp2
                  go_ret
                  exact ⟨ret_bool (by first | rfl | simp), g9⟩
            · rw [hmk] at cM
              clear h6 h7 hr HCH hmk
              go_wp2_with fail
              refine (cM.out _).mono ?_
              rintro e' w7 ⟨rfl, hb7⟩
              go_wp2
              go_ret
              exact ⟨ret_bool (by first | rfl | simp), GG.trans (hb7.mono (by omega))⟩
end Go.Proofs.Ytgcjfddkgbigoaa
