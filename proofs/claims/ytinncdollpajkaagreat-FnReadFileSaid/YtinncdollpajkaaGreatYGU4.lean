import Derived.Test.YtinncdollpajkaaGreatYGU1
import Derived.Test.YtinncdollpajkaaGreatYR2
import Derived.Test.YtinncdollpajkaaGreatYR1
import Derived.Test.YtinncdollpajkaaGreatYGW
import Derived.Deep.Cut
set_option linter.unusedVariables false
set_option linter.unusedSimpArgs false
set_option maxHeartbeats 8000000
namespace Go.Proofs.YtinncdollpajkaaGreat
open Go.RowKit
set_option maxRecDepth 100000
attribute [local go_sem high] zu zx zy zO zL zX zA zk zn zo zi zq yR zD yh zC
attribute [local go_sem high] qi rX
theorem Sl.fl {w : World} {A : Option Addr} {fs : List Fl} {cap : Nat} (h : Sl w A fs.length cap 2 (yf fs)) {k : Nat} (hk : k < fs.length) : ∃ g off, A = some ⟨g, off, none⟩ ∧ g < w.heap.size ∧
  w.cell? ⟨g, off + k * 2, none⟩ = some (.string ⟨fs[k].1.toArray⟩) ∧ w.cell? ⟨g, off + k * 2 + 1, none⟩ = some (.string ⟨fs[k].2.toArray⟩) := by
 obtain ⟨g, off, e, hg, hc⟩ := Sl.iM h hk
 have hcs := YO fs k hk
 exact ⟨g, off, e, hg, hc 0 _ hcs.1, hc 1 _ hcs.2⟩
theorem Sl.prev {w : World} {A : Option Addr} {fs : List Fl} {cap : Nat} (h : Sl w A fs.length cap 2 (yf fs)) {j : Nat} (hk : j + 1 < fs.length) {g off : Nat} (hA : A = some ⟨g, off, none⟩) :
  w.cell? ⟨g, off + j * 2, none⟩ = some (.string ⟨(oH fs (j + 1)).toArray⟩) := by
 obtain ⟨g', off', e, _, c, _⟩ := Sl.fl h (show j < fs.length by omega)
 rw [hA] at e
 injection e with e
 injection e with e1 e2
 subst e1 e2
 unfold oH
 rw [Nat.add_sub_cancel, List.getElem?_eq_getElem (by omega)]
 exact c
theorem dF (S : Sto) (A : Option Addr) (cap : Nat) (w : World) (hs : Sl w A S.fs.length cap 2 (yf S.fs)) (hd : S.dict.length ≤ 1500000) (hl : S.fs.length ≤ 1500000) (hb : ∀ f ∈ S.fs, f.1.length ≤ 1500000 ∧ f.2.length ≤ 1500000) :
    Calls Tryz.prog 18 #[S.V A cap] w fun e w' => e = .returned (.bool S.okB) ∧ Below w.heap.size w w' := by
  have hcap := hs.1
  have hcap2 := hs.2.1
  have HSL : Hid (∀ wr, Below w.heap.size w wr → Sl wr A S.fs.length cap 2 (yf S.fs)) := fun wr h => hs.below h
  have HB := Go.Lib.hid hb
  clear hs hb
  have cF := fun w => pI S.o S.l S.m S.dict w (by omega)
  have HNF : Hid (¬ fits S.o S.l S.m S.dict → S.okB = false) := Sto.Y5
  have HNL : Hid (¬ S.fs.length ≤ 6 → S.okB = false) := Sto.UB
  have HNB : Hid (∀ (k : Nat) (hk : k < S.fs.length), ¬ (wC S.fs[k].1 = true ∧ (cdB S.o S.l S.m S.dict S.fs[k].2).isSome = true ∧ (k = 0 ∨ Op.bytesLess (oH S.fs k) S.fs[k].1 = true)) → S.okB = false) := fun k hk h => Sto.UK (hk := hk) fun h2 => h ((Sto.jH hk).1 h2)
  have HYF : Hid (∀ (k : Nat) (hk : k < S.fs.length), (wC S.fs[k].1 = true ∧ (cdB S.o S.l S.m S.dict S.fs[k].2).isSome = true ∧ (k = 0 ∨ Op.bytesLess (oH S.fs k) S.fs[k].1 = true)) → S.fine k hk) := fun k hk h => (Sto.jH hk).2 h
  have HST : Hid (∀ (k : Nat) (hk : k < S.fs.length), (∀ (i : Nat) (h : i < S.fs.length), i < k → S.fine i h) → S.fine k hk → ∀ (i : Nat) (h : i < S.fs.length), i < k + 1 → S.fine i h) := fun k hk hA h => Sto.jY hA hk h
  have HY : Hid (fits S.o S.l S.m S.dict → S.fs.length ≤ 6 → (∀ (i : Nat) (hi : i < S.fs.length), i < S.fs.length → S.fine i hi) → S.okB = true) := fun h h2 h3 => Sto.Ua h h2 h3
  generalize S.okB = R at *
  generalize Sto.fine S = P at *
  obtain ⟨o, l, m, dict, fs⟩ := S
  simp only at *
  go_enter Tryz.func18, Tryz.ntmps18
  have hK0 : Bk (w.alloc (.cells #[.int .i64 o, .int .i64 l, .int .i64 m, .string ⟨dict.toArray⟩, .slice A fs.length cap] 27)) w.heap.size 27 #[.int .i64 o, .int .i64 l, .int .i64 m, .string ⟨dict.toArray⟩, .slice A fs.length cap] := tBk
  have g0 : Below w.heap.size w (w.alloc (.cells #[.int .i64 o, .int .i64 l, .int .i64 m, .string ⟨dict.toArray⟩, .slice A fs.length cap] 27)) := zG
  go_upto_region 1 with (fail)
  generalize w.alloc (.cells #[.int .i64 o, .int .i64 l, .int .i64 m, .string ⟨dict.toArray⟩, .slice A fs.length cap] 27) = w0 at *
  have hX0 := hK0.cell
  have hz0 := hK0.lt
  by_cases hf : fits o l m dict
  case neg =>
    rw [show decide (fits o l m dict) = false by simpa using hf] at cF
    have h := HNF.out hf
    subst h
    clear HNB HYF HST HY HNL
    go_wp2_with fail
    refine (cF _).mono ?_
    rintro e w1 ⟨rfl, hb1⟩
    have g1 := g0.trans (hb1.mono (by omega))
    clear hb1
    go_wp2
    go_ret
    exact ⟨rfl, g1⟩
  rw [show decide (fits o l m dict) = true by simpa using hf] at cF
  go_wp2_with fail
  refine (cF _).mono ?_
  rintro e w1 ⟨rfl, hb1⟩
  have hz1 := hb1.size
  have hK1 := hK0.below hb1 hz0
  have g1 := g0.trans (hb1.mono (by omega))
  have hX1 := hK1.cell
  clear hb1 hK0 g0 hX0 cF
  by_cases h6 : fs.length ≤ 6
  case neg =>
    have h := HNL.out h6
    subst h
    have h6i : (6 : Int) < fs.length := by omega
    clear HNB HYF HST HY HNF
    go_wp2
    go_ret
    exact ⟨rfl, g1⟩
  have h6i : ¬ (6 : Int) < fs.length := by omega
  have HY2 := Go.Lib.hid (HY.out hf h6)
  have cC : Hid (∀ t w, t.length ≤ 1500000 → Calls Tryz.prog 42 #[.agg #[.int .i64 o, .int .i64 l, .int .i64 m], sv dict, sv t] w fun e w' => e = yl (cdB o l m dict t) ∧ Below w.heap.size w w') := fun t w h => uD o l m dict t w (by omega) h
  clear HY HNF HNL hf
  go_wp2
  go_loopw [22] (fun i wr => ∃ k : Nat, i = .int .i64 (k : Int) ∧ k ≤ fs.length ∧ Hid (∀ (i : Nat) (h : i < fs.length), i < k → P i h) ∧ Bk wr w.heap.size 27 #[.int .i64 o, .int .i64 l, .int .i64 m, .string ⟨dict.toArray⟩, .slice A fs.length cap] ∧ Below w.heap.size w wr) (fun i _ => fs.length - (intOf i).toNat)
  case atStart => exact ⟨0, rfl, by omega, fun i h hi => by omega, hK1, g1⟩
  case round =>
    obtain ⟨k, rfl, hk, HA, hK, hb⟩ := hrel
    clear hK1 g1 hX1
    have hz := hb.size
    have hlt0 := hK.lt
    by_cases hlt : k < fs.length
    · have hki : (k : Int) < fs.length := by omega
      obtain ⟨g, off, hA, hg, c0, c1⟩ := (HSL.out wr hb).fl hlt
      have HBB := HB.out fs[k] (List.getElem_mem hlt)
      have HNB2 := Go.Lib.hid (HNB.out k hlt)
      have HYF2 : Hid (_ → ∀ (i : Nat) (h : i < fs.length), i < k + 1 → P i h) := fun h => HST.out k hlt HA.out (HYF.out k hlt h)
      have hP : k = 0 ∨ ∃ j, k = j + 1 := by
        cases k with
        | zero => exact .inl rfl
        | succ j => exact .inr ⟨j, rfl⟩
      have HPV : Hid (∀ j W, k = j + 1 → Below w.heap.size w W → W.cell? ⟨g, off + j * 2, none⟩ = some (.string ⟨(oH fs k).toArray⟩)) := fun j W e h => by subst e; exact (HSL.out W h).prev hlt hA
      generalize fs[k].1 = nm at *
      generalize fs[k].2 = tx at *
      generalize oH fs k = pv at *
      subst hA
      obtain ⟨hb1, hb2⟩ := HBB
      have hK2 := hK.alloc (.cells #[.string ⟨nm.toArray⟩, .string ⟨tx.toArray⟩] 40)
      have hN2 := Bk.new wr #[.string ⟨nm.toArray⟩, .string ⟨tx.toArray⟩] 40
      have g2 := hb.alloc hz (.cells #[.string ⟨nm.toArray⟩, .string ⟨tx.toArray⟩] 40)
      clear hK
      go_upto_region 6 with (fail)
      generalize wr.alloc (.cells #[.string ⟨nm.toArray⟩, .string ⟨tx.toArray⟩] 40) = W at *
      have hX := hK2.cell
      have hY := hN2.cell
      have hlN := hN2.lt
      have hG := zK hX hK2.lt
      have hG2 := zK hY hlN
      clear c0 c1 hb
      have cN : ∀ w, Calls Tryz.prog 51 #[.string ⟨nm.toArray⟩] w fun e w' => e = .returned (.bool (wC nm)) ∧ Below w.heap.size w w' := fun w => (aV nm w (by omega)).mono fun e w' h => ⟨h.1, h.2 ▸ Below.refl _ _⟩
      have cD := cC.out tx
      by_cases h1 : wC nm = true
      case neg =>
        have h := HNB2.out (fun h => h1 h.1)
        subst h
        rw [show wC nm = false by simpa using h1] at cN
        clear HNB2 HYF2
        refine wp_region_quiet_below (by kernel_rfl) (by kernel_rfl) ?_
        repeat (go_big_quiet_step ((go_at_call 51; exact Calls.regrown_of (cN _))))
        refine wpQuiet_nil ?_
        intro w3 hw2
        have hb3 : Below _ _ w3 := zh hw2
        clear hw2
        have g3 := g2.trans (hb3.mono (by have := g2.size; omega))
        go_wp2
        go_ret
        exact ⟨rfl, g3⟩
      rw [h1] at cN
      by_cases h2 : k = 0 ∨ Op.bytesLess pv nm = true
      case neg =>
        have h := HNB2.out (fun h => h2 h.2.2)
        subst h
        obtain ⟨hk0, hlp⟩ := not_or.1 h2
        have hlp2 : Op.bytesLess pv nm = false := by simpa using hlp
        obtain ⟨j, rfl⟩ := hP.resolve_left hk0
        have cp := HPV.out j W rfl g2
        have CP := fun d os => cell_regrown cp d os
        have hkp : (0 : Int) < ((j + 1 : Nat) : Int) := by omega
        have hkp2 : (0 : Int) < (j : Int) + 1 := by omega
        have hji : (j : Int) < fs.length := by omega
        clear HNB2 HYF2 h2 hlp
        refine wp_region_quiet_below (by kernel_rfl) (by kernel_rfl) ?_
        repeat (go_big_quiet_step ((go_at_call 51; exact Calls.regrown_of (cN _))))
        refine wpQuiet_nil ?_
        intro w3 hw2
        have hb3 : Below _ _ w3 := zh hw2
        clear hw2
        have g3 := g2.trans (hb3.mono (by have := g2.size; omega))
        go_wp2
        go_ret
        exact ⟨rfl, g3⟩
      rcases hP with rfl | ⟨j, rfl⟩
      · clear HPV
        refine wp_region_quiet_below (by kernel_rfl) (by kernel_rfl) ?_
        repeat (go_big_quiet_step ((go_at_call 51; exact Calls.regrown_of (cN _))))
        refine wpQuiet_nil ?_
        intro w3 hw2
        have hb3 : Below _ _ w3 := zh hw2
        clear hw2
        have z3 := hb3.size
        have hK3 := hK2.below hb3 (by omega)
        have hN3 := hN2.below hb3 hlN
        have g3 := g2.trans (hb3.mono (by have := g2.size; omega))
        have hX3 := hK3.cell
        have hY3 := hN3.cell
        clear hb3 hK2 hN2 g2 hX hY hG hG2 cN
        go_wp2_with fail
        refine (cD _ (by omega)).mono ?_
        rintro e w4 ⟨rfl, hb4⟩
        have hK4 := hK3.below hb4 (by omega)
        have g4 := g3.trans (hb4.mono (by have := g3.size; omega))
        clear hb4 hK3 hN3 g3 hX3 hY3 cD
        unfold yl
        cases hcd : cdB o l m dict tx with
        | none =>
          have h := HNB2.out (fun h => by have := h.2.1; rw [hcd] at this; cases this)
          subst h
          clear HNB2 HYF2
          go_wp2
          go_ret
          exact ⟨rfl, g4⟩
        | some d =>
          have HA2 := Go.Lib.hid (HYF2.out ⟨h1, by rw [hcd]; rfl, h2⟩)
          clear HNB2 HYF2 hcd
          go_wp2
          go_roundw
          case rel => exact ⟨_, (by go_num), by omega, HA2, hK4, g4⟩
          case measure => simp [intOf]; omega
      · have hlp2 : Op.bytesLess pv nm = true := h2.resolve_left (by omega)
        have cp := HPV.out j W rfl g2
        have CP := fun d os => cell_regrown cp d os
        have hkp : (0 : Int) < ((j + 1 : Nat) : Int) := by omega
        have hkp2 : (0 : Int) < (j : Int) + 1 := by omega
        have hji : (j : Int) < fs.length := by omega
        refine wp_region_quiet_below (by kernel_rfl) (by kernel_rfl) ?_
        repeat (go_big_quiet_step ((go_at_call 51; exact Calls.regrown_of (cN _))))
        refine wpQuiet_nil ?_
        intro w3 hw2
        have hb3 : Below _ _ w3 := zh hw2
        clear hw2
        clear cp CP HPV
        have z3 := hb3.size
        have hK3 := hK2.below hb3 (by omega)
        have hN3 := hN2.below hb3 hlN
        have g3 := g2.trans (hb3.mono (by have := g2.size; omega))
        have hX3 := hK3.cell
        have hY3 := hN3.cell
        clear hb3 hK2 hN2 g2 hX hY hG hG2 cN
        go_wp2_with fail
        refine (cD _ (by omega)).mono ?_
        rintro e w4 ⟨rfl, hb4⟩
        have hK4 := hK3.below hb4 (by omega)
        have g4 := g3.trans (hb4.mono (by have := g3.size; omega))
        clear hb4 hK3 hN3 g3 hX3 hY3 cD
        unfold yl
        cases hcd : cdB o l m dict tx with
        | none =>
          have h := HNB2.out (fun h => by have := h.2.1; rw [hcd] at this; cases this)
          subst h
          clear HNB2 HYF2
          go_wp2
          go_ret
          exact ⟨rfl, g4⟩
        | some d =>
          have HA2 := Go.Lib.hid (HYF2.out ⟨h1, by rw [hcd]; rfl, h2⟩)
          clear HNB2 HYF2 hcd
          go_wp2
          go_roundw
          case rel => exact ⟨_, (by go_num), by omega, HA2, hK4, g4⟩
          case measure => simp [intOf]; omega
    · have hki : ¬ (k : Int) < fs.length := by omega
      have h := HY2.out (fun i h _ => HA.out i h (by omega))
      subst h
      go_wp2
      go_ret
      exact ⟨rfl, hb⟩
theorem oI (S : Sto) (A : Option Addr) (cap : Nat) (w : World) (hs : Sl w A S.fs.length cap 2 (yf S.fs)) (hd : S.dict.length ≤ 1500000) (hl : S.fs.length ≤ 1500000) (hb : ∀ f ∈ S.fs, f.1.length ≤ 1500000 ∧ f.2.length ≤ 1500000) :
    Calls Tryz.prog 46 #[S.V A cap] w fun e w' => e = .returned (.bool S.okB) ∧ Below w.heap.size w w' := by
  have hcap := hs.1
  have hcap2 := hs.2.1
  have HSL : Hid (∀ wr, Below w.heap.size w wr → Sl wr A S.fs.length cap 2 (yf S.fs)) := fun wr h => hs.below h
  have HB := Go.Lib.hid hb
  clear hs hb
  have cF := fun w => tV S.o S.l S.m S.dict w (by omega)
  have HNF : Hid (¬ fits S.o S.l S.m S.dict → S.okB = false) := Sto.Y5
  have HNL : Hid (¬ S.fs.length ≤ 6 → S.okB = false) := Sto.UB
  have HNB : Hid (∀ (k : Nat) (hk : k < S.fs.length), ¬ (wC S.fs[k].1 = true ∧ (cdB S.o S.l S.m S.dict S.fs[k].2).isSome = true ∧ (k = 0 ∨ Op.bytesLess (oH S.fs k) S.fs[k].1 = true)) → S.okB = false) := fun k hk h => Sto.UK (hk := hk) fun h2 => h ((Sto.jH hk).1 h2)
  have HYF : Hid (∀ (k : Nat) (hk : k < S.fs.length), (wC S.fs[k].1 = true ∧ (cdB S.o S.l S.m S.dict S.fs[k].2).isSome = true ∧ (k = 0 ∨ Op.bytesLess (oH S.fs k) S.fs[k].1 = true)) → S.fine k hk) := fun k hk h => (Sto.jH hk).2 h
  have HST : Hid (∀ (k : Nat) (hk : k < S.fs.length), (∀ (i : Nat) (h : i < S.fs.length), i < k → S.fine i h) → S.fine k hk → ∀ (i : Nat) (h : i < S.fs.length), i < k + 1 → S.fine i h) := fun k hk hA h => Sto.jY hA hk h
  have HY : Hid (fits S.o S.l S.m S.dict → S.fs.length ≤ 6 → (∀ (i : Nat) (hi : i < S.fs.length), i < S.fs.length → S.fine i hi) → S.okB = true) := fun h h2 h3 => Sto.Ua h h2 h3
  generalize S.okB = R at *
  generalize Sto.fine S = P at *
  obtain ⟨o, l, m, dict, fs⟩ := S
  simp only at *
  go_enter Tryz.func46, Tryz.ntmps46
  have hK0 : Bk (w.alloc (.cells #[.int .i64 o, .int .i64 l, .int .i64 m, .string ⟨dict.toArray⟩, .slice A fs.length cap] 27)) w.heap.size 27 #[.int .i64 o, .int .i64 l, .int .i64 m, .string ⟨dict.toArray⟩, .slice A fs.length cap] := tBk
  have g0 : Below w.heap.size w (w.alloc (.cells #[.int .i64 o, .int .i64 l, .int .i64 m, .string ⟨dict.toArray⟩, .slice A fs.length cap] 27)) := zG
  go_upto_region 1 with (fail)
  generalize w.alloc (.cells #[.int .i64 o, .int .i64 l, .int .i64 m, .string ⟨dict.toArray⟩, .slice A fs.length cap] 27) = w0 at *
  have hX0 := hK0.cell
  have hz0 := hK0.lt
  by_cases hf : fits o l m dict
  case neg =>
    rw [show decide (fits o l m dict) = false by simpa using hf] at cF
    have h := HNF.out hf
    subst h
    clear HNB HYF HST HY HNL
    go_wp2_with fail
    refine (cF _).mono ?_
    rintro e w1 ⟨rfl, hb1⟩
    have g1 := g0.trans (hb1.mono (by omega))
    clear hb1
    go_wp2
    go_ret
    exact ⟨rfl, g1⟩
  rw [show decide (fits o l m dict) = true by simpa using hf] at cF
  go_wp2_with fail
  refine (cF _).mono ?_
  rintro e w1 ⟨rfl, hb1⟩
  have hz1 := hb1.size
  have hK1 := hK0.below hb1 hz0
  have g1 := g0.trans (hb1.mono (by omega))
  have hX1 := hK1.cell
  clear hb1 hK0 g0 hX0 cF
  by_cases h6 : fs.length ≤ 6
  case neg =>
    have h := HNL.out h6
    subst h
    have h6i : (6 : Int) < fs.length := by omega
    clear HNB HYF HST HY HNF
    go_wp2
    go_ret
    exact ⟨rfl, g1⟩
  have h6i : ¬ (6 : Int) < fs.length := by omega
  have HY2 := Go.Lib.hid (HY.out hf h6)
  have cC : Hid (∀ t w, t.length ≤ 1500000 → Calls Tryz.prog 47 #[.agg #[.int .i64 o, .int .i64 l, .int .i64 m], sv dict, sv t] w fun e w' => e = yl (cdB o l m dict t) ∧ Below w.heap.size w w') := fun t w h => uj o l m dict t w (by omega) h
  clear HY HNF HNL hf
  go_wp2
  go_loopw [3] (fun i wr => ∃ k : Nat, i = .int .i64 (k : Int) ∧ k ≤ fs.length ∧ Hid (∀ (i : Nat) (h : i < fs.length), i < k → P i h) ∧ Bk wr w.heap.size 27 #[.int .i64 o, .int .i64 l, .int .i64 m, .string ⟨dict.toArray⟩, .slice A fs.length cap] ∧ Below w.heap.size w wr) (fun i _ => fs.length - (intOf i).toNat)
  case atStart => exact ⟨0, rfl, by omega, fun i h hi => by omega, hK1, g1⟩
  case round =>
    obtain ⟨k, rfl, hk, HA, hK, hb⟩ := hrel
    clear hK1 g1 hX1
    have hz := hb.size
    have hlt0 := hK.lt
    have hXl := hK.cell
    by_cases hlt : k < fs.length
    · have hki : (k : Int) < fs.length := by omega
      obtain ⟨g, off, hA, hg, c0, c1⟩ := (HSL.out wr hb).fl hlt
      have HBB := HB.out fs[k] (List.getElem_mem hlt)
      have HNB2 := Go.Lib.hid (HNB.out k hlt)
      have HYF2 : Hid (_ → ∀ (i : Nat) (h : i < fs.length), i < k + 1 → P i h) := fun h => HST.out k hlt HA.out (HYF.out k hlt h)
      have hP : k = 0 ∨ ∃ j, k = j + 1 := by
        cases k with
        | zero => exact .inl rfl
        | succ j => exact .inr ⟨j, rfl⟩
      have HPV : Hid (∀ j W, k = j + 1 → Below w.heap.size w W → W.cell? ⟨g, off + j * 2, none⟩ = some (.string ⟨(oH fs k).toArray⟩)) := fun j W e h => by subst e; exact (HSL.out W h).prev hlt hA
      have HEL : Hid (∀ W, Below w.heap.size w W → W.cell? ⟨g, off + k * 2, none⟩ = some (.string ⟨fs[k].1.toArray⟩)) := fun W h => by
        obtain ⟨g', off', e, _, c, _⟩ := (HSL.out W h).fl hlt
        rw [hA] at e; injection e with e; injection e with e1 e2; subst e1 e2; exact c
      generalize fs[k].1 = nm at *
      generalize fs[k].2 = tx at *
      generalize oH fs k = pv at *
      subst hA
      obtain ⟨hb1, hb2⟩ := HBB
      have hX := hK.cell
      have hG := zK hX hlt0
      have C1 := fun d os => cell_regrown c1 d os
      have cD := fun w => cC.out tx w (by omega)
      go_wp2_with fail
      refine wp_region_quiet_below (by kernel_rfl) (by kernel_rfl) ?_
      repeat (go_big_quiet_step ((go_at_call 47; exact Calls.regrown_of (cD _))))
      refine wpQuiet_nil ?_
      intro w3 hw2
      have hb3 : Below _ _ w3 := zh hw2
      clear hw2
      have z3 := hb3.size
      have hK3 := hK.below hb3 hlt0
      have g3 := hb.trans (hb3.mono hz)
      have c3 := HEL.out w3 g3
      have hX3 := hK3.cell
      have hG3 := zK hX3 hK3.lt
      have C3 := fun d os => cell_regrown c3 d os
      clear hb3 hK hb hX hG c0 c1 C1 cD
      have cN : ∀ w, Calls Tryz.prog 81 #[.string ⟨nm.toArray⟩] w fun e w' => e = .returned (.bool (wC nm)) ∧ Below w.heap.size w w' := fun w => (bQ nm w (by omega)).mono fun e w' h => ⟨h.1, h.2 ▸ Below.refl _ _⟩
      cases hcd : cdB o l m dict tx with
      | none =>
        have h := HNB2.out (fun h => by have := h.2.1; rw [hcd] at this; cases this)
        subst h
        clear HNB2 HYF2 hcd
        go_wp2_with fail
        refine wp_region_quiet_below (by kernel_rfl) (by kernel_rfl) ?_
        repeat (go_big_quiet_step ((fail)))
        refine wpQuiet_nil ?_
        intro w4 hw2
        have hb4 : Below _ _ w4 := zh hw2
        clear hw2
        have g4 := g3.trans (hb4.mono (by have := g3.size; omega))
        go_wp2
        go_ret
        exact ⟨rfl, g4⟩
      | some d =>
        have hcd2 : (cdB o l m dict tx).isSome = true := by rw [hcd]; rfl
        clear hcd
        by_cases h1 : wC nm = true
        case neg =>
          have h := HNB2.out (fun h => h1 h.1)
          subst h
          rw [show wC nm = false by simpa using h1] at cN
          clear HNB2 HYF2
          go_wp2_with fail
          refine wp_region_quiet_below (by kernel_rfl) (by kernel_rfl) ?_
          repeat (go_big_quiet_step ((go_at_call 81; exact Calls.regrown_of (cN _))))
          refine wpQuiet_nil ?_
          intro w4 hw2
          have hb4 : Below _ _ w4 := zh hw2
          clear hw2
          have g4 := g3.trans (hb4.mono (by have := g3.size; omega))
          go_wp2
          go_ret
          exact ⟨rfl, g4⟩
        rw [h1] at cN
        by_cases h2 : k = 0 ∨ Op.bytesLess pv nm = true
        case neg =>
          have h := HNB2.out (fun h => h2 h.2.2)
          subst h
          obtain ⟨hk0, hlp⟩ := not_or.1 h2
          have hlp2 : Op.bytesLess pv nm = false := by simpa using hlp
          obtain ⟨j, rfl⟩ := hP.resolve_left hk0
          have cp := HPV.out j w3 rfl g3
          have CP := fun d os => cell_regrown cp d os
          have hkp : (0 : Int) < ((j + 1 : Nat) : Int) := by omega
          have hkp2 : (0 : Int) < (j : Int) + 1 := by omega
          have hji : (j : Int) < fs.length := by omega
          clear HNB2 HYF2 h2 hlp
          go_wp2_with fail
          refine wp_region_quiet_below (by kernel_rfl) (by kernel_rfl) ?_
          repeat (go_big_quiet_step ((go_at_call 81; exact Calls.regrown_of (cN _))))
          refine wpQuiet_nil ?_
          intro w4 hw2
          have hb4 : Below _ _ w4 := zh hw2
          clear hw2
          have g4 := g3.trans (hb4.mono (by have := g3.size; omega))
          go_wp2
          go_ret
          exact ⟨rfl, g4⟩
        have HA2 := Go.Lib.hid (HYF2.out ⟨h1, hcd2, h2⟩)
        clear HNB2 HYF2
        rcases hP with rfl | ⟨j, rfl⟩
        · clear HPV
          simp only [Nat.zero_mul, Nat.add_zero] at c3 C3
          go_wp2_with fail
          refine wp_region_quiet_below (by kernel_rfl) (by kernel_rfl) ?_
          repeat (go_big_quiet_step ((go_at_call 81; exact Calls.regrown_of (cN _))))
          refine wpQuiet_nil ?_
          intro w4 hw2
          have hb4 : Below _ _ w4 := zh hw2
          clear hw2
          have hK4 := hK3.below hb4 hK3.lt
          have g4 := g3.trans (hb4.mono (by have := g3.size; omega))
          go_wp2
          go_roundw
          case rel => exact ⟨_, (by go_num), by omega, HA2, hK4, g4⟩
          case measure => simp [intOf]; omega
        · have hlp2 : Op.bytesLess pv nm = true := h2.resolve_left (by omega)
          have cp := HPV.out j w3 rfl g3
          have CP := fun d os => cell_regrown cp d os
          have hkp : (0 : Int) < ((j + 1 : Nat) : Int) := by omega
          have hkp2 : (0 : Int) < (j : Int) + 1 := by omega
          have hji : (j : Int) < fs.length := by omega
          go_wp2_with fail
          refine wp_region_quiet_below (by kernel_rfl) (by kernel_rfl) ?_
          repeat (go_big_quiet_step ((go_at_call 81; exact Calls.regrown_of (cN _))))
          refine wpQuiet_nil ?_
          intro w4 hw2
          have hb4 : Below _ _ w4 := zh hw2
          clear hw2
          clear cp CP HPV
          have hK4 := hK3.below hb4 hK3.lt
          have g4 := g3.trans (hb4.mono (by have := g3.size; omega))
          go_wp2
          go_roundw
          case rel => exact ⟨_, (by go_num), by omega, HA2, hK4, g4⟩
          case measure => simp [intOf]; omega
    · have hki : ¬ (k : Int) < fs.length := by omega
      have h := HY2.out (fun i h _ => HA.out i h (by omega))
      subst h
      go_wp2
      go_ret
      exact ⟨rfl, hb⟩
end Go.Proofs.YtinncdollpajkaaGreat
namespace Go.Proofs.YtinncdollpajkaaGreat
open Go.RowKit
set_option maxRecDepth 100000
attribute [local go_sem high] zu zx zy zO zL zX zA zk zn zo zi zq yR zD yh zC
def Sto.small (S : Sto) (n : Nat) : Prop := S.dict.length ≤ n ∧ S.fs.length ≤ n ∧ ∀ f ∈ S.fs, f.1.length ≤ n ∧ f.2.length ≤ n
theorem iE : (Tryz.prog.info? 40).map (fun i => (i.zero, i.size, i.bytes)) = some (some (.agg #[.string ⟨#[]⟩, .string ⟨#[]⟩]), 2, 32) := by kernel_rfl
end Go.Proofs.YtinncdollpajkaaGreat
