import Derived.Test.YtinncdollpajkaaGreatVGU1
import Derived.Test.YtinncdollpajkaaGreatVGJ4
import Derived.Test.YtinncdollpajkaaGreatVGP4
import Derived.Test.YtinncdollpajkaaGreatVGP1
import Derived.Test.YtinncdollpajkaaGreatVR1
import Derived.Test.YtinncdollpajkaaGreatVGW
import Derived.Deep.Cut
set_option linter.unusedVariables false
set_option linter.unusedSimpArgs false
set_option maxHeartbeats 8000000
namespace Go.Proofs.YtinncdollpajkaaGreat
open Go.RowKit
set_option maxRecDepth 100000
attribute [local go_sem high] zA zu zy zO zK zX zx zk zn zq zi zo yQ zC yf zD
theorem eP (K : Kn) (Ak : Option Addr) (ck : Nat) (bs : List Blk) (A : Option Addr) (cap : Nat) (w : World) (hk : K.ok) (hks : Sl w Ak K.ps.length ck 2 (psV K.ps)) (hs : Sl w A bs.length cap 4 (yD bs)) (hok : ∀ b ∈ bs, b.ok = true) (hl : bs.length ≤ 100000) :
    Calls Tryz.prog 76 #[knV K Ak ck, .slice A bs.length cap] w fun e w' => e = yZ (yl K bs) ∧ Below w.heap.size w w' := by
  have cL : Hid (∀ b w, b.ok = true → Sl w Ak K.ps.length ck 2 (psV K.ps) → Calls Tryz.prog 108 #[knV K Ak ck, bkV b] w fun e w' => e = yZ (b.dat K) ∧ Below w.heap.size w w') := fun b w h hs => Zm K Ak ck b w hk hs (by have := mO h; omega)
  clear hk
  have hcap := hs.1
  have hcap2 := hs.2.1
  have HOK := Go.Lib.hid hok
  clear hok
  have HSL : Hid (∀ wr, Below w.heap.size w wr → Sl wr A bs.length cap 4 (yD bs) ∧ Sl wr Ak K.ps.length ck 2 (psV K.ps)) := fun wr h => ⟨hs.below h, hks.below h⟩
  clear hs hks
  obtain ⟨R, hR⟩ : ∃ R, yl K bs = R := ⟨_, rfl⟩
  rw [hR]
  have HR := Go.Lib.hid hR
  clear hR
  go_enter Tryz.func76, Tryz.ntmps76
  have hK0 : Bk (w.alloc (.cells (knC K Ak ck) 102)) w.heap.size 102 (knC K Ak ck) := tBk
  have g0 : Below w.heap.size w (w.alloc (.cells (knC K Ak ck) 102)) := zH
  go_upto_region 1 with (fail)
  generalize w.alloc (.cells (knC K Ak ck) 102) = w0 at *
  have hz0 := hK0.lt
  have B0 := QO (w := w0) (B := w0.heap.size) (Nat.le_refl _)
  have b0 : Below w0.heap.size w0 (w0.alloc (.cells #[.pointer none, .slice none 0 0] 108)) := zH
  have HKB : Hid (∀ wr, Below w0.heap.size w0 wr → Bk wr w.heap.size 102 (knC K Ak ck) ∧ Below w.heap.size w wr) := fun wr h => ⟨hK0.below h hz0, g0.trans (h.mono (by omega))⟩
  clear hK0 g0
  have hsz : w0.heap.size ≤ (w0.alloc (.cells #[.pointer none, .slice none 0 0] 108)).heap.size := by simp
  obtain ⟨bb, hbb⟩ : ∃ bb, w0.heap.size = bb := ⟨_, rfl⟩
  rw [hbb] at B0 b0 HKB hz0 hsz
  go_wp2
  go_loopw [13] (fun i wr => ∃ (k : Nat) (X : Bs), i = .int .i64 (k : Int) ∧ k ≤ bs.length ∧ X.length ≤ 64 * k ∧ Hid (yl K (bs.take k) = some X) ∧ Go.Lib.IsBuilderF 108 5 bb bb (X.map u8v) wr ∧ Below bb w0 wr) (fun i _ => bs.length - (intOf i).toNat)
  case atStart => exact ⟨0, [], rfl, by omega, by simp, rfl, B0, b0⟩
  case round =>
    obtain ⟨k, X, rfl, hk, hX, HX, hB, hb⟩ := hrel
    clear B0 b0 hsz
    have hz := hb.size
    rw [hbb] at hz
    obtain ⟨hBk, hbw⟩ := HKB.out wr hb
    by_cases hlt : k < bs.length
    · have hki : (k : Int) < bs.length := by omega
      obtain ⟨hsA, hsK⟩ := HSL.out wr hbw
      obtain ⟨g, off, rfl, hg, hc⟩ := Sl.gI hsA hlt
      have hcs := pV bs k hlt
      have c0 := hc 0 _ hcs.1
      have c1 := hc 1 _ hcs.2.1
      have c2 := hc 2 _ hcs.2.2.1
      have c3 := hc 3 _ hcs.2.2.2
      have hbo := HOK.out bs[k] (List.getElem_mem hlt)
      have cD := fun w => cL.out bs[k] w hbo
      have HN : Hid (bs[k].dat K = none → R = none) := fun h => by rw [← HR.out]; exact kH hlt h
      have HS : Hid (∀ d, bs[k].dat K = some d → yl K (bs.take (k + 1)) = some (X ++ d)) := fun d h => kU hlt HX.out h
      have HL : Hid (∀ d, bs[k].dat K = some d → d.length ≤ 64) := fun d h => by have := tC hbo h; have := Blk.vk hbo; omega
      generalize bs[k].dat K = D at *
      generalize bs[k] = b at *
      obtain ⟨n2, r, n4, T⟩ := b
      simp only [Nat.add_zero] at c0 c1 c2 c3
      have hB1 := ZW hB ((Below.refl _ wr).alloc (Nat.le_refl _) (.cells (bkC ⟨n2, r, n4, T⟩) 138))
      have hK1 := hBk.alloc (.cells (bkC ⟨n2, r, n4, T⟩) 138)
      have hN1 := Bk.new wr (bkC ⟨n2, r, n4, T⟩) 138
      have hs1 := hsK.alloc (.cells (bkC ⟨n2, r, n4, T⟩) 138)
      have g1 := hb.alloc hz (.cells (bkC ⟨n2, r, n4, T⟩) 138)
      clear hc hcs HX hbo hsA hsK hB hBk
      go_upto_region 5 with (fail)
      generalize wr.alloc (.cells _ 138) = W at *
      have hX1 := hK1.cell
      have hY1 := hN1.cell
      have hlN := hN1.lt
      clear c0 c1 c2 c3
      go_wp2_with fail
      refine (cD _ hs1).mono ?_
      rintro e w2 ⟨rfl, hb2⟩
      have z2 := hb2.size
      have hB2 := ZW hB1 hb2
      have g2 := g1.trans (hb2.mono (by omega))
      clear cD hb2 hB1 hK1 hN1 hs1 g1 hX1 hY1
      cases D with
      | none =>
        have h := HN.out rfl
        subst h
        have gw := (HKB.out _ g2).2
        unfold yZ
        go_wp2
        exact bodyPost_ret (v := .tuple #[sv [], .bool false]) (by simp [results, Tryz.results76, go_sem]) rfl ⟨rfl, gw⟩
      | some d =>
        have HX2 := Go.Lib.hid (HS.out d rfl)
        have hdl := HL.out d rfl
        have cW := TU bb bb (X.map u8v) d _ hB2 (by simp; omega) (by omega)
        have hxl : (X ++ d).length ≤ 64 * (k + 1) := by simp; omega
        have HXL := Go.Lib.hid hxl
        clear hxl HS HN HL
        unfold yZ
        go_wp2_with fail
        refine cW.mono ?_
        rintro e w3 ⟨rfl, hB3, b3, k3⟩
        have g3 := g2.trans b3
        have hB4 : Go.Lib.IsBuilderF 108 5 bb bb ((X ++ d).map u8v) w3 := by rw [List.map_append]; exact .inr hB3
        have HB4 := Go.Lib.hid hB4
        clear cW hB3 b3 k3 hB2 hB4
        go_wp2
        go_roundw
        case rel => exact ⟨k + 1, X ++ d, by go_num, by omega, HXL.out, HX2, HB4.out, g3⟩
        case measure => simp [intOf]; omega
    · have hki : ¬ (k : Int) < bs.length := by omega
      have h : R = some X := by rw [← HR.out, ← HX.out, List.take_of_length_le (by omega)]
      subst h
      have cS := Tryz.Builder_String_any_k bb bb X wr (by unfold Go.Lib.byteCells; exact hB) hz
      go_wp2_with fail
      refine cS.mono ?_
      rintro e w3 ⟨rfl, _, b3, _⟩
      have gw := (HKB.out _ (hb.trans b3)).2
      clear cS b3 hb hB
      go_wp2
      exact bodyPost_ret (v := .tuple #[sv X, .bool true]) (by simp [results, Tryz.results76, go_sem]) rfl ⟨rfl, gw⟩
theorem uC (o l m : Int) (dict t : Bs) (w : World) (hdl : dict.length ≤ 9223372036854775807) (htl : t.length ≤ 1500000) :
    Calls Tryz.prog 42 #[.agg #[.int .i64 o, .int .i64 l, .int .i64 m], sv dict, sv t] w fun e w' => e = yZ (cdB o l m dict t) ∧ Below w.heap.size w w' := by
  by_cases hf : fits o l m dict
  · have cS := fun w => az o l m dict w hf
    have cB := fun w => mV t w htl
    have hk := x9 hf
    have HNB : Hid (zT t = none → cdB o l m dict t = none) := fun h => Xr h
    have HY : Hid (∀ bs, zT t = some bs → cdB o l m dict t = yl (zI o l m dict) bs) := fun bs h2 => uK hf h2
    have HOK : Hid (∀ bs, zT t = some bs → (∀ b ∈ bs, b.ok = true) ∧ bs.length ≤ 40) := fun bs h => ⟨xQ h, (wE h).2⟩
    clear hf
    unfold jI at cS
    generalize cdB o l m dict t = R at *
    generalize zT t = BB at *
    generalize zI o l m dict = K at *
    go_enter Tryz.func42, Tryz.ntmps42
    have hK0 : Bk (w.alloc (.cells #[.int .i64 o, .int .i64 l, .int .i64 m] 24)) w.heap.size 24 #[.int .i64 o, .int .i64 l, .int .i64 m] := tBk
    have g0 : Below w.heap.size w (w.alloc (.cells #[.int .i64 o, .int .i64 l, .int .i64 m] 24)) := zH
    go_upto_region 1 with (fail)
    generalize w.alloc (.cells #[.int .i64 o, .int .i64 l, .int .i64 m] 24) = w0 at *
    have hX0 := hK0.cell
    have hz0 := hK0.lt
    go_wp2_with fail
    refine (cS _).mono ?_
    rintro e w1 ⟨A1, c1, rfl, o1, hb1⟩
    have hz1 := hb1.size
    have g1 := g0.trans (hb1.mono (by omega))
    have hB2 := Bk.new w1 (knC K A1 c1) 102
    have o2 := o1.alloc (.cells (knC K A1 c1) 102)
    have g2 := g1.alloc (by omega) (.cells (knC K A1 c1) 102)
    clear hb1 hX0 hK0 g0 o1 g1
    go_upto_region 2 with (fail)
    unfold knC at hB2 o2 g2
    generalize w1.alloc (.cells #[.int .i64 K.o, .int .i64 K.l, .int .i64 K.m, .slice A1 K.ps.length c1, .int .i64 K.base, .int .i64 K.last] 102) = W at *
    have hl2 := hB2.lt
    go_wp2_with fail
    refine (cB _).mono ?_
    rintro e w3 ⟨A3, c3, rfl, o3, hb3⟩
    have hz3 := hb3.size
    have hB3 := hB2.below hb3 hl2
    have g3 := g2.trans (hb3.mono (by have := g2.size; omega))
    have k3 := Sl.own (zf o2 hb3)
    have s3 := YA o3
    have hX3 := hB3.cell
    clear hb3 o3 o2 g2 hB2 cB
    cases BB with
    | none =>
      have h := HNB.out rfl
      subst h
      go_wp2
      exact bodyPost_ret (v := .tuple #[sv [], .bool false]) (by simp [results, Tryz.results42, go_sem]) rfl ⟨rfl, g3⟩
    | some bs =>
      simp only [Option.getD_some, Option.isSome_some] at s3 ⊢
      have hE := HY.out bs rfl
      obtain ⟨h1, h2⟩ := HOK.out bs rfl
      have cA := eP K A1 c1 bs A3 c3 w3 hk k3 s3 h1 (by omega)
      rw [← hE] at cA
      clear HNB HY HOK h1 hk hE
      go_wp2_with fail
      refine cA.mono ?_
      rintro e w4 ⟨rfl, hb4⟩
      have g4 := g3.trans (hb4.mono (by have := g3.size; omega))
      unfold yZ
      go_wp2
      exact bodyPost_ret (v := .tuple #[sv (R.getD []), .bool R.isSome]) (by simp [results, Tryz.results42, go_sem]) rfl ⟨rfl, g4⟩
  · have cS := fun w => Zj o l m dict w hf hdl
    rw [RZ hf]
    clear hf
    go_enter Tryz.func42, Tryz.ntmps42
    have hK0 : Bk (w.alloc (.cells #[.int .i64 o, .int .i64 l, .int .i64 m] 24)) w.heap.size 24 #[.int .i64 o, .int .i64 l, .int .i64 m] := tBk
    have g0 : Below w.heap.size w (w.alloc (.cells #[.int .i64 o, .int .i64 l, .int .i64 m] 24)) := zH
    go_upto_region 1 with (fail)
    generalize w.alloc (.cells #[.int .i64 o, .int .i64 l, .int .i64 m] 24) = w0 at *
    have hX0 := hK0.cell
    have hz0 := hK0.lt
    go_wp2_with fail
    refine (cS _).mono ?_
    rintro e w1 ⟨rfl, hb1⟩
    have g1 := g0.trans (hb1.mono (by omega))
    have hz1 := g1.size
    go_wp2
    exact bodyPost_ret (v := .tuple #[sv [], .bool false]) (by simp [results, Tryz.results42, go_sem]) rfl ⟨rfl, zH⟩
end Go.Proofs.YtinncdollpajkaaGreat
namespace Go.Proofs.YtinncdollpajkaaGreat
open Go.RowKit
set_option maxRecDepth 100000
attribute [local go_sem high] zA zu zy zO zK zX zx zk zn zq zi zo yQ zC yf zD
attribute [local go_sem high] qx qB
theorem Sl.fl {w : World} {A : Option Addr} {fs : List Fl} {cap : Nat} (h : Sl w A fs.length cap 2 (yj fs)) {k : Nat} (hk : k < fs.length) : ∃ g off, A = some ⟨g, off, none⟩ ∧ g < w.heap.size ∧
  w.cell? ⟨g, off + k * 2, none⟩ = some (.string ⟨fs[k].1.toArray⟩) ∧ w.cell? ⟨g, off + k * 2 + 1, none⟩ = some (.string ⟨fs[k].2.toArray⟩) := by
 obtain ⟨g, off, e, hg, hc⟩ := Sl.gI h hk
 have hcs := UC fs k hk
 exact ⟨g, off, e, hg, hc 0 _ hcs.1, hc 1 _ hcs.2⟩
theorem Sl.prev {w : World} {A : Option Addr} {fs : List Fl} {cap : Nat} (h : Sl w A fs.length cap 2 (yj fs)) {j : Nat} (hk : j + 1 < fs.length) {g off : Nat} (hA : A = some ⟨g, off, none⟩) :
  w.cell? ⟨g, off + j * 2, none⟩ = some (.string ⟨(oL fs (j + 1)).toArray⟩) := by
 obtain ⟨g', off', e, _, c, _⟩ := Sl.fl h (show j < fs.length by omega)
 rw [hA] at e
 injection e with e
 injection e with e1 e2
 subst e1 e2
 unfold oL
 rw [Nat.add_sub_cancel, List.getElem?_eq_getElem (by omega)]
 exact c
theorem uD (S : Sto) (A : Option Addr) (cap : Nat) (w : World) (hs : Sl w A S.fs.length cap 2 (yj S.fs)) (hd : S.dict.length ≤ 1500000) (hl : S.fs.length ≤ 1500000) (hb : ∀ f ∈ S.fs, f.1.length ≤ 1500000 ∧ f.2.length ≤ 1500000) :
    Calls Tryz.prog 18 #[S.V A cap] w fun e w' => e = .returned (.bool S.okB) ∧ Below w.heap.size w w' := by
  have hcap := hs.1
  have hcap2 := hs.2.1
  have HSL : Hid (∀ wr, Below w.heap.size w wr → Sl wr A S.fs.length cap 2 (yj S.fs)) := fun wr h => hs.below h
  have HB := Go.Lib.hid hb
  clear hs hb
  have cF := fun w => pO S.o S.l S.m S.dict w (by omega)
  have HNF : Hid (¬ fits S.o S.l S.m S.dict → S.okB = false) := Sto.Wh
  have HNL : Hid (¬ S.fs.length ≤ 6 → S.okB = false) := Sto.UF
  have HNB : Hid (∀ (k : Nat) (hk : k < S.fs.length), ¬ (xZ S.fs[k].1 = true ∧ (cdB S.o S.l S.m S.dict S.fs[k].2).isSome = true ∧ (k = 0 ∨ Op.bytesLess (oL S.fs k) S.fs[k].1 = true)) → S.okB = false) := fun k hk h => Sto.UX (hk := hk) fun h2 => h ((Sto.jO hk).1 h2)
  have HYF : Hid (∀ (k : Nat) (hk : k < S.fs.length), (xZ S.fs[k].1 = true ∧ (cdB S.o S.l S.m S.dict S.fs[k].2).isSome = true ∧ (k = 0 ∨ Op.bytesLess (oL S.fs k) S.fs[k].1 = true)) → S.fine k hk) := fun k hk h => (Sto.jO hk).2 h
  have HST : Hid (∀ (k : Nat) (hk : k < S.fs.length), (∀ (i : Nat) (h : i < S.fs.length), i < k → S.fine i h) → S.fine k hk → ∀ (i : Nat) (h : i < S.fs.length), i < k + 1 → S.fine i h) := fun k hk hA h => Sto.jW hA hk h
  have HY : Hid (fits S.o S.l S.m S.dict → S.fs.length ≤ 6 → (∀ (i : Nat) (hi : i < S.fs.length), i < S.fs.length → S.fine i hi) → S.okB = true) := fun h h2 h3 => Sto.UA h h2 h3
  generalize S.okB = R at *
  generalize Sto.fine S = P at *
  obtain ⟨o, l, m, dict, fs⟩ := S
  simp only at *
  go_enter Tryz.func18, Tryz.ntmps18
  have hK0 : Bk (w.alloc (.cells #[.int .i64 o, .int .i64 l, .int .i64 m, .string ⟨dict.toArray⟩, .slice A fs.length cap] 27)) w.heap.size 27 #[.int .i64 o, .int .i64 l, .int .i64 m, .string ⟨dict.toArray⟩, .slice A fs.length cap] := tBk
  have g0 : Below w.heap.size w (w.alloc (.cells #[.int .i64 o, .int .i64 l, .int .i64 m, .string ⟨dict.toArray⟩, .slice A fs.length cap] 27)) := zH
  go_upto_region 1 with (fail)
  generalize w.alloc (.cells #[.int .i64 o, .int .i64 l, .int .i64 m, .string ⟨dict.toArray⟩, .slice A fs.length cap] 27) = w0 at *
  have hX0 := hK0.cell
  have hz0 := hK0.lt
  by_cases hf : fits o l m dict
  case neg =>
    rw [show decide (fits o l m dict) = false by simpa using hf] at cF
    have h := HNF.out hf
    subst h
    clear HNB HYF HST HY HNL
    go_wp2_with fail
    refine (cF _).mono ?_
    rintro e w1 ⟨rfl, hb1⟩
    have g1 := g0.trans (hb1.mono (by omega))
    clear hb1
    go_wp2
    go_ret
    exact ⟨rfl, g1⟩
  rw [show decide (fits o l m dict) = true by simpa using hf] at cF
  go_wp2_with fail
  refine (cF _).mono ?_
  rintro e w1 ⟨rfl, hb1⟩
  have hz1 := hb1.size
  have hK1 := hK0.below hb1 hz0
  have g1 := g0.trans (hb1.mono (by omega))
  have hX1 := hK1.cell
  clear hb1 hK0 g0 hX0 cF
  by_cases h6 : fs.length ≤ 6
  case neg =>
    have h := HNL.out h6
    subst h
    have h6i : (6 : Int) < fs.length := by omega
    clear HNB HYF HST HY HNF
    go_wp2
    go_ret
    exact ⟨rfl, g1⟩
  have h6i : ¬ (6 : Int) < fs.length := by omega
  have HY2 := Go.Lib.hid (HY.out hf h6)
  have cC : Hid (∀ t w, t.length ≤ 1500000 → Calls Tryz.prog 42 #[.agg #[.int .i64 o, .int .i64 l, .int .i64 m], sv dict, sv t] w fun e w' => e = yZ (cdB o l m dict t) ∧ Below w.heap.size w w') := fun t w h => uC o l m dict t w (by omega) h
  clear HY HNF HNL hf
  go_wp2
  go_loopw [22] (fun i wr => ∃ k : Nat, i = .int .i64 (k : Int) ∧ k ≤ fs.length ∧ Hid (∀ (i : Nat) (h : i < fs.length), i < k → P i h) ∧ Bk wr w.heap.size 27 #[.int .i64 o, .int .i64 l, .int .i64 m, .string ⟨dict.toArray⟩, .slice A fs.length cap] ∧ Below w.heap.size w wr) (fun i _ => fs.length - (intOf i).toNat)
  case atStart => exact ⟨0, rfl, by omega, fun i h hi => by omega, hK1, g1⟩
  case round =>
    obtain ⟨k, rfl, hk, HA, hK, hb⟩ := hrel
    clear hK1 g1 hX1
    have hz := hb.size
    have hlt0 := hK.lt
    by_cases hlt : k < fs.length
    · have hki : (k : Int) < fs.length := by omega
      obtain ⟨g, off, hA, hg, c0, c1⟩ := (HSL.out wr hb).fl hlt
      have HBB := HB.out fs[k] (List.getElem_mem hlt)
      have HNB2 := Go.Lib.hid (HNB.out k hlt)
      have HYF2 : Hid (_ → ∀ (i : Nat) (h : i < fs.length), i < k + 1 → P i h) := fun h => HST.out k hlt HA.out (HYF.out k hlt h)
      have hP : k = 0 ∨ ∃ j, k = j + 1 := by
        cases k with
        | zero => exact .inl rfl
        | succ j => exact .inr ⟨j, rfl⟩
      have HPV : Hid (∀ j W, k = j + 1 → Below w.heap.size w W → W.cell? ⟨g, off + j * 2, none⟩ = some (.string ⟨(oL fs k).toArray⟩)) := fun j W e h => by subst e; exact (HSL.out W h).prev hlt hA
      generalize fs[k].1 = nm at *
      generalize fs[k].2 = tx at *
      generalize oL fs k = pv at *
      subst hA
      obtain ⟨hb1, hb2⟩ := HBB
      have hK2 := hK.alloc (.cells #[.string ⟨nm.toArray⟩, .string ⟨tx.toArray⟩] 40)
      have hN2 := Bk.new wr #[.string ⟨nm.toArray⟩, .string ⟨tx.toArray⟩] 40
      have g2 := hb.alloc hz (.cells #[.string ⟨nm.toArray⟩, .string ⟨tx.toArray⟩] 40)
      clear hK
      go_upto_region 6 with (fail)
      generalize wr.alloc (.cells #[.string ⟨nm.toArray⟩, .string ⟨tx.toArray⟩] 40) = W at *
      have hX := hK2.cell
      have hY := hN2.cell
      have hlN := hN2.lt
      have hG := zG hX hK2.lt
      have hG2 := zG hY hlN
      clear c0 c1 hb
      have cN : ∀ w, Calls Tryz.prog 51 #[.string ⟨nm.toArray⟩] w fun e w' => e = .returned (.bool (xZ nm)) ∧ Below w.heap.size w w' := fun w => (Zh nm w (by omega)).mono fun e w' h => ⟨h.1, h.2 ▸ Below.refl _ _⟩
      have cD := cC.out tx
      by_cases h1 : xZ nm = true
      case neg =>
        have h := HNB2.out (fun h => h1 h.1)
        subst h
        rw [show xZ nm = false by simpa using h1] at cN
        clear HNB2 HYF2
        refine wp_region_quiet_below (by kernel_rfl) (by kernel_rfl) ?_
        repeat (go_big_quiet_step ((go_at_call 51; exact Calls.regrown_of (cN _))))
        refine wpQuiet_nil ?_
        intro w3 hw2
        have hb3 : Below _ _ w3 := zh hw2
        clear hw2
        have g3 := g2.trans (hb3.mono (by have := g2.size; omega))
        go_wp2
        go_ret
        exact ⟨rfl, g3⟩
      rw [h1] at cN
      by_cases h2 : k = 0 ∨ Op.bytesLess pv nm = true
      case neg =>
        have h := HNB2.out (fun h => h2 h.2.2)
        subst h
        obtain ⟨hk0, hlp⟩ := not_or.1 h2
        have hlp2 : Op.bytesLess pv nm = false := by simpa using hlp
        obtain ⟨j, rfl⟩ := hP.resolve_left hk0
        have cp := HPV.out j W rfl g2
        have CP := fun d os => cell_regrown cp d os
        have hkp : (0 : Int) < ((j + 1 : Nat) : Int) := by omega
        have hkp2 : (0 : Int) < (j : Int) + 1 := by omega
        have hji : (j : Int) < fs.length := by omega
        clear HNB2 HYF2 h2 hlp
        refine wp_region_quiet_below (by kernel_rfl) (by kernel_rfl) ?_
        repeat (go_big_quiet_step ((go_at_call 51; exact Calls.regrown_of (cN _))))
        refine wpQuiet_nil ?_
        intro w3 hw2
        have hb3 : Below _ _ w3 := zh hw2
        clear hw2
        have g3 := g2.trans (hb3.mono (by have := g2.size; omega))
        go_wp2
        go_ret
        exact ⟨rfl, g3⟩
      rcases hP with rfl | ⟨j, rfl⟩
      · clear HPV
        refine wp_region_quiet_below (by kernel_rfl) (by kernel_rfl) ?_
        repeat (go_big_quiet_step ((go_at_call 51; exact Calls.regrown_of (cN _))))
        refine wpQuiet_nil ?_
        intro w3 hw2
        have hb3 : Below _ _ w3 := zh hw2
        clear hw2
        have z3 := hb3.size
        have hK3 := hK2.below hb3 (by omega)
        have hN3 := hN2.below hb3 hlN
        have g3 := g2.trans (hb3.mono (by have := g2.size; omega))
        have hX3 := hK3.cell
        have hY3 := hN3.cell
        clear hb3 hK2 hN2 g2 hX hY hG hG2 cN
        go_wp2_with fail
        refine (cD _ (by omega)).mono ?_
        rintro e w4 ⟨rfl, hb4⟩
        have hK4 := hK3.below hb4 (by omega)
        have g4 := g3.trans (hb4.mono (by have := g3.size; omega))
        clear hb4 hK3 hN3 g3 hX3 hY3 cD
        unfold yZ
        cases hcd : cdB o l m dict tx with
        | none =>
          have h := HNB2.out (fun h => by have := h.2.1; rw [hcd] at this; cases this)
          subst h
          clear HNB2 HYF2
          go_wp2
          go_ret
          exact ⟨rfl, g4⟩
        | some d =>
          have HA2 := Go.Lib.hid (HYF2.out ⟨h1, by rw [hcd]; rfl, h2⟩)
          clear HNB2 HYF2 hcd
          go_wp2
          go_roundw
          case rel => exact ⟨_, (by go_num), by omega, HA2, hK4, g4⟩
          case measure => simp [intOf]; omega
      · have hlp2 : Op.bytesLess pv nm = true := h2.resolve_left (by omega)
        have cp := HPV.out j W rfl g2
        have CP := fun d os => cell_regrown cp d os
        have hkp : (0 : Int) < ((j + 1 : Nat) : Int) := by omega
        have hkp2 : (0 : Int) < (j : Int) + 1 := by omega
        have hji : (j : Int) < fs.length := by omega
        refine wp_region_quiet_below (by kernel_rfl) (by kernel_rfl) ?_
        repeat (go_big_quiet_step ((go_at_call 51; exact Calls.regrown_of (cN _))))
        refine wpQuiet_nil ?_
        intro w3 hw2
        have hb3 : Below _ _ w3 := zh hw2
        clear hw2
        clear cp CP HPV
        have z3 := hb3.size
        have hK3 := hK2.below hb3 (by omega)
        have hN3 := hN2.below hb3 hlN
        have g3 := g2.trans (hb3.mono (by have := g2.size; omega))
        have hX3 := hK3.cell
        have hY3 := hN3.cell
        clear hb3 hK2 hN2 g2 hX hY hG hG2 cN
        go_wp2_with fail
        refine (cD _ (by omega)).mono ?_
        rintro e w4 ⟨rfl, hb4⟩
        have hK4 := hK3.below hb4 (by omega)
        have g4 := g3.trans (hb4.mono (by have := g3.size; omega))
        clear hb4 hK3 hN3 g3 hX3 hY3 cD
        unfold yZ
        cases hcd : cdB o l m dict tx with
        | none =>
          have h := HNB2.out (fun h => by have := h.2.1; rw [hcd] at this; cases this)
          subst h
          clear HNB2 HYF2
          go_wp2
          go_ret
          exact ⟨rfl, g4⟩
        | some d =>
          have HA2 := Go.Lib.hid (HYF2.out ⟨h1, by rw [hcd]; rfl, h2⟩)
          clear HNB2 HYF2 hcd
          go_wp2
          go_roundw
          case rel => exact ⟨_, (by go_num), by omega, HA2, hK4, g4⟩
          case measure => simp [intOf]; omega
    · have hki : ¬ (k : Int) < fs.length := by omega
      have h := HY2.out (fun i h _ => HA.out i h (by omega))
      subst h
      go_wp2
      go_ret
      exact ⟨rfl, hb⟩
theorem oM (S : Sto) (A : Option Addr) (cap : Nat) (w : World) (hs : Sl w A S.fs.length cap 2 (yj S.fs)) (hd : S.dict.length ≤ 1500000) (hl : S.fs.length ≤ 1500000) (hb : ∀ f ∈ S.fs, f.1.length ≤ 1500000 ∧ f.2.length ≤ 1500000) :
    Calls Tryz.prog 46 #[S.V A cap] w fun e w' => e = .returned (.bool S.okB) ∧ Below w.heap.size w w' := by
  have hcap := hs.1
  have hcap2 := hs.2.1
  have HSL : Hid (∀ wr, Below w.heap.size w wr → Sl wr A S.fs.length cap 2 (yj S.fs)) := fun wr h => hs.below h
  have HB := Go.Lib.hid hb
  clear hs hb
  have cF := fun w => tY S.o S.l S.m S.dict w (by omega)
  have HNF : Hid (¬ fits S.o S.l S.m S.dict → S.okB = false) := Sto.Wh
  have HNL : Hid (¬ S.fs.length ≤ 6 → S.okB = false) := Sto.UF
  have HNB : Hid (∀ (k : Nat) (hk : k < S.fs.length), ¬ (xZ S.fs[k].1 = true ∧ (cdB S.o S.l S.m S.dict S.fs[k].2).isSome = true ∧ (k = 0 ∨ Op.bytesLess (oL S.fs k) S.fs[k].1 = true)) → S.okB = false) := fun k hk h => Sto.UX (hk := hk) fun h2 => h ((Sto.jO hk).1 h2)
  have HYF : Hid (∀ (k : Nat) (hk : k < S.fs.length), (xZ S.fs[k].1 = true ∧ (cdB S.o S.l S.m S.dict S.fs[k].2).isSome = true ∧ (k = 0 ∨ Op.bytesLess (oL S.fs k) S.fs[k].1 = true)) → S.fine k hk) := fun k hk h => (Sto.jO hk).2 h
  have HST : Hid (∀ (k : Nat) (hk : k < S.fs.length), (∀ (i : Nat) (h : i < S.fs.length), i < k → S.fine i h) → S.fine k hk → ∀ (i : Nat) (h : i < S.fs.length), i < k + 1 → S.fine i h) := fun k hk hA h => Sto.jW hA hk h
  have HY : Hid (fits S.o S.l S.m S.dict → S.fs.length ≤ 6 → (∀ (i : Nat) (hi : i < S.fs.length), i < S.fs.length → S.fine i hi) → S.okB = true) := fun h h2 h3 => Sto.UA h h2 h3
  generalize S.okB = R at *
  generalize Sto.fine S = P at *
  obtain ⟨o, l, m, dict, fs⟩ := S
  simp only at *
  go_enter Tryz.func46, Tryz.ntmps46
  have hK0 : Bk (w.alloc (.cells #[.int .i64 o, .int .i64 l, .int .i64 m, .string ⟨dict.toArray⟩, .slice A fs.length cap] 27)) w.heap.size 27 #[.int .i64 o, .int .i64 l, .int .i64 m, .string ⟨dict.toArray⟩, .slice A fs.length cap] := tBk
  have g0 : Below w.heap.size w (w.alloc (.cells #[.int .i64 o, .int .i64 l, .int .i64 m, .string ⟨dict.toArray⟩, .slice A fs.length cap] 27)) := zH
  go_upto_region 1 with (fail)
  generalize w.alloc (.cells #[.int .i64 o, .int .i64 l, .int .i64 m, .string ⟨dict.toArray⟩, .slice A fs.length cap] 27) = w0 at *
  have hX0 := hK0.cell
  have hz0 := hK0.lt
  by_cases hf : fits o l m dict
  case neg =>
    rw [show decide (fits o l m dict) = false by simpa using hf] at cF
    have h := HNF.out hf
    subst h
    clear HNB HYF HST HY HNL
    go_wp2_with fail
    refine (cF _).mono ?_
    rintro e w1 ⟨rfl, hb1⟩
    have g1 := g0.trans (hb1.mono (by omega))
    clear hb1
    go_wp2
    go_ret
    exact ⟨rfl, g1⟩
  rw [show decide (fits o l m dict) = true by simpa using hf] at cF
  go_wp2_with fail
  refine (cF _).mono ?_
  rintro e w1 ⟨rfl, hb1⟩
  have hz1 := hb1.size
  have hK1 := hK0.below hb1 hz0
  have g1 := g0.trans (hb1.mono (by omega))
  have hX1 := hK1.cell
  clear hb1 hK0 g0 hX0 cF
  by_cases h6 : fs.length ≤ 6
  case neg =>
    have h := HNL.out h6
    subst h
    have h6i : (6 : Int) < fs.length := by omega
    clear HNB HYF HST HY HNF
    go_wp2
    go_ret
    exact ⟨rfl, g1⟩
  have h6i : ¬ (6 : Int) < fs.length := by omega
  have HY2 := Go.Lib.hid (HY.out hf h6)
  have cC : Hid (∀ t w, t.length ≤ 1500000 → Calls Tryz.prog 47 #[.agg #[.int .i64 o, .int .i64 l, .int .i64 m], sv dict, sv t] w fun e w' => e = yZ (cdB o l m dict t) ∧ Below w.heap.size w w') := fun t w h => um o l m dict t w (by omega) h
  clear HY HNF HNL hf
  go_wp2
  go_loopw [3] (fun i wr => ∃ k : Nat, i = .int .i64 (k : Int) ∧ k ≤ fs.length ∧ Hid (∀ (i : Nat) (h : i < fs.length), i < k → P i h) ∧ Bk wr w.heap.size 27 #[.int .i64 o, .int .i64 l, .int .i64 m, .string ⟨dict.toArray⟩, .slice A fs.length cap] ∧ Below w.heap.size w wr) (fun i _ => fs.length - (intOf i).toNat)
  case atStart => exact ⟨0, rfl, by omega, fun i h hi => by omega, hK1, g1⟩
  case round =>
    obtain ⟨k, rfl, hk, HA, hK, hb⟩ := hrel
    clear hK1 g1 hX1
    have hz := hb.size
    have hlt0 := hK.lt
    have hXl := hK.cell
    by_cases hlt : k < fs.length
    · have hki : (k : Int) < fs.length := by omega
      obtain ⟨g, off, hA, hg, c0, c1⟩ := (HSL.out wr hb).fl hlt
      have HBB := HB.out fs[k] (List.getElem_mem hlt)
      have HNB2 := Go.Lib.hid (HNB.out k hlt)
      have HYF2 : Hid (_ → ∀ (i : Nat) (h : i < fs.length), i < k + 1 → P i h) := fun h => HST.out k hlt HA.out (HYF.out k hlt h)
      have hP : k = 0 ∨ ∃ j, k = j + 1 := by
        cases k with
        | zero => exact .inl rfl
        | succ j => exact .inr ⟨j, rfl⟩
      have HPV : Hid (∀ j W, k = j + 1 → Below w.heap.size w W → W.cell? ⟨g, off + j * 2, none⟩ = some (.string ⟨(oL fs k).toArray⟩)) := fun j W e h => by subst e; exact (HSL.out W h).prev hlt hA
      have HEL : Hid (∀ W, Below w.heap.size w W → W.cell? ⟨g, off + k * 2, none⟩ = some (.string ⟨fs[k].1.toArray⟩)) := fun W h => by
        obtain ⟨g', off', e, _, c, _⟩ := (HSL.out W h).fl hlt
        rw [hA] at e; injection e with e; injection e with e1 e2; subst e1 e2; exact c
      generalize fs[k].1 = nm at *
      generalize fs[k].2 = tx at *
      generalize oL fs k = pv at *
      subst hA
      obtain ⟨hb1, hb2⟩ := HBB
      have hX := hK.cell
      have hG := zG hX hlt0
      have C1 := fun d os => cell_regrown c1 d os
      have cD := fun w => cC.out tx w (by omega)
      go_wp2_with fail
      refine wp_region_quiet_below (by kernel_rfl) (by kernel_rfl) ?_
      repeat (go_big_quiet_step ((go_at_call 47; exact Calls.regrown_of (cD _))))
      refine wpQuiet_nil ?_
      intro w3 hw2
      have hb3 : Below _ _ w3 := zh hw2
      clear hw2
      have z3 := hb3.size
      have hK3 := hK.below hb3 hlt0
      have g3 := hb.trans (hb3.mono hz)
      have c3 := HEL.out w3 g3
      have hX3 := hK3.cell
      have hG3 := zG hX3 hK3.lt
      have C3 := fun d os => cell_regrown c3 d os
      clear hb3 hK hb hX hG c0 c1 C1 cD
      have cN : ∀ w, Calls Tryz.prog 81 #[.string ⟨nm.toArray⟩] w fun e w' => e = .returned (.bool (xZ nm)) ∧ Below w.heap.size w w' := fun w => (bI nm w (by omega)).mono fun e w' h => ⟨h.1, h.2 ▸ Below.refl _ _⟩
      cases hcd : cdB o l m dict tx with
      | none =>
        have h := HNB2.out (fun h => by have := h.2.1; rw [hcd] at this; cases this)
        subst h
        clear HNB2 HYF2 hcd
        go_wp2_with fail
        refine wp_region_quiet_below (by kernel_rfl) (by kernel_rfl) ?_
        repeat (go_big_quiet_step ((fail)))
        refine wpQuiet_nil ?_
        intro w4 hw2
        have hb4 : Below _ _ w4 := zh hw2
        clear hw2
        have g4 := g3.trans (hb4.mono (by have := g3.size; omega))
        go_wp2
        go_ret
        exact ⟨rfl, g4⟩
      | some d =>
        have hcd2 : (cdB o l m dict tx).isSome = true := by rw [hcd]; rfl
        clear hcd
        by_cases h1 : xZ nm = true
        case neg =>
          have h := HNB2.out (fun h => h1 h.1)
          subst h
          rw [show xZ nm = false by simpa using h1] at cN
          clear HNB2 HYF2
          go_wp2_with fail
          refine wp_region_quiet_below (by kernel_rfl) (by kernel_rfl) ?_
          repeat (go_big_quiet_step ((go_at_call 81; exact Calls.regrown_of (cN _))))
          refine wpQuiet_nil ?_
          intro w4 hw2
          have hb4 : Below _ _ w4 := zh hw2
          clear hw2
          have g4 := g3.trans (hb4.mono (by have := g3.size; omega))
          go_wp2
          go_ret
          exact ⟨rfl, g4⟩
        rw [h1] at cN
        by_cases h2 : k = 0 ∨ Op.bytesLess pv nm = true
        case neg =>
          have h := HNB2.out (fun h => h2 h.2.2)
          subst h
          obtain ⟨hk0, hlp⟩ := not_or.1 h2
          have hlp2 : Op.bytesLess pv nm = false := by simpa using hlp
          obtain ⟨j, rfl⟩ := hP.resolve_left hk0
          have cp := HPV.out j w3 rfl g3
          have CP := fun d os => cell_regrown cp d os
          have hkp : (0 : Int) < ((j + 1 : Nat) : Int) := by omega
          have hkp2 : (0 : Int) < (j : Int) + 1 := by omega
          have hji : (j : Int) < fs.length := by omega
          clear HNB2 HYF2 h2 hlp
          go_wp2_with fail
          refine wp_region_quiet_below (by kernel_rfl) (by kernel_rfl) ?_
          repeat (go_big_quiet_step ((go_at_call 81; exact Calls.regrown_of (cN _))))
          refine wpQuiet_nil ?_
          intro w4 hw2
          have hb4 : Below _ _ w4 := zh hw2
          clear hw2
          have g4 := g3.trans (hb4.mono (by have := g3.size; omega))
          go_wp2
          go_ret
          exact ⟨rfl, g4⟩
        have HA2 := Go.Lib.hid (HYF2.out ⟨h1, hcd2, h2⟩)
        clear HNB2 HYF2
        rcases hP with rfl | ⟨j, rfl⟩
        · clear HPV
          simp only [Nat.zero_mul, Nat.add_zero] at c3 C3
          go_wp2_with fail
          refine wp_region_quiet_below (by kernel_rfl) (by kernel_rfl) ?_
          repeat (go_big_quiet_step ((go_at_call 81; exact Calls.regrown_of (cN _))))
          refine wpQuiet_nil ?_
          intro w4 hw2
          have hb4 : Below _ _ w4 := zh hw2
          clear hw2
          have hK4 := hK3.below hb4 hK3.lt
          have g4 := g3.trans (hb4.mono (by have := g3.size; omega))
          go_wp2
          go_roundw
          case rel => exact ⟨_, (by go_num), by omega, HA2, hK4, g4⟩
          case measure => simp [intOf]; omega
        · have hlp2 : Op.bytesLess pv nm = true := h2.resolve_left (by omega)
          have cp := HPV.out j w3 rfl g3
          have CP := fun d os => cell_regrown cp d os
          have hkp : (0 : Int) < ((j + 1 : Nat) : Int) := by omega
          have hkp2 : (0 : Int) < (j : Int) + 1 := by omega
          have hji : (j : Int) < fs.length := by omega
          go_wp2_with fail
          refine wp_region_quiet_below (by kernel_rfl) (by kernel_rfl) ?_
          repeat (go_big_quiet_step ((go_at_call 81; exact Calls.regrown_of (cN _))))
          refine wpQuiet_nil ?_
          intro w4 hw2
          have hb4 : Below _ _ w4 := zh hw2
          clear hw2
          clear cp CP HPV
          have hK4 := hK3.below hb4 hK3.lt
          have g4 := g3.trans (hb4.mono (by have := g3.size; omega))
          go_wp2
          go_roundw
          case rel => exact ⟨_, (by go_num), by omega, HA2, hK4, g4⟩
          case measure => simp [intOf]; omega
    · have hki : ¬ (k : Int) < fs.length := by omega
      have h := HY2.out (fun i h _ => HA.out i h (by omega))
      subst h
      go_wp2
      go_ret
      exact ⟨rfl, hb⟩
end Go.Proofs.YtinncdollpajkaaGreat
namespace Go.Proofs.YtinncdollpajkaaGreat
open Go.RowKit
set_option maxRecDepth 100000
attribute [local go_sem high] zA zu zy zO zK zX zx zk zn zq zi zo yQ zC yf zD
def Sto.small (S : Sto) (n : Nat) : Prop := S.dict.length ≤ n ∧ S.fs.length ≤ n ∧ ∀ f ∈ S.fs, f.1.length ≤ n ∧ f.2.length ≤ n
theorem jY : (Tryz.prog.info? 40).map (fun i => (i.zero, i.size, i.bytes)) = some (some (.agg #[.string ⟨#[]⟩, .string ⟨#[]⟩]), 2, 32) := by kernel_rfl
end Go.Proofs.YtinncdollpajkaaGreat
