import Derived.Test.YtinncdollpajkaaGreatKQ8
import Derived.Test.YtinncdollpajkaaGreatKGP4
import Derived.Test.YtinncdollpajkaaGreatKGP1
import Derived.Test.YtinncdollpajkaaGreatKGU1
import Derived.Deep.Cut
import Derived.Test.YtinncdollpajkaaGreatKGJ4
set_option linter.unusedVariables false
set_option linter.unusedSimpArgs false
set_option maxHeartbeats 8000000
namespace Go.Proofs.YtinncdollpajkaaGreat
open Go.RowKit
set_option maxRecDepth 100000
attribute [local go_sem high] zy zx zu zS zK yc zA zk zl zq zi zo yO zF yl zD
theorem Ua (bs : List Blk) (k : Nat) (h : k < bs.length) : wL 0 (bs.take (k + 1)) = wL 0 (bs.take k) ++ [{ bs[k] with num := (k : Int) }] := by
 rw [List.take_succ_eq_append_getElem h, aN, List.length_take, Nat.min_eq_left (by omega), Nat.zero_add]
theorem Tu {b : Blk} (h : b.ok = true) : Yo b = .returned (.tuple #[sv b.text, .bool true]) := by unfold Yo; rw [if_pos h, h]
theorem rV (bs : List Blk) (A : Option Addr) (cap : Nat) (w : World) (hs : Sl w A bs.length cap 4 (zO bs)) (hok : ∀ b ∈ bs, b.ok = true) (hl : bs.length ≤ 100000) :
  Calls Tryz.prog 152 #[.slice A bs.length cap] w fun e w' => e = yf (mcO bs) ∧ Below w.heap.size w w' := by
 have hcap := hs.1
 have hcap2 := hs.2.1
 have cS := fun (_ : True) => lF bs A cap w hs hok (by omega)
 have hsb := wR bs hok
 obtain ⟨R, hR⟩ : ∃ R, mcO bs = R := ⟨_, rfl⟩
 rw [hR]
 by_cases h40 : bs.length ≤ 40
 case neg =>
  have hE : R = none := by rw [← hR]; unfold mcO; rw [if_neg (fun h => h40 h.1)]
  subst hE
  have h4i : (40 : Int) < bs.length := by omega
  unfold yf
  clear hR
  go_enter Tryz.func152, Tryz.ntmps152
  go_wp2
  go_ret2
  exact ⟨rfl, Below.refl _ _⟩
 have h4i : ¬ (40 : Int) < bs.length := by omega
 by_cases h2k : zn bs ≤ 2000
 case neg =>
  have hE : R = none := by rw [← hR]; unfold mcO; rw [if_neg (fun h => h2k h.2)]
  subst hE
  have hsi : (2000 : Int) < zn bs := by omega
  unfold yf
  clear hR
  generalize zn bs = z at *
  go_enter Tryz.func152, Tryz.ntmps152
  go_wp2_with fail
  refine (cS trivial).mono ?_
  rintro e w1 ⟨rfl, b1⟩
  go_wp2
  go_ret2
  exact ⟨rfl, b1⟩
 have hE : R = some (wC (wL 0 bs)) := by rw [← hR]; unfold mcO; rw [if_pos ⟨h40, h2k⟩]
 subst hE
 have hsi : ¬ (2000 : Int) < zn bs := by omega
 have HOK := Go.Lib.hid hok
 have HSL : Hid (∀ wr, Below w.heap.size w wr → Sl wr A bs.length cap 4 (zO bs)) := fun wr h => hs.below h
 have HE : Hid (yf (some (wC (wL 0 bs))) = .returned (.tuple #[sv (wC (wL 0 bs)), .bool true])) := rfl
 rw [HE.out]
 obtain ⟨T, hT⟩ : ∃ T, wC (wL 0 bs) = T := ⟨_, rfl⟩
 rw [hT]
 have HT := Go.Lib.hid hT
 clear hR hs hok hT HE
 generalize zn bs = z at *
 go_enter Tryz.func152, Tryz.ntmps152
 go_wp2_with fail
 refine (cS trivial).mono ?_
 rintro e w0 ⟨rfl, hb0⟩
 have hz0 := hb0.size
 clear cS
 have B0 := YU (w := w0) (B := w0.heap.size) (Nat.le_refl _)
 have b0 : Below w0.heap.size w0 (w0.alloc (.cells #[.pointer none, .slice none 0 0] 108)) := zG
 have HKB : Hid (∀ wr, Below w0.heap.size w0 wr → Below w.heap.size w wr) := fun wr h => hb0.trans (h.mono (by omega))
 have hsz : w0.heap.size ≤ (w0.alloc (.cells #[.pointer none, .slice none 0 0] 108)).heap.size := by simp
 obtain ⟨bb, hbb⟩ : ∃ bb, w0.heap.size = bb := ⟨_, rfl⟩
 rw [hbb] at B0 b0 HKB hz0 hsz
 clear hb0
 go_wp2
 go_loopw [19] (fun i wr => ∃ (k : Nat) (X : Bs), i = .int .i64 (k : Int) ∧ k ≤ bs.length ∧ X.length ≤ 74 * k ∧ Hid (wC (wL 0 (bs.take k)) = X) ∧ Go.Lib.IsBuilderF 108 5 bb bb (X.map u8v) wr ∧ Below bb w0 wr) (fun i _ => bs.length - (intOf i).toNat)
 case atStart => exact ⟨0, [], rfl, by omega, by simp, rfl, B0, b0⟩
 case round =>
  obtain ⟨k, X, rfl, hk, hX, HX, hB, hb⟩ := hrel
  clear B0 b0 hsz
  have hz := hb.size
  rw [hbb] at hz
  have hbw := HKB.out wr hb
  by_cases hlt : k < bs.length
  ·have hki : (k : Int) < bs.length := by omega
   have hsA := HSL.out wr hbw
   obtain ⟨g, off, rfl, hg, hc⟩ := Sl.oI hsA hlt
   have hcs := tq bs k hlt
   have c0 := hc 0 _ hcs.1
   have c1 := hc 1 _ hcs.2.1
   have c2 := hc 2 _ hcs.2.2.1
   have c3 := hc 3 _ hcs.2.2.2
   have hbo := WV (HOK.out bs[k] (List.getElem_mem hlt)) (n := (k : Int)) (by omega) (by omega)
   have HS := Go.Lib.hid (Ua bs k hlt)
   generalize bs[k] = b at *
   obtain ⟨n2, r, n4, D⟩ := b
   simp only at hbo HS
   have hbt := ZF hbo
   have hbs := Blk.wG hbo
   have hbl := sH hbo
   have cF := fun w => gu ⟨(k : Int), r, n4, D⟩ w (by unfold Blk.sm; simp only at hbs hbl ⊢; omega)
   rw [Tu hbo] at cF
   have HS2 : Hid (wC (wL 0 (bs.take (k + 1))) = X ++ (⟨(k : Int), r, n4, D⟩ : Blk).text) := by show _ = _; rw [HS.out, jV, HX.out]
   generalize (⟨(k : Int), r, n4, D⟩ : Blk).text = d at *
   simp only [Nat.add_zero] at c0 c1 c2 c3
   have bW : Below wr.heap.size wr (wr.alloc (.cells (bkC ⟨(k : Int), r, n4, D⟩) 138)) := zG
   have hB1 := nT hB bW
   have hN1 := Bk.new wr (bkC ⟨(k : Int), r, n4, D⟩) 138
   have g1 := hb.trans (bW.mono hz)
   clear hc hcs HX HS hbo hsA hB bW hbs hbl
   go_upto_region 8 with (fail)
   generalize wr.alloc (.cells _ 138) = W at *
   have hY1 := hN1.cell
   have hlN := hN1.lt
   clear c0 c1 c2 c3
   go_wp2_with fail
   refine (cF _).mono ?_
   rintro e w2 ⟨rfl, hb2⟩
   have z2 := hb2.size
   have hB2 := nT hB1 hb2
   have g2 := g1.trans (hb2.mono (by omega))
   clear cF hb2 hB1 hN1 g1 hY1
   have cW := aU bb bb (X.map u8v) d _ hB2 (by simp; omega) (by omega)
   have hxl : (X ++ d).length ≤ 74 * (k + 1) := by simp; omega
   have HXL := Go.Lib.hid hxl
   clear hxl
   go_wp2_with fail
   refine cW.mono ?_
   rintro e w3 ⟨rfl, hB3, b3, k3⟩
   have g3 := g2.trans b3
   have hB4 : Go.Lib.IsBuilderF 108 5 bb bb ((X ++ d).map u8v) w3 := by rw [List.map_append]; exact .inr hB3
   have HB4 := Go.Lib.hid hB4
   clear cW hB3 b3 k3 hB2 hB4
   go_wp2
   go_roundw
   case rel => exact ⟨k + 1, X ++ d, by go_num, by omega, HXL.out, HS2, HB4.out, g3⟩
   case measure => simp [intOf]; omega
  ·have hki : ¬ (k : Int) < bs.length := by omega
   have h : T = X := by rw [← HT.out, ← HX.out, List.take_of_length_le (by omega)]
   subst h
   have cS := Tryz.Builder_String_any_k bb bb T wr (by unfold Go.Lib.byteCells; exact hB) hz
   go_wp2_with fail
   refine cS.mono ?_
   rintro e w3 ⟨rfl, _, b3, _⟩
   have gw := HKB.out _ (hb.trans b3)
   clear cS b3 hb hB
   go_wp2
   exact bodyPost_ret (v := .tuple #[sv T, .bool true]) (by simp [results, Tryz.results152, go_sem]) rfl ⟨rfl, gw⟩
theorem lG (o l m : Int) (dict d : Bs) (size : Int) (w : World) (hl : dict.length ≤ 9223372036854775807) (hd : d.length ≤ 9223372036854775807) (hs0 : -1000000 ≤ size) (hs1 : size ≤ 1000000) :
  Calls Tryz.prog 120 #[.agg #[.int .i64 o, .int .i64 l, .int .i64 m], sv dict, sv d, .int .i64 size] w fun e w' => e = yf (mkC o l m dict d size) ∧ Below w.heap.size w w' := by
 have hNO : Hid (¬ (fits o l m dict ∧ 1 ≤ size ∧ size ≤ 64 ∧ (d.length : Int) ≤ size * 40 ∧ d.length ≤ 2000) → yf (mkC o l m dict d size) = .returned (.tuple #[sv [], .bool false])) := fun h => by unfold mkC; rw [if_neg h]; rfl
 by_cases h1 : fits o l m dict
 case neg =>
  have hN := Go.Lib.hid (hNO.out (fun h => h1 h.1))
  have cS := fun w => qm o l m dict w h1 hl
  rw [hN.out]
  clear h1 hNO hN
  go_enter Tryz.func120, Tryz.ntmps120
  have hK0 : Bk (w.alloc (.cells #[.int .i64 o, .int .i64 l, .int .i64 m] 24)) w.heap.size 24 #[.int .i64 o, .int .i64 l, .int .i64 m] := tBk
  have g0 : Below w.heap.size w (w.alloc (.cells #[.int .i64 o, .int .i64 l, .int .i64 m] 24)) := zG
  go_upto_region 1 with (fail)
  generalize w.alloc (.cells #[.int .i64 o, .int .i64 l, .int .i64 m] 24) = w0 at *
  have hX0 := hK0.cell
  have hz0 := hK0.lt
  go_wp2_with fail
  refine (cS _).mono ?_
  rintro e w1 ⟨rfl, hb1⟩
  have g1 := g0.trans (hb1.mono (by omega))
  have hz1 := g1.size
  go_wp2
  exact bodyPost_ret (v := .tuple #[sv [], .bool false]) (by simp [results, Tryz.results120, go_sem]) rfl ⟨rfl, zG⟩
 have cS := fun w => uF o l m dict w h1
 have hk := xm h1
 have hYES : Hid (∀ n : Nat, size = n → 1 ≤ n → n ≤ 64 → d.length ≤ n * 40 → d.length ≤ 2000 → yf (mkC o l m dict d size) = yf (mcO (mks (zt o l m dict) n d.length d))) := fun n h0 ha hb hc he => by
  rw [Rt o l m dict d n ha (by omega) he]
  unfold mkC
  rw [if_pos ⟨h1, by omega, by omega, by omega, he⟩, h0, Int.toNat_natCast]
 unfold pM at cS
 clear h1
 generalize yf (mkC o l m dict d size) = G at *
 generalize zt o l m dict = K at *
 by_cases h2 : 1 ≤ size ∧ size ≤ 64
 case neg =>
  have hN := hNO.out (fun h => h2 ⟨h.2.1, h.2.2.1⟩)
  have hdi : decide (1 ≤ size ∧ size ≤ 64) = false := decide_eq_false h2
  subst hN
  clear hNO hYES h2
  go_enter Tryz.func120, Tryz.ntmps120
  have hK0 : Bk (w.alloc (.cells #[.int .i64 o, .int .i64 l, .int .i64 m] 24)) w.heap.size 24 #[.int .i64 o, .int .i64 l, .int .i64 m] := tBk
  have g0 : Below w.heap.size w (w.alloc (.cells #[.int .i64 o, .int .i64 l, .int .i64 m] 24)) := zG
  go_upto_region 1 with (fail)
  generalize w.alloc (.cells #[.int .i64 o, .int .i64 l, .int .i64 m] 24) = w0 at *
  have hX0 := hK0.cell
  have hz0 := hK0.lt
  go_wp2_with fail
  refine (cS _).mono ?_
  rintro e w1 ⟨A1, c1, rfl, o1, hb1⟩
  have hz1 := hb1.size
  have g1 := g0.trans (hb1.mono (by omega))
  have hB2 := Bk.new w1 (knC K A1 c1) 102
  have o2 := o1.alloc (.cells (knC K A1 c1) 102)
  have g2 := g1.alloc (by omega) (.cells (knC K A1 c1) 102)
  clear hb1 hX0 hK0 g0 o1 g1 cS
  go_upto_region 2 with (fail)
  unfold knC at hB2 o2 g2
  generalize w1.alloc (.cells #[.int .i64 K.o, .int .i64 K.l, .int .i64 K.m, .slice A1 K.ps.length c1, .int .i64 K.base, .int .i64 K.last] 102) = W at *
  have hl2 := hB2.lt
  have zg2 := g2.size
  go_wp2_with fail
  refine (yY _ _).mono ?_
  rintro e w' ⟨rfl, rfl⟩
  rw [hdi]
  go_wp2
  exact bodyPost_ret (v := .tuple #[sv [], .bool false]) (by simp [results, Tryz.results120, go_sem]) rfl ⟨rfl, g2⟩
 have hdi : decide (1 ≤ size ∧ size ≤ 64) = true := decide_eq_true h2
 obtain ⟨h2a, h2b⟩ := h2
 obtain ⟨n, rfl⟩ := Int.eq_ofNat_of_zero_le (by omega : 0 ≤ size)
 have hnn : ∀ x : Int, (x ≤ 40 * (n : Int)) ↔ x ≤ (n : Int) * 40 := fun x => by omega
 by_cases h3 : d.length ≤ 2000
 case neg =>
  have hN := hNO.out (fun h => h3 h.2.2.2.2)
  have h3i : (2000 : Int) < d.length := by omega
  subst hN
  clear hNO hYES hnn
  go_enter Tryz.func120, Tryz.ntmps120
  have hK0 : Bk (w.alloc (.cells #[.int .i64 o, .int .i64 l, .int .i64 m] 24)) w.heap.size 24 #[.int .i64 o, .int .i64 l, .int .i64 m] := tBk
  have g0 : Below w.heap.size w (w.alloc (.cells #[.int .i64 o, .int .i64 l, .int .i64 m] 24)) := zG
  go_upto_region 1 with (fail)
  generalize w.alloc (.cells #[.int .i64 o, .int .i64 l, .int .i64 m] 24) = w0 at *
  have hX0 := hK0.cell
  have hz0 := hK0.lt
  go_wp2_with fail
  refine (cS _).mono ?_
  rintro e w1 ⟨A1, c1, rfl, o1, hb1⟩
  have hz1 := hb1.size
  have g1 := g0.trans (hb1.mono (by omega))
  have hB2 := Bk.new w1 (knC K A1 c1) 102
  have o2 := o1.alloc (.cells (knC K A1 c1) 102)
  have g2 := g1.alloc (by omega) (.cells (knC K A1 c1) 102)
  clear hb1 hX0 hK0 g0 o1 g1 cS
  go_upto_region 2 with (fail)
  unfold knC at hB2 o2 g2
  generalize w1.alloc (.cells #[.int .i64 K.o, .int .i64 K.l, .int .i64 K.m, .slice A1 K.ps.length c1, .int .i64 K.base, .int .i64 K.last] 102) = W at *
  have hl2 := hB2.lt
  have zg2 := g2.size
  go_wp2_with fail
  refine (yY _ _).mono ?_
  rintro e w' ⟨rfl, rfl⟩
  rw [hdi]
  go_wp2
  exact bodyPost_ret (v := .tuple #[sv [], .bool false]) (by simp [results, Tryz.results120, go_sem]) rfl ⟨rfl, g2⟩
 have h3i : ¬ (2000 : Int) < d.length := by omega
 by_cases h4 : d.length ≤ n * 40
 case neg =>
  have hN := hNO.out (fun h => h4 (by have := h.2.2.2.1; omega))
  have h4i : (40 : Int) * (n : Int) < d.length := by omega
  subst hN
  clear hNO hYES hnn
  go_enter Tryz.func120, Tryz.ntmps120
  have hK0 : Bk (w.alloc (.cells #[.int .i64 o, .int .i64 l, .int .i64 m] 24)) w.heap.size 24 #[.int .i64 o, .int .i64 l, .int .i64 m] := tBk
  have g0 : Below w.heap.size w (w.alloc (.cells #[.int .i64 o, .int .i64 l, .int .i64 m] 24)) := zG
  go_upto_region 1 with (fail)
  generalize w.alloc (.cells #[.int .i64 o, .int .i64 l, .int .i64 m] 24) = w0 at *
  have hX0 := hK0.cell
  have hz0 := hK0.lt
  go_wp2_with fail
  refine (cS _).mono ?_
  rintro e w1 ⟨A1, c1, rfl, o1, hb1⟩
  have hz1 := hb1.size
  have g1 := g0.trans (hb1.mono (by omega))
  have hB2 := Bk.new w1 (knC K A1 c1) 102
  have o2 := o1.alloc (.cells (knC K A1 c1) 102)
  have g2 := g1.alloc (by omega) (.cells (knC K A1 c1) 102)
  clear hb1 hX0 hK0 g0 o1 g1 cS
  go_upto_region 2 with (fail)
  unfold knC at hB2 o2 g2
  generalize w1.alloc (.cells #[.int .i64 K.o, .int .i64 K.l, .int .i64 K.m, .slice A1 K.ps.length c1, .int .i64 K.base, .int .i64 K.last] 102) = W at *
  have hl2 := hB2.lt
  have zg2 := g2.size
  go_wp2_with fail
  refine (yY _ _).mono ?_
  rintro e w' ⟨rfl, rfl⟩
  rw [hdi]
  go_wp2
  exact bodyPost_ret (v := .tuple #[sv [], .bool false]) (by simp [results, Tryz.results120, go_sem]) rfl ⟨rfl, g2⟩
 ·have h4i : ¬ (40 : Int) * (n : Int) < d.length := by omega
  have hN := hYES.out n rfl (by omega) (by omega) h4 h3
  have cM : Hid (∀ A cap wr, Sl wr A K.ps.length cap 2 (psV K.ps) → Calls Tryz.prog 153 #[knV K A cap, sv d, .int .i64 (n : Int)] wr (BkR (mks K n d.length d) wr)) := fun A cap wr hs => pY K A cap d n wr hk hs (by omega) (by omega) h3
  have cC : Hid (∀ A cap wr, Sl wr A (mks K n d.length d).length cap 4 (zO (mks K n d.length d)) → Calls Tryz.prog 152 #[.slice A (mks K n d.length d).length cap] wr fun e w' => e = yf (mcO (mks K n d.length d)) ∧ Below wr.heap.size wr w') := fun A cap wr hs => rV _ A cap wr hs (fQ hk n _ (by omega) (by omega) d) (by have := ug n (by omega) 40 d.length d (by omega); unfold mks; rw [List.length_map]; omega)
  unfold BkR at cM
  subst hN
  clear hNO hYES hnn hk
  generalize mks K n d.length d = bs at *
  generalize mcO bs = O at *
  go_enter Tryz.func120, Tryz.ntmps120
  have hK0 : Bk (w.alloc (.cells #[.int .i64 o, .int .i64 l, .int .i64 m] 24)) w.heap.size 24 #[.int .i64 o, .int .i64 l, .int .i64 m] := tBk
  have g0 : Below w.heap.size w (w.alloc (.cells #[.int .i64 o, .int .i64 l, .int .i64 m] 24)) := zG
  go_upto_region 1 with (fail)
  generalize w.alloc (.cells #[.int .i64 o, .int .i64 l, .int .i64 m] 24) = w0 at *
  have hX0 := hK0.cell
  have hz0 := hK0.lt
  go_wp2_with fail
  refine (cS _).mono ?_
  rintro e w1 ⟨A1, c1, rfl, o1, hb1⟩
  have hz1 := hb1.size
  have g1 := g0.trans (hb1.mono (by omega))
  have hB2 := Bk.new w1 (knC K A1 c1) 102
  have o2 := o1.alloc (.cells (knC K A1 c1) 102)
  have g2 := g1.alloc (by omega) (.cells (knC K A1 c1) 102)
  clear hb1 hX0 hK0 g0 o1 g1 cS
  go_upto_region 2 with (fail)
  unfold knC at hB2 o2 g2
  generalize w1.alloc (.cells #[.int .i64 K.o, .int .i64 K.l, .int .i64 K.m, .slice A1 K.ps.length c1, .int .i64 K.base, .int .i64 K.last] 102) = W at *
  have hl2 := hB2.lt
  have zg2 := g2.size
  go_wp2_with fail
  refine (yY _ _).mono ?_
  rintro e w' ⟨rfl, rfl⟩
  rw [hdi]
  have s2 := Sl.own o2
  have hX2 := hB2.cell
  go_wp2_with fail
  refine (cM.out _ _ _ s2).mono ?_
  rintro e w3 ⟨A3, c3, rfl, o3, b3⟩
  have g3 := g2.trans (b3.mono (by omega))
  have s3 := Sl.own o3
  have z3 := b3.size
  clear cM s2 b3 o3 g2 hB2 hX2 o2
  go_wp2_with fail
  refine (cC.out _ _ _ s3).mono ?_
  rintro e w4 ⟨rfl, b4⟩
  have g4 := g3.trans (b4.mono (by omega))
  unfold yf
  go_wp2
  exact bodyPost_ret (v := .tuple #[sv (O.getD []), .bool O.isSome]) (by simp [results, Tryz.results120, go_sem]) rfl ⟨rfl, g4⟩
theorem eX (K : Kn) (Ak : Option Addr) (ck : Nat) (bs : List Blk) (A : Option Addr) (cap : Nat) (w : World) (hk : K.ok) (hks : Sl w Ak K.ps.length ck 2 (psV K.ps)) (hs : Sl w A bs.length cap 4 (zO bs)) (hok : ∀ b ∈ bs, b.ok = true) (hl : bs.length ≤ 100000) :
    Calls Tryz.prog 76 #[knV K Ak ck, .slice A bs.length cap] w fun e w' => e = yP (yw K bs) ∧ Below w.heap.size w w' := by
  have cL : Hid (∀ b w, b.ok = true → Sl w Ak K.ps.length ck 2 (psV K.ps) → Calls Tryz.prog 108 #[knV K Ak ck, bkV b] w fun e w' => e = yP (b.dat K) ∧ Below w.heap.size w w') := fun b w h hs => qC K Ak ck b w hk hs (by have := sH h; omega)
  clear hk
  have hcap := hs.1
  have hcap2 := hs.2.1
  have HOK := Go.Lib.hid hok
  clear hok
  have HSL : Hid (∀ wr, Below w.heap.size w wr → Sl wr A bs.length cap 4 (zO bs) ∧ Sl wr Ak K.ps.length ck 2 (psV K.ps)) := fun wr h => ⟨hs.below h, hks.below h⟩
  clear hs hks
  obtain ⟨R, hR⟩ : ∃ R, yw K bs = R := ⟨_, rfl⟩
  rw [hR]
  have HR := Go.Lib.hid hR
  clear hR
  go_enter Tryz.func76, Tryz.ntmps76
  have hK0 : Bk (w.alloc (.cells (knC K Ak ck) 102)) w.heap.size 102 (knC K Ak ck) := tBk
  have g0 : Below w.heap.size w (w.alloc (.cells (knC K Ak ck) 102)) := zG
  go_upto_region 1 with (fail)
  generalize w.alloc (.cells (knC K Ak ck) 102) = w0 at *
  have hz0 := hK0.lt
  have B0 := YU (w := w0) (B := w0.heap.size) (Nat.le_refl _)
  have b0 : Below w0.heap.size w0 (w0.alloc (.cells #[.pointer none, .slice none 0 0] 108)) := zG
  have HKB : Hid (∀ wr, Below w0.heap.size w0 wr → Bk wr w.heap.size 102 (knC K Ak ck) ∧ Below w.heap.size w wr) := fun wr h => ⟨hK0.below h hz0, g0.trans (h.mono (by omega))⟩
  clear hK0 g0
  have hsz : w0.heap.size ≤ (w0.alloc (.cells #[.pointer none, .slice none 0 0] 108)).heap.size := by simp
  obtain ⟨bb, hbb⟩ : ∃ bb, w0.heap.size = bb := ⟨_, rfl⟩
  rw [hbb] at B0 b0 HKB hz0 hsz
  go_wp2
  go_loopw [13] (fun i wr => ∃ (k : Nat) (X : Bs), i = .int .i64 (k : Int) ∧ k ≤ bs.length ∧ X.length ≤ 64 * k ∧ Hid (yw K (bs.take k) = some X) ∧ Go.Lib.IsBuilderF 108 5 bb bb (X.map u8v) wr ∧ Below bb w0 wr) (fun i _ => bs.length - (intOf i).toNat)
  case atStart => exact ⟨0, [], rfl, by omega, by simp, rfl, B0, b0⟩
  case round =>
    obtain ⟨k, X, rfl, hk, hX, HX, hB, hb⟩ := hrel
    clear B0 b0 hsz
    have hz := hb.size
    rw [hbb] at hz
    obtain ⟨hBk, hbw⟩ := HKB.out wr hb
    by_cases hlt : k < bs.length
    · have hki : (k : Int) < bs.length := by omega
      obtain ⟨hsA, hsK⟩ := HSL.out wr hbw
      obtain ⟨g, off, rfl, hg, hc⟩ := Sl.oI hsA hlt
      have hcs := tq bs k hlt
      have c0 := hc 0 _ hcs.1
      have c1 := hc 1 _ hcs.2.1
      have c2 := hc 2 _ hcs.2.2.1
      have c3 := hc 3 _ hcs.2.2.2
      have hbo := HOK.out bs[k] (List.getElem_mem hlt)
      have cD := fun w => cL.out bs[k] w hbo
      have HN : Hid (bs[k].dat K = none → R = none) := fun h => by rw [← HR.out]; exact lY hlt h
      have HS : Hid (∀ d, bs[k].dat K = some d → yw K (bs.take (k + 1)) = some (X ++ d)) := fun d h => kz hlt HX.out h
      have HL : Hid (∀ d, bs[k].dat K = some d → d.length ≤ 64) := fun d h => by have := vY hbo h; have := Blk.wG hbo; omega
      generalize bs[k].dat K = D at *
      generalize bs[k] = b at *
      obtain ⟨n2, r, n4, T⟩ := b
      simp only [Nat.add_zero] at c0 c1 c2 c3
      have hB1 := nT hB ((Below.refl _ wr).alloc (Nat.le_refl _) (.cells (bkC ⟨n2, r, n4, T⟩) 138))
      have hK1 := hBk.alloc (.cells (bkC ⟨n2, r, n4, T⟩) 138)
      have hN1 := Bk.new wr (bkC ⟨n2, r, n4, T⟩) 138
      have hs1 := hsK.alloc (.cells (bkC ⟨n2, r, n4, T⟩) 138)
      have g1 := hb.alloc hz (.cells (bkC ⟨n2, r, n4, T⟩) 138)
      clear hc hcs HX hbo hsA hsK hB hBk
      go_upto_region 5 with (fail)
      generalize wr.alloc (.cells _ 138) = W at *
      have hX1 := hK1.cell
      have hY1 := hN1.cell
      have hlN := hN1.lt
      clear c0 c1 c2 c3
      go_wp2_with fail
      refine (cD _ hs1).mono ?_
      rintro e w2 ⟨rfl, hb2⟩
      have z2 := hb2.size
      have hB2 := nT hB1 hb2
      have g2 := g1.trans (hb2.mono (by omega))
      clear cD hb2 hB1 hK1 hN1 hs1 g1 hX1 hY1
      cases D with
      | none =>
        have h := HN.out rfl
        subst h
        have gw := (HKB.out _ g2).2
        unfold yP
        go_wp2
        exact bodyPost_ret (v := .tuple #[sv [], .bool false]) (by simp [results, Tryz.results76, go_sem]) rfl ⟨rfl, gw⟩
      | some d =>
        have HX2 := Go.Lib.hid (HS.out d rfl)
        have hdl := HL.out d rfl
        have cW := aU bb bb (X.map u8v) d _ hB2 (by simp; omega) (by omega)
        have hxl : (X ++ d).length ≤ 64 * (k + 1) := by simp; omega
        have HXL := Go.Lib.hid hxl
        clear hxl HS HN HL
        unfold yP
        go_wp2_with fail
        refine cW.mono ?_
        rintro e w3 ⟨rfl, hB3, b3, k3⟩
        have g3 := g2.trans b3
        have hB4 : Go.Lib.IsBuilderF 108 5 bb bb ((X ++ d).map u8v) w3 := by rw [List.map_append]; exact .inr hB3
        have HB4 := Go.Lib.hid hB4
        clear cW hB3 b3 k3 hB2 hB4
        go_wp2
        go_roundw
        case rel => exact ⟨k + 1, X ++ d, by go_num, by omega, HXL.out, HX2, HB4.out, g3⟩
        case measure => simp [intOf]; omega
    · have hki : ¬ (k : Int) < bs.length := by omega
      have h : R = some X := by rw [← HR.out, ← HX.out, List.take_of_length_le (by omega)]
      subst h
      have cS := Tryz.Builder_String_any_k bb bb X wr (by unfold Go.Lib.byteCells; exact hB) hz
      go_wp2_with fail
      refine cS.mono ?_
      rintro e w3 ⟨rfl, _, b3, _⟩
      have gw := (HKB.out _ (hb.trans b3)).2
      clear cS b3 hb hB
      go_wp2
      exact bodyPost_ret (v := .tuple #[sv X, .bool true]) (by simp [results, Tryz.results76, go_sem]) rfl ⟨rfl, gw⟩
theorem kS (o l m : Int) (dict t : Bs) (w : World) (hdl : dict.length ≤ 9223372036854775807) (htl : t.length ≤ 1500000) :
    Calls Tryz.prog 42 #[.agg #[.int .i64 o, .int .i64 l, .int .i64 m], sv dict, sv t] w fun e w' => e = yP (cdB o l m dict t) ∧ Below w.heap.size w w' := by
  by_cases hf : fits o l m dict
  · have cS := fun w => uF o l m dict w hf
    have cB := fun w => vS t w htl
    have hk := xm hf
    have HNB : Hid (zM t = none → cdB o l m dict t = none) := fun h => YF h
    have HY : Hid (∀ bs, zM t = some bs → cdB o l m dict t = yw (zt o l m dict) bs) := fun bs h2 => uH hf h2
    have HOK : Hid (∀ bs, zM t = some bs → (∀ b ∈ bs, b.ok = true) ∧ bs.length ≤ 40) := fun bs h => ⟨xA h, (xh h).2⟩
    clear hf
    unfold pM at cS
    generalize cdB o l m dict t = R at *
    generalize zM t = BB at *
    generalize zt o l m dict = K at *
    go_enter Tryz.func42, Tryz.ntmps42
    have hK0 : Bk (w.alloc (.cells #[.int .i64 o, .int .i64 l, .int .i64 m] 24)) w.heap.size 24 #[.int .i64 o, .int .i64 l, .int .i64 m] := tBk
    have g0 : Below w.heap.size w (w.alloc (.cells #[.int .i64 o, .int .i64 l, .int .i64 m] 24)) := zG
    go_upto_region 1 with (fail)
    generalize w.alloc (.cells #[.int .i64 o, .int .i64 l, .int .i64 m] 24) = w0 at *
    have hX0 := hK0.cell
    have hz0 := hK0.lt
    go_wp2_with fail
    refine (cS _).mono ?_
    rintro e w1 ⟨A1, c1, rfl, o1, hb1⟩
    have hz1 := hb1.size
    have g1 := g0.trans (hb1.mono (by omega))
    have hB2 := Bk.new w1 (knC K A1 c1) 102
    have o2 := o1.alloc (.cells (knC K A1 c1) 102)
    have g2 := g1.alloc (by omega) (.cells (knC K A1 c1) 102)
    clear hb1 hX0 hK0 g0 o1 g1
    go_upto_region 2 with (fail)
    unfold knC at hB2 o2 g2
    generalize w1.alloc (.cells #[.int .i64 K.o, .int .i64 K.l, .int .i64 K.m, .slice A1 K.ps.length c1, .int .i64 K.base, .int .i64 K.last] 102) = W at *
    have hl2 := hB2.lt
    go_wp2_with fail
    refine (cB _).mono ?_
    rintro e w3 ⟨A3, c3, rfl, o3, hb3⟩
    have hz3 := hb3.size
    have hB3 := hB2.below hb3 hl2
    have g3 := g2.trans (hb3.mono (by have := g2.size; omega))
    have k3 := Sl.own (zf o2 hb3)
    have s3 := Wy o3
    have hX3 := hB3.cell
    clear hb3 o3 o2 g2 hB2 cB
    cases BB with
    | none =>
      have h := HNB.out rfl
      subst h
      go_wp2
      exact bodyPost_ret (v := .tuple #[sv [], .bool false]) (by simp [results, Tryz.results42, go_sem]) rfl ⟨rfl, g3⟩
    | some bs =>
      simp only [Option.getD_some, Option.isSome_some] at s3 ⊢
      have hE := HY.out bs rfl
      obtain ⟨h1, h2⟩ := HOK.out bs rfl
      have cA := eX K A1 c1 bs A3 c3 w3 hk k3 s3 h1 (by omega)
      rw [← hE] at cA
      clear HNB HY HOK h1 hk hE
      go_wp2_with fail
      refine cA.mono ?_
      rintro e w4 ⟨rfl, hb4⟩
      have g4 := g3.trans (hb4.mono (by have := g3.size; omega))
      unfold yP
      go_wp2
      exact bodyPost_ret (v := .tuple #[sv (R.getD []), .bool R.isSome]) (by simp [results, Tryz.results42, go_sem]) rfl ⟨rfl, g4⟩
  · have cS := fun w => qm o l m dict w hf hdl
    rw [U3 hf]
    clear hf
    go_enter Tryz.func42, Tryz.ntmps42
    have hK0 : Bk (w.alloc (.cells #[.int .i64 o, .int .i64 l, .int .i64 m] 24)) w.heap.size 24 #[.int .i64 o, .int .i64 l, .int .i64 m] := tBk
    have g0 : Below w.heap.size w (w.alloc (.cells #[.int .i64 o, .int .i64 l, .int .i64 m] 24)) := zG
    go_upto_region 1 with (fail)
    generalize w.alloc (.cells #[.int .i64 o, .int .i64 l, .int .i64 m] 24) = w0 at *
    have hX0 := hK0.cell
    have hz0 := hK0.lt
    go_wp2_with fail
    refine (cS _).mono ?_
    rintro e w1 ⟨rfl, hb1⟩
    have g1 := g0.trans (hb1.mono (by omega))
    have hz1 := g1.size
    go_wp2
    exact bodyPost_ret (v := .tuple #[sv [], .bool false]) (by simp [results, Tryz.results42, go_sem]) rfl ⟨rfl, zG⟩
end Go.Proofs.YtinncdollpajkaaGreat
