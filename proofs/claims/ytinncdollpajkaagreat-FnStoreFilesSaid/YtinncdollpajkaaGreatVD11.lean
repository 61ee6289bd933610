import Derived.Test.YtinncdollpajkaaGreatVD10
import Derived.Test.YtinncdollpajkaaGreatVR7
import Derived.Test.YtinncdollpajkaaGreatVS22
import Derived.Deep.Cut
import Derived.Test.YtinncdollpajkaaGreatVR13
import Derived.Test.YtinncdollpajkaaGreatVQ14
set_option linter.unusedVariables false
set_option linter.unusedSimpArgs false
set_option maxHeartbeats 8000000
namespace Go.Proofs.YtinncdollpajkaaGreat
open Go.RowKit
set_option maxRecDepth 100000
attribute [local go_sem high] zA zu zy zO zK zX zx zk zn zq zi zo yQ zC yf zD
theorem OO {T : Sto} (h : T = vX ∨ T.ok) : T.fs.length ≤ 6 ∧ T.dict.length ≤ 7000 ∧ (∀ f ∈ T.fs, f.1.length ≤ 100 ∧ f.2.length ≤ 3000) ∧ (T.fs = [] ∨ xH T.o T.l T.m) ∧ 0 ≤ T.l ∧ T.l ≤ 8 := by
 rcases h with rfl | h
 ·exact ⟨by simp [vX], by simp [vX], fun f hf => by simp [vX] at hf, .inl rfl, by simp [vX], by simp [vX]⟩
 ·refine ⟨h.2.1, by have := h.1.2.1; omega, fun f hf => ?_, .inr h.1.1, by have := h.1.1.2.1; omega, h.1.1.2.2.1⟩
  obtain ⟨i, hi, rfl⟩ := List.mem_iff_getElem.1 hf
  obtain ⟨h1, h2, _⟩ := h.2.2 i hi
  have := rq h1
  have := Vj h2
  omega
def DrS (w : World) (e : Ending) (w' : World) : Prop := (∃ T A cap, e = .returned (Sto.V T A cap) ∧ l9 T ∧ w'.ownsRow w.heap.size 40 2 (.slice A T.fs.length cap) T.fs.length (yj T.fs)) ∧ Below w.heap.size w w'
theorem ku (bs : Bs) (A : Option Addr) (cap : Nat) (w : World) (hs : Sl w A bs.length cap 1 (bs.map u8v)) :
  Calls Tryz.prog 43 #[.slice A bs.length cap] w (DrS w) := by
 unfold DrS
 go_enter Tryz.func43, Tryz.ntmps43
 have hZ0 := Bk.new w xw 27
 have gz : Below w.heap.size w (w.alloc (.cells xw 27)) := zH
 have hs0 := hs.below gz
 go_upto_region 1 with (fail)
 generalize w.alloc (.cells xw 27) = w0 at *
 have z0 := hZ0.lt
 go_wp2_with fail
 refine (WX bs A cap _ hs0).mono ?_
 rintro e w1 ⟨rfl, R1, hb1⟩
 have z1 := hb1.size
 have hZ1 := hZ0.below hb1 z0
 have g1 : zl w.heap.size w0.heap.size w w1 := yK (gz.trans (hb1.mono (by omega))) _
 clear hb1 hs hs0 hZ0 gz
 generalize hr0 : w0.heap.size = r at *
 have hrl := R1.lt
 go_wp2_with fail
 refine (XN r _ _ R1 (by omega)).mono ?_
 rintro e w2 ⟨⟨T, A2, c2, rfl, hT, o2⟩, R2, b2⟩
 obtain ⟨t1, t2, t3, t4, t5, t6⟩ := OO hT
 have t3' := fun f hf => (show _ ∧ _ from ⟨Nat.le_trans (t3 f hf).1 (show 100 ≤ 3000 by omega), (t3 f hf).2⟩)
 have z2 := b2.size
 have hZ2 := hZ1.zN b2 (by omega) (by omega)
 have g2 := g1.trans (b2.mono (by omega))
 clear b2 hZ1 R1 g1 hT
 go_wp2_with fail
 refine (dV r _ w1.heap.size T A2 c2 _ R2 (by omega) o2 (by omega) (by omega) t1 t2 t3' t4).mono ?_
 rintro e w3 ⟨⟨U, A3, c3, rfl, hU, o3⟩, R3, b3⟩
 have hZ3 := hZ2.zN b3 (by omega) (by omega)
 have g3 := g2.trans (b3.mono (by omega))
 have hFZ := hZ3.free
 have hYZ := hZ3.cell
 obtain ⟨Uo, Ul, Um, Ud, P⟩ := U
 simp only at o3
 clear b3 hZ2 g2 o2 R2
 go_wp2
 have Q := (wK hZ3 ⟨Uo, Ul, Um, Ud, P⟩ A3 c3).cell
 have gQ := uu g3 (b := w.heap.size) (Nat.le_refl _) ⟨Uo, Ul, Um, Ud, P⟩ A3 c3
 exact bodyPost_ret (v := Sto.V ⟨Uo, Ul, Um, Ud, P⟩ A3 c3) (by simp [results, Tryz.results43, go_sem, Q]) rfl ⟨⟨⟨Uo, Ul, Um, Ud, P⟩, A3, c3, rfl, hU, zF (uX o3 (b := w.heap.size) (by omega) ⟨Uo, Ul, Um, Ud, P⟩ A3 c3) (by omega)⟩, gQ.below (by omega)⟩
theorem mY (bs : Bs) (A : Option Addr) (cap : Nat) (w : World) (hs : Sl w A bs.length cap 1 (bs.map u8v)) :
  Calls Tryz.prog 15 #[.slice A bs.length cap] w (DrS w) := by
 have cD := fun w h => ku bs A cap w h
 unfold DrS at cD ⊢
 go_enter Tryz.func15, Tryz.ntmps15
 have hZ0 := Bk.new w xw 27
 have gz : Below w.heap.size w (w.alloc (.cells xw 27)) := zH
 have hs0 := hs.below gz
 go_upto_region 1 with (fail)
 generalize w.alloc (.cells xw 27) = w0 at *
 have z0 := hZ0.lt
 go_wp2_with fail
 refine (cD _ hs0).mono ?_
 rintro e w1 ⟨⟨U, A3, c3, rfl, hU, o3⟩, b1⟩
 have hZ3 := hZ0.below b1 z0
 have g3 := gz.trans (b1.mono (by omega))
 have hFZ := hZ3.free
 have hYZ := hZ3.cell
 obtain ⟨Uo, Ul, Um, Ud, P⟩ := U
 simp only at o3
 clear b1 hZ0 gz cD
 go_wp2
 have Q := (wK hZ3 ⟨Uo, Ul, Um, Ud, P⟩ A3 c3).cell
 have gQ := xJ g3 (b := w.heap.size) (Nat.le_refl _) ⟨Uo, Ul, Um, Ud, P⟩ A3 c3
 exact bodyPost_ret (v := Sto.V ⟨Uo, Ul, Um, Ud, P⟩ A3 c3) (by simp [results, Tryz.results15, go_sem, Q]) rfl ⟨⟨⟨Uo, Ul, Um, Ud, P⟩, A3, c3, rfl, hU, zF (uX o3 (b := w.heap.size) z0 ⟨Uo, Ul, Um, Ud, P⟩ A3 c3) (by omega)⟩, gQ⟩
theorem XA (o l m : Int) (dict t : Bs) (w : World) (hdl : dict.length ≤ 9223372036854775807) (htl : t.length ≤ 1500000) :
  Calls Tryz.prog 13 #[.agg #[.int .i64 o, .int .i64 l, .int .i64 m], sv dict, sv t] w fun e w' => e = .returned (sv ((cdB o l m dict t).getD [])) ∧ Below w.heap.size w w' := by
 have cD := fun w => uC o l m dict t w hdl htl
 unfold yZ at cD
 generalize cdB o l m dict t = O at *
 go_enter Tryz.func13, Tryz.ntmps13
 have hK0 : Bk (w.alloc (.cells #[.int .i64 o, .int .i64 l, .int .i64 m] 24)) w.heap.size 24 #[.int .i64 o, .int .i64 l, .int .i64 m] := tBk
 have g0 : Below w.heap.size w (w.alloc (.cells #[.int .i64 o, .int .i64 l, .int .i64 m] 24)) := zH
 go_upto_region 1 with (fail)
 generalize w.alloc (.cells #[.int .i64 o, .int .i64 l, .int .i64 m] 24) = w0 at *
 have hX0 := hK0.cell
 have hz0 := hK0.lt
 go_wp2_with fail
 refine (cD _).mono ?_
 rintro e w1 ⟨rfl, hb1⟩
 have g1 := g0.trans (hb1.mono (by omega))
 go_wp2
 go_ret
 exact ⟨rfl, g1⟩
theorem aK (l : Bs) (w : World) :
    Calls Tryz.prog 19 #[sv l] w fun e w' => e = .returned (sv (yC l)) ∧ w = w' := by
  cases l with
  | nil =>
    go_enter Tryz.func19, Tryz.ntmps19
    go_wp2
    go_ret
    exact ⟨rfl, rfl⟩
  | cons a r =>
    go_enter Tryz.func19, Tryz.ntmps19
    go_wp2
    go_ret
    exact ⟨rfl, rfl⟩
theorem XG (l : Bs) : ∃ a r, yC l = a :: r := by
 cases l with
 | nil => exact ⟨_, _, rfl⟩
 | cons a r => exact ⟨a, r, rfl⟩
theorem aC (bs : Bs) (A : Option Addr) (cap : Nat) (w : World) (hs : Sl w A bs.length cap 1 (bs.map u8v)) :
  Calls Tryz.prog 4 #[.slice A bs.length cap] w fun e w' => e = .returned (.bool true) ∧ Below w.heap.size w w' := by
 have cD := fun w h => mY bs A cap w h
 unfold DrS at cD
 go_enter Tryz.func4, Tryz.ntmps4
 by_cases hl0 : 1048576 < bs.length
 ·have hli : (1048576 : Int) < bs.length := by omega
  go_wp2
  go_ret
  exact ⟨rfl, Below.refl _ _⟩
 have hli0 : ¬ (1048576 : Int) < bs.length := by omega
 go_wp2_with fail
 refine (cD _ hs).mono ?_
 rintro e w1 ⟨⟨T, A1, c1, rfl, ⟨hT1, hT2, hT3⟩, o1⟩, b1⟩
 have z1 := b1.size
 have hT4 : ∀ f ∈ T.fs, f.1.length ≤ 1500000 ∧ f.2.length ≤ 1500000 := fun f hf => by have := hT3 f hf; omega
 have cP := fun A cap w h => fG T A cap w h (by omega) (by omega) hT4
 have cQ := fun A cap w h => iV T A cap w h (by omega) (by omega) hT4
 have cV := fun A cap w h => uD T A cap w h (by omega) (by omega) hT4
 have cZ := fun A cap w h => aZ T A cap w h (by omega) (by omega) hT4
 have cF := fun n A cap w h => VH T n A cap w h (by omega) (by omega) hT4
 clear hs cD hl0
 by_cases hok : T.ok
 case neg =>
  rw [Sto.Vy hok] at cP cQ
  rw [Sto.iI hok] at cV
  clear hok hT3 hT4 cZ cF
  obtain ⟨To, Tl, Tm, Td, P⟩ := T
  simp only at hT1 hT2 o1 cP cQ cV
  have hK2 := Bk.new w1 #[.int .i64 To, .int .i64 Tl, .int .i64 Tm, .string ⟨Td.toArray⟩, .slice A1 P.length c1] 27
  have o2 := World.ownsRow.alloc o1 (.cells #[.int .i64 To, .int .i64 Tl, .int .i64 Tm, .string ⟨Td.toArray⟩, .slice A1 P.length c1] 27)
  have g2 := b1.alloc (by omega) (.cells #[.int .i64 To, .int .i64 Tl, .int .i64 Tm, .string ⟨Td.toArray⟩, .slice A1 P.length c1] 27)
  clear b1 o1
  go_upto_region 4 with (fail)
  generalize w1.alloc (.cells #[.int .i64 To, .int .i64 Tl, .int .i64 Tm, .string ⟨Td.toArray⟩, .slice A1 P.length c1] 27) = w2 at *
  have l2 := hK2.lt
  have z2 := g2.size
  generalize w1.heap.size = bb at *
  have s2 := Sl.own o2
  have hX2 := hK2.cell
  have HD : Hid (∀ wr, Below w2.heap.size w2 wr → Bk wr bb 27 #[.int .i64 To, .int .i64 Tl, .int .i64 Tm, .string ⟨Td.toArray⟩, .slice A1 P.length c1] ∧ Sl wr A1 P.length c1 2 (yj P) ∧ Below w.heap.size w wr) := fun wr h => ⟨hK2.below h l2, s2.below h, g2.trans (h.mono (by omega))⟩
  clear hK2 o2 g2
  go_wp2_with fail
  refine (cP _ _ _ s2).mono ?_
  rintro e w3 ⟨rfl, b3⟩
  have z3 := b3.size
  obtain ⟨hK3, s3, _⟩ := HD.out _ b3
  have hX3 := hK3.cell
  clear hX2 s2 cP
  go_wp2_with fail
  refine (cQ _ _ _ s3).mono ?_
  rintro e w4 ⟨rfl, b4⟩
  have b4 := b3.trans (b4.mono z3)
  have z4 := b4.size
  obtain ⟨hK4, s4, _⟩ := HD.out _ b4
  have hX4 := hK4.cell
  clear hX3 s3 b3 hK3
  go_wp2_with fail
  refine (cV _ _ _ s4).mono ?_
  rintro e w5 ⟨rfl, b5⟩
  have b5 := b4.trans (b5.mono z4)
  have z5 := b5.size
  obtain ⟨hK5, s5, _⟩ := HD.out _ b5
  have hX5 := hK5.cell
  clear hX4 s4 b4 hK4
  go_wp2_with fail
  refine (cQ _ _ _ s5).mono ?_
  rintro e w6 ⟨rfl, b6⟩
  have b6 := b5.trans (b6.mono z5)
  have z6 := b6.size
  obtain ⟨hK6, s6, _⟩ := HD.out _ b6
  have hX6 := hK6.cell
  clear hX5 s5 b5 hK5
  go_wp2_with fail
  refine (cV _ _ _ s6).mono ?_
  rintro e w7 ⟨rfl, b7⟩
  have b7 := b6.trans (b7.mono z6)
  have g7 := (HD.out _ b7).2.2
  go_wp2
  go_ret
  exact ⟨rfl, g7⟩
 rw [show T.okB = true from (Sto.ug T).2 hok] at cV
 rw [Sto.Xo hok] at cZ
 have h6 := hok.2.1
 have HFT : Hid (∀ (k : Nat) (hk : k < T.fs.length), T.ft T.fs[k] = T.fs[k].1 ++ 32 :: yC (xM ((cdB T.o T.l T.m T.dict T.fs[k].2).getD []))) := fun k hk => rfl
 have HNL : Hid (∀ (k : Nat) (hk : k < T.fs.length), T.fs[k].1.length ≤ 8) := fun k hk => rJ (hok.2.2 k hk).1
 have HJB : Hid (∀ k, (join 59 ((T.fs.map T.ft).take k)).length ≤ 24066) := fun k => Sto.WY hok k
 have HMA : Hid (∀ (k : Nat) (hk : k < T.fs.length) (h : k < (T.fs.map T.ft).length), (T.fs.map T.ft)[k] = T.ft T.fs[k]) := fun k hk h => by simp
 have HFN : Hid (∀ (k : Nat) (hk : k < T.fs.length), T.file T.fs[k].1 = some T.fs[k].2) := fun k hk => Sto.Zp hok ((Ry hok _ k).2 ⟨hk, rfl⟩)
 have hml : (T.fs.map T.ft).length = T.fs.length := by simp
 have HSZ : Hid (∀ k, k < T.fs.length → fsz (T.fs.take (k + 1)) = fsz (T.fs.take k) + (((T.fs[k]?).map (·.2)).getD []).length) := fun k hk => by
  show _ = _
  rw [List.take_succ_eq_append_getElem hk, dL, List.getElem?_eq_getElem hk]; rfl
 have HSB : Hid (∀ k, 0 ≤ fsz (T.fs.take k) ∧ fsz (T.fs.take k) ≤ 1500000 * k) := fun k => Uf hT4 k
 obtain ⟨R, hR⟩ : ∃ R, T.fmt = R := ⟨_, rfl⟩
 rw [hR] at cP cQ
 rw [Sto.YS hok] at hR
 obtain ⟨ra, rr, hRc⟩ := XG (join 59 (T.fs.map T.ft))
 rw [hRc] at hR
 subst hR
 have HR := Go.Lib.hid hRc
 have HT3 := Go.Lib.hid hT3
 have cS : Hid (∀ t w, t.length ≤ 1500000 → Calls Tryz.prog 13 #[.agg #[.int .i64 T.o, .int .i64 T.l, .int .i64 T.m], sv T.dict, sv t] w fun e w' => e = .returned (sv ((cdB T.o T.l T.m T.dict t).getD [])) ∧ Below w.heap.size w w') := fun t w h => XA T.o T.l T.m T.dict t w (by omega) h
 clear hok hRc hT3 hT4
 generalize T.fs.map T.ft = ms at *
 generalize T.ft = ft at *
 generalize T.file = file at *
 obtain ⟨To, Tl, Tm, Td, P⟩ := T
 simp only at *
 have hK2 := Bk.new w1 #[.int .i64 To, .int .i64 Tl, .int .i64 Tm, .string ⟨Td.toArray⟩, .slice A1 P.length c1] 27
 have o2 := World.ownsRow.alloc o1 (.cells #[.int .i64 To, .int .i64 Tl, .int .i64 Tm, .string ⟨Td.toArray⟩, .slice A1 P.length c1] 27)
 have g2 := b1.alloc (by omega) (.cells #[.int .i64 To, .int .i64 Tl, .int .i64 Tm, .string ⟨Td.toArray⟩, .slice A1 P.length c1] 27)
 clear b1 o1
 go_upto_region 4 with (fail)
 generalize w1.alloc (.cells #[.int .i64 To, .int .i64 Tl, .int .i64 Tm, .string ⟨Td.toArray⟩, .slice A1 P.length c1] 27) = w2 at *
 have l2 := hK2.lt
 have z2 := g2.size
 generalize w1.heap.size = bb at *
 have s2 := Sl.own o2
 have hX2 := hK2.cell
 have HD : Hid (∀ wr, Below w2.heap.size w2 wr → Bk wr bb 27 #[.int .i64 To, .int .i64 Tl, .int .i64 Tm, .string ⟨Td.toArray⟩, .slice A1 P.length c1] ∧ Sl wr A1 P.length c1 2 (yj P) ∧ Below w.heap.size w wr) := fun wr h => ⟨hK2.below h l2, s2.below h, g2.trans (h.mono (by omega))⟩
 clear hK2 o2 g2
 go_wp2_with fail
 refine (cP _ _ _ s2).mono ?_
 rintro e w3 ⟨rfl, b3⟩
 have z3 := b3.size
 obtain ⟨hK3, s3, _⟩ := HD.out _ b3
 have hX3 := hK3.cell
 clear hX2 s2 cP
 go_wp2_with fail
 refine (cQ _ _ _ s3).mono ?_
 rintro e w4 ⟨rfl, b4⟩
 have b4 := b3.trans (b4.mono z3)
 have z4 := b4.size
 obtain ⟨hK4, s4, _⟩ := HD.out _ b4
 have hX4 := hK4.cell
 clear hX3 s3 b3 hK3 cQ
 go_wp2_with fail
 refine (cV _ _ _ s4).mono ?_
 rintro e w5 ⟨rfl, b5⟩
 have b5 := b4.trans (b5.mono z4)
 have z5 := b5.size
 clear hX4 s4 b4 hK4 cV
 go_wp2
 go_loopw [5, 6, 7] (fun a s i wr => ∃ (k : Nat) (X : Bs) (n : Int), a = sv X ∧ s = .int .i64 n ∧ i = .int .i64 (k : Int) ∧ k ≤ P.length ∧ X.length ≤ 24066 ∧ Hid (join 59 (ms.take k) = X) ∧ Hid (fsz (P.take k) = n) ∧ Below w2.heap.size w2 wr) (fun _ _ i _ => P.length - (intOf i).toNat)
 case atStart => exact ⟨0, [], 0, rfl, rfl, rfl, by omega, by simp, rfl, rfl, b5⟩
 case round =>
  obtain ⟨k, X, n, rfl, rfl, rfl, hk, hXl, HX, HN, hb⟩ := hrel
  clear b5
  have hz := hb.size
  obtain ⟨hK, sK, _⟩ := HD.out _ hb
  have hX := hK.cell
  by_cases hlt : k < P.length
  ·have hki : (k : Int) < P.length := by omega
-- ROUND
   have hkm : k < ms.length := by omega
   obtain ⟨g, off, hA, hg, d0, d1⟩ := sK.fl hlt
   have hbk := (HT3.out P[k] (List.getElem_mem hlt)).2
   have hn8 := HNL.out k hlt
   have hme := (HMA.out k hlt hkm).trans (HFT.out k hlt)
   have HJ2 := Go.Lib.hid (HJB.out (k + 1))
   have HS : Hid (join 59 (ms.take (k + 1)) = (if k = 0 then [] else X ++ [59]) ++ ms[k]) := by
    show _ = _
    by_cases h0 : k = 0
    ·subst h0; rw [if_pos rfl, aY hkm]; rfl
    ·rw [if_neg h0, aU hkm (by omega), HX.out]; simp
   rw [hme] at HS
   have HN2 : Hid (fsz (P.take (k + 1)) = n + P[k].2.length) := by
    show _ = _
    rw [HSZ.out k hlt, HN.out, List.getElem?_eq_getElem hlt]; rfl
   have hnb := HSB.out k
   rw [HN.out] at hnb
   obtain ⟨hn0, hn1⟩ := hnb
   have HEL : Hid (∀ W, Below w2.heap.size w2 W → W.cell? ⟨g, off + k * 2, none⟩ = some (.string ⟨P[k].1.toArray⟩) ∧ W.cell? ⟨g, off + k * 2 + 1, none⟩ = some (.string ⟨P[k].2.toArray⟩)) := fun W h => by
    obtain ⟨g', off', e, _, c, c'⟩ := (HD.out W h).2.1.fl hlt
    rw [hA] at e; injection e with e; injection e with e1 e2; subst e1 e2; exact ⟨c, c'⟩
   have cFk := fun w h => cF P[k].1 A1 c1 w h
   rw [HFN.out k hlt] at cFk
   simp only [yZ, Option.getD_some, Option.isSome_some] at cFk
   have HX0 : Hid (join 59 (ms.take k) = X) := HX
   clear hme HX HN cF
   generalize P[k].1 = nm at *
   generalize P[k].2 = tx at *
   subst hA
   have cD := fun w => cS.out tx w (by omega)
   have hdl := YT To Tl Tm Td tx
   obtain ⟨D, hD⟩ : ∃ D, (cdB To Tl Tm Td tx).getD [] = D := ⟨_, rfl⟩
   rw [hD] at HS hdl cD
   clear hD
   have hhl := qo D
   have cH := fun w => lJ D w (by omega)
   generalize xM D = hx at *
   have hol := qh hx
   have cO := fun w => aK hx w
   generalize yC hx = hy at *
   have hq5 : n + tx.length ≤ 9223372036854775807 := by omega
   have hq6 : -9223372036854775808 ≤ n + tx.length := by omega
   go_upto_region 12 with (fail)
   have hX0 := hX
   have dn0 := d0
   refine wp_region_held_drew (S := (fun w' => w'.cell? ⟨bb, 0, none⟩ = some (.int .i64 To) ∧ w'.cell? ⟨bb, 1, none⟩ = some (.int .i64 Tl) ∧ w'.cell? ⟨bb, 2, none⟩ = some (.int .i64 Tm) ∧ w'.cell? ⟨bb, 3, none⟩ = some (.string ⟨Td.toArray⟩) ∧ w'.cell? ⟨bb, 4, none⟩ = some (.slice (some ⟨g, off, none⟩) P.length c1) ∧ w'.cell? ⟨g, off + k * 2, none⟩ = some (.string ⟨nm.toArray⟩))) (by kernel_rfl) ?_ (fun hSS => ?_)
   focus (exact ⟨hX0 0, hX0 1, hX0 2, hX0 3, hX0 4, dn0⟩)
   refine tk 0 ?_
   try simp only [Act.put, u2, u3, u4]
   refine tk 1 ?_
   try simp only [Act.put, u2, u3, u4]
   refine tk 2 ?_
   try simp only [Act.put, u2, u3, u4]
   refine tk 3 ?_
   try simp only [Act.put, u2, u3, u4]
   refine tk 4 ?_
   try simp only [Act.put, u2, u3, u4]
   refine tk 5 ?_
   try simp only [Act.put, u2, u3, u4]
   refine tk 6 ?_
   try simp only [Act.put, u2, u3, u4]
   refine rd1 7 fun KK hKK => ?_
   go_simp
   (go_at_call 12; refine (cFk _ (HD.out _ (Below.drew hb)).2.1).mono ?_; rintro e w6 ⟨rfl, b6⟩; have B6 := hb.trans ((zL b6).mono hz); have hX6 := (HD.out _ B6).1.cell; have dn6 := (HEL.out _ B6).1; have z6 := B6.size)
   refine hKK.out _ _ (by exact ⟨hX6 0, hX6 1, hX6 2, hX6 3, hX6 4, dn6⟩) fun hSS => ?_
   try simp only [Act.put, u2, u3, u4]
   refine tk 8 ?_
   try simp only [Act.put, u2, u3, u4]
   refine tk 9 ?_
   try simp only [Act.put, u2, u3, u4]
   refine tk 10 ?_
   try simp only [Act.put, u2, u3, u4]
   refine tk 11 ?_
   try simp only [Act.put, u2, u3, u4]
   refine tk 12 ?_
   try simp only [Act.put, u2, u3, u4]
   refine wpAnyH_done (by kernel_rfl) ?_ _
   have e6 := (HEL.out _ B6).2
   clear hX hX0 dn0 d0 d1 sK hK b6
   rcases Nat.eq_zero_or_pos k with rfl | hk0
   ·rw [if_pos rfl] at HS
    simp only [Nat.zero_mul, Nat.add_zero] at dn6 HEL
    have hk0i : ¬ (0 : Int) < ((0 : Nat) : Int) := by omega
    have hq1 : ¬ 9223372036854775807 < X.length + nm.length := by omega
    have hq2 : ¬ 9223372036854775807 < X.length + nm.length + 1 := by omega
    have hq3 : ¬ 9223372036854775807 < X.length + (nm.length + 1) + hy.length := by omega
    go_upto_region 18 with (fail)
    refine wp_region_held_drew (S := (fun w' => w'.cell? ⟨bb, 0, none⟩ = some (.int .i64 To) ∧ w'.cell? ⟨bb, 1, none⟩ = some (.int .i64 Tl) ∧ w'.cell? ⟨bb, 2, none⟩ = some (.int .i64 Tm) ∧ w'.cell? ⟨bb, 3, none⟩ = some (.string ⟨Td.toArray⟩) ∧ w'.cell? ⟨bb, 4, none⟩ = some (.slice (some ⟨g, off, none⟩) P.length c1) ∧ w'.cell? ⟨g, off, none⟩ = some (.string ⟨nm.toArray⟩))) (by kernel_rfl) ?_ (fun hSS => ?_)
    focus (exact ⟨hX6 0, hX6 1, hX6 2, hX6 3, hX6 4, dn6⟩)
    refine tk 0 ?_
    try simp only [Act.put, u2, u3, u4]
    refine tk 1 ?_
    try simp only [Act.put, u2, u3, u4]
    refine tk 2 ?_
    try simp only [Act.put, u2, u3, u4]
    refine tk 3 ?_
    try simp only [Act.put, u2, u3, u4]
    refine tk 4 ?_
    try simp only [Act.put, u2, u3, u4]
    refine tk 5 ?_
    try simp only [Act.put, u2, u3, u4]
    refine tk 6 ?_
    try simp only [Act.put, u2, u3, u4]
    refine tk 7 ?_
    try simp only [Act.put, u2, u3, u4]
    refine tk 8 ?_
    try simp only [Act.put, u2, u3, u4]
    refine tk 9 ?_
    try simp only [Act.put, u2, u3, u4]
    refine tk 10 ?_
    try simp only [Act.put, u2, u3, u4]
    refine tk 11 ?_
    try simp only [Act.put, u2, u3, u4]
    refine tk 12 ?_
    try simp only [Act.put, u2, u3, u4]
    refine tk 13 ?_
    try simp only [Act.put, u2, u3, u4]
    refine rd1 14 fun KK hKK => ?_
    go_simp
    (go_at_call 13; refine (cD _).mono ?_; rintro e w7 ⟨rfl, b7⟩; have B7 := B6.trans ((zL b7).mono z6); have hX7 := (HD.out _ B7).1.cell; have dn7 := (HEL.out _ B7).1; have z7 := B7.size)
    refine hKK.out _ _ (by exact ⟨hX7 0, hX7 1, hX7 2, hX7 3, hX7 4, dn7⟩) fun hSS => ?_
    try simp only [Act.put, u2, u3, u4]
    refine rd1 15 fun KK hKK => ?_
    go_simp
    (go_at_call 20; refine (cH _).mono ?_; rintro e w8 ⟨rfl, b8⟩; have B8 := B7.trans (b8.mono z7); have hX8 := (HD.out _ B8).1.cell; have dn8 := (HEL.out _ B8).1; have z8 := B8.size)
    refine hKK.out _ _ (by exact ⟨hX8 0, hX8 1, hX8 2, hX8 3, hX8 4, dn8⟩) fun hSS => ?_
    try simp only [Act.put, u2, u3, u4]
    refine rd1 16 fun KK hKK => ?_
    go_simp
    (go_at_call 19; refine (cO _).mono ?_; rintro e w' ⟨rfl, rfl⟩)
    refine hKK.out _ _ (by exact ⟨hX8 0, hX8 1, hX8 2, hX8 3, hX8 4, dn8⟩) fun hSS => ?_
    try simp only [Act.put, u2, u3, u4]
    refine tk 17 ?_
    try simp only [Act.put, u2, u3, u4]
    refine tk 18 ?_
    try simp only [Act.put, u2, u3, u4]
    refine wpAnyH_done (by kernel_rfl) ?_ _
    have HE : Hid (X ++ nm ++ [32] ++ hy = join 59 (ms.take (0 + 1))) := by
     have hXe : X = [] := by rw [← HX0.out]; rfl
     show _ = _
     rw [HS.out]; simp; exact hXe
    go_wp2
    go_roundw
    case rel => exact ⟨0 + 1, _, _, rfl, rfl, by go_num, by omega, by have := HJ2.out; rw [← HE.out] at this; simpa using this, by show _ = _; rw [← HE.out]; simp, HN2, B8⟩
    case measure => simp [intOf]; omega
   ·rw [if_neg (by omega)] at HS
    have hk0i : (0 : Int) < (k : Int) := by omega
    have hq0 : ¬ 9223372036854775807 < X.length + 1 := by omega
    have hq1 : ¬ 9223372036854775807 < X.length + 1 + nm.length := by omega
    have hq2 : ¬ 9223372036854775807 < X.length + 1 + nm.length + 1 := by omega
    have hq2b : ¬ 9223372036854775807 < X.length + (nm.length + 1) + 1 := by omega
    have hq3 : ¬ 9223372036854775807 < X.length + (nm.length + 1 + 1) + hy.length := by omega
    go_upto_region 18 with (fail)
    refine wp_region_held_drew (S := (fun w' => w'.cell? ⟨bb, 0, none⟩ = some (.int .i64 To) ∧ w'.cell? ⟨bb, 1, none⟩ = some (.int .i64 Tl) ∧ w'.cell? ⟨bb, 2, none⟩ = some (.int .i64 Tm) ∧ w'.cell? ⟨bb, 3, none⟩ = some (.string ⟨Td.toArray⟩) ∧ w'.cell? ⟨bb, 4, none⟩ = some (.slice (some ⟨g, off, none⟩) P.length c1) ∧ w'.cell? ⟨g, off + k * 2, none⟩ = some (.string ⟨nm.toArray⟩))) (by kernel_rfl) ?_ (fun hSS => ?_)
    focus (exact ⟨hX6 0, hX6 1, hX6 2, hX6 3, hX6 4, dn6⟩)
    refine tk 0 ?_
    try simp only [Act.put, u2, u3, u4]
    refine tk 1 ?_
    try simp only [Act.put, u2, u3, u4]
    refine tk 2 ?_
    try simp only [Act.put, u2, u3, u4]
    refine tk 3 ?_
    try simp only [Act.put, u2, u3, u4]
    refine tk 4 ?_
    try simp only [Act.put, u2, u3, u4]
    refine tk 5 ?_
    try simp only [Act.put, u2, u3, u4]
    refine tk 6 ?_
    try simp only [Act.put, u2, u3, u4]
    refine tk 7 ?_
    try simp only [Act.put, u2, u3, u4]
    refine tk 8 ?_
    try simp only [Act.put, u2, u3, u4]
    refine tk 9 ?_
    try simp only [Act.put, u2, u3, u4]
    refine tk 10 ?_
    try simp only [Act.put, u2, u3, u4]
    refine tk 11 ?_
    try simp only [Act.put, u2, u3, u4]
    refine tk 12 ?_
    try simp only [Act.put, u2, u3, u4]
    refine tk 13 ?_
    try simp only [Act.put, u2, u3, u4]
    refine rd1 14 fun KK hKK => ?_
    go_simp
    (go_at_call 13; refine (cD _).mono ?_; rintro e w7 ⟨rfl, b7⟩; have B7 := B6.trans ((zL b7).mono z6); have hX7 := (HD.out _ B7).1.cell; have dn7 := (HEL.out _ B7).1; have z7 := B7.size)
    refine hKK.out _ _ (by exact ⟨hX7 0, hX7 1, hX7 2, hX7 3, hX7 4, dn7⟩) fun hSS => ?_
    try simp only [Act.put, u2, u3, u4]
    refine rd1 15 fun KK hKK => ?_
    go_simp
    (go_at_call 20; refine (cH _).mono ?_; rintro e w8 ⟨rfl, b8⟩; have B8 := B7.trans (b8.mono z7); have hX8 := (HD.out _ B8).1.cell; have dn8 := (HEL.out _ B8).1; have z8 := B8.size)
    refine hKK.out _ _ (by exact ⟨hX8 0, hX8 1, hX8 2, hX8 3, hX8 4, dn8⟩) fun hSS => ?_
    try simp only [Act.put, u2, u3, u4]
    refine rd1 16 fun KK hKK => ?_
    go_simp
    (go_at_call 19; refine (cO _).mono ?_; rintro e w' ⟨rfl, rfl⟩)
    refine hKK.out _ _ (by exact ⟨hX8 0, hX8 1, hX8 2, hX8 3, hX8 4, dn8⟩) fun hSS => ?_
    try simp only [Act.put, u2, u3, u4]
    refine tk 17 ?_
    try simp only [Act.put, u2, u3, u4]
    refine tk 18 ?_
    try simp only [Act.put, u2, u3, u4]
    refine wpAnyH_done (by kernel_rfl) ?_ _
    have HE : Hid ((X ++ [59]) ++ nm ++ [32] ++ hy = join 59 (ms.take (k + 1))) := by
     skip
     show _ = _
     rw [HS.out]; simp
    go_wp2
    go_roundw
    case rel => exact ⟨k + 1, _, _, rfl, rfl, by go_num, by omega, by have := HJ2.out; rw [← HE.out] at this; simpa using this, by show _ = _; rw [← HE.out]; simp, HN2, B8⟩
    case measure => simp [intOf]; omega
-- END
  ·have hki : ¬ (k : Int) < P.length := by omega
   have hR : yC X = ra :: rr := by rw [← HR.out, ← HX.out, List.take_of_length_le (by omega)]
   have hn : n = fsz P := by rw [← HN.out, List.take_of_length_le (by omega)]
   have cO := fun w => aK X w
   rw [hR] at cO
   rw [← hn] at cZ
   clear hR hn
   go_wp2_with fail
   refine (cO _).mono ?_
   rintro e w' ⟨rfl, rfl⟩
   go_wp2_with fail
   refine (cZ _ _ _ sK).mono ?_
   rintro e w7 ⟨rfl, b7⟩
   have b7 := hb.trans (b7.mono hz)
   have g7 := (HD.out _ b7).2.2
   go_wp2
   go_ret
   exact ⟨rfl, g7⟩
end Go.Proofs.YtinncdollpajkaaGreat
