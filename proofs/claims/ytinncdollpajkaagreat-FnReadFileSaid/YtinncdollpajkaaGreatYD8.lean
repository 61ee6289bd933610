import Derived.Test.YtinncdollpajkaaGreatYS30
import Derived.Test.YtinncdollpajkaaGreatYD4
import Derived.Test.YtinncdollpajkaaGreatYGD2
import Derived.Deep.RegionHeld3
import Derived.Deep.Cut
set_option linter.unusedVariables false
set_option linter.unusedSimpArgs false
set_option maxHeartbeats 8000000
namespace Go.Proofs.YtinncdollpajkaaGreat
open Go.RowKit
set_option maxRecDepth 100000
attribute [local go_sem high] zu zx zy zO zL zX zA zk zn zo zi zq yR zD yh zC
theorem Tc {o l m : Int} {dict log L : Bs} {x : OpR} (h : apL o l m dict log x = some L) : L.length ≤ 30000 := by
  unfold apL at h
  cases hR : mV o l m dict log with
  | none => rw [hR] at h; cases h
  | some p =>
    rw [hR, Option.bind_some] at h
    split at h
    · rename_i hc; injection h with h; rw [← h, List.length_append]; exact hc.2.2.1
    · cases h
theorem Tz (r M : Nat) (w : World) (hR : Rd w r M) (hM : M ≤ 10000000) :
    Calls Tryz.prog 98 #[.pointer (some ⟨r, 0, none⟩)] w fun e w' => (∃ (o l m : Int) (dict log : Bs), e = .returned (.tuple #[.agg #[.int .i64 o, .int .i64 l, .int .i64 m], sv dict, sv log]) ∧ xH o l m ∧ dict.length ≤ 40 ∧ log.length ≤ 30000) ∧ Rd w' r (M + 1000) ∧ zl w.heap.size r w w' := by
  have hr := hR.lt
  have K0_0 := Bk.new w #[.int .i64 0, .int .i64 0, .int .i64 0] 24
  have R0 := hR.alloc (.cells #[.int .i64 0, .int .i64 0, .int .i64 0] 24)
  have g0 : zl w.heap.size r w (w.alloc (.cells #[.int .i64 0, .int .i64 0, .int .i64 0] 24)) := yG zG r
  go_enter Tryz.func98, Tryz.ntmps98
  go_wp2_with fail
  refine (XL r M _ R0 (by omega)).mono ?_
  rintro e w1 ⟨⟨o, l, m, dict, rfl, hst, hdl⟩, R1, b1⟩
  have z1 := b1.size
  try simp only [World.size_alloc, World.size_setCell, World.size_drew] at z1
  have K0_1 := K0_0.zJ b1 (by first | omega | (simp; done) | (simp; omega)) (by omega)
  have g1 := g0.trans (b1.mono (by first | omega | (simp; done) | (simp; omega)))
  clear b1 g0 K0_0
  have K1 := Bk.new w1 #[.int .i64 o, .int .i64 l, .int .i64 m] 24
  have K0 := K0_1.alloc (.cells #[.int .i64 o, .int .i64 l, .int .i64 m] 24)
  have R2 := R1.alloc (.cells #[.int .i64 o, .int .i64 l, .int .i64 m] 24)
  have g2 := g1.alloc (by omega) (.cells #[.int .i64 o, .int .i64 l, .int .i64 m] 24)
  have hz0 : w.heap.size < w1.heap.size := K0_1.lt
  have l1 := K1.lt
  have l0 := K0.lt
  go_upto_region 3 with (fail)
  clear R1 g1 K0_1
  generalize w1.alloc (.cells #[.int .i64 o, .int .i64 l, .int .i64 m] 24) = w2 at *
  generalize w1.heap.size = bb at *
  go_wp2_with fail
  refine (pick_any r _ 7 _ R2 (by omega) (by omega) (by omega)).mono ?_
  rintro e w3 ⟨⟨n0, rfl, hn0, hn1⟩, R3, b3⟩
  have z3 := b3.size
  have K1_3 := K1.zJ b3 l1 (by omega)
  have K0_3 := K0.zJ b3 l0 (by omega)
  have g3 := g2.trans (b3.mono (by omega))
  obtain ⟨n, rfl⟩ := Int.eq_ofNat_of_zero_le hn0
  have hnm : n ≤ 6 := by omega
  clear hn0 hn1 K1 K0 R2 g2 b3
  go_wp2
  go_loopw [7, 8] (fun x a wr => ∃ (k c : Nat) (log : Bs), x = .string ⟨log.toArray⟩ ∧ a = .int .i64 (k : Int) ∧ c + k = n ∧ log.length ≤ 30000 ∧ Rd wr r (M + 120 + 100 * c) ∧ zl w.heap.size r w wr ∧ Bk wr w.heap.size 24 #[.int .i64 0, .int .i64 0, .int .i64 0] ∧ Bk wr bb 24 #[.int .i64 o, .int .i64 l, .int .i64 m]) (fun _ a _ => (intOf a).toNat)
  case atStart => exact ⟨n, 0, [], rfl, rfl, by omega, by simp, R3.mono (by omega), g3, K0_3, K1_3⟩
  case round =>
    obtain ⟨k, c, log, rfl, rfl, hck, hll, R4, g4, K0_4, K1_4⟩ := hrel
    clear R3 g3 K0_3 K1_3
    have z4 := g4.size
    have l14 := K1_4.lt
    have hX := K1_4.cell
    by_cases hk : 0 < k
    · have hki : (0 : Int) < k := by omega
      go_upto_region 6 with (fail)
      refine wp_region_held_drew (S := (fun w' => w'.cell? ⟨bb, 0, none⟩ = some (.int .i64 o) ∧ w'.cell? ⟨bb, 1, none⟩ = some (.int .i64 l) ∧ w'.cell? ⟨bb, 2, none⟩ = some (.int .i64 m))) (by kernel_rfl) ?_ (fun hSS => ?_)
      focus ((refine ⟨?_, ?_, ?_⟩; all_goals first | (simp [hX8]; done) | (simp [hX7]; done) | (simp [hX]; done)))
      refine tk 0 ?_
      try simp only [Act.put, u2, u3, u4]
      refine tk 1 ?_
      try simp only [Act.put, u2, u3, u4]
      refine tk 2 ?_
      try simp only [Act.put, u2, u3, u4]
      refine tk 3 ?_
      try simp only [Act.put, u2, u3, u4]
      refine tk 4 ?_
      try simp only [Act.put, u2, u3, u4]
      refine rd1 5 fun KK hKK => ?_
      go_simp
      (go_at_call 64; refine (RG r _ o l m _ R4.drew (by omega) hst).mono ?_; rintro e w7 ⟨⟨x, rfl, hsm⟩, R7, b7⟩; have z7 : wr.heap.size ≤ w7.heap.size := b7.size; have K1_7 := K1_4.drew.zJ b7 l14 (by omega); have K0_7 := K0_4.drew.zJ b7 (by show _ < wr.heap.size; omega) (by omega); have g7 := g4.drew.trans (b7.mono (by show _ ≤ wr.heap.size; omega)); have hX7 := K1_7.cell; have hs1 := hsm.1; have hs2 := hsm.2)
      refine hKK.out _ _ (by (refine ⟨?_, ?_, ?_⟩; all_goals first | (simp [hX8]; done) | (simp [hX7]; done) | (simp [hX]; done))) fun hSS => ?_
      try simp only [Act.put, u2, u3, u4]
      refine rd1 6 fun KK hKK => ?_
      go_simp
      (go_at_call 125; refine (dL o l m dict log x _ (by omega) (by omega) (by omega) (by omega)).mono ?_; rintro e w8 ⟨rfl, b8⟩; have z8 := b8.size; have K1_8 := K1_7.below b8 (by omega); have K0_8 := K0_7.below b8 (by omega); have R8 := R7.keep b8; have g8 := g7.trans (yG (b8.mono (by omega)) r); have hX8 := K1_8.cell; (have hsh := fun L h => Tc (o := o) (l := l) (m := m) (dict := dict) (log := log) (x := x) (L := L) h); generalize apL o l m dict log x = G at *; have HSH := Go.Lib.hid hsh; clear hsh; unfold xy)
      refine hKK.out _ _ (by (refine ⟨?_, ?_, ?_⟩; all_goals first | (simp [hX8]; done) | (simp [hX7]; done) | (simp [hX]; done))) fun hSS => ?_
      try simp only [Act.put, u2, u3, u4]
      refine tk 7 ?_
      try simp only [Act.put, u2, u3, u4]
      refine tk 8 ?_
      try simp only [Act.put, u2, u3, u4]
      refine tk 9 ?_
      try simp only [Act.put, u2, u3, u4]
      refine tk 10 ?_
      try simp only [Act.put, u2, u3, u4]
      refine tk 11 ?_
      try simp only [Act.put, u2, u3, u4]
      refine wpAnyH_done (by kernel_rfl) ?_ _
      have R8' := R8.mono (show _ ≤ M + 120 + 100 * (c + 1) by omega)
      clear hKK hX hX7 hX8 R4 R7 R8 K1_7 K0_7 g7 b8 b7
      cases G with
      | none =>
        simp only [Option.isSome_none]
        go_wp2
        go_roundw
        case rel => exact ⟨k - 1, c + 1, log, rfl, by go_num, by omega, hll, R8', g8, K0_8, K1_8⟩
        case measure => simp [intOf]; omega
      | some L =>
        have hL := HSH.out L rfl
        simp only [Option.isSome_some, Option.getD_some]
        go_wp2
        go_roundw
        case rel => exact ⟨k - 1, c + 1, L, rfl, by go_num, by omega, hL, R8', g8, K0_8, K1_8⟩
        case measure => simp [intOf]; omega
    · have hki : ¬ (0 : Int) < k := by omega
      have hF := K0_4.free
      have hY := K0_4.cell
      go_wp2
      have Q := (((K0_4.set 0 (.int .i64 o)).set 1 (.int .i64 l)).set 2 (.int .i64 m)).cell
      have R9 : Rd (((wr.setCell ⟨w.heap.size, 0, none⟩ (.int .i64 o)).setCell ⟨w.heap.size, 1, none⟩ (.int .i64 l)).setCell ⟨w.heap.size, 2, none⟩ (.int .i64 m)) r (M + 1000) := Rd.far (Rd.far (Rd.far (R4.mono (by omega)) hr _) hr _) hr _
      have g9 : zl w.heap.size r w (((wr.setCell ⟨w.heap.size, 0, none⟩ (.int .i64 o)).setCell ⟨w.heap.size, 1, none⟩ (.int .i64 l)).setCell ⟨w.heap.size, 2, none⟩ (.int .i64 m)) := zl.setCell (zl.setCell (zl.setCell g4 (.inr (Nat.le_refl _)) _) (.inr (Nat.le_refl _)) _) (.inr (Nat.le_refl _)) _
      exact bodyPost_ret (v := .tuple #[.agg #[.int .i64 o, .int .i64 l, .int .i64 m], sv dict, sv log]) (by simp [results, Tryz.results98, go_sem, Q]) rfl ⟨⟨o, l, m, dict, log, rfl, hst, hdl, hll⟩, R9, g9⟩
def PO (r M : Nat) (w : World) (e : Ending) (w' : World) : Prop := (∃ T A cap, e = .returned (Sto.V T A cap) ∧ (T = vX ∨ T.ok) ∧ w'.ownsRow w.heap.size 40 2 (.slice A T.fs.length cap) T.fs.length (yf T.fs)) ∧ Rd w' r M ∧ zl w.heap.size r w w'
theorem ag {w : World} {r M b : Nat} (h : Rd w r M) (hb : r < b) (S : Sto) (A : Option Addr) (cap : Nat) : Rd (stW w b S A cap) r M :=
 Rd.far (Rd.far (Rd.far (Rd.far (Rd.far h (p := ⟨b, 0, none⟩) hb _) (p := ⟨b, 1, none⟩) hb _) (p := ⟨b, 2, none⟩) hb _) (p := ⟨b, 3, none⟩) hb _) (p := ⟨b, 4, none⟩) hb _
theorem uy {w0 w : World} {r B b : Nat} (h : zl B r w0 w) (hb : B ≤ b) (S : Sto) (A : Option Addr) (cap : Nat) : zl B r w0 (stW w b S A cap) :=
 ((((h.setCell (p := ⟨b, 0, none⟩) (.inr hb) _).setCell (p := ⟨b, 1, none⟩) (.inr hb) _).setCell (p := ⟨b, 2, none⟩) (.inr hb) _).setCell (p := ⟨b, 3, none⟩) (.inr hb) _).setCell (p := ⟨b, 4, none⟩) (.inr hb) _
theorem PE {o l m : Int} {dict log : Bs} : ((mV o l m dict log).map (·.1)).getD vX = vX ∨ (((mV o l m dict log).map (·.1)).getD vX).ok := by
  cases h : mV o l m dict log with
  | none => exact .inl rfl
  | some p =>
    obtain ⟨T, n⟩ := p
    obtain ⟨b, xs, _, hF⟩ := Zz h
    exact .inr hF.ok.1
theorem Xc (r M : Nat) (w : World) (hR : Rd w r M) (hM : M ≤ 10000000) :
  Calls Tryz.prog 63 #[.pointer (some ⟨r, 0, none⟩)] w (PO r (M + 1000) w) := by
 have hr := hR.lt
 have K0_0 := Bk.new w xg 27
 have R0 := hR.alloc (.cells xg 27)
 have g0 : zl w.heap.size r w (w.alloc (.cells xg 27)) := yG zG r
 unfold PO
 go_enter Tryz.func63, Tryz.ntmps63
 go_wp2_with fail
 refine (Tz r M _ R0 (by omega)).mono ?_
 rintro e w1 ⟨⟨o, l, m, dict, log, rfl, hst, hdl, hll⟩, R1, b1⟩
 have z1 := b1.size
 try simp only [World.size_alloc, World.size_setCell, World.size_drew] at z1
 have K0_1 := K0_0.zJ b1 (by first | omega | (simp; done) | (simp; omega)) (by omega)
 have g1 := g0.trans (b1.mono (by first | omega | (simp; done) | (simp; omega)))
 clear b1 g0 K0_0
 have K1 := Bk.new w1 #[.int .i64 o, .int .i64 l, .int .i64 m] 24
 have K0 := K0_1.alloc (.cells #[.int .i64 o, .int .i64 l, .int .i64 m] 24)
 have R2 := R1.alloc (.cells #[.int .i64 o, .int .i64 l, .int .i64 m] 24)
 have g2 := g1.alloc (by omega) (.cells #[.int .i64 o, .int .i64 l, .int .i64 m] 24)
 have hz0 : w.heap.size < w1.heap.size := K0_1.lt
 have l0 := K0.lt
 have hX := K1.cell
 go_upto_region 2 with (fail)
 clear R1 g1 K0_1
 generalize w1.alloc (.cells #[.int .i64 o, .int .i64 l, .int .i64 m] 24) = w2 at *
 generalize w1.heap.size = bb at *
 have cR := nN o l m dict log w2 (by omega) (by omega)
 have hT := PE (o := o) (l := l) (m := m) (dict := dict) (log := log)
 unfold PH at cR
 generalize ((mV o l m dict log).map (·.1)).getD vX = T at *
 generalize ((mV o l m dict log).map (·.2)).getD 0 = tn at *
 generalize (mV o l m dict log).isSome = tb at *
 have HT := Go.Lib.hid hT
 clear hT
 obtain ⟨Uo, Ul, Um, Ud, P⟩ := T
 go_wp2_with fail
 refine cR.mono ?_
 rintro e w3 ⟨A3, c3, rfl, o3, b3⟩
 have z3 := b3.size
 have K0_3 := K0.below b3 l0
 have R3 := R2.keep b3
 have g3 := g2.trans (yG (b3.mono (by omega)) r)
 simp only at o3
 have o3 := zF (B' := w.heap.size + 1) o3 (by omega)
 have K4 := K0_3.alloc (.cells #[.int .i64 Uo, .int .i64 Ul, .int .i64 Um, .string ⟨Ud.toArray⟩, .slice A3 P.length c3] 27)
 have R4 := R3.alloc (.cells #[.int .i64 Uo, .int .i64 Ul, .int .i64 Um, .string ⟨Ud.toArray⟩, .slice A3 P.length c3] 27)
 have o4 := World.ownsRow.alloc o3 (.cells #[.int .i64 Uo, .int .i64 Ul, .int .i64 Um, .string ⟨Ud.toArray⟩, .slice A3 P.length c3] 27)
 have g4 := g3.alloc (by omega) (.cells #[.int .i64 Uo, .int .i64 Ul, .int .i64 Um, .string ⟨Ud.toArray⟩, .slice A3 P.length c3] 27)
 have D4 : Bk (w3.alloc (.cells #[.int .i64 Uo, .int .i64 Ul, .int .i64 Um, .string ⟨Ud.toArray⟩, .slice A3 P.length c3] 27)) w3.heap.size 27 #[.int .i64 Uo, .int .i64 Ul, .int .i64 Um, .string ⟨Ud.toArray⟩, .slice A3 P.length c3] := Bk.new w3 #[.int .i64 Uo, .int .i64 Ul, .int .i64 Um, .string ⟨Ud.toArray⟩, .slice A3 P.length c3] 27
 have hXD := D4.cell
 have hX4 := K4.cell
 have hF4 := K4.free
 clear cR K0 R2 g2 hX K0_3 R3 g3 o3 b3 K1
 go_upto_region 3 with (fail)
 generalize w3.alloc (.cells #[.int .i64 Uo, .int .i64 Ul, .int .i64 Um, .string ⟨Ud.toArray⟩, .slice A3 P.length c3] 27) = w4 at *
 generalize w3.heap.size = q at *
 go_wp2
 have Q := (wO K4 ⟨Uo, Ul, Um, Ud, P⟩ A3 c3).cell
 exact bodyPost_ret (v := Sto.V ⟨Uo, Ul, Um, Ud, P⟩ A3 c3) (by simp [results, Tryz.results63, go_sem, Q]) rfl ⟨⟨⟨Uo, Ul, Um, Ud, P⟩, A3, c3, rfl, HT.out, zF (uQ o4 (b := w.heap.size) (by omega) ⟨Uo, Ul, Um, Ud, P⟩ A3 c3) (by omega)⟩, ag R4 (b := w.heap.size) hr ⟨Uo, Ul, Um, Ud, P⟩ A3 c3, uy g4 (b := w.heap.size) (Nat.le_refl _) ⟨Uo, Ul, Um, Ud, P⟩ A3 c3⟩
theorem Xw (r M : Nat) (n : Int) (w : World) (hR : Rd w r M) (hM : M ≤ 10000000) (hn : -1 ≤ n) (hn1 : n ≤ 1000000) :
  Calls Tryz.prog 37 #[.pointer (some ⟨r, 0, none⟩), .int .i64 n] w fun e w' => (∃ f t : Int, e = .returned (.tuple #[.int .i64 f, .int .i64 t]) ∧ -9223372036854775808 ≤ f ∧ f ≤ 9223372036854775807 ∧ -9223372036854775808 ≤ t ∧ t ≤ 9223372036854775807) ∧ Rd w' r (M + 4) ∧ zl w.heap.size r w w' := by
 have hr := hR.lt
 have R0 := hR
 have g0 := zl.refl w.heap.size r w
 have z0 : w.heap.size ≤ w.heap.size := Nat.le_refl _
 go_enter Tryz.func37, Tryz.ntmps37
 go_wp2_with fail
 refine (pick_any r _ (max n 0 + 1) w R0 (by omega) (by omega) (by omega)).mono ?_
 rintro e w1 ⟨⟨v0, rfl, hv0, hv1⟩, R1, b1⟩
 have z1 := b1.size
 try simp only [World.size_alloc, World.size_setCell, World.size_drew] at z1
 have g1 := g0.trans (b1.mono (by first | omega | (simp; done) | (simp; omega)))
 clear b1 g0
 go_wp2_with fail
 refine (pick_any r _ (max n 0 - v0 + 1) _ R1 (by omega) (by omega) (by omega)).mono ?_
 rintro e w2 ⟨⟨v1, rfl, hv2, hv3⟩, R2, b2⟩
 have z2 := b2.size
 try simp only [World.size_alloc, World.size_setCell, World.size_drew] at z2
 have g2 := g1.trans (b2.mono (by first | omega | (simp; done) | (simp; omega)))
 clear b2 g1
 go_wp2_with fail
 refine (pick_any r _ 20 _ R2 (by omega) (by omega) (by omega)).mono ?_
 rintro e w3 ⟨⟨v2, rfl, hv4, hv5⟩, R3, b3⟩
 have z3 := b3.size
 try simp only [World.size_alloc, World.size_setCell, World.size_drew] at z3
 have g3 := g2.trans (b3.mono (by first | omega | (simp; done) | (simp; omega)))
 clear b3 g2
 by_cases h0 : v2 = 0
 ·subst h0
  have s3 := Sl.list w3 [.int .i64 (-1), .int .i64 9223372036854775807] 3 w3.heap.size 2 rfl rfl (by omega)
  go_wp2_with fail
  refine (qh r _ [(-1), 9223372036854775807] (some ⟨w3.heap.size, 0, none⟩) 2 _ (R3.alloc _) (by omega) s3 (by simp) (by simp) (by rintro g off ⟨⟩; omega)).mono ?_
  rintro e w4 ⟨⟨y, hy, rfl⟩, R4, b4⟩
  have z4 := b4.size
  try simp only [World.size_alloc, World.size_setCell, World.size_drew] at z4
  have g4 := (g3.alloc (by first | omega | (simp <;> omega)) _).trans (b4.mono (by first | omega | (simp; done) | (simp; omega)))
  clear b4 g3
  go_wp2
  exact bodyPost_ret (v := .tuple #[.int .i64 y, .int .i64 (v0 + v1)]) (by simp [results, Tryz.results37, go_sem]) rfl ⟨⟨y, v0 + v1, rfl, by simp at hy; omega, by simp at hy; omega, by omega, by omega⟩, R4.mono (by omega), g4⟩
 have e0 : (v2 == 0) = false := by simpa using h0
 by_cases h1 : v2 = 1
 ·subst h1
  have s3 := Sl.list w3 [.int .i64 (-1), .int .i64 (n + 1), .int .i64 9223372036854775807] 3 w3.heap.size 3 rfl rfl (by omega)
  go_wp2_with fail
  refine (qh r _ [(-1), n + 1, 9223372036854775807] (some ⟨w3.heap.size, 0, none⟩) 3 _ (R3.alloc _) (by omega) s3 (by simp) (by simp) (by rintro g off ⟨⟩; omega)).mono ?_
  rintro e w4 ⟨⟨y, hy, rfl⟩, R4, b4⟩
  have z4 := b4.size
  try simp only [World.size_alloc, World.size_setCell, World.size_drew] at z4
  have g4 := (g3.alloc (by first | omega | (simp <;> omega)) _).trans (b4.mono (by first | omega | (simp; done) | (simp; omega)))
  clear b4 g3
  go_wp2
  exact bodyPost_ret (v := .tuple #[.int .i64 v0, .int .i64 y]) (by simp [results, Tryz.results37, go_sem]) rfl ⟨⟨v0, y, rfl, by omega, by omega, by simp at hy; omega, by simp at hy; omega⟩, R4.mono (by omega), g4⟩
 have e1 : (v2 == 1) = false := by simpa using h1
 by_cases h2 : v2 = 2
 ·subst h2
  go_wp2
  exact bodyPost_ret (v := .tuple #[.int .i64 (v0 + v1), .int .i64 v0]) (by simp [results, Tryz.results37, go_sem]) rfl ⟨⟨v0 + v1, v0, rfl, by omega, by omega, by omega, by omega⟩, R3.mono (by omega), g3⟩
 have e2 : (v2 == 2) = false := by simpa using h2
 go_wp2
 exact bodyPost_ret (v := .tuple #[.int .i64 v0, .int .i64 (v0 + v1)]) (by simp [results, Tryz.results37, go_sem]) rfl ⟨⟨v0, v0 + v1, rfl, by omega, by omega, by omega, by omega⟩, R3.mono (by omega), g3⟩
end Go.Proofs.YtinncdollpajkaaGreat
