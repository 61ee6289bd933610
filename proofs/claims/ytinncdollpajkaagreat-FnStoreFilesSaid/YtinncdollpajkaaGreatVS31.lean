import Derived.Test.YtinncdollpajkaaGreatVS29
import Derived.Test.YtinncdollpajkaaGreatVW4
import Derived.Test.YtinncdollpajkaaGreatVQ15
import Derived.Deep.Cut
import Derived.Test.YtinncdollpajkaaGreatVD4
import Derived.Test.YtinncdollpajkaaGreatVGD2
import Derived.Deep.RegionHeld3
set_option linter.unusedVariables false
set_option linter.unusedSimpArgs false
set_option maxHeartbeats 8000000
namespace Go.Proofs.YtinncdollpajkaaGreat
open Go.RowKit
set_option maxRecDepth 100000
attribute [local go_sem high] zA zu zy zO zK zX zx zk zn zq zi zo yQ zC yf zD
theorem dw (o l m : Int) (dict log : Bs) (x : OpR) (w : World) (hd : dict.length ≤ 1500000) (hlg : log.length ≤ 1500000) (hxn : x.nm.length ≤ 1500000) (hxd : x.d.length ≤ 1500000) :
    Calls Tryz.prog 125 #[.agg #[.int .i64 o, .int .i64 l, .int .i64 m], sv dict, sv log, x.val] w fun e w' => e = xx (apL o l m dict log x) ∧ Below w.heap.size w w' := by
  obtain ⟨G, hG⟩ : ∃ G, apL o l m dict log x = G := ⟨_, rfl⟩
  rw [hG]
  obtain ⟨R, hR⟩ : ∃ R, mX o l m dict log = R := ⟨_, rfl⟩
  have cR := fun w => nz o l m dict log w hd hlg
  rw [hR] at cR
  have cL := fun w => aH x.k x.f x.t x.s x.nm x.d w (by omega) (by omega)
  have HOK : Hid (∀ T n, R = some (T, n) → T.ok ∧ 0 ≤ n ∧ n ≤ 30000) := fun T n h => by
    rw [h] at hR
    obtain ⟨b, xs, rfl, hF⟩ := ZN hR
    have h1 := hF.le
    have h2 := hF.short
    exact ⟨hF.ok.1, by omega, by omega⟩
  have cA : Hid (∀ (T : Sto) A cap w, T.ok → x.ok → Sl w A T.fs.length cap 2 (yj T.fs) → Calls Tryz.prog 24 #[T.V A cap, x.val] w (StO ((apO T x).getD vX) (apO T x).isSome w)) := fun T A cap w h1 h2 h3 => by
    rw [← OL h1 h2]; exact YI T x A cap w h3 h1.bd h2.bd
  have HG : Hid (R.bind (fun p => if p.2 = (log.length : Int) ∧ x.ok ∧ log.length + (vz x).length ≤ 30000 ∧ (apO p.1 x).isSome = true then some (log ++ vz x) else none) = G) := by rw [← hG, ← hR]; rfl
  have HRX : Hid ((vz x).length ≤ 9004) := (dI x).2
  clear hR hG
  obtain ⟨T, tn, tb, h1, h2, h3⟩ : ∃ T tn tb, (R.map (·.1)).getD vX = T ∧ (R.map (·.2)).getD 0 = tn ∧ R.isSome = tb := ⟨_, _, _, rfl, rfl, rfl⟩
  unfold P5 at cR
  rw [h1, h2, h3] at cR
  have HN : Hid (tb = false → R = none) := fun h => by rw [h] at h3; cases R with | none => rfl | some _ => cases h3
  have HS : Hid (tb = true → R = some (T, tn)) := fun h => by
    rw [h] at h3
    cases R with
    | none => cases h3
    | some p => rw [← h1, ← h2]; rfl
  clear h1 h2 h3
  obtain ⟨Uo, Ul, Um, Ud, P⟩ := T
  obtain ⟨xk, xf, xt, xs, xn, xd⟩ := x
  obtain ⟨C, hC⟩ : ∃ C, vz ⟨xk, xf, xt, xs, xn, xd⟩ = C := ⟨_, rfl⟩
  rw [hC] at HG HRX
  have hC2 : vS (xA xk xn xf xt xs xd) = C := hC
  unfold Yv at cL
  simp only at cL
  rw [hC2] at cL
  clear hC hC2
  go_enter Tryz.func125, Tryz.ntmps125
  have hA : Bk ((w.alloc (.cells #[.int .i64 o, .int .i64 l, .int .i64 m] 24)).alloc (.cells #[.int .i64 xk, .string ⟨xn.toArray⟩, .int .i64 xf, .int .i64 xt, .int .i64 xs, .string ⟨xd.toArray⟩] 54)) w.heap.size 24 #[.int .i64 o, .int .i64 l, .int .i64 m] := tBk
  have hO : Bk ((w.alloc (.cells #[.int .i64 o, .int .i64 l, .int .i64 m] 24)).alloc (.cells #[.int .i64 xk, .string ⟨xn.toArray⟩, .int .i64 xf, .int .i64 xt, .int .i64 xs, .string ⟨xd.toArray⟩] 54)) (w.heap.size + 1) 54 #[.int .i64 xk, .string ⟨xn.toArray⟩, .int .i64 xf, .int .i64 xt, .int .i64 xs, .string ⟨xd.toArray⟩] := tBk
  have g0 : Below w.heap.size w ((w.alloc (.cells #[.int .i64 o, .int .i64 l, .int .i64 m] 24)).alloc (.cells #[.int .i64 xk, .string ⟨xn.toArray⟩, .int .i64 xf, .int .i64 xt, .int .i64 xs, .string ⟨xd.toArray⟩] 54)) := zH
  go_upto_region 1 with (fail)
  generalize (w.alloc (.cells #[.int .i64 o, .int .i64 l, .int .i64 m] 24)).alloc (.cells #[.int .i64 xk, .string ⟨xn.toArray⟩, .int .i64 xf, .int .i64 xt, .int .i64 xs, .string ⟨xd.toArray⟩] 54) = w0 at *
  have z0 := g0.size
  have la := hA.lt
  have lo := hO.lt
  have hXA := hA.cell
  go_wp2_with fail
  refine (cR _).mono ?_
  rintro e w1 ⟨A1, c1, rfl, o1, b1⟩
  have z1 := b1.size
  have hO1 := hO.below b1 lo
  have o1 := zF (B' := w.heap.size + 2) o1 (by omega)
  have g1 := g0.trans (b1.mono (by omega))
  simp only at o1
  clear hA hO hXA b1 g0 cR
  have hO2 := hO1.alloc (.cells #[.int .i64 Uo, .int .i64 Ul, .int .i64 Um, .string ⟨Ud.toArray⟩, .slice A1 P.length c1] 27)
  have hD2 : Bk (w1.alloc (.cells #[.int .i64 Uo, .int .i64 Ul, .int .i64 Um, .string ⟨Ud.toArray⟩, .slice A1 P.length c1] 27)) w1.heap.size 27 #[.int .i64 Uo, .int .i64 Ul, .int .i64 Um, .string ⟨Ud.toArray⟩, .slice A1 P.length c1] := Bk.new w1 #[.int .i64 Uo, .int .i64 Ul, .int .i64 Um, .string ⟨Ud.toArray⟩, .slice A1 P.length c1] 27
  have o2 := World.ownsRow.alloc o1 (.cells #[.int .i64 Uo, .int .i64 Ul, .int .i64 Um, .string ⟨Ud.toArray⟩, .slice A1 P.length c1] 27)
  have g2 := g1.alloc (by omega) (.cells #[.int .i64 Uo, .int .i64 Ul, .int .i64 Um, .string ⟨Ud.toArray⟩, .slice A1 P.length c1] 27)
  have hXO2 := hO2.cell
  go_upto_region 2 with (fail)
  clear hO1 o1 g1
  generalize w1.alloc (.cells #[.int .i64 Uo, .int .i64 Ul, .int .i64 Um, .string ⟨Ud.toArray⟩, .slice A1 P.length c1] 27) = w2 at *
  have l2 := hD2.lt
  have lo2 := hO2.lt
  generalize w1.heap.size = q at *
  go_wp2_with fail
  refine (cL _).mono ?_
  rintro e w3 ⟨rfl, b3⟩
  have z3 := b3.size
  have hO3 := hO2.below b3 lo2
  have hD3 := hD2.below b3 l2
  have o3 := zf o2 b3
  have g3 := g2.trans (b3.mono (by omega))
  clear hO2 hD2 o2 g2 hXO2 b3 cL
  cases tb with
  | false =>
    have hR := HN.out rfl
    subst hR
    have hG2 : G = none := HG.out.symm
    subst hG2
    clear HG HN HS HOK cA
    by_cases hok : qM xk xn xf xt xs xd
    · rw [if_pos hok]
      clear hok
      go_wp2
      exact bodyPost_ret (v := .tuple #[sv [], .bool false]) (by simp [results, Tryz.results125, go_sem]) rfl ⟨rfl, g3⟩
    · rw [if_neg hok]
      clear hok
      go_wp2
      exact bodyPost_ret (v := .tuple #[sv [], .bool false]) (by simp [results, Tryz.results125, go_sem]) rfl ⟨rfl, g3⟩
  | true =>
  have hR := HS.out rfl
  subst hR
  obtain ⟨hTok, hn0, hn1⟩ := HOK.out _ _ rfl
  have HG2 : Hid ((if tn = (log.length : Int) ∧ qM xk xn xf xt xs xd ∧ log.length + C.length ≤ 30000 ∧ (apO ⟨Uo, Ul, Um, Ud, P⟩ ⟨xk, xf, xt, xs, xn, xd⟩).isSome = true then some (log ++ C) else none) = G) := HG.out
  have HTOK := Go.Lib.hid hTok
  have hcl := HRX.out
  clear HG HN HS HOK hTok
  by_cases hok : qM xk xn xf xt xs xd
  case neg =>
    rw [if_neg hok]
    have hG2 : G = none := by rw [← HG2.out, if_neg (fun h => hok h.2.1)]
    subst hG2
    clear HG2 hok cA HTOK
    go_wp2
    exact bodyPost_ret (v := .tuple #[sv [], .bool false]) (by simp [results, Tryz.results125, go_sem]) rfl ⟨rfl, g3⟩
  case pos =>
    rw [if_pos hok]
    by_cases hn : tn = (log.length : Int)
    case neg =>
      have hG2 : G = none := by rw [← HG2.out, if_neg (fun h => hn h.1)]
      subst hG2
      have hnb : (tn != (log.length : Int)) = true := by simpa using hn
      clear HG2 hok cA HTOK
      go_wp2
      exact bodyPost_ret (v := .tuple #[sv [], .bool false]) (by simp [results, Tryz.results125, go_sem]) rfl ⟨rfl, g3⟩
    case pos =>
      subst hn
      by_cases hlen : log.length + C.length ≤ 30000
      case neg =>
        have hG2 : G = none := by rw [← HG2.out, if_neg (fun h => hlen h.2.2.1)]
        subst hG2
        have hli : (30000 : Int) < (log.length : Int) + C.length := by omega
        clear HG2 hok cA HTOK
        go_wp2
        exact bodyPost_ret (v := .tuple #[sv [], .bool false]) (by simp [results, Tryz.results125, go_sem]) rfl ⟨rfl, g3⟩
      case pos =>
        have hli : ¬ (30000 : Int) < (log.length : Int) + C.length := by omega
        have CA := Go.Lib.hid (cA.out ⟨Uo, Ul, Um, Ud, P⟩ A1 c1 w3 HTOK.out hok (Sl.own o3))
        obtain ⟨W, hW⟩ : ∃ W, apO ⟨Uo, Ul, Um, Ud, P⟩ ⟨xk, xf, xt, xs, xn, xd⟩ = W := ⟨_, rfl⟩
        rw [hW] at CA HG2
        have HOK := Go.Lib.hid hok
        clear hW cA hok
        have hXO3 := hO3.cell
        have hXD3 := hD3.cell
        go_wp2_with fail
        refine (CA.out).mono ?_
        rintro e w4 ⟨A4, c4, rfl, o4, b4⟩
        have g4 := g3.trans (b4.mono (by omega))
        have z4 := b4.size
        clear CA hXO3 hXD3 b4 o4
        generalize W.getD vX = V
        obtain ⟨Vo, Vl, Vm, Vd, Q⟩ := V
        have g5 := g4.alloc (by omega) (.cells #[.int .i64 Vo, .int .i64 Vl, .int .i64 Vm, .string ⟨Vd.toArray⟩, .slice A4 Q.length c4] 27)
        cases W with
        | none =>
          have hG2 : G = none := by rw [← HG2.out, if_neg (fun h => by cases h.2.2.2)]
          subst hG2
          simp only [Option.isSome_none]
          go_wp2
          exact bodyPost_ret (v := .tuple #[sv [], .bool false]) (by simp [results, Tryz.results125, go_sem]) rfl ⟨rfl, g5⟩
        | some U =>
          have hG2 : G = some (log ++ C) := by rw [← HG2.out, if_pos ⟨by first | exact rfl | exact trivial, HOK.out, hlen, by first | exact rfl | exact trivial⟩]
          subst hG2
          simp only [Option.isSome_some]
          go_wp2
          exact bodyPost_ret (v := .tuple #[sv (log ++ C), .bool true]) (by simp [results, Tryz.results125, go_sem]) rfl ⟨rfl, g5⟩
theorem SH {o l m : Int} {dict log L : Bs} {x : OpR} (h : apL o l m dict log x = some L) : L.length ≤ 30000 := by
  unfold apL at h
  cases hR : mX o l m dict log with
  | none => rw [hR] at h; cases h
  | some p =>
    rw [hR, Option.bind_some] at h
    split at h
    · rename_i hc; injection h with h; rw [← h, List.length_append]; exact hc.2.2.1
    · cases h
theorem Si (r M : Nat) (w : World) (hR : Rd w r M) (hM : M ≤ 10000000) :
    Calls Tryz.prog 98 #[.pointer (some ⟨r, 0, none⟩)] w fun e w' => (∃ (o l m : Int) (dict log : Bs), e = .returned (.tuple #[.agg #[.int .i64 o, .int .i64 l, .int .i64 m], sv dict, sv log]) ∧ xH o l m ∧ dict.length ≤ 40 ∧ log.length ≤ 30000) ∧ Rd w' r (M + 1000) ∧ zl w.heap.size r w w' := by
  have hr := hR.lt
  have K0_0 := Bk.new w #[.int .i64 0, .int .i64 0, .int .i64 0] 24
  have R0 := hR.alloc (.cells #[.int .i64 0, .int .i64 0, .int .i64 0] 24)
  have g0 : zl w.heap.size r w (w.alloc (.cells #[.int .i64 0, .int .i64 0, .int .i64 0] 24)) := yK zH r
  go_enter Tryz.func98, Tryz.ntmps98
  go_wp2_with fail
  refine (Wn r M _ R0 (by omega)).mono ?_
  rintro e w1 ⟨⟨o, l, m, dict, rfl, hst, hdl⟩, R1, b1⟩
  have z1 := b1.size
  try simp only [World.size_alloc, World.size_setCell, World.size_drew] at z1
  have K0_1 := K0_0.zN b1 (by first | omega | (simp; done) | (simp; omega)) (by omega)
  have g1 := g0.trans (b1.mono (by first | omega | (simp; done) | (simp; omega)))
  clear b1 g0 K0_0
  have K1 := Bk.new w1 #[.int .i64 o, .int .i64 l, .int .i64 m] 24
  have K0 := K0_1.alloc (.cells #[.int .i64 o, .int .i64 l, .int .i64 m] 24)
  have R2 := R1.alloc (.cells #[.int .i64 o, .int .i64 l, .int .i64 m] 24)
  have g2 := g1.alloc (by omega) (.cells #[.int .i64 o, .int .i64 l, .int .i64 m] 24)
  have hz0 : w.heap.size < w1.heap.size := K0_1.lt
  have l1 := K1.lt
  have l0 := K0.lt
  go_upto_region 3 with (fail)
  clear R1 g1 K0_1
  generalize w1.alloc (.cells #[.int .i64 o, .int .i64 l, .int .i64 m] 24) = w2 at *
  generalize w1.heap.size = bb at *
  go_wp2_with fail
  refine (pick_any r _ 7 _ R2 (by omega) (by omega) (by omega)).mono ?_
  rintro e w3 ⟨⟨n0, rfl, hn0, hn1⟩, R3, b3⟩
  have z3 := b3.size
  have K1_3 := K1.zN b3 l1 (by omega)
  have K0_3 := K0.zN b3 l0 (by omega)
  have g3 := g2.trans (b3.mono (by omega))
  obtain ⟨n, rfl⟩ := Int.eq_ofNat_of_zero_le hn0
  have hnm : n ≤ 6 := by omega
  clear hn0 hn1 K1 K0 R2 g2 b3
  go_wp2
  go_loopw [7, 8] (fun x a wr => ∃ (k c : Nat) (log : Bs), x = .string ⟨log.toArray⟩ ∧ a = .int .i64 (k : Int) ∧ c + k = n ∧ log.length ≤ 30000 ∧ Rd wr r (M + 120 + 100 * c) ∧ zl w.heap.size r w wr ∧ Bk wr w.heap.size 24 #[.int .i64 0, .int .i64 0, .int .i64 0] ∧ Bk wr bb 24 #[.int .i64 o, .int .i64 l, .int .i64 m]) (fun _ a _ => (intOf a).toNat)
  case atStart => exact ⟨n, 0, [], rfl, rfl, by omega, by simp, R3.mono (by omega), g3, K0_3, K1_3⟩
  case round =>
    obtain ⟨k, c, log, rfl, rfl, hck, hll, R4, g4, K0_4, K1_4⟩ := hrel
    clear R3 g3 K0_3 K1_3
    have z4 := g4.size
    have l14 := K1_4.lt
    have hX := K1_4.cell
    by_cases hk : 0 < k
    · have hki : (0 : Int) < k := by omega
      go_upto_region 6 with (fail)
      refine wp_region_held_drew (S := (fun w' => w'.cell? ⟨bb, 0, none⟩ = some (.int .i64 o) ∧ w'.cell? ⟨bb, 1, none⟩ = some (.int .i64 l) ∧ w'.cell? ⟨bb, 2, none⟩ = some (.int .i64 m))) (by kernel_rfl) ?_ (fun hSS => ?_)
      focus ((refine ⟨?_, ?_, ?_⟩; all_goals first | (simp [hX8]; done) | (simp [hX7]; done) | (simp [hX]; done)))
      refine tk 0 ?_
      try simp only [Act.put, u2, u3, u4]
      refine tk 1 ?_
      try simp only [Act.put, u2, u3, u4]
      refine tk 2 ?_
      try simp only [Act.put, u2, u3, u4]
      refine tk 3 ?_
      try simp only [Act.put, u2, u3, u4]
      refine tk 4 ?_
      try simp only [Act.put, u2, u3, u4]
      refine rd1 5 fun KK hKK => ?_
      go_simp
      (go_at_call 64; refine (Q4 r _ o l m _ R4.drew (by omega) hst).mono ?_; rintro e w7 ⟨⟨x, rfl, hsm⟩, R7, b7⟩; have z7 : wr.heap.size ≤ w7.heap.size := b7.size; have K1_7 := K1_4.drew.zN b7 l14 (by omega); have K0_7 := K0_4.drew.zN b7 (by show _ < wr.heap.size; omega) (by omega); have g7 := g4.drew.trans (b7.mono (by show _ ≤ wr.heap.size; omega)); have hX7 := K1_7.cell; have hs1 := hsm.1; have hs2 := hsm.2)
      refine hKK.out _ _ (by (refine ⟨?_, ?_, ?_⟩; all_goals first | (simp [hX8]; done) | (simp [hX7]; done) | (simp [hX]; done))) fun hSS => ?_
      try simp only [Act.put, u2, u3, u4]
      refine rd1 6 fun KK hKK => ?_
      go_simp
      (go_at_call 125; refine (dw o l m dict log x _ (by omega) (by omega) (by omega) (by omega)).mono ?_; rintro e w8 ⟨rfl, b8⟩; have z8 := b8.size; have K1_8 := K1_7.below b8 (by omega); have K0_8 := K0_7.below b8 (by omega); have R8 := R7.keep b8; have g8 := g7.trans (yK (b8.mono (by omega)) r); have hX8 := K1_8.cell; (have hsh := fun L h => SH (o := o) (l := l) (m := m) (dict := dict) (log := log) (x := x) (L := L) h); generalize apL o l m dict log x = G at *; have HSH := Go.Lib.hid hsh; clear hsh; unfold xx)
      refine hKK.out _ _ (by (refine ⟨?_, ?_, ?_⟩; all_goals first | (simp [hX8]; done) | (simp [hX7]; done) | (simp [hX]; done))) fun hSS => ?_
      try simp only [Act.put, u2, u3, u4]
      refine tk 7 ?_
      try simp only [Act.put, u2, u3, u4]
      refine tk 8 ?_
      try simp only [Act.put, u2, u3, u4]
      refine tk 9 ?_
      try simp only [Act.put, u2, u3, u4]
      refine tk 10 ?_
      try simp only [Act.put, u2, u3, u4]
      refine tk 11 ?_
      try simp only [Act.put, u2, u3, u4]
      refine wpAnyH_done (by kernel_rfl) ?_ _
      have R8' := R8.mono (show _ ≤ M + 120 + 100 * (c + 1) by omega)
      clear hKK hX hX7 hX8 R4 R7 R8 K1_7 K0_7 g7 b8 b7
      cases G with
      | none =>
        simp only [Option.isSome_none]
        go_wp2
        go_roundw
        case rel => exact ⟨k - 1, c + 1, log, rfl, by go_num, by omega, hll, R8', g8, K0_8, K1_8⟩
        case measure => simp [intOf]; omega
      | some L =>
        have hL := HSH.out L rfl
        simp only [Option.isSome_some, Option.getD_some]
        go_wp2
        go_roundw
        case rel => exact ⟨k - 1, c + 1, L, rfl, by go_num, by omega, hL, R8', g8, K0_8, K1_8⟩
        case measure => simp [intOf]; omega
    · have hki : ¬ (0 : Int) < k := by omega
      have hF := K0_4.free
      have hY := K0_4.cell
      go_wp2
      have Q := (((K0_4.set 0 (.int .i64 o)).set 1 (.int .i64 l)).set 2 (.int .i64 m)).cell
      have R9 : Rd (((wr.setCell ⟨w.heap.size, 0, none⟩ (.int .i64 o)).setCell ⟨w.heap.size, 1, none⟩ (.int .i64 l)).setCell ⟨w.heap.size, 2, none⟩ (.int .i64 m)) r (M + 1000) := Rd.far (Rd.far (Rd.far (R4.mono (by omega)) hr _) hr _) hr _
      have g9 : zl w.heap.size r w (((wr.setCell ⟨w.heap.size, 0, none⟩ (.int .i64 o)).setCell ⟨w.heap.size, 1, none⟩ (.int .i64 l)).setCell ⟨w.heap.size, 2, none⟩ (.int .i64 m)) := zl.setCell (zl.setCell (zl.setCell g4 (.inr (Nat.le_refl _)) _) (.inr (Nat.le_refl _)) _) (.inr (Nat.le_refl _)) _
      exact bodyPost_ret (v := .tuple #[.agg #[.int .i64 o, .int .i64 l, .int .i64 m], sv dict, sv log]) (by simp [results, Tryz.results98, go_sem, Q]) rfl ⟨⟨o, l, m, dict, log, rfl, hst, hdl, hll⟩, R9, g9⟩
def Ou (r M : Nat) (w : World) (e : Ending) (w' : World) : Prop := (∃ T A cap, e = .returned (Sto.V T A cap) ∧ (T = vX ∨ T.ok) ∧ w'.ownsRow w.heap.size 40 2 (.slice A T.fs.length cap) T.fs.length (yj T.fs)) ∧ Rd w' r M ∧ zl w.heap.size r w w'
theorem dK {w : World} {r M b : Nat} (h : Rd w r M) (hb : r < b) (S : Sto) (A : Option Addr) (cap : Nat) : Rd (stW w b S A cap) r M :=
 Rd.far (Rd.far (Rd.far (Rd.far (Rd.far h (p := ⟨b, 0, none⟩) hb _) (p := ⟨b, 1, none⟩) hb _) (p := ⟨b, 2, none⟩) hb _) (p := ⟨b, 3, none⟩) hb _) (p := ⟨b, 4, none⟩) hb _
theorem uu {w0 w : World} {r B b : Nat} (h : zl B r w0 w) (hb : B ≤ b) (S : Sto) (A : Option Addr) (cap : Nat) : zl B r w0 (stW w b S A cap) :=
 ((((h.setCell (p := ⟨b, 0, none⟩) (.inr hb) _).setCell (p := ⟨b, 1, none⟩) (.inr hb) _).setCell (p := ⟨b, 2, none⟩) (.inr hb) _).setCell (p := ⟨b, 3, none⟩) (.inr hb) _).setCell (p := ⟨b, 4, none⟩) (.inr hb) _
theorem PL {o l m : Int} {dict log : Bs} : ((mX o l m dict log).map (·.1)).getD vX = vX ∨ (((mX o l m dict log).map (·.1)).getD vX).ok := by
  cases h : mX o l m dict log with
  | none => exact .inl rfl
  | some p =>
    obtain ⟨T, n⟩ := p
    obtain ⟨b, xs, _, hF⟩ := ZN h
    exact .inr hF.ok.1
theorem XN (r M : Nat) (w : World) (hR : Rd w r M) (hM : M ≤ 10000000) :
  Calls Tryz.prog 63 #[.pointer (some ⟨r, 0, none⟩)] w (Ou r (M + 1000) w) := by
 have hr := hR.lt
 have K0_0 := Bk.new w xw 27
 have R0 := hR.alloc (.cells xw 27)
 have g0 : zl w.heap.size r w (w.alloc (.cells xw 27)) := yK zH r
 unfold Ou
 go_enter Tryz.func63, Tryz.ntmps63
 go_wp2_with fail
 refine (Si r M _ R0 (by omega)).mono ?_
 rintro e w1 ⟨⟨o, l, m, dict, log, rfl, hst, hdl, hll⟩, R1, b1⟩
 have z1 := b1.size
 try simp only [World.size_alloc, World.size_setCell, World.size_drew] at z1
 have K0_1 := K0_0.zN b1 (by first | omega | (simp; done) | (simp; omega)) (by omega)
 have g1 := g0.trans (b1.mono (by first | omega | (simp; done) | (simp; omega)))
 clear b1 g0 K0_0
 have K1 := Bk.new w1 #[.int .i64 o, .int .i64 l, .int .i64 m] 24
 have K0 := K0_1.alloc (.cells #[.int .i64 o, .int .i64 l, .int .i64 m] 24)
 have R2 := R1.alloc (.cells #[.int .i64 o, .int .i64 l, .int .i64 m] 24)
 have g2 := g1.alloc (by omega) (.cells #[.int .i64 o, .int .i64 l, .int .i64 m] 24)
 have hz0 : w.heap.size < w1.heap.size := K0_1.lt
 have l0 := K0.lt
 have hX := K1.cell
 go_upto_region 2 with (fail)
 clear R1 g1 K0_1
 generalize w1.alloc (.cells #[.int .i64 o, .int .i64 l, .int .i64 m] 24) = w2 at *
 generalize w1.heap.size = bb at *
 have cR := nz o l m dict log w2 (by omega) (by omega)
 have hT := PL (o := o) (l := l) (m := m) (dict := dict) (log := log)
 unfold P5 at cR
 generalize ((mX o l m dict log).map (·.1)).getD vX = T at *
 generalize ((mX o l m dict log).map (·.2)).getD 0 = tn at *
 generalize (mX o l m dict log).isSome = tb at *
 have HT := Go.Lib.hid hT
 clear hT
 obtain ⟨Uo, Ul, Um, Ud, P⟩ := T
 go_wp2_with fail
 refine cR.mono ?_
 rintro e w3 ⟨A3, c3, rfl, o3, b3⟩
 have z3 := b3.size
 have K0_3 := K0.below b3 l0
 have R3 := R2.keep b3
 have g3 := g2.trans (yK (b3.mono (by omega)) r)
 simp only at o3
 have o3 := zF (B' := w.heap.size + 1) o3 (by omega)
 have K4 := K0_3.alloc (.cells #[.int .i64 Uo, .int .i64 Ul, .int .i64 Um, .string ⟨Ud.toArray⟩, .slice A3 P.length c3] 27)
 have R4 := R3.alloc (.cells #[.int .i64 Uo, .int .i64 Ul, .int .i64 Um, .string ⟨Ud.toArray⟩, .slice A3 P.length c3] 27)
 have o4 := World.ownsRow.alloc o3 (.cells #[.int .i64 Uo, .int .i64 Ul, .int .i64 Um, .string ⟨Ud.toArray⟩, .slice A3 P.length c3] 27)
 have g4 := g3.alloc (by omega) (.cells #[.int .i64 Uo, .int .i64 Ul, .int .i64 Um, .string ⟨Ud.toArray⟩, .slice A3 P.length c3] 27)
 have D4 : Bk (w3.alloc (.cells #[.int .i64 Uo, .int .i64 Ul, .int .i64 Um, .string ⟨Ud.toArray⟩, .slice A3 P.length c3] 27)) w3.heap.size 27 #[.int .i64 Uo, .int .i64 Ul, .int .i64 Um, .string ⟨Ud.toArray⟩, .slice A3 P.length c3] := Bk.new w3 #[.int .i64 Uo, .int .i64 Ul, .int .i64 Um, .string ⟨Ud.toArray⟩, .slice A3 P.length c3] 27
 have hXD := D4.cell
 have hX4 := K4.cell
 have hF4 := K4.free
 clear cR K0 R2 g2 hX K0_3 R3 g3 o3 b3 K1
 go_upto_region 3 with (fail)
 generalize w3.alloc (.cells #[.int .i64 Uo, .int .i64 Ul, .int .i64 Um, .string ⟨Ud.toArray⟩, .slice A3 P.length c3] 27) = w4 at *
 generalize w3.heap.size = q at *
 go_wp2
 have Q := (wK K4 ⟨Uo, Ul, Um, Ud, P⟩ A3 c3).cell
 exact bodyPost_ret (v := Sto.V ⟨Uo, Ul, Um, Ud, P⟩ A3 c3) (by simp [results, Tryz.results63, go_sem, Q]) rfl ⟨⟨⟨Uo, Ul, Um, Ud, P⟩, A3, c3, rfl, HT.out, zF (uX o4 (b := w.heap.size) (by omega) ⟨Uo, Ul, Um, Ud, P⟩ A3 c3) (by omega)⟩, dK R4 (b := w.heap.size) hr ⟨Uo, Ul, Um, Ud, P⟩ A3 c3, uu g4 (b := w.heap.size) (Nat.le_refl _) ⟨Uo, Ul, Um, Ud, P⟩ A3 c3⟩
end Go.Proofs.YtinncdollpajkaaGreat
