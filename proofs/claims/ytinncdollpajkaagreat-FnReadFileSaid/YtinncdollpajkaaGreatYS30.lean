import Derived.Test.YtinncdollpajkaaGreatYS28
import Derived.Test.YtinncdollpajkaaGreatYW14
import Derived.Test.YtinncdollpajkaaGreatYGW
import Derived.Test.YtinncdollpajkaaGreatYQ15
import Derived.Deep.Cut
import Derived.Test.YtinncdollpajkaaGreatYW4
set_option linter.unusedVariables false
set_option linter.unusedSimpArgs false
set_option maxHeartbeats 8000000
namespace Go.Proofs.YtinncdollpajkaaGreat
open Go.RowKit
set_option maxRecDepth 100000
attribute [local go_sem high] zu zx zy zO zL zX zA zk zn zo zi zq yR zD yh zC
def StI (T : Sto) (n : Int) (b : Bool) (w : World) (e : Ending) (w' : World) : Prop := ∃ A cap, e = .returned (.tuple #[T.V A cap, .int .i64 n, .bool b]) ∧ w'.ownsRow w.heap.size 40 2 (.slice A T.fs.length cap) T.fs.length (yf T.fs) ∧ Below w.heap.size w w'
def PH (r : Option (Sto × Int)) : World → Ending → World → Prop := StI ((r.map (·.1)).getD vX) ((r.map (·.2)).getD 0) r.isSome
theorem nN (o l m : Int) (dict log : Bs) (w : World) (hd : dict.length ≤ 1500000) (hlg : log.length ≤ 1500000) :
    Calls Tryz.prog 99 #[.agg #[.int .i64 o, .int .i64 l, .int .i64 m], sv dict, sv log] w (PH (mV o l m dict log) w) := by
  obtain ⟨R, hR⟩ : ∃ R, mV o l m dict log = R := ⟨_, rfl⟩
  rw [hR]
  have HR := Go.Lib.hid hR
  clear hR
  unfold PH StI
  go_enter Tryz.func99, Tryz.ntmps99
  have hA : Bk ((w.alloc (.cells #[.int .i64 o, .int .i64 l, .int .i64 m] 24)).alloc (.cells xg 27)) w.heap.size 24 #[.int .i64 o, .int .i64 l, .int .i64 m] := tBk
  have hB : Bk ((w.alloc (.cells #[.int .i64 o, .int .i64 l, .int .i64 m] 24)).alloc (.cells xg 27)) (w.heap.size + 1) 27 xg := tBk
  have g0 : Below w.heap.size w ((w.alloc (.cells #[.int .i64 o, .int .i64 l, .int .i64 m] 24)).alloc (.cells xg 27)) := zG
  go_upto_region 1 with (fail)
  generalize (w.alloc (.cells #[.int .i64 o, .int .i64 l, .int .i64 m] 24)).alloc (.cells xg 27) = w0 at *
  have z0 := g0.size
  have la := hA.lt
  have lb := hB.lt
  have hXA := hA.cell
  go_wp2_with fail
  refine (fA o l m dict _ (by omega)).mono ?_
  rintro e w1 ⟨rfl, b1⟩
  have z1 := b1.size
  have hB1 := hB.below b1 lb
  have g1 := g0.trans (b1.mono (by omega))
  clear hA hB hXA b1 g0
  unfold jF
  by_cases hf : fits o l m dict
  case neg =>
    rw [if_neg hf]
    have hN : R = none := by rw [← HR.out]; unfold mV; rw [if_neg (fun h => hf h.1)]
    subst hN
    clear HR hf
    have hB2 := hB1.alloc (.cells xg 27)
    have g2 := g1.alloc (by omega) (.cells xg 27)
    have hXB := hB2.cell
    have hFB := hB2.free
    unfold Go.Proofs.YtinncdollpajkaaGreat.stZ
    go_wp2
    have Q := (jD hB2).cell
    have gg := xJ g2 (b := w.heap.size + 1) (by omega) vX none 0
    exact bodyPost_ret (v := .tuple #[Sto.V vX none 0, .int .i64 0, .bool false]) (by simp [results, Tryz.results99, go_sem, Q, Sto.V, vX]) rfl ⟨none, 0, rfl, ⟨rfl, .inl ⟨rfl, rfl⟩⟩, gg⟩
  case pos =>
    rw [if_pos hf]
    unfold stV
    have hB2 := hB1.alloc (.cells #[.int .i64 o, .int .i64 l, .int .i64 m, .string ⟨dict.toArray⟩, .slice none 0 0] 27)
    have g2 := g1.alloc (by omega) (.cells #[.int .i64 o, .int .i64 l, .int .i64 m, .string ⟨dict.toArray⟩, .slice none 0 0] 27)
    have hD2 : Bk (w1.alloc (.cells #[.int .i64 o, .int .i64 l, .int .i64 m, .string ⟨dict.toArray⟩, .slice none 0 0] 27)) w1.heap.size 27 #[.int .i64 o, .int .i64 l, .int .i64 m, .string ⟨dict.toArray⟩, .slice none 0 0] := Bk.new w1 #[.int .i64 o, .int .i64 l, .int .i64 m, .string ⟨dict.toArray⟩, .slice none 0 0] 27
    by_cases hlen : log.length ≤ 30000
    case neg =>
      have hli : (30000 : Int) < log.length := by omega
      have hN : R = none := by rw [← HR.out]; unfold mV; rw [if_neg (fun h => hlen h.2)]
      subst hN
      clear HR hf
      have hXB := hB2.cell
      have hFB := hB2.free
      go_wp2
      have Q := (jD hB2).cell
      have gg := xJ g2 (b := w.heap.size + 1) (by omega) vX none 0
      exact bodyPost_ret (v := .tuple #[Sto.V vX none 0, .int .i64 0, .bool false]) (by simp [results, Tryz.results99, go_sem, Q, Sto.V, vX]) rfl ⟨none, 0, rfl, ⟨rfl, .inl ⟨rfl, rfl⟩⟩, gg⟩
    case pos =>
      have hli : ¬ (30000 : Int) < log.length := by omega
      obtain ⟨T, hT⟩ : ∃ T, uP (log.length + 1) (YN o l m dict) log 0 = T := ⟨_, rfl⟩
      have hN : R = some T := by rw [← HR.out]; unfold mV; rw [if_pos ⟨hf, hlen⟩, hT]
      subst hN
      have HT := Go.Lib.hid hT
      have HF := Go.Lib.hid hf
      clear HR hT hf
      go_upto_region 4 with (fail)
      generalize w1.alloc (.cells #[.int .i64 o, .int .i64 l, .int .i64 m, .string ⟨dict.toArray⟩, .slice none 0 0] 27) = w2 at *
      have z2 := hD2.lt
      generalize w1.heap.size = q at *
      obtain ⟨T, tn⟩ := T
      go_wp2
      go_loopw [11] (fun a wr => ∃ (n k : Nat) (S : Sto) (A : Option Addr) (cap : Nat), a = .int .i64 (k : Int) ∧ k ≤ log.length ∧ log.length < k + n ∧ Hid (uP n S log (k : Int) = (T, tn)) ∧ Hid (S.ok) ∧ wr.ownsRow (q + 1) 40 2 (.slice A S.fs.length cap) S.fs.length (yf S.fs) ∧ Bk wr (w.heap.size + 1) 27 xg ∧ Bk wr q 27 (S.C A cap) ∧ Below w.heap.size w wr) (fun i _ => log.length - (intOf i).toNat)
      case atStart => exact ⟨log.length + 1, 0, YN o l m dict, none, 0, rfl, by omega, by omega, HT, Us HF.out, ⟨rfl, .inl ⟨rfl, rfl⟩⟩, hB2, hD2, g2⟩
      case round =>
        obtain ⟨n, k, S, A, cap, rfl, hk, hn, HG, HS, ow, hBr, hDr, g⟩ := hrel
        clear hB2 hD2 g2 hB1 g1
        have hz := g.size
        have lq := hDr.lt
        have lbr := hBr.lt
        have hsl := Sl.own ow
        have hbd := HS.out.bd
        have hsl3 : S.fs.length ≤ 6 := HS.out.2.1
        have hcap := hsl.1
        have hcap2 := hsl.2.1
        have HAP : Hid (∀ (x : OpR) (hx : x.ok) (B : Nat) (w' : World), Below B wr w' → wr.heap.size ≤ B → Calls Tryz.prog 54 #[S.V A cap, x.val] w' (StO (apT S x).1 (apT S x).2 w')) := fun x hx B w' h hB => iU S x A cap w' (hsl.below (h.mono hB)) hbd hx.bd
        have HRD : Hid (∀ x e, yM log (k : Int) = some (x, e) → ∃ j : Nat, e = (j : Int) ∧ x.ok ∧ k < j ∧ j ≤ log.length) := fun x e h => by
          obtain ⟨n', hn', hx, he, hle, _⟩ := rq h
          have := (fU x).1
          exact ⟨n' + (vC x).length, by omega, hx, by omega, hle⟩
        obtain ⟨o', l', m', dict', fs⟩ := S
        simp only at *
        have hXD := hDr.cell
        go_wp2_with fail
        refine (fC log (k : Int) wr (by omega) (by omega) (by omega)).mono ?_
        rintro e w3 ⟨rfl, b3⟩
        have z3 := b3.size
        have hB3 := hBr.below b3 lbr
        have hD3 := hDr.below b3 lq
        have o3 := zf ow b3
        have g3 := g.trans (b3.mono (by omega))
        have hXB3 := hB3.cell
        have hFB3 := hB3.free
        have hXD3 := hD3.cell
        cases hr : yM log (k : Int) with
        | none =>
          have hG := HG.out
          rw [ZH hr] at hG
          injection hG with hG1 hG2
          subst hG1 hG2
          rw [show gJ none = .returned (.tuple #[.agg #[.int .i64 0, .string ⟨#[]⟩, .int .i64 0, .int .i64 0, .int .i64 0, .string ⟨#[]⟩], .int .i64 0, .bool false]) from rfl]
          have hB4 := hB3.alloc (.cells #[.int .i64 0, .string ⟨#[]⟩, .int .i64 0, .int .i64 0, .int .i64 0, .string ⟨#[]⟩] 54)
          have hD4 := hD3.alloc (.cells #[.int .i64 0, .string ⟨#[]⟩, .int .i64 0, .int .i64 0, .int .i64 0, .string ⟨#[]⟩] 54)
          have o4 := World.ownsRow.alloc o3 (.cells #[.int .i64 0, .string ⟨#[]⟩, .int .i64 0, .int .i64 0, .int .i64 0, .string ⟨#[]⟩] 54)
          have g4 := g3.alloc (by omega) (.cells #[.int .i64 0, .string ⟨#[]⟩, .int .i64 0, .int .i64 0, .int .i64 0, .string ⟨#[]⟩] 54)
          have hXB4 := hB4.cell
          have hFB4 := hB4.free
          have hXD4 := hD4.cell
          clear hB3 hD3 o3 g3 hXB3 hFB3 hXD3 hXD hBr hDr g ow HAP HRD hr
          go_upto_region 6 with (fail)
          generalize w3.alloc (.cells #[.int .i64 0, .string ⟨#[]⟩, .int .i64 0, .int .i64 0, .int .i64 0, .string ⟨#[]⟩] 54) = w4 at *
          go_wp2
          have Q := (wO hB4 ⟨o', l', m', dict', fs⟩ A cap).cell
          have o9 := zF (B' := w.heap.size) (uQ o4 (b := w.heap.size + 1) (by omega) ⟨o', l', m', dict', fs⟩ A cap) (by omega)
          have gg := xJ g4 (b := w.heap.size + 1) (by omega) ⟨o', l', m', dict', fs⟩ A cap
          exact bodyPost_ret (v := .tuple #[Sto.V ⟨o', l', m', dict', fs⟩ A cap, .int .i64 (k : Int), .bool true]) (by simp [results, Tryz.results99, go_sem, Q]) rfl ⟨A, cap, rfl, o9, gg⟩
        | some p =>
          obtain ⟨x, e⟩ := p
          obtain ⟨j, rfl, hx, hkj, hjl⟩ := HRD.out x e hr
          rw [WX]
          have cX := Go.Lib.hid (HAP.out x hx wr.heap.size)
          have HA1 : Hid ((apT ⟨o', l', m', dict', fs⟩ x).2 = true → (apT ⟨o', l', m', dict', fs⟩ x).1.ok ∧ ∀ n', uP (n' + 1) ⟨o', l', m', dict', fs⟩ log (k : Int) = uP n' (apT ⟨o', l', m', dict', fs⟩ x).1 log (j : Int)) := fun h => by
            cases ha : apO ⟨o', l', m', dict', fs⟩ x with
            | none => rw [Y0 ha] at h; cases h
            | some U => rw [jK ha]; exact ⟨(Xb HS.out hx ha).ok, fun n' => YW hr ha⟩
          have HA2 : Hid ((apT ⟨o', l', m', dict', fs⟩ x).2 = false → uP n ⟨o', l', m', dict', fs⟩ log (k : Int) = (⟨o', l', m', dict', fs⟩, (k : Int))) := fun h => by
            cases ha : apO ⟨o', l', m', dict', fs⟩ x with
            | none => exact Zx hr ha
            | some U => rw [jK ha] at h; cases h
          generalize apT ⟨o', l', m', dict', fs⟩ x = W at *
          clear hx hr HAP HRD
          obtain ⟨⟨Uo, Ul, Um, Ud, P⟩, tb⟩ := W
          simp only at cX HA1 HA2
          obtain ⟨xk, xf, xt, xs, xn, xd⟩ := x
          have hB4 := hB3.alloc (.cells #[.int .i64 xk, .string ⟨xn.toArray⟩, .int .i64 xf, .int .i64 xt, .int .i64 xs, .string ⟨xd.toArray⟩] 54)
          have hD4 := hD3.alloc (.cells #[.int .i64 xk, .string ⟨xn.toArray⟩, .int .i64 xf, .int .i64 xt, .int .i64 xs, .string ⟨xd.toArray⟩] 54)
          have o4 := World.ownsRow.alloc o3 (.cells #[.int .i64 xk, .string ⟨xn.toArray⟩, .int .i64 xf, .int .i64 xt, .int .i64 xs, .string ⟨xd.toArray⟩] 54)
          have g4 := g3.alloc (by omega) (.cells #[.int .i64 xk, .string ⟨xn.toArray⟩, .int .i64 xf, .int .i64 xt, .int .i64 xs, .string ⟨xd.toArray⟩] 54)
          have b4 := b3.alloc z3 (.cells #[.int .i64 xk, .string ⟨xn.toArray⟩, .int .i64 xf, .int .i64 xt, .int .i64 xs, .string ⟨xd.toArray⟩] 54)
          have hO4 : Bk (w3.alloc (.cells #[.int .i64 xk, .string ⟨xn.toArray⟩, .int .i64 xf, .int .i64 xt, .int .i64 xs, .string ⟨xd.toArray⟩] 54)) w3.heap.size 54 #[.int .i64 xk, .string ⟨xn.toArray⟩, .int .i64 xf, .int .i64 xt, .int .i64 xs, .string ⟨xd.toArray⟩] := Bk.new w3 #[.int .i64 xk, .string ⟨xn.toArray⟩, .int .i64 xf, .int .i64 xt, .int .i64 xs, .string ⟨xd.toArray⟩] 54
          have z4 := hO4.lt
          have hXO4 := hO4.cell
          have hXD4 := hD4.cell
          clear hB3 hD3 o3 g3 hXB3 hFB3 hXD3 hXD hBr hDr g ow b3
          go_upto_region 8 with (fail)
          generalize w3.alloc (.cells #[.int .i64 xk, .string ⟨xn.toArray⟩, .int .i64 xf, .int .i64 xt, .int .i64 xs, .string ⟨xd.toArray⟩] 54) = w4 at *
          generalize w3.heap.size = q4 at *
          go_wp2_with fail
          refine (cX.out w4 b4 (Nat.le_refl _)).mono ?_
          rintro e w5 ⟨A5, c5, rfl, o5, b5⟩
          have z5 := b5.size
          have hB5 := hB4.below b5 (by omega)
          have hD5 := hD4.below b5 (by omega)
          have o5 := zF (B' := q + 1) o5 (by omega)
          have o5' := zf o4 b5
          have g5 := g4.trans (b5.mono (by omega))
          clear hB4 hD4 o4 g4 b4 hO4 hXO4 hXD4 cX b5
          simp only at o5
          have hB6 := hB5.alloc (.cells #[.int .i64 Uo, .int .i64 Ul, .int .i64 Um, .string ⟨Ud.toArray⟩, .slice A5 P.length c5] 27)
          have hD6 := hD5.alloc (.cells #[.int .i64 Uo, .int .i64 Ul, .int .i64 Um, .string ⟨Ud.toArray⟩, .slice A5 P.length c5] 27)
          have o6 := World.ownsRow.alloc o5 (.cells #[.int .i64 Uo, .int .i64 Ul, .int .i64 Um, .string ⟨Ud.toArray⟩, .slice A5 P.length c5] 27)
          have o6' := World.ownsRow.alloc o5' (.cells #[.int .i64 Uo, .int .i64 Ul, .int .i64 Um, .string ⟨Ud.toArray⟩, .slice A5 P.length c5] 27)
          have g6 := g5.alloc (by omega) (.cells #[.int .i64 Uo, .int .i64 Ul, .int .i64 Um, .string ⟨Ud.toArray⟩, .slice A5 P.length c5] 27)
          have hE6 : Bk (w5.alloc (.cells #[.int .i64 Uo, .int .i64 Ul, .int .i64 Um, .string ⟨Ud.toArray⟩, .slice A5 P.length c5] 27)) w5.heap.size 27 #[.int .i64 Uo, .int .i64 Ul, .int .i64 Um, .string ⟨Ud.toArray⟩, .slice A5 P.length c5] := Bk.new w5 #[.int .i64 Uo, .int .i64 Ul, .int .i64 Um, .string ⟨Ud.toArray⟩, .slice A5 P.length c5] 27
          have hXE6 := hE6.cell
          have hXD6 := hD6.cell
          have hFD6 := hD6.free
          have hXB6 := hB6.cell
          have hFB6 := hB6.free
          clear hB5 hD5 g5 o5 o5'
          go_upto_region 9 with (fail)
          generalize w5.alloc (.cells #[.int .i64 Uo, .int .i64 Ul, .int .i64 Um, .string ⟨Ud.toArray⟩, .slice A5 P.length c5] 27) = w6 at *
          generalize w5.heap.size = q6 at *
          cases tb with
          | false =>
            have hG := HG.out
            rw [HA2.out rfl] at hG
            injection hG with hG1 hG2
            subst hG1 hG2
            clear HA1 HA2 hXE6 hE6
            go_wp2
            have Q := (wO hB6 ⟨o', l', m', dict', fs⟩ A cap).cell
            have o9 := zF (B' := w.heap.size) (uQ o6' (b := w.heap.size + 1) (by omega) ⟨o', l', m', dict', fs⟩ A cap) (by omega)
            have gg := xJ g6 (b := w.heap.size + 1) (by omega) ⟨o', l', m', dict', fs⟩ A cap
            exact bodyPost_ret (v := .tuple #[Sto.V ⟨o', l', m', dict', fs⟩ A cap, .int .i64 (k : Int), .bool true]) (by simp [results, Tryz.results99, go_sem, Q]) rfl ⟨A, cap, rfl, o9, gg⟩
          | true =>
            obtain ⟨hUok, hUg⟩ := HA1.out rfl
            obtain ⟨n', rfl⟩ : ∃ n', n = n' + 1 := ⟨n - 1, by omega⟩
            have HG2 : Hid (uP n' ⟨Uo, Ul, Um, Ud, P⟩ log (j : Int) = (T, tn)) := (hUg n').symm.trans HG.out
            have HU := Go.Lib.hid hUok
            clear HA1 HA2 hUok hUg HG
            go_wp2
            go_roundw
            case rel => exact ⟨n', j, ⟨Uo, Ul, Um, Ud, P⟩, A5, c5, rfl, hjl, by omega, HG2, HU, uQ o6 (b := q) (by omega) ⟨Uo, Ul, Um, Ud, P⟩ A5 c5, VJ hB6 (b := q) (by omega) ⟨Uo, Ul, Um, Ud, P⟩ A5 c5, wO hD6 ⟨Uo, Ul, Um, Ud, P⟩ A5 c5, xJ g6 (b := q) (by omega) ⟨Uo, Ul, Um, Ud, P⟩ A5 c5⟩
            case measure => simp [intOf]; omega
theorem dL (o l m : Int) (dict log : Bs) (x : OpR) (w : World) (hd : dict.length ≤ 1500000) (hlg : log.length ≤ 1500000) (hxn : x.nm.length ≤ 1500000) (hxd : x.d.length ≤ 1500000) :
    Calls Tryz.prog 125 #[.agg #[.int .i64 o, .int .i64 l, .int .i64 m], sv dict, sv log, x.val] w fun e w' => e = xy (apL o l m dict log x) ∧ Below w.heap.size w w' := by
  obtain ⟨G, hG⟩ : ∃ G, apL o l m dict log x = G := ⟨_, rfl⟩
  rw [hG]
  obtain ⟨R, hR⟩ : ∃ R, mV o l m dict log = R := ⟨_, rfl⟩
  have cR := fun w => nN o l m dict log w hd hlg
  rw [hR] at cR
  have cL := fun w => dS x.k x.f x.t x.s x.nm x.d w (by omega) (by omega)
  have HOK : Hid (∀ T n, R = some (T, n) → T.ok ∧ 0 ≤ n ∧ n ≤ 30000) := fun T n h => by
    rw [h] at hR
    obtain ⟨b, xs, rfl, hF⟩ := Zz hR
    have h1 := hF.le
    have h2 := hF.short
    exact ⟨hF.ok.1, by omega, by omega⟩
  have cA : Hid (∀ (T : Sto) A cap w, T.ok → x.ok → Sl w A T.fs.length cap 2 (yf T.fs) → Calls Tryz.prog 24 #[T.V A cap, x.val] w (StO ((apO T x).getD vX) (apO T x).isSome w)) := fun T A cap w h1 h2 h3 => by
    rw [← Oe h1 h2]; exact YK T x A cap w h3 h1.bd h2.bd
  have HG : Hid (R.bind (fun p => if p.2 = (log.length : Int) ∧ x.ok ∧ log.length + (vC x).length ≤ 30000 ∧ (apO p.1 x).isSome = true then some (log ++ vC x) else none) = G) := by rw [← hG, ← hR]; rfl
  have HRX : Hid ((vC x).length ≤ 9004) := (fU x).2
  clear hR hG
  obtain ⟨T, tn, tb, h1, h2, h3⟩ : ∃ T tn tb, (R.map (·.1)).getD vX = T ∧ (R.map (·.2)).getD 0 = tn ∧ R.isSome = tb := ⟨_, _, _, rfl, rfl, rfl⟩
  unfold PH at cR
  rw [h1, h2, h3] at cR
  have HN : Hid (tb = false → R = none) := fun h => by rw [h] at h3; cases R with | none => rfl | some _ => cases h3
  have HS : Hid (tb = true → R = some (T, tn)) := fun h => by
    rw [h] at h3
    cases R with
    | none => cases h3
    | some p => rw [← h1, ← h2]; rfl
  clear h1 h2 h3
  obtain ⟨Uo, Ul, Um, Ud, P⟩ := T
  obtain ⟨xk, xf, xt, xs, xn, xd⟩ := x
  obtain ⟨C, hC⟩ : ∃ C, vC ⟨xk, xf, xt, xs, xn, xd⟩ = C := ⟨_, rfl⟩
  rw [hC] at HG HRX
  have hC2 : vS (xA xk xn xf xt xs xd) = C := hC
  unfold Yf at cL
  simp only at cL
  rw [hC2] at cL
  clear hC hC2
  go_enter Tryz.func125, Tryz.ntmps125
  have hA : Bk ((w.alloc (.cells #[.int .i64 o, .int .i64 l, .int .i64 m] 24)).alloc (.cells #[.int .i64 xk, .string ⟨xn.toArray⟩, .int .i64 xf, .int .i64 xt, .int .i64 xs, .string ⟨xd.toArray⟩] 54)) w.heap.size 24 #[.int .i64 o, .int .i64 l, .int .i64 m] := tBk
  have hO : Bk ((w.alloc (.cells #[.int .i64 o, .int .i64 l, .int .i64 m] 24)).alloc (.cells #[.int .i64 xk, .string ⟨xn.toArray⟩, .int .i64 xf, .int .i64 xt, .int .i64 xs, .string ⟨xd.toArray⟩] 54)) (w.heap.size + 1) 54 #[.int .i64 xk, .string ⟨xn.toArray⟩, .int .i64 xf, .int .i64 xt, .int .i64 xs, .string ⟨xd.toArray⟩] := tBk
  have g0 : Below w.heap.size w ((w.alloc (.cells #[.int .i64 o, .int .i64 l, .int .i64 m] 24)).alloc (.cells #[.int .i64 xk, .string ⟨xn.toArray⟩, .int .i64 xf, .int .i64 xt, .int .i64 xs, .string ⟨xd.toArray⟩] 54)) := zG
  go_upto_region 1 with (fail)
  generalize (w.alloc (.cells #[.int .i64 o, .int .i64 l, .int .i64 m] 24)).alloc (.cells #[.int .i64 xk, .string ⟨xn.toArray⟩, .int .i64 xf, .int .i64 xt, .int .i64 xs, .string ⟨xd.toArray⟩] 54) = w0 at *
  have z0 := g0.size
  have la := hA.lt
  have lo := hO.lt
  have hXA := hA.cell
  go_wp2_with fail
  refine (cR _).mono ?_
  rintro e w1 ⟨A1, c1, rfl, o1, b1⟩
  have z1 := b1.size
  have hO1 := hO.below b1 lo
  have o1 := zF (B' := w.heap.size + 2) o1 (by omega)
  have g1 := g0.trans (b1.mono (by omega))
  simp only at o1
  clear hA hO hXA b1 g0 cR
  have hO2 := hO1.alloc (.cells #[.int .i64 Uo, .int .i64 Ul, .int .i64 Um, .string ⟨Ud.toArray⟩, .slice A1 P.length c1] 27)
  have hD2 : Bk (w1.alloc (.cells #[.int .i64 Uo, .int .i64 Ul, .int .i64 Um, .string ⟨Ud.toArray⟩, .slice A1 P.length c1] 27)) w1.heap.size 27 #[.int .i64 Uo, .int .i64 Ul, .int .i64 Um, .string ⟨Ud.toArray⟩, .slice A1 P.length c1] := Bk.new w1 #[.int .i64 Uo, .int .i64 Ul, .int .i64 Um, .string ⟨Ud.toArray⟩, .slice A1 P.length c1] 27
  have o2 := World.ownsRow.alloc o1 (.cells #[.int .i64 Uo, .int .i64 Ul, .int .i64 Um, .string ⟨Ud.toArray⟩, .slice A1 P.length c1] 27)
  have g2 := g1.alloc (by omega) (.cells #[.int .i64 Uo, .int .i64 Ul, .int .i64 Um, .string ⟨Ud.toArray⟩, .slice A1 P.length c1] 27)
  have hXO2 := hO2.cell
  go_upto_region 2 with (fail)
  clear hO1 o1 g1
  generalize w1.alloc (.cells #[.int .i64 Uo, .int .i64 Ul, .int .i64 Um, .string ⟨Ud.toArray⟩, .slice A1 P.length c1] 27) = w2 at *
  have l2 := hD2.lt
  have lo2 := hO2.lt
  generalize w1.heap.size = q at *
  go_wp2_with fail
  refine (cL _).mono ?_
  rintro e w3 ⟨rfl, b3⟩
  have z3 := b3.size
  have hO3 := hO2.below b3 lo2
  have hD3 := hD2.below b3 l2
  have o3 := zf o2 b3
  have g3 := g2.trans (b3.mono (by omega))
  clear hO2 hD2 o2 g2 hXO2 b3 cL
  cases tb with
  | false =>
    have hR := HN.out rfl
    subst hR
    have hG2 : G = none := HG.out.symm
    subst hG2
    clear HG HN HS HOK cA
    by_cases hok : qB xk xn xf xt xs xd
    · rw [if_pos hok]
      clear hok
      go_wp2
      exact bodyPost_ret (v := .tuple #[sv [], .bool false]) (by simp [results, Tryz.results125, go_sem]) rfl ⟨rfl, g3⟩
    · rw [if_neg hok]
      clear hok
      go_wp2
      exact bodyPost_ret (v := .tuple #[sv [], .bool false]) (by simp [results, Tryz.results125, go_sem]) rfl ⟨rfl, g3⟩
  | true =>
  have hR := HS.out rfl
  subst hR
  obtain ⟨hTok, hn0, hn1⟩ := HOK.out _ _ rfl
  have HG2 : Hid ((if tn = (log.length : Int) ∧ qB xk xn xf xt xs xd ∧ log.length + C.length ≤ 30000 ∧ (apO ⟨Uo, Ul, Um, Ud, P⟩ ⟨xk, xf, xt, xs, xn, xd⟩).isSome = true then some (log ++ C) else none) = G) := HG.out
  have HTOK := Go.Lib.hid hTok
  have hcl := HRX.out
  clear HG HN HS HOK hTok
  by_cases hok : qB xk xn xf xt xs xd
  case neg =>
    rw [if_neg hok]
    have hG2 : G = none := by rw [← HG2.out, if_neg (fun h => hok h.2.1)]
    subst hG2
    clear HG2 hok cA HTOK
    go_wp2
    exact bodyPost_ret (v := .tuple #[sv [], .bool false]) (by simp [results, Tryz.results125, go_sem]) rfl ⟨rfl, g3⟩
  case pos =>
    rw [if_pos hok]
    by_cases hn : tn = (log.length : Int)
    case neg =>
      have hG2 : G = none := by rw [← HG2.out, if_neg (fun h => hn h.1)]
      subst hG2
      have hnb : (tn != (log.length : Int)) = true := by simpa using hn
      clear HG2 hok cA HTOK
      go_wp2
      exact bodyPost_ret (v := .tuple #[sv [], .bool false]) (by simp [results, Tryz.results125, go_sem]) rfl ⟨rfl, g3⟩
    case pos =>
      subst hn
      by_cases hlen : log.length + C.length ≤ 30000
      case neg =>
        have hG2 : G = none := by rw [← HG2.out, if_neg (fun h => hlen h.2.2.1)]
        subst hG2
        have hli : (30000 : Int) < (log.length : Int) + C.length := by omega
        clear HG2 hok cA HTOK
        go_wp2
        exact bodyPost_ret (v := .tuple #[sv [], .bool false]) (by simp [results, Tryz.results125, go_sem]) rfl ⟨rfl, g3⟩
      case pos =>
        have hli : ¬ (30000 : Int) < (log.length : Int) + C.length := by omega
        have CA := Go.Lib.hid (cA.out ⟨Uo, Ul, Um, Ud, P⟩ A1 c1 w3 HTOK.out hok (Sl.own o3))
        obtain ⟨W, hW⟩ : ∃ W, apO ⟨Uo, Ul, Um, Ud, P⟩ ⟨xk, xf, xt, xs, xn, xd⟩ = W := ⟨_, rfl⟩
        rw [hW] at CA HG2
        have HOK := Go.Lib.hid hok
        clear hW cA hok
        have hXO3 := hO3.cell
        have hXD3 := hD3.cell
        go_wp2_with fail
        refine (CA.out).mono ?_
        rintro e w4 ⟨A4, c4, rfl, o4, b4⟩
        have g4 := g3.trans (b4.mono (by omega))
        have z4 := b4.size
        clear CA hXO3 hXD3 b4 o4
        generalize W.getD vX = V
        obtain ⟨Vo, Vl, Vm, Vd, Q⟩ := V
        have g5 := g4.alloc (by omega) (.cells #[.int .i64 Vo, .int .i64 Vl, .int .i64 Vm, .string ⟨Vd.toArray⟩, .slice A4 Q.length c4] 27)
        cases W with
        | none =>
          have hG2 : G = none := by rw [← HG2.out, if_neg (fun h => by cases h.2.2.2)]
          subst hG2
          simp only [Option.isSome_none]
          go_wp2
          exact bodyPost_ret (v := .tuple #[sv [], .bool false]) (by simp [results, Tryz.results125, go_sem]) rfl ⟨rfl, g5⟩
        | some U =>
          have hG2 : G = some (log ++ C) := by rw [← HG2.out, if_pos ⟨by first | exact rfl | exact trivial, HOK.out, hlen, by first | exact rfl | exact trivial⟩]
          subst hG2
          simp only [Option.isSome_some]
          go_wp2
          exact bodyPost_ret (v := .tuple #[sv (log ++ C), .bool true]) (by simp [results, Tryz.results125, go_sem]) rfl ⟨rfl, g5⟩
end Go.Proofs.YtinncdollpajkaaGreat
