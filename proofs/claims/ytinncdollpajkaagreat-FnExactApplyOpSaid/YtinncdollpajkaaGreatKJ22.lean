import Derived.Test.YtinncdollpajkaaGreatKJ20
import Derived.Test.YtinncdollpajkaaGreatKGJ4
import Derived.Deep.Cut
set_option linter.unusedVariables false
set_option linter.unusedSimpArgs false
set_option maxHeartbeats 8000000
namespace Go.Proofs.YtinncdollpajkaaGreat
open Go.RowKit
set_option maxRecDepth 100000
attribute [local go_sem high] zy zx zu zS zK yc zA zk zl zq zi zo yO zF yl zD
theorem Uf {K : Kn} {c : Int} {r : List Int} {n : Nat} (h : wz K (c :: r) n) (he : c = K.cl + 1) : r = [] := by rw [wz, if_pos he] at h; exact h
theorem Xo {K : Kn} {c : Int} {r : List Int} {n : Nat} (h : wz K (c :: r) n) (he : c = K.cl) : wz K.cleared r n := by rw [wz, if_neg (by omega), if_pos he] at h; exact h
theorem eu {K : Kn} {c : Int} {r : List Int} {n : Nat} (h : wz K (c :: r) n) (h1 : c ≠ K.cl + 1) (h2 : c ≠ K.cl) : K.fol c = true ∧ n + (K.any c).length ≤ 2000 ∧ wz (K.after c) r (n + (K.any c).length) := by rw [wz, if_neg h1, if_neg h2] at h; exact h
theorem YB {K : Kn} (hk : K.ok) {c : Int} {r : List Int} {n : Nat} (h : wz K (c :: r) n) : 0 ≤ c ∧ c ≤ K.great := by
 have hb := hk.bd
 have hgr : K.nx - 1 ≤ K.great ∧ (K.gr = true → K.great = K.nx) := by unfold Kn.great; split <;> simp_all <;> omega
 have hnx : K.nx = K.cl + 2 + (K.ps.length : Int) := rfl
 have hcl : 0 ≤ K.cl := by unfold Kn.cl; have := yQ K.l hk.st.lm.1 hk.st.lm.2.1; omega
 by_cases h1 : c = K.cl + 1
 ·omega
 by_cases h2 : c = K.cl
 ·omega
 have hf := (eu h h1 h2).1
 unfold Kn.fol at hf
 simp only [decide_eq_true_eq] at hf
 rcases hf with hf | ⟨h3, h4⟩
 ·unfold codeOk at hf; omega
 ·have := hgr.2 h3; omega
theorem Xi (ws : List Nat) (x : Nat) : (ws ++ [x]).map ivn = ws.map ivn ++ [.int .i64 (x : Int)] := by simp
def Vz (K : Kn) (cs : List Int) (w : World) (e : Ending) (w' : World) : Prop := ∃ W cw d, e = .returned (.tuple #[.slice W cs.length cw, sv d, .bool true]) ∧ w'.ownsRow w.heap.size 3 1 (.slice W cs.length cw) cs.length ((K.walk cs).ws.map ivn) ∧ Below w.heap.size w w'
theorem tK {w : World} {B : Nat} {e e' : TypeId} {s s' n n' : Nat} {v v' : Value} {xs xs' : List Value} (h : w.ownsRow B e s v n xs) (h' : w.ownsRow B e' s' v' n' xs') (hne : e ≠ e') : ∀ g, v.ownBlock = some g → g < B ∨ ¬ (v'.ownBlock = some g) := fun g hg => .inr (fun e1 => by
 rcases vG h h' hne with h1 | h1
 ·rw [h1] at hg; cases hg
 ·exact h1 (by rw [hg, e1]))
theorem ah (K : Kn) (A : Option Addr) (cap : Nat) (C : Option Addr) (cc : Nat) (cs : List Int) (w : World) (hk : K.ok) (hs : Sl w A K.ps.length cap 2 (psV K.ps)) (hc : Sl w C cs.length cc 1 (cs.map iv)) (hl : cs.length ≤ 3100) (hg : wz K cs 0) :
  Calls Tryz.prog 230 #[knV K A cap, .slice C cs.length cc] w (Vz K cs w) := by
 obtain ⟨i, hi, hz0, hz1, hz2⟩ := info_parts uC
 obtain ⟨j, hj, jz0, jz1, jz2⟩ := info_parts vF
 have hst := hk.st
 have hlk : K.ps.length ≤ 100000 := by have := hk.fine.len; omega
 have hc0 : 0 < cs.length := by
  cases cs with
  | nil => exact absurd hg (by simp [wz])
  | cons c r => simp
 obtain ⟨hcc1, hcc2, _, hc4⟩ := hc
 obtain ⟨gc, oc, rfl, hgc, hcell⟩ := hc4 hc0
 have hcell : Hid (∀ j, (hj : j < cs.length) → w.cell? ⟨gc, oc + j, none⟩ = some (.int .i64 cs[j])) := fun j hj => hcell j _ (by rw [List.getElem?_map, List.getElem?_eq_getElem hj]; rfl)
 have cV : Hid (∀ wr, Below w.heap.size w wr → Calls Tryz.prog 133 #[knV K A cap] wr fun e w' => e = .returned (.bool true) ∧ Below wr.heap.size wr w') := fun wr h => wF K A cap wr hk (hs.below h)
 have cC : Hid (∀ wr, Below w.heap.size w wr → Calls Tryz.prog 176 #[knV K A cap] wr (rH K wr)) := fun wr h => qB K A cap wr hlk (hs.below h)
 unfold rH at cC
 have hG0 : Hid (cs ≠ [] → wz K cs ([] : Bs).length) := fun _ => hg
 generalize hWS : (K.walk cs).ws = WS at *
 unfold Vz
 rw [hWS]
 have HWS := Go.Lib.hid hWS
 clear hc4 hs hg hWS
 go_enter Tryz.func230, Tryz.ntmps230
 have hK0 : Bk (w.alloc (.cells (knC K A cap) 102)) w.heap.size 102 (knC K A cap) := tBk
 have g0 : Below w.heap.size w (w.alloc (.cells (knC K A cap) 102)) := zG
 go_upto_region 1 with (fail)
 generalize w.alloc (.cells (knC K A cap) 102) = w0 at *
 have hX0 := hK0.cell
 have hz0' := hK0.lt
 go_wp2_with fail
 refine (cV.out _ g0).mono ?_
 rintro e w1 ⟨rfl, hb1⟩
 have hz1' := hb1.size
 have hK1 := hK0.below hb1 (by omega)
 have g1 := g0.trans (hb1.mono (by omega))
 have hX1 := hK1.cell
 clear hb1 hK0 g0 hX0 cV
 go_wp2_with fail
 refine (cC.out _ g1).mono ?_
 rintro e w2 ⟨A2, cap2, rfl, o2, hb2⟩
 have hz2' := hb2.size
 have hK2 := hK1.below hb2 (by omega)
 have g2 := g1.trans (hb2.mono (by omega))
 have p2 := zC (B' := w.heap.size + 1) o2 (by omega)
 have hX2 := hK2.cell
 have hF2 := hK2.free
 have hK3 := uP hK2 K A2 cap2
 have g3 := yh g2 (b := w.heap.size) (by omega) K A2 cap2
 have p3 := yt p2 (b := w.heap.size) (by omega) K A2 cap2
 have hz3' := sD w2 w.heap.size K A2 cap2
 clear hb2 o2 hX1 hK1 g1 cC
 go_upto_region 4 with (fail)
 generalize ((((((w2.setCell ⟨w.heap.size, 0, none⟩ (.int .i64 K.o)).setCell ⟨w.heap.size, 1, none⟩ (.int .i64 K.l)).setCell ⟨w.heap.size, 2, none⟩ (.int .i64 K.m)).setCell ⟨w.heap.size, 3, none⟩ (.slice A2 K.ps.length cap2)).setCell ⟨w.heap.size, 4, none⟩ (.int .i64 K.base)).setCell ⟨w.heap.size, 5, none⟩ (.int .i64 K.last)) = W at *
 clear hX2 hF2 hK2 g2 p2
 have hG := zI hK3.cell hK3.lt
 refine wp_region_quiet_below (by kernel_rfl) (by kernel_rfl) ?_
 repeat (go_big_quiet_step ((first | (go_at_call 171; exact Calls.regrown_of (yN _ _ _ _ hst)) | (go_at_call 169; exact Calls.regrown_of (xH _ _ _ _ hst)))))
 refine wpQuiet_nil ?_
 intro w4 hw2
 have hb4 : Below _ _ w4 := zh hw2
 clear hw2
 have hz4' := hb4.size
 have hK4 := hK3.below hb4 hK3.lt
 have g4 := g3.trans (hb4.mono (by omega))
 have p4 := zf p3 hb4
 clear hG hb4 hK3 g3 p3
 have n4 : w4.ownsRow (w.heap.size + 1) 3 1 (.slice none ([] : List Nat).length 0) ([] : List Nat).length (([] : List Nat).map ivn) := ⟨by simp, .inl ⟨rfl, rfl⟩⟩
 have d4 : w4.ownsRow (w.heap.size + 1) 5 1 (.slice none ([] : Bs).length 0) ([] : Bs).length (([] : Bs).map u8v) := ⟨by simp, .inl ⟨rfl, rfl⟩⟩
 have hpw := yQ K.l (hst.lm.1) (hst.lm.2.1)
 obtain ⟨hpw1, hpw2⟩ := hpw
 go_wp2_with fail
 go_loopw [9, 10, 32] (fun a b c wr => ∃ (K' : Kn) (A' W D : Option Addr) (cap' cw cd n : Nat) (rest : List Int) (ws : List Nat) (d : Bs), c = .int .i64 (n : Int) ∧ b = .slice D d.length cd ∧ a = .slice W ws.length cw ∧ n ≤ cs.length ∧ d.length ≤ 2000 ∧ Hid (cs.drop n = rest) ∧ K'.ok ∧ Hid (K'.o = K.o ∧ K'.l = K.l) ∧ Hid (rest ≠ [] → wz K' rest d.length) ∧ Hid (WS = ws ++ (K'.walk rest).ws) ∧ Hid (ws.length = n) ∧
  wr.ownsRow (w.heap.size + 1) 189 2 (.slice A' K'.ps.length cap') K'.ps.length (psV K'.ps) ∧ wr.ownsRow (w.heap.size + 1) 3 1 (.slice W ws.length cw) ws.length (ws.map ivn) ∧ wr.ownsRow (w.heap.size + 1) 5 1 (.slice D d.length cd) d.length (d.map u8v) ∧ Bk wr w.heap.size 102 (knC K' A' cap') ∧ Below w.heap.size w wr) (fun _ _ c _ => cs.length - (intOf c).toNat)
 case atStart => exact ⟨K, A2, none, none, cap2, 0, 0, 0, cs, [], [], rfl, rfl, rfl, by omega, by simp, rfl, hk, ⟨rfl, rfl⟩, hG0, by show _ = _; rw [HWS.out]; rfl, rfl, p4, n4, d4, hK4, g4⟩
 case round =>
  obtain ⟨K', A', W, D, cap', cw, cd, n, rest, ws, d, rfl, rfl, rfl, hn, hdl, HD, hk', HL, HG, HW, HN, p, o, q, hK, g⟩ := hrel
  clear hK4 g4 p4 n4 d4 hG0 hk
  have hz := g.size
  have hkl := hK.lt
  by_cases hlt : n < cs.length
  ·have hni : (n : Int) < cs.length := by omega
   have hcn : ∃ c r, rest = c :: r ∧ cs[n] = c ∧ cs.drop (n + 1) = r := by
    have h := HD.out
    rw [List.drop_eq_getElem_cons hlt] at h
    exact ⟨_, _, h.symm, rfl, rfl⟩
   obtain ⟨c, r, rfl, hcn, hr⟩ := hcn
   have hcl := (g.cell (p := ⟨gc, oc + n, none⟩) hgc).trans (hcell.out n hlt)
   rw [hcn] at hcl
   have HD1 := Go.Lib.hid hr
   have hrl : r.length + n + 1 = cs.length := by rw [← hr, List.length_drop]; omega
   have HRL := Go.Lib.hid hrl
   have hgd := HG.out (by simp)
   have HGD := Go.Lib.hid hgd
   have hcg := YB hk' hgd
   have hgb := K'.vW hk'
   have hbd' := hk'.bd
   have hdk : decide (0 ≤ c ∧ c ≤ K'.great) = true := decide_eq_true hcg
   have hwb := oJ hk'
   obtain ⟨hwb1, hwb2⟩ := hwb
   have hcl' : K'.cl = pow2 K.l := by unfold Kn.cl; rw [HL.out.2]
   have HCL' := Go.Lib.hid hcl'
   have HNL := HN.out
   have hws : ws.length ≤ 3100 := by omega
   have hm1 : ws.length + 1 ≤ maxLen := by unfold maxLen; omega
   have hm2 : (ws.length + 1) * 8 ≤ 140737488355328 := by omega
   have HW1 : Hid (WS = (ws ++ [K'.width]) ++ ((K'.step c).walk r).ws) := by show _ = _; rw [HW.out, qM]; simp
   have cF := mG K' A' cap' c wr hk'
   have cW := Go.Lib.hid (fun w => aZ K' A' cap' w hk')
   have hX := hK.cell
   have hc0' : 0 ≤ c := hcg.1
   have hc1' : c ≤ 2200 := by omega
   have hgr1 : K'.great ≤ 1000000 := by omega
   clear hr hcn hrl hgd hcl' HG HW HD HNL hbd' hgb
   go_wp2_with fail
   refine cF.mono ?_
   rintro e w3 ⟨rfl, hb3⟩
   have hz3 := hb3.size
   have hK3 := hK.below hb3 (by omega)
   have p3 := zf p hb3
   have o3 := zf o hb3
   have q3 := zf q hb3
   have g3 := g.trans (hb3.mono (by omega))
   clear hb3 hK p o q g hX cF hcl
   have hX3 := hK3.cell
   by_cases hend : c = K'.cl + 1
   ·have hec : (c == pow2 K.l + 1) = true := by have h := HCL'.out; rw [beq_iff_eq]; omega
    have hrn := Uf HGD.out hend
    subst hrn
    have hnn : n + 1 = cs.length := by have := HRL.out; simp at this; omega
    have hle : ¬ (n : Int) < cs.length - 1 := by omega
    go_wp2_with fail
    refine (cW.out _).mono ?_
    rintro e w5 ⟨rfl, hb5⟩
    have hz5 := hb5.size
    have hK5 := hK3.below hb5 (by omega)
    have p5 := zf p3 hb5
    have o5 := zf o3 hb5
    have q5 := zf q3 hb5
    have g5 := g3.trans (hb5.mono (by omega))
    clear hb5 hK3 p3 o3 q3 g3 hX3 cW
    go_wp2_with (at_builtin; go_must (refine zL _ rfl _ _ 95 rfl (w.heap.size + 1) 3 i _ 1 8 Tryz.underlying95 hi hz0 hz1 hz2 rfl (by omega) _ _ _ rfl (o5.alloc _) _ 1 1 [.int .i64 (K'.width : Int)] rfl (Sl.newAt w5 #[.int .i64 (K'.width : Int)] _ 1 1 (by first | rfl | simp) (by simp) (by omega)) (by simp [Value.oneCell']) hm1 hm2 ?_ ?_))
    try (case refine_1 => first | omega | (simp <;> omega; done))
    intro W6 cw6 w6 o6 hg6 _
    have HVY : (ws ++ [K'.width]).length = ws.length + 1 := by simp
    have o6' : w6.ownsRow (w.heap.size + 1) 3 1 (.slice W6 (ws ++ [K'.width]).length cw6) (ws ++ [K'.width]).length ((ws ++ [K'.width]).map ivn) := by rw [HVY, Xi]; exact o6
    rw [← HVY]
    have p6 := xk (p5.alloc _) (o5.alloc _) (by decide) hg6
    have q6 := xk (q5.alloc _) (o5.alloc _) (by decide) hg6
    have hK6 := Bk.grown (hK5.alloc _) hg6 (fun k hk => by have := (o5.lt k hk).1; omega)
    have g6 := (g5.alloc (by omega) _).grown hg6 (by simp; omega) (fun k hk => by have := (o5.lt k hk).1; omega)
    have HVH : Hid ((ws ++ [K'.width]).length = n + 1) := by show _ = _; rw [HVY, HN.out]
    have hws2 : (ws ++ [K'.width]).length ≤ 3101 := by omega
    clear hK5 p5 o5 q5 g5 o6 hg6 HVY hm1 hm2 hws
    generalize ws ++ [K'.width] = ws2 at *
    have hz6 := g6.size
    have hkl6 := hK6.lt
    have HW2 : Hid (WS = ws2 ++ (K'.walk []).ws) := by show _ = _; rw [HW1.out]; rfl
    clear HW1 HGD hend
    go_wp2
    go_roundw
    case rel => exact ⟨K', A', W6, D, cap', cw6, cd, n + 1, [], ws2, d, by go_num, rfl, rfl, by omega, hdl, HD1, hk', HL, fun h => absurd rfl h, HW2, HVH, p6, o6', q6, hK6, g6⟩
    case measure => simp [intOf]; omega
   ·have hec : (c == pow2 K.l + 1) = false := by have h := HCL'.out; rw [beq_eq_false_iff_ne]; omega
    go_wp2_with fail
    refine (cW.out _).mono ?_
    rintro e w5 ⟨rfl, hb5⟩
    have hz5 := hb5.size
    have hK5 := hK3.below hb5 (by omega)
    have p5 := zf p3 hb5
    have o5 := zf o3 hb5
    have q5 := zf q3 hb5
    have g5 := g3.trans (hb5.mono (by omega))
    clear hb5 hK3 p3 o3 q3 g3 hX3 cW
    go_wp2_with (at_builtin; go_must (refine zL _ rfl _ _ 95 rfl (w.heap.size + 1) 3 i _ 1 8 Tryz.underlying95 hi hz0 hz1 hz2 rfl (by omega) _ _ _ rfl (o5.alloc _) _ 1 1 [.int .i64 (K'.width : Int)] rfl (Sl.newAt w5 #[.int .i64 (K'.width : Int)] _ 1 1 (by first | rfl | simp) (by simp) (by omega)) (by simp [Value.oneCell']) hm1 hm2 ?_ ?_))
    try (case refine_1 => first | omega | (simp <;> omega; done))
    intro W6 cw6 w6 o6 hg6 _
    have HVY : (ws ++ [K'.width]).length = ws.length + 1 := by simp
    have o6' : w6.ownsRow (w.heap.size + 1) 3 1 (.slice W6 (ws ++ [K'.width]).length cw6) (ws ++ [K'.width]).length ((ws ++ [K'.width]).map ivn) := by rw [HVY, Xi]; exact o6
    rw [← HVY]
    have p6 := xk (p5.alloc _) (o5.alloc _) (by decide) hg6
    have q6 := xk (q5.alloc _) (o5.alloc _) (by decide) hg6
    have hK6 := Bk.grown (hK5.alloc _) hg6 (fun k hk => by have := (o5.lt k hk).1; omega)
    have g6 := (g5.alloc (by omega) _).grown hg6 (by simp; omega) (fun k hk => by have := (o5.lt k hk).1; omega)
    have HVH : Hid ((ws ++ [K'.width]).length = n + 1) := by show _ = _; rw [HVY, HN.out]
    have hws2 : (ws ++ [K'.width]).length ≤ 3101 := by omega
    clear hK5 p5 o5 q5 g5 o6 hg6 HVY hm1 hm2 hws
    generalize ws ++ [K'.width] = ws2 at *
    have hz6 := g6.size
    have hkl6 := hK6.lt
    by_cases hcc : c = K'.cl
    ·have hcb : (c == pow2 K.l) = true := by have h := HCL'.out; rw [beq_iff_eq]; omega
     have hst2 : K'.step c = K'.cleared := if_pos hcc
     have hgn := Xo HGD.out hcc
     have HGN : Hid (r ≠ [] → wz K'.cleared r d.length) := fun _ => hgn
     rw [hst2] at HW1
     have hkc := K'.yT hk'
     have cA := mP (w.heap.size + 1) K' A' cap' 0 w6 hk' p6 (by omega)
     rw [← hcc] at cA
     have HL2 : Hid (K'.cleared.o = K.o ∧ K'.cleared.l = K.l) := HL
     clear hcc hst2 hgn HGD hend HL
     generalize K'.cleared = K2 at *
     have hX6 := hK6.cell
     go_wp2_with fail
     refine cA.mono ?_
     rintro e w8 ⟨A8, c8, rfl, p8, kp8, hq8⟩
     have hz8 := kp8.size
     have hK8 := hK6.below (kp8.below (by omega)) (by omega)
     have o8 := kp8.own o6' (tK o6' p6 (by decide))
     have q8 := kp8.own q6 (tK q6 p6 (by decide))
     have g8 := g6.trans ((kp8.below (by omega)).mono (by omega))
     have hX8 := hK8.cell
     have hF8 := hK8.free
     have hK9 := uP hK8 K2 A8 c8
     have p9 := yt p8 (b := w.heap.size) (by omega) K2 A8 c8
     have o9 := yt o8 (b := w.heap.size) (by omega) K2 A8 c8
     have q9 := yt q8 (b := w.heap.size) (by omega) K2 A8 c8
     have g9 := yh g8 (b := w.heap.size) (by omega) K2 A8 c8
     clear hX6 hK6 p6 o6' q6 g6 kp8 hq8 cA p8 o8 q8 g8 hK8
     go_wp2_with fail
     go_roundw
     case rel => exact ⟨K2, A8, W6, D, c8, cw6, cd, n + 1, r, ws2, d, by go_num, rfl, rfl, by omega, hdl, HD1, hkc, HL2, HGN, HW1, HVH, p9, o9, q9, hK9, g9⟩
     case measure => simp [intOf]; omega
    ·have hcb : (c == pow2 K.l) = false := by have h := HCL'.out; rw [beq_eq_false_iff_ne]; omega
     have hst2 : K'.step c = K'.after c := if_neg hcc
     obtain ⟨hf, hdd, hgn⟩ := eu HGD.out hend hcc
     rw [hst2] at HW1
     have hal := K'.uY hk' hf
     have hka := K'.ve hk' hf
     have cT := kL K' A' cap' c w6 hk' (Sl.own p6) hf
     have cA : Hid (∀ w7 : World, w7.ownsRow (w.heap.size + 1) 189 2 (.slice A' K'.ps.length cap') K'.ps.length (psV K'.ps) → w.heap.size + 1 ≤ w7.heap.size → Calls Tryz.prog 215 #[knV K' A' cap', .int .i64 c, .int .u8 (byteAt (K'.any c) 0)] w7 (Vx (w.heap.size + 1) (.slice A' K'.ps.length cap') (K'.after c) w7)) := fun w7 ho hB => kX (w.heap.size + 1) K' A' cap' c _ w7 hk' ho hB hf (qE _).symm
     have HL2 : Hid ((K'.after c).o = K.o ∧ (K'.after c).l = K.l) := by show _ ∧ _; unfold Kn.after; split <;> exact HL.out
     have HGN : Hid (r ≠ [] → wz (K'.after c) r (d ++ K'.any c).length) := fun _ => by rw [List.length_append]; exact hgn
     clear hcc hst2 hgn HGD hend HL hf
     generalize K'.any c = T at *
     generalize K'.after c = K2 at *
     obtain ⟨hal1, hal2⟩ := hal
     have hX6 := hK6.cell
     go_wp2_with fail
     refine cT.mono ?_
     rintro e w8 ⟨rfl, hb8⟩
     have hz8 := hb8.size
     have hK8 := hK6.below hb8 (by omega)
     have p8 := zf p6 hb8
     have o8 := zf o6' hb8
     have q8 := zf q6 hb8
     have g8 := g6.trans (hb8.mono (by omega))
     clear hb8 hX6 hK6 p6 o6' q6 g6 cT
     have hbi : ¬ (2000 : Int) < (d.length : Int) + T.length := by omega
     have ht1 : d.length + T.length ≤ maxLen := by unfold maxLen; omega
     have ht2 : d.length + T.length ≤ 140737488355328 := by omega
     go_wp2_with (at_builtin; go_must (refine lQ rfl (.tmp 68) (.tmp 69) 22 9 rfl (w.heap.size + 1) 5 j Tryz.underlying22 Tryz.underlying9 hj jz0 jz1 jz2 (.slice D d.length cd) d.length (d.map u8v) rfl q8 T rfl ht1 ht2 (by omega) ?_))
     intro D9 cd9 w9 q9 hg9
     have HVY : (d ++ T).length = d.length + T.length := by simp
     have q9' : w9.ownsRow (w.heap.size + 1) 5 1 (.slice D9 (d ++ T).length cd9) (d ++ T).length ((d ++ T).map u8v) := by rw [HVY, List.map_append]; exact q9
     rw [← HVY]
     have hdl2 : (d ++ T).length ≤ 2000 := by omega
     have hT0 : (0 : Int) < T.length := by omega
     have hT0n : 0 < T.length := by omega
     generalize d ++ T = d2 at *
     have p9 := xk p8 q8 (by decide) hg9
     have o9 := xk o8 q8 (by decide) hg9
     have hK9 := hK8.grown hg9 (fun k hk => by have := (q8.lt k hk).1; omega)
     have g9 := g8.grown hg9 (by omega) (fun k hk => by have := (q8.lt k hk).1; omega)
     have hz9 := g9.size
     clear hK8 p8 o8 q8 g8 hg9 q9 HVY hbi ht1 ht2 hdd
     go_upto_region 18 with (fail)
     have hX9 := hK9.cell
     have hkl9 := hK9.lt
     have HH : Hid (∀ w', Below w9.heap.size w9 w' → (w'.cell? ⟨w.heap.size, 0, none⟩ = some (.int .i64 K'.o) ∧ w'.cell? ⟨w.heap.size, 1, none⟩ = some (.int .i64 K'.l) ∧ w'.cell? ⟨w.heap.size, 2, none⟩ = some (.int .i64 K'.m) ∧ w'.cell? ⟨w.heap.size, 3, none⟩ = some (.slice A' K'.ps.length cap') ∧ w'.cell? ⟨w.heap.size, 4, none⟩ = some (.int .i64 K'.base) ∧ w'.cell? ⟨w.heap.size, 5, none⟩ = some (.int .i64 K'.last))) := fun w' h => ⟨(h.cell (p := ⟨_, _, _⟩) (by first | assumption | (simp only; omega) | omega)).trans (hX9 0), (h.cell (p := ⟨_, _, _⟩) (by first | assumption | (simp only; omega) | omega)).trans (hX9 1), (h.cell (p := ⟨_, _, _⟩) (by first | assumption | (simp only; omega) | omega)).trans (hX9 2), (h.cell (p := ⟨_, _, _⟩) (by first | assumption | (simp only; omega) | omega)).trans (hX9 3), (h.cell (p := ⟨_, _, _⟩) (by first | assumption | (simp only; omega) | omega)).trans (hX9 4), (h.cell (p := ⟨_, _, _⟩) (by first | assumption | (simp only; omega) | omega)).trans (hX9 5)⟩
     clear hX9
     refine yM 5 (fun w' => w'.cell? ⟨w.heap.size, 0, none⟩ = some (.int .i64 K'.o) ∧ w'.cell? ⟨w.heap.size, 1, none⟩ = some (.int .i64 K'.l) ∧ w'.cell? ⟨w.heap.size, 2, none⟩ = some (.int .i64 K'.m) ∧ w'.cell? ⟨w.heap.size, 3, none⟩ = some (.slice A' K'.ps.length cap') ∧ w'.cell? ⟨w.heap.size, 4, none⟩ = some (.int .i64 K'.base) ∧ w'.cell? ⟨w.heap.size, 5, none⟩ = some (.int .i64 K'.last)) (by kernel_rfl) (by kernel_rfl) (by first | (exact HH.out _ tXbd) | go_keep) (fun hSS => ?_)
     simp only [List.take_succ_cons, List.take_zero]
     refine tk 0 ?_
     try simp only [Act.put, u2, u3, u4]
     refine tk 1 ?_
     try simp only [Act.put, u2, u3, u4]
     refine tk 2 ?_
     try simp only [Act.put, u2, u3, u4]
     refine rd1 3 fun KK hKK => ?_
     go_simp
     refine hKK.out _ _ (by first | (exact HH.out _ tXbd) | go_keep) fun hSS => ?_
     try simp only [Act.put, u2, u3, u4]
     refine rd1 4 fun KK hKK => ?_
     go_simp
     (go_at_call 215; refine (cA.out _ (xW p9) (by first | omega | (simp; omega))).mono ?_; rintro e w11 ⟨A11, c11, rfl, p11, kp11, hq11⟩; have kp11 := Kept.Xy kp11; have hK11 := hK9.below (kp11.below (by omega)) (by omega); have hX11 := hK11.cell; have hF11 := hK11.free; have hs11 := kp11.size)
     refine hKK.out _ _ (by first | (exact HH.out _ tXbd) | go_keep) fun hSS => ?_
     try simp only [Act.put, u2, u3, u4]
     refine wpAnyH_done (by kernel_rfl) ?_ _
     refine yz ?_
     refine wpOp_step (o := _) rfl (fun KK hKK => ?_)
     go_simp
     refine hKK _ _ (NoPanic.normal ?_)
     try simp only [Act.put, u2, u3, u4]
     have o11 := kp11.own o9 (tK o9 p9 (by decide))
     have q11 := kp11.own q9' (tK q9' p9 (by decide))
     have g11 := g9.trans ((kp11.below (by omega)).mono (by omega))
     have hK12 := uP hK11 K2 A11 c11
     have p12 := yt p11 (b := w.heap.size) (by omega) K2 A11 c11
     have o12 := yt o11 (b := w.heap.size) (by omega) K2 A11 c11
     have q12 := yt q11 (b := w.heap.size) (by omega) K2 A11 c11
     have g12 := yh g11 (b := w.heap.size) (by omega) K2 A11 c11
     clear hK9 p9 o9 q9' g9 kp11 hq11 cA p11 o11 q11 g11 hK11 hX11 hF11
     go_wp2_with fail
     go_roundw
     case rel => exact ⟨K2, A11, W6, D9, c11, cw6, cd9, n + 1, r, ws2, d2, by go_num, rfl, rfl, by omega, hdl2, HD1, hka, HL2, HGN, HW1, HVH, p12, o12, q12, hK12, g12⟩
     case measure => simp [intOf]; omega
  ·have hni : ¬ (n : Int) < cs.length := by omega
   have hnn : n = cs.length := by omega
   have hre : rest = [] := by rw [← HD.out, hnn, List.drop_length]
   have hWe : WS = ws := by rw [HW.out, hre]; simp [Kn.walk]
   have hwl : ws.length = cs.length := by rw [HN.out, hnn]
   have HWE := Go.Lib.hid hWe
   clear hre hnn hWe HG HW
   rw [hwl] at o ⊢
   have hcv := yR q
   have hcv2 := yR (xW q)
   go_wp2_with fail
   refine wp_region_held_drew (S := (fun w' => (convert 22 9 (.slice D d.length cd)).run Tryz.prog w' = .ok (.string ⟨d.toArray⟩) w')) (by kernel_rfl) ?_ (fun hSS => ?_)
   focus ((first | with_reducible exact hcv2 | with_reducible exact hcv))
   refine tk 0 ?_
   try simp only [Act.put, u2, u3, u4]
   refine tk 1 ?_
   try simp only [Act.put, u2, u3, u4]
   refine tk 2 ?_
   try simp only [Act.put, u2, u3, u4]
   refine tk 3 ?_
   try simp only [Act.put, u2, u3, u4]
   refine tk 4 ?_
   try simp only [Act.put, u2, u3, u4]
   refine tk 5 ?_
   try simp only [Act.put, u2, u3, u4]
   refine wpAnyH_done (by kernel_rfl) ?_ _
   simp only [List.getElem_toArray, List.getElem_cons_succ, List.getElem_cons_zero, Act.put, List.setIfInBounds_toArray, List.set_cons_zero, List.set_cons_succ]
   go_wp2
   exact bodyPost_ret (v := .tuple #[.slice W cs.length cw, sv d, .bool true]) (by simp [results, Tryz.results230, go_sem]) rfl ⟨W, cw, d, rfl, by rw [HWE.out]; exact zC (xW o) (by omega), g.drew⟩
end Go.Proofs.YtinncdollpajkaaGreat
