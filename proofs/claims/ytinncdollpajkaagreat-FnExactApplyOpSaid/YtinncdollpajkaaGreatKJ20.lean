import Derived.Test.YtinncdollpajkaaGreatKGJ2
import Derived.Test.YtinncdollpajkaaGreatKGS2
import Derived.Test.YtinncdollpajkaaGreatKGW
import Derived.Deep.Cut
set_option linter.unusedVariables false
set_option linter.unusedSimpArgs false
set_option maxHeartbeats 8000000
namespace Go.Proofs.YtinncdollpajkaaGreat
open Go.RowKit
set_option maxRecDepth 100000
attribute [local go_sem high] zy zx zu zS zK yc zA zk zl zq zi zo yO zF yl zD
theorem jR {w w' : World} {B : Nat} {e : TypeId} {s n : Nat} {v : Value} {xs : List Value} {row : Option Nat} (h : w.ownsRow B e s v n xs) (hg : w.grownBy w' row) (hne : ∀ k, v.ownBlock = some k → row ≠ some k) : w'.ownsRow B e s v n xs := by
 have hlt := h.lt
 obtain ⟨h1, h2⟩ := h
 refine ⟨h1, ?_⟩
 rcases h2 with h2 | ⟨g, cap, cur, rfl, hgb, hh, rest⟩
 ·exact .inl h2
 ·exact .inr ⟨g, cap, cur, rfl, hgb, (hg.block g (hlt g rfl).2 (fun hc => hne g rfl hc.symm)).trans hh, rest⟩
theorem yI.Wq {w w' : World} {B b : Nat} {K : Kn} {A An Ap : Option Addr} {cap cn cp : Nat} {row : Option Nat} (h : yI w B b K A An Ap cap cn cp) (hg : w.grownBy w' row) (hr : ∀ g, row = some g → ¬ uA b A An Ap g) : yI w' B b K A An Ap cap cn cp :=
 ⟨h.bB, h.box.grown hg (fun k hk e => hr k hk (.inl e)), jR h.prs hg (fun k hk e => hr k e (.inr (.inl (xX hk)))), jR h.nds hg (fun k hk e => hr k e (.inr (.inr (.inl (xX hk))))), jR h.nos hg (fun k hk e => hr k e (.inr (.inr (.inr (xX hk)))))⟩
theorem yI.blt {w : World} {B b : Nat} {K : Kn} {A An Ap : Option Addr} {cap cn cp : Nat} (h : yI w B b K A An Ap cap cn cp) : ∀ g, uA b A An Ap g → g < w.heap.size := by
 intro g hg
 rcases hg with rfl | hg | hg | hg
 ·exact h.box.lt
 ·exact (h.prs.lt g (pg h.prs g hg)).2
 ·exact (h.nds.lt g (pg h.nds g hg)).2
 ·exact (h.nos.lt g (pg h.nos g hg)).2
def Apt (C : Option Addr) (b : Nat) (A An Ap : Option Addr) : Prop := ∀ g, C.map (·.block) = some g → ¬ uA b A An Ap g
theorem Apt.next {C : Option Addr} {b : Nat} {A An Ap A' An' Ap' : Option Addr} {w : World} {B n cap : Nat} {e : TypeId} {xs : List Value} (h : Apt C b A An Ap) (ho : w.ownsRow B e 1 (.slice C n cap) n xs) (hS : ∀ g, uA b A' An' Ap' g → uA b A An Ap g ∨ w.heap.size ≤ g) : Apt C b A' An' Ap' := by
 intro g hg ht
 rcases hS g ht with h1 | h1
 ·exact h g hg h1
 ·have := (ho.lt g (pg ho g hg)).2; omega
theorem Apt.app {C C' : Option Addr} {b : Nat} {A An Ap : Option Addr} {n m c c' z : Nat} (h : Apt C b A An Ap) (hz : ∀ g, uA b A An Ap g → g < z) (hat : Value.ownBlock (.slice C' m c') = Value.ownBlock (.slice C n c) ∨ Value.ownBlock (.slice C' m c') = some z) : Apt C' b A An Ap := by
  intro g hg ht
  have e : Value.ownBlock (.slice C' m c') = some g ∨ True := .inr trivial
  cases C' with
  | none => cases hg
  | some a =>
    have hg' : a.block = g := by simpa using hg
    have e2 : Value.ownBlock (.slice (some a) m c') = some g := by rw [← hg']; rfl
    rcases hat with h1 | h1
    · rw [e2] at h1
      exact h g (xX h1.symm) ht
    · rw [e2] at h1
      injection h1 with h1
      have := hz g ht
      omega
def SS (cs : List Int) (w : World) (e : Ending) (w' : World) : Prop := ∃ A cap, e = .returned (.slice A cs.length cap) ∧ w'.ownsRow w.heap.size 3 1 (.slice A cs.length cap) cs.length (cs.map iv) ∧ Below w.heap.size w w'
theorem X6 (K : Kn) (A : Option Addr) (cap : Nat) (d : Bs) (w : World) (hk : K.ok) (hs : Sl w A K.ps.length cap 2 (psV K.ps)) (hl : d.length ≤ 100000) (hf : d.all (wW K.l) = true) :
  Calls Tryz.prog 229 #[knV K A cap, sv d] w (SS (K.zZ d) w) := by
 obtain ⟨i, hi, hz0, hz1, hz2⟩ := info_parts uC
 have hck := K.yT hk
 have hst := hk.st
 have hbd := hk.bd
 have HG0 : Hid (K.zZ d = [pow2 K.l] ++ (xC d.length K.cleared (d.drop 0) ++ [pow2 K.l + 1])) := by show _ = _; rw [YP hk.base0]; rfl
 have cN := fun w => iD K A cap w hk
 have CN := Go.Lib.hid cN
 have CF : Hid (∀ B b A2 An Ap c2 cn cp w', yI w' B b K A2 An Ap c2 cn cp → Calls Tryz.prog 173 #[.pointer (some ⟨b, 0, none⟩), .int .i64 (pow2 K.l)] w' (oV B b K.cleared (uA b A2 An Ap) w')) := fun B b A2 An Ap c2 cn cp w' h => qU w' h hk
 have hKl : K.cleared.l = K.l := rfl
 have HPB : Hid (0 ≤ pow2 K.l ∧ pow2 K.l ≤ 65536) := ⟨by have := yQ K.l (by have := hst.2.1; omega) (by have := hst.2.2.1; omega); omega, (yQ K.l (by have := hst.2.1; omega) (by have := hst.2.2.1; omega)).2⟩
 obtain ⟨G, hG⟩ : ∃ G, K.zZ d = G := ⟨_, rfl⟩
 rw [hG]
 rw [hG] at HG0
 clear cN hG hk
 generalize K.cleared = K0 at *
 have HKL := Go.Lib.hid hKl
 clear hKl
 go_enter Tryz.func229, Tryz.ntmps229
 have hK0 : Bk (w.alloc (.cells (knC K A cap) 102)) w.heap.size 102 (knC K A cap) := tBk
 have g0 : Below w.heap.size w (w.alloc (.cells (knC K A cap) 102)) := zG
 go_upto_region 1 with (fail)
 generalize w.alloc (.cells (knC K A cap) 102) = w0 at *
 have hX0 := hK0.cell
 have hz0' := hK0.lt
 have hG0 := zI hX0 hz0'
 go_wp2_with fail
 refine wp_region_quiet_below (by kernel_rfl) (by kernel_rfl) ?_
 repeat (go_big_quiet_step ((first | (go_at_call 171; exact Calls.regrown_of (yN _ _ _ _ hst)) | (go_at_call 169; exact Calls.regrown_of (xH _ _ _ _ hst)))))
 refine wpQuiet_nil ?_
 intro w1 hw2
 have hb1 : Below _ _ w1 := zh hw2
 clear hw2
 have hz1' := hb1.size
 have hK1 := hK0.below hb1 hz0'
 have g1 := g0.trans (hb1.mono (by omega))
 have hs1 := hs.below g1
 have hX1 := hK1.cell
 clear hb1 hK0 g0 hX0 hG0 hs
 go_wp2_with fail
 refine (CN.out _ hs1).mono ?_
 rintro e w2 ⟨b, A2, An2, Ap2, cap2, cn2, cp2, rfl, hT2, hb2⟩
 have hz2' := hb2.size
 have g2 := g1.trans (hb2.mono (by omega))
 have hb1B : w.heap.size ≤ w1.heap.size := by omega
 generalize w1.heap.size = B at *
 clear hb2 hK1 g1 hX1 hs1 CN
 have hbB := hT2.bB
 go_wp2_with fail
 refine (CF.out _ _ _ _ _ _ _ _ _ hT2).mono ?_
 rintro e w3 ⟨rfl, ⟨A3, An3, Ap3, cap3, cn3, cp3, hT3, hS3⟩, g3⟩
 have hb3 := g3.below (by omega)
 have hz3' := hb3.size
 have g4 := g2.trans (hb3.mono (by omega))
 clear hb3 g2 hT2 g3 hS3 CF
 have hT4 := hT3.alloc (.cells #[.int .i64 (pow2 K.l)] 3)
 have o4 : (w3.alloc (.cells #[.int .i64 (pow2 K.l)] 3)).ownsRow B 3 1 (.slice (some ⟨w3.heap.size, 0, none⟩) 1 1) 1 [.int .i64 (pow2 K.l)] := VE w3 #[.int .i64 (pow2 K.l)] rfl (by omega) (by unfold maxLen; omega)
 have D4 : Apt (some ⟨w3.heap.size, 0, none⟩) b A3 An3 Ap3 := fun g hg ht => by
  have h1 := hT3.blt g ht
  simp at hg
  omega
 have HD4 := Go.Lib.hid D4
 have g5 := g4.alloc (by omega) (.cells #[.int .i64 (pow2 K.l)] 3)
 clear hT3 D4 g4
 go_upto_region 5 with (fail)
 generalize w3.alloc (.cells #[.int .i64 (pow2 K.l)] 3) = W at *
 go_wp2
 go_loopw [1, 8] (fun a c wr => ∃ (at_ n : Nat) (K' : Kn) (A' An' Ap' : Option Addr) (cap' cn' cp' : Nat) (C : Option Addr) (cc : Nat) (cs : List Int), a = sv (d.drop at_) ∧ c = .slice C cs.length cc ∧ at_ ≤ d.length ∧ d.length ≤ at_ + n ∧ cs.length ≤ 2 * at_ + 1 ∧ K'.ok ∧ Hid (K'.l = K.l) ∧ Hid (G = cs ++ (xC n K' (d.drop at_) ++ [pow2 K.l + 1])) ∧
  yI wr B b K' A' An' Ap' cap' cn' cp' ∧ wr.ownsRow B 3 1 (.slice C cs.length cc) cs.length (cs.map iv) ∧ Hid (Apt C b A' An' Ap') ∧ Below w.heap.size w wr) (fun a _ _ => YV a)
 case atStart => exact ⟨0, d.length, K0, A3, An3, Ap3, cap3, cn3, cp3, some ⟨w3.heap.size, 0, none⟩, 1, [pow2 K.l], by simp [sv], rfl, by omega, by omega, by simp, hck, HKL.out, HG0, hT4, o4, HD4, g5⟩
 case round =>
  obtain ⟨at_, n, K', A', An', Ap', cap', cn', cp', C, cc, cs, rfl, rfl, hat, hatn, hcl, hk', HL, HG, hT, ho, HD, hg⟩ := hrel
  clear hT4 o4 HD4 g5 HG0 hck
  have hX := hT.box.cell
  have hwz := hT.box.lt
  have hbB' := hT.bB
  by_cases hlt : at_ < d.length
  ·have hne : d.drop at_ ≠ [] := fun h => by have := congrArg List.length h; simp at this; omega
   have hned : decide (d.drop at_ ≠ []) = true := by simpa using hne
   have hned2 : decide (d.drop at_ = []) = false := by simpa using hne
   have hrf : (d.drop at_).all (wW K'.l) = true := by rw [HL.out]; exact tN _ _ _ hf
   have hrl : (d.drop at_).length = d.length - at_ := by simp
   obtain ⟨m, rfl⟩ : ∃ m, n = m + 1 := ⟨n - 1, by omega⟩
   go_wp2_with fail
   refine (Xw K' A' cap' _ hk').mono ?_
   rintro e w5 ⟨rfl, hb5⟩
   have hT5 := hT.keep hb5
   have o5 := zf ho hb5
   have g5 := hg.trans (hb5.mono (by omega))
   have hz5 := hb5.size
   clear hX hb5 hT ho hg
   have hb5' := hT5.box.lt
   by_cases hfu : K'.full = true
   ·have hfd : decide (K'.top < K'.nx ∧ K'.base < (K'.ps.length : Int)) = true := hfu
    rw [hfd]
    have HG2 := Go.Lib.hid (Yk (n := m) hne hfu)
    have hk1 := K'.yT hk'
    have HL1 : Hid (K'.cleared.l = K.l) := HL.out
    have CF : Calls Tryz.prog 173 #[.pointer (some ⟨b, 0, none⟩), .int .i64 (pow2 K.l)] w5 (oV B b K'.cleared (uA b A' An' Ap') w5) := by
     have h := qU w5 hT5 hk'
     have e : pow2 K'.l = pow2 K.l := by rw [HL.out]
     rw [← e]
     exact h
    have HCL : Hid (K'.cl = pow2 K.l) := by show pow2 K'.l = _; rw [HL.out]
    have hrf1 : (d.drop at_).all (wW K'.cleared.l) = true := hrf
    clear hfd hfu hrf
    generalize K'.cleared = K1 at *
    go_wp2_with fail
    refine CF.mono ?_
    rintro e w6 ⟨rfl, ⟨A6, An6, Ap6, cap6, cn6, cp6, hT6, hS6⟩, k6⟩
    have hb6 := k6.below (by omega)
    have hz6 := hb6.size
    have o6 := k6.own o5 (fun g hg => .inr (HD.out g (xX hg)))
    have D6 := HD.out.next o5 hS6
    have g6 := g5.trans (hb6.mono (by omega))
    have hT6z := hT6.box.lt
    clear hb6 hT5 o5 g5 CF k6 hS6
    have hm1 : cs.length + 1 ≤ maxLen := by unfold maxLen; omega
    have hm2 : (cs.length + 1) * 8 ≤ 140737488355328 := by omega
    go_wp2_with (at_builtin; go_must (refine zL _ rfl _ _ 95 rfl (B) 3 i _ 1 8 Tryz.underlying95 hi hz0 hz1 hz2 rfl (by omega) _ _ _ rfl (o6.alloc _) _ 1 1 [Value.int .i64 (pow2 K.l)] rfl (Sl.newAt w6 #[Value.int .i64 (pow2 K.l)] _ 1 1 (by first | rfl | simp) (by simp) (by omega)) (by simp [Value.oneCell']) hm1 hm2 ?_ ?_))
    try (case refine_1 => first | omega | (simp <;> omega; done))
    intro C7 cc7 w7 o7 hg7 hat7
    have hT7 := (hT6.alloc (.cells #[.int .i64 (pow2 K.l)] 3)).Wq hg7 (fun g hg => D6 g (xX hg))
    have D7 := D6.app (fun g hg => Nat.lt_succ_of_lt (hT6.blt g hg)) hat7
    have g7 := yj (B := w.heap.size) g6 hg7 (by omega) (fun q hq => by have := (o6.lt q hq).1; omega)
    have o7' : w7.ownsRow B 3 1 (.slice C7 (cs ++ [pow2 K.l]).length cc7) (cs ++ [pow2 K.l]).length ((cs ++ [pow2 K.l]).map iv) := by
     rw [List.length_append, List.map_append]; exact o7
    have hz7 := wI hg7
    have hc1 : (cs ++ [pow2 K.l]).length ≤ 2 * at_ + 2 := by simp; omega
    have HG3 : Hid (G = (cs ++ [pow2 K.l]) ++ (K1.find (K1.longest (d.drop at_)) :: xC m (K1.after (K1.find (K1.longest (d.drop at_)))) ((d.drop at_).drop (K1.longest (d.drop at_)).length) ++ [pow2 K.l + 1])) := by
     show _ = _
     rw [HG.out, HG2.out, HCL.out]; simp
    have HLC : Hid ((cs ++ [pow2 K.l]).length = cs.length + 1) := by show _ = _; simp
    clear o6 hT6 hg7 hat7 g6 D6 o7 HG HG2 HL HD hk'
    rw [← HLC.out]
    generalize cs ++ [pow2 K.l] = cs1 at *
    have HD7 := Go.Lib.hid D7
    clear D7 hcl
    have hfol := K1.uB hk1 hne hrf1
    obtain ⟨hfol, _, hc0⟩ := hfol
    have hlp := (K1.yA (d.drop at_)).2
    have hlq := K1.y7 hne
    have hao := K1.ve hk1 hfol
    have cL := oU (d.drop at_) _ hT7 hk1 hne (by omega) hrf1
    have cF : Hid (∀ w', yI w' B b K1 A6 An6 Ap6 cap6 cn6 cp6 → Calls Tryz.prog 173 #[.pointer (some ⟨b, 0, none⟩), .int .i64 (K1.find (K1.longest (d.drop at_)))] w' (oV B b (K1.after (K1.find (K1.longest (d.drop at_)))) (uA b A6 An6 Ap6) w')) := fun w' h => oq _ w' h hk1 hfol
    have HL2 : Hid ((K1.after (K1.find (K1.longest (d.drop at_)))).l = K.l) := HL1.out
    clear hfol hne hrf1 HL1
    generalize K1.after (K1.find (K1.longest (d.drop at_))) = K2 at *
    generalize K1.find (K1.longest (d.drop at_)) = c at *
    generalize (K1.longest (d.drop at_)).length = L at *
    have HR2 := Go.Lib.hid hrl
    rw [hrl] at hlp
    clear hrl
    go_wp2_with fail
    refine cL.mono ?_
    rintro e w8 ⟨rfl, hb8⟩
    have hT8 := hT7.keep hb8
    have o8 := zf o7' hb8
    have g8 := g7.trans (hb8.mono (by omega))
    have hz8 := hb8.size
    clear hb8 hT7 o7' g7 cL
    have hT8z := hT8.box.lt
    go_wp2_with fail
    refine (cF.out _ hT8).mono ?_
    rintro e w9 ⟨rfl, ⟨A9, An9, Ap9, cap9, cn9, cp9, hT9, hS9⟩, k9⟩
    have hb9 := k9.below (by omega)
    have hz9 := hb9.size
    have o9 := k9.own o8 (fun g hg => .inr (HD7.out g (xX hg)))
    have D9 := HD7.out.next o8 hS9
    have g9 := g8.trans (hb9.mono (by omega))
    clear hb9 hT8 o8 g8 cF k9 hS9 HD7
    have hm1 : cs1.length + 1 ≤ maxLen := by unfold maxLen; omega
    have hm2 : (cs1.length + 1) * 8 ≤ 140737488355328 := by omega
    have hLd : (L : Int) ≤ ((d.drop at_).length : Int) := by rw [HR2.out]; omega
    go_wp2_with (at_builtin; go_must (refine zL _ rfl _ _ 95 rfl (B) 3 i _ 1 8 Tryz.underlying95 hi hz0 hz1 hz2 rfl (by omega) _ _ _ rfl (o9.alloc _) _ 1 1 [Value.int .i64 c] rfl (Sl.newAt w9 #[Value.int .i64 c] _ 1 1 (by first | rfl | simp) (by simp) (by omega)) (by simp [Value.oneCell']) hm1 hm2 ?_ ?_))
    try (case refine_1 => first | omega | (simp <;> omega; done))
    intro C10 cc10 w10 o10 hg10 hat10
    have hT10 := (hT9.alloc (.cells #[.int .i64 c] 3)).Wq hg10 (fun g hg => D9 g (xX hg))
    have D10 := D9.app (fun g hg => Nat.lt_succ_of_lt (hT9.blt g hg)) hat10
    have g10 := yj (B := w.heap.size) g9 hg10 (by omega) (fun q hq => by have := (o9.lt q hq).1; omega)
    have o10' : w10.ownsRow B 3 1 (.slice C10 (cs1 ++ [c]).length cc10) (cs1 ++ [c]).length ((cs1 ++ [c]).map iv) := by
     rw [List.length_append, List.map_append]; exact o10
    have HLC2 : Hid ((cs1 ++ [c]).length = cs1.length + 1) := by show _ = _; simp
    have HDR : Hid ((d.drop at_).drop L = d.drop (at_ + L)) := by show _ = _; rw [List.drop_drop]
    have HG4 : Hid (G = (cs1 ++ [c]) ++ (xC m K2 (d.drop (at_ + L)) ++ [pow2 K.l + 1])) := by
     show _ = _
     rw [HG3.out, ← HDR.out]; simp
    have HD10 := Go.Lib.hid D10
    have HH := Go.Lib.hid (And.intro o10' (And.intro hT10 g10))
    clear o9 hT9 hg10 hat10 g9 D9 o10 HG3 D10 o10' hT10 g10
    go_wp2
    go_roundw
    case rel => exact ⟨at_ + L, m, K2, A9, An9, Ap9, cap9, cn9, cp9, C10, cc10, cs1 ++ [c], by simp [sv], by rw [HLC2.out], by omega, by omega, by rw [HLC2.out]; omega, hao, HL2, HG4, HH.out.2.1, HH.out.1, HD10, HH.out.2.2⟩
    case measure => simp [YV]; omega
   ·have hfu2 : K'.full = false := by simpa using hfu
    have hfd : decide (K'.top < K'.nx ∧ K'.base < (K'.ps.length : Int)) = false := hfu2
    rw [hfd]
    have HG2 := Go.Lib.hid (Yh (n := m) hne hfu2)
    have HG3 : Hid (G = cs ++ (K'.find (K'.longest (d.drop at_)) :: xC m (K'.after (K'.find (K'.longest (d.drop at_)))) ((d.drop at_).drop (K'.longest (d.drop at_)).length) ++ [pow2 K.l + 1])) := by
     show _ = _
     rw [HG.out, HG2.out]
    have hk1 := hk'
    have HL1 := HL
    have hrf1 := hrf
    have hc1 : cs.length ≤ 2 * at_ + 2 := by omega
    have hz7 := hz5
    clear hfd hfu2 hfu HG HG2 hcl hk' HL hrf
    have HD5 := HD
    have o5' := o5
    clear HD o5
    generalize K' = K1 at *
    generalize cs = cs1 at *
    have hfol := K1.uB hk1 hne hrf1
    obtain ⟨hfol, _, hc0⟩ := hfol
    have hlp := (K1.yA (d.drop at_)).2
    have hlq := K1.y7 hne
    have hao := K1.ve hk1 hfol
    have cL := oU (d.drop at_) _ hT5 hk1 hne (by omega) hrf1
    have cF : Hid (∀ w', yI w' B b K1 A' An' Ap' cap' cn' cp' → Calls Tryz.prog 173 #[.pointer (some ⟨b, 0, none⟩), .int .i64 (K1.find (K1.longest (d.drop at_)))] w' (oV B b (K1.after (K1.find (K1.longest (d.drop at_)))) (uA b A' An' Ap') w')) := fun w' h => oq _ w' h hk1 hfol
    have HL2 : Hid ((K1.after (K1.find (K1.longest (d.drop at_)))).l = K.l) := HL1.out
    clear hfol hne hrf1 HL1
    generalize K1.after (K1.find (K1.longest (d.drop at_))) = K2 at *
    generalize K1.find (K1.longest (d.drop at_)) = c at *
    generalize (K1.longest (d.drop at_)).length = L at *
    have HR2 := Go.Lib.hid hrl
    rw [hrl] at hlp
    clear hrl
    go_wp2_with fail
    refine cL.mono ?_
    rintro e w8 ⟨rfl, hb8⟩
    have hT8 := hT5.keep hb8
    have o8 := zf o5' hb8
    have g8 := g5.trans (hb8.mono (by omega))
    have hz8 := hb8.size
    clear hb8 hT5 o5' g5 cL
    have hT8z := hT8.box.lt
    go_wp2_with fail
    refine (cF.out _ hT8).mono ?_
    rintro e w9 ⟨rfl, ⟨A9, An9, Ap9, cap9, cn9, cp9, hT9, hS9⟩, k9⟩
    have hb9 := k9.below (by omega)
    have hz9 := hb9.size
    have o9 := k9.own o8 (fun g hg => .inr (HD5.out g (xX hg)))
    have D9 := HD5.out.next o8 hS9
    have g9 := g8.trans (hb9.mono (by omega))
    clear hb9 hT8 o8 g8 cF k9 hS9 HD5
    have hm1 : cs1.length + 1 ≤ maxLen := by unfold maxLen; omega
    have hm2 : (cs1.length + 1) * 8 ≤ 140737488355328 := by omega
    have hLd : (L : Int) ≤ ((d.drop at_).length : Int) := by rw [HR2.out]; omega
    go_wp2_with (at_builtin; go_must (refine zL _ rfl _ _ 95 rfl (B) 3 i _ 1 8 Tryz.underlying95 hi hz0 hz1 hz2 rfl (by omega) _ _ _ rfl (o9.alloc _) _ 1 1 [Value.int .i64 c] rfl (Sl.newAt w9 #[Value.int .i64 c] _ 1 1 (by first | rfl | simp) (by simp) (by omega)) (by simp [Value.oneCell']) hm1 hm2 ?_ ?_))
    try (case refine_1 => first | omega | (simp <;> omega; done))
    intro C10 cc10 w10 o10 hg10 hat10
    have hT10 := (hT9.alloc (.cells #[.int .i64 c] 3)).Wq hg10 (fun g hg => D9 g (xX hg))
    have D10 := D9.app (fun g hg => Nat.lt_succ_of_lt (hT9.blt g hg)) hat10
    have g10 := yj (B := w.heap.size) g9 hg10 (by omega) (fun q hq => by have := (o9.lt q hq).1; omega)
    have o10' : w10.ownsRow B 3 1 (.slice C10 (cs1 ++ [c]).length cc10) (cs1 ++ [c]).length ((cs1 ++ [c]).map iv) := by
     rw [List.length_append, List.map_append]; exact o10
    have HLC2 : Hid ((cs1 ++ [c]).length = cs1.length + 1) := by show _ = _; simp
    have HDR : Hid ((d.drop at_).drop L = d.drop (at_ + L)) := by show _ = _; rw [List.drop_drop]
    have HG4 : Hid (G = (cs1 ++ [c]) ++ (xC m K2 (d.drop (at_ + L)) ++ [pow2 K.l + 1])) := by
     show _ = _
     rw [HG3.out, ← HDR.out]; simp
    have HD10 := Go.Lib.hid D10
    have HH := Go.Lib.hid (And.intro o10' (And.intro hT10 g10))
    clear o9 hT9 hg10 hat10 g9 D9 o10 HG3 D10 o10' hT10 g10
    go_wp2
    go_roundw
    case rel => exact ⟨at_ + L, m, K2, A9, An9, Ap9, cap9, cn9, cp9, C10, cc10, cs1 ++ [c], by simp [sv], by rw [HLC2.out], by omega, by omega, by rw [HLC2.out]; omega, hao, HL2, HG4, HH.out.2.1, HH.out.1, HD10, HH.out.2.2⟩
    case measure => simp [YV]; omega
  ·have hae : at_ = d.length := by omega
   subst hae
   have hne : d.drop d.length = [] := List.drop_length
   have HE : Hid (G = cs ++ [pow2 K.l + 1]) := by
    show _ = _
    rw [HG.out, hne, Xu]; rfl
   rw [hne]
   have hm1 : cs.length + 1 ≤ maxLen := by unfold maxLen; omega
   have hm2 : (cs.length + 1) * 8 ≤ 140737488355328 := by omega
   have HLC : Hid ((cs ++ [pow2 K.l + 1]).length = cs.length + 1) := by show _ = _; simp
   clear HG hne
   go_wp2_with (at_builtin; go_must (refine zL _ rfl _ _ 95 rfl (B) 3 i _ 1 8 Tryz.underlying95 hi hz0 hz1 hz2 rfl (by omega) _ _ _ rfl (ho.alloc _) _ 1 1 [Value.int .i64 (pow2 K.l + 1)] rfl (Sl.newAt wr #[Value.int .i64 (pow2 K.l + 1)] _ 1 1 (by first | rfl | simp) (by simp) (by omega)) (by simp [Value.oneCell']) hm1 hm2 ?_ ?_))
   try (case refine_1 => first | omega | (simp <;> omega; done))
   intro C7 cc7 w7 o7 hg7 _
   have g7 := yj (B := w.heap.size) hg hg7 (by omega) (fun q hq => by have := (ho.lt q hq).1; omega)
   have o7' : w7.ownsRow w.heap.size 3 1 (.slice C7 (cs ++ [pow2 K.l + 1]).length cc7) (cs ++ [pow2 K.l + 1]).length ((cs ++ [pow2 K.l + 1]).map iv) := by
    rw [List.length_append, List.map_append]; exact zC o7 hb1B
   have hE := HE.out
   subst hE
   clear o7 hg7 ho hg
   go_wp2
   go_ret
   exact ⟨C7, cc7, by rw [HLC.out]; rfl, o7', g7⟩
theorem TJ (g off n cap : Nat) (w : World) (h : n ≤ cap) (hc : cap ≤ 9223372036854775807) :
  Calls Tryz.prog 228 #[.slice (some ⟨g, off, none⟩) n cap] w fun e w' => e = .returned (.slice (some ⟨g, off, none⟩) n n) ∧ w = w' := by
 go_enter Tryz.func228, Tryz.ntmps228
 go_wp2
 go_ret
 exact ⟨rfl, rfl⟩
def Vk (cs : List Int) (w : World) (e : Ending) (w' : World) : Prop := ∃ A, e = .returned (.tuple #[.slice A cs.length cs.length, .bool true]) ∧ Sl w' A cs.length cs.length 1 (cs.map iv) ∧ Below w.heap.size w w'
theorem Sl.clip {w : World} {A : Option Addr} {n cap k : Nat} {xs : List Value} (h : Sl w A n cap k xs) : Sl w A n n k xs := by
 obtain ⟨h1, h2, h3, h4⟩ := h
 exact ⟨Nat.le_refl _, by omega, h3, h4⟩
theorem XW (K : Kn) (t : Bs) : 0 < (K.zZ t).length := by unfold Kn.zZ; simp
theorem gz (K : Kn) (A : Option Addr) (cap : Nat) (d : Bs) (w : World) (hk : K.ok) (hs : Sl w A K.ps.length cap 2 (psV K.ps)) (hf : fits K.o K.l K.m d) :
  Calls Tryz.prog 208 #[knV K A cap, sv d] w (Vk (K.zZ d) w) := by
 have hd : decide (fits K.o K.l K.m d) = true := decide_eq_true hf
 have hdl : d.length ≤ 2000 := hf.2.1
 have cV : Hid (∀ wr, Below w.heap.size w wr → Calls Tryz.prog 133 #[knV K A cap] wr fun e w' => e = .returned (.bool true) ∧ Below wr.heap.size wr w') := fun wr h => wF K A cap wr hk (hs.below h)
 have cG : Hid (∀ wr, Below w.heap.size w wr → Calls Tryz.prog 229 #[knV K A cap, sv d] wr (SS (K.zZ d) wr)) := fun wr h => X6 K A cap d wr hk (hs.below h) (by omega) hf.2.2
 unfold SS at cG
 have hp := XW K d
 unfold Vk
 generalize K.zZ d = cs at *
 clear hs hf
 go_enter Tryz.func208, Tryz.ntmps208
 go_wp2_with fail
 have hK : Bk (w.alloc (.cells (knC K A cap) 102)) w.heap.size 102 (knC K A cap) := tBk
 have g0 : Below w.heap.size w (w.alloc (.cells (knC K A cap) 102)) := zG
 generalize w.alloc (.cells (knC K A cap) 102) = w0 at *
 refine (cV.out _ g0).mono ?_
 rintro e w2 ⟨rfl, hb2⟩
 have z0 := hK.lt
 have z2 := hb2.size
 have hK2 := hK.below hb2 (by omega)
 have g2 := g0.trans (hb2.mono (by omega))
 have hX := hK2.cell
 clear hK g0 hb2 cV
 go_wp2_with fail
 refine (uw _ _ _ _ _ (by omega)).mono ?_
 rintro e w3 ⟨rfl, hb3⟩
 rw [hd]
 have z3 := hb3.size
 have hK3 := hK2.below hb3 (by omega)
 have g3 := g2.trans (hb3.mono (by omega))
 clear hX hK2 g2 hb3 hd
 have hX := hK3.cell
 go_wp2_with fail
 refine (cG.out _ g3).mono ?_
 rintro e w4 ⟨A4, c4, rfl, o4, hb4⟩
 have z4 := hb4.size
 have g4 := g3.trans (hb4.mono (by omega))
 have s4 := Sl.own o4
 have hc1 := s4.1
 have hc2 := s4.2.1
 obtain ⟨g, off, rfl, hg, _⟩ := s4.2.2.2 hp
 clear cG hX hK3 g3 hb4 o4
 go_wp2_with fail
 refine (TJ _ _ _ _ _ hc1 hc2).mono ?_
 rintro e w5 ⟨rfl, rfl⟩
 go_wp2
 go_ret2
 exact ⟨_, rfl, s4.clip, g4⟩
theorem fB (K : Kn) (A : Option Addr) (cap : Nat) (d : Bs) (w : World) (hk : K.ok) (hs : Sl w A K.ps.length cap 2 (psV K.ps)) (hf : ¬ fits K.o K.l K.m d) (hdl : d.length ≤ 9223372036854775807) :
  Calls Tryz.prog 208 #[knV K A cap, sv d] w fun e w' => e = .returned (.tuple #[.slice none 0 0, .bool false]) ∧ Below w.heap.size w w' := by
 have hd : decide (fits K.o K.l K.m d) = false := decide_eq_false hf
 have cV : Hid (∀ wr, Below w.heap.size w wr → Calls Tryz.prog 133 #[knV K A cap] wr fun e w' => e = .returned (.bool true) ∧ Below wr.heap.size wr w') := fun wr h => wF K A cap wr hk (hs.below h)
 clear hs hf
 go_enter Tryz.func208, Tryz.ntmps208
 go_wp2_with fail
 have hK : Bk (w.alloc (.cells (knC K A cap) 102)) w.heap.size 102 (knC K A cap) := tBk
 have g0 : Below w.heap.size w (w.alloc (.cells (knC K A cap) 102)) := zG
 generalize w.alloc (.cells (knC K A cap) 102) = w0 at *
 refine (cV.out _ g0).mono ?_
 rintro e w2 ⟨rfl, hb2⟩
 have z0 := hK.lt
 have z2 := hb2.size
 have hK2 := hK.below hb2 (by omega)
 have g2 := g0.trans (hb2.mono (by omega))
 have hX := hK2.cell
 clear hK g0 hb2 cV
 go_wp2_with fail
 refine (uw _ _ _ _ _ hdl).mono ?_
 rintro e w3 ⟨rfl, hb3⟩
 rw [hd]
 have z3 := hb3.size
 have g3 := g2.trans (hb3.mono (by omega))
 clear hX hK2 g2 hb3 hd
 go_wp2
 go_ret2
 exact ⟨rfl, g3⟩
end Go.Proofs.YtinncdollpajkaaGreat
