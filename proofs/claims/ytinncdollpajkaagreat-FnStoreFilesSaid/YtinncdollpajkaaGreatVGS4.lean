import Derived.Test.YtinncdollpajkaaGreatVGS3
import Derived.Test.YtinncdollpajkaaGreatVGS2
import Derived.Test.YtinncdollpajkaaGreatVGP1
set_option linter.unusedVariables false
set_option linter.unusedSimpArgs false
set_option maxHeartbeats 8000000
namespace Go.Proofs.YtinncdollpajkaaGreat
open Go.RowKit
set_option maxRecDepth 100000
attribute [local go_sem high] zA zu zy zO zK zX zx zk zn zq zi zo yQ zC yf zD
theorem Tf (o l m : Int) (w : World) (hst : xH o l m) :
  Calls Tryz.prog 202 #[.agg #[.int .i64 o, .int .i64 l, .int .i64 m]] w fun e w' => e = .returned (.tuple #[knV (ve o l m) none 0, .bool true]) ∧ Below w.heap.size w w' := by
 have hd : decide (xH o l m) = true := decide_eq_true hst
 go_enter Tryz.func202, Tryz.ntmps202
 go_wp2_with fail
 refine (uz _ _ _ _).mono ?_
 rintro e w2 ⟨rfl, hb2⟩
 have hI : Bk ((w.alloc (.cells #[.int .i64 o, .int .i64 l, .int .i64 m] 24)).alloc (.cells knZ 102)) w.heap.size 24 #[.int .i64 o, .int .i64 l, .int .i64 m] := tBk
 have hK : Bk ((w.alloc (.cells #[.int .i64 o, .int .i64 l, .int .i64 m] 24)).alloc (.cells knZ 102)) (w.heap.size + 1) 102 knZ := tBk
 have g0 : Below w.heap.size w ((w.alloc (.cells #[.int .i64 o, .int .i64 l, .int .i64 m] 24)).alloc (.cells knZ 102)) := zH
 generalize (w.alloc (.cells #[.int .i64 o, .int .i64 l, .int .i64 m] 24)).alloc (.cells knZ 102) = w0 at *
 have hz := hK.lt
 have hI2 := hI.below hb2 (by omega)
 have hK2 := hK.below hb2 (by omega)
 have g2 := g0.trans (hb2.mono (by omega))
 have hX := hI2.cell
 have hF := hK2.free
 have hY := hK2.cell
 clear hI hK g0 hb2
 go_wp2
 have hQ := (wU hK2 (ve o l m) none 0).cell
 have g3 := yz g2 (b := w.heap.size + 1) (by omega) (ve o l m) none 0
 simp only [ve, List.length_nil] at hQ g3
 exact bodyPost_ret (v := .tuple #[knV (ve o l m) none 0, .bool true]) (by simp [results, Tryz.results202, go_sem, hQ, ve]) rfl ⟨rfl, g3⟩
def jI (K : Kn) (w : World) (e : Ending) (w' : World) : Prop := ∃ A cap, e = .returned (.tuple #[knV K A cap, .bool true]) ∧ w'.ownsRow w.heap.size 189 2 (.slice A K.ps.length cap) K.ps.length (psV K.ps) ∧ Below w.heap.size w w'
theorem dQ (K : Kn) (A : Option Addr) (cap : Nat) (d : Bs) (w : World) (hk : K.ok) (hs : Sl w A K.ps.length cap 2 (psV K.ps)) (hf : fits K.o K.l K.m d) :
  Calls Tryz.prog 203 #[knV K A cap, .string ⟨d.toArray⟩] w (jI (K.learn d) w) := by
 have hd : decide (fits K.o K.l K.m d) = true := decide_eq_true hf
 have hdl : d.length ≤ 2000 := hf.2.1
 have cV : Hid (∀ wr, Below w.heap.size w wr → Calls Tryz.prog 218 #[knV K A cap] wr fun e w' => e = .returned (.bool true) ∧ Below wr.heap.size wr w') := fun wr h => rX K A cap wr hk (hs.below h)
 have cL : Hid (∀ wr, Below w.heap.size w wr → Calls Tryz.prog 219 #[knV K A cap, .string ⟨d.toArray⟩] wr (qU (K.learn d) wr)) := fun wr h => Xl K A cap d wr hk (hs.below h) (by omega) hf.2.2
 clear hs hf
 generalize K.learn d = K1 at *
 go_enter Tryz.func203, Tryz.ntmps203
 go_wp2_with fail
 have hK : Bk ((w.alloc (.cells (knC K A cap) 102)).alloc (.cells knZ 102)) w.heap.size 102 (knC K A cap) := tBk
 have hI : Bk ((w.alloc (.cells (knC K A cap) 102)).alloc (.cells knZ 102)) (w.heap.size + 1) 102 knZ := tBk
 have g0 : Below w.heap.size w ((w.alloc (.cells (knC K A cap) 102)).alloc (.cells knZ 102)) := zH
 generalize (w.alloc (.cells (knC K A cap) 102)).alloc (.cells knZ 102) = w0 at *
 refine (cV.out _ g0).mono ?_
 rintro e w2 ⟨rfl, hb2⟩
 have z0 := hI.lt
 have z2 := hb2.size
 have hK2 := hK.below hb2 (by omega)
 have hI2 := hI.below hb2 (by omega)
 have g2 := g0.trans (hb2.mono (by omega))
 have hX := hK2.cell
 clear hK hI g0 hb2
 go_wp2_with fail
 refine (tu _ _ _ _ _ (by omega)).mono ?_
 rintro e w3 ⟨rfl, hb3⟩
 have z3 := hb3.size
 have hK3 := hK2.below hb3 (by omega)
 have hI3 := hI2.below hb3 (by omega)
 have g3 := g2.trans (hb3.mono (by omega))
 clear hX
 have hX := hK3.cell
 clear hK2 hI2 g2 hb3
 go_wp2_with fail
 refine (cL.out _ g3).mono ?_
 rintro e w4 ⟨A4, c4, rfl, o4, hb4⟩
 have z4 := hb4.size
 have hI4 := hI3.below hb4 (by omega)
 have g4 := g3.trans (hb4.mono (by omega))
 have hF := hI4.free
 have hY := hI4.cell
 clear hK3 hI3 g3 hb4 hX
 go_wp2
 have hQ := (wU hI4 K1 A4 c4).cell
 have g5 := yz g4 (b := w.heap.size + 1) (by omega) K1 A4 c4
 have o5 := zF (B' := w.heap.size) (yI o4 (b := w.heap.size + 1) (by omega) K1 A4 c4) (by omega)
 exact bodyPost_ret (v := .tuple #[knV K1 A4 c4, .bool true]) (by simp [results, Tryz.results203, go_sem, hQ]) rfl ⟨A4, c4, rfl, o5, g5⟩
theorem lh (o l m : Int) (d : Bs) (w : World) (hf : fits o l m d) :
  Calls Tryz.prog 179 #[.agg #[.int .i64 o, .int .i64 l, .int .i64 m], .string ⟨d.toArray⟩] w (jI (zI o l m d) w) := by
 have cS : Hid (∀ w, Calls Tryz.prog 202 #[.agg #[.int .i64 o, .int .i64 l, .int .i64 m]] w fun e w' => e = .returned (.tuple #[.agg #[.int .i64 o, .int .i64 l, .int .i64 m, .slice none 0 0, .int .i64 0, .int .i64 (-1)], .bool true]) ∧ Below w.heap.size w w') := fun w => Tf o l m w hf.1
 have cL : Hid (∀ w, Calls Tryz.prog 203 #[.agg #[.int .i64 o, .int .i64 l, .int .i64 m, .slice none 0 0, .int .i64 0, .int .i64 (-1)], .string ⟨d.toArray⟩] w (jI (zI o l m d) w)) := fun w => dQ (ve o l m) none 0 d w (nT hf.1) (Sl.nil _ _) hf
 clear hf
 generalize zI o l m d = K1 at *
 go_enter Tryz.func179, Tryz.ntmps179
 go_wp2_with fail
 have hJ : Bk ((w.alloc (.cells #[.int .i64 o, .int .i64 l, .int .i64 m] 24)).alloc (.cells knZ 102)) w.heap.size 24 #[.int .i64 o, .int .i64 l, .int .i64 m] := tBk
 have hI : Bk ((w.alloc (.cells #[.int .i64 o, .int .i64 l, .int .i64 m] 24)).alloc (.cells knZ 102)) (w.heap.size + 1) 102 knZ := tBk
 have g0 : Below w.heap.size w ((w.alloc (.cells #[.int .i64 o, .int .i64 l, .int .i64 m] 24)).alloc (.cells knZ 102)) := zH
 generalize (w.alloc (.cells #[.int .i64 o, .int .i64 l, .int .i64 m] 24)).alloc (.cells knZ 102) = w0 at *
 refine (cS.out _).mono ?_
 rintro e w2 ⟨rfl, hb2⟩
 have z0 := hI.lt
 have z2 := hb2.size
 have hI2 := (hI.below hb2 (by omega)).alloc (.cells #[.int .i64 o, .int .i64 l, .int .i64 m, .slice none 0 0, .int .i64 0, .int .i64 (-1)] 102)
 have hK2 := Bk.new w2 #[.int .i64 o, .int .i64 l, .int .i64 m, .slice none 0 0, .int .i64 0, .int .i64 (-1)] 102
 have g2 := (g0.trans (hb2.mono (by omega))).alloc (by omega) (.cells #[.int .i64 o, .int .i64 l, .int .i64 m, .slice none 0 0, .int .i64 0, .int .i64 (-1)] 102)
 have hX := hK2.cell
 have hF := hK2.free
 clear hJ hI g0 hb2
 go_wp2_with fail
 refine (cL.out _).mono ?_
 rintro e w4 ⟨A4, c4, rfl, o4, hb4⟩
 have z4 := hb4.size
 simp only [World.size_alloc] at z4
 have hI4 := hI2.below hb4 (by simp; omega)
 have g4 := g2.trans (hb4.mono (by simp; omega))
 clear hX hF
 have hF := hI4.free
 have hY := hI4.cell
 clear hK2 hI2 g2 hb4
 go_wp2
 have hQ := (wU hI4 K1 A4 c4).cell
 have g5 := yz g4 (b := w.heap.size + 1) (by omega) K1 A4 c4
 have o5 := zF (B' := w.heap.size) (yI o4 (b := w.heap.size + 1) (by simp; omega) K1 A4 c4) (by simp; omega)
 exact bodyPost_ret (v := .tuple #[knV K1 A4 c4, .bool true]) (by simp [results, Tryz.results179, go_sem, hQ]) rfl ⟨A4, c4, rfl, o5, g5⟩
def xx (o : Option Bs) : Ending := .returned (.tuple #[sv (o.getD []), .bool o.isSome])
def uH (K : Kn) (d : Bs) : Option Bs := if fits K.o K.l K.m d then some (K.comp d) else none
def XE (o l m : Int) (dict d : Bs) : Option Bs := uH (zI o l m dict) d
theorem x9 {o l m : Int} {dict : Bs} (hf : fits o l m dict) : (zI o l m dict).ok := (Kn.RF (nT hf.1) hf.2.2).1
theorem Yw (K : Kn) (A : Option Addr) (cap : Nat) (d : Bs) (w : World) (hk : K.ok) (hs : Sl w A K.ps.length cap 2 (psV K.ps)) (hl : d.length ≤ 9223372036854775807) :
  Calls Tryz.prog 206 #[knV K A cap, .string ⟨d.toArray⟩] w fun e w' => e = xx (uH K d) ∧ Below w.heap.size w w' := by
 have cV : Hid (∀ wr, Below w.heap.size w wr → Calls Tryz.prog 218 #[knV K A cap] wr fun e w' => e = .returned (.bool true) ∧ Below wr.heap.size wr w') := fun wr h => rX K A cap wr hk (hs.below h)
 by_cases hf : fits K.o K.l K.m d
 ·have hd : decide (fits K.o K.l K.m d) = true := decide_eq_true hf
  have cL : Hid (∀ wr, Below w.heap.size w wr → Calls Tryz.prog 227 #[knV K A cap, .string ⟨d.toArray⟩] wr fun e w' => e = .returned (.string ⟨(K.comp d).toArray⟩) ∧ Below wr.heap.size wr w') := fun wr h => aA K A cap d wr hk (hs.below h) hf.2.1 hf.2.2
  have hG : Hid (xx (uH K d) = .returned (.tuple #[sv (K.comp d), .bool true])) := by show _ = _; unfold uH; rw [if_pos hf]; rfl
  clear hs hf
  generalize K.comp d = R at *
  generalize xx (uH K d) = G at *
  go_enter Tryz.func206, Tryz.ntmps206
  go_wp2_with fail
  have hK := Bk.new w (knC K A cap) 102
  have g0 : Below w.heap.size w (w.alloc (.cells (knC K A cap) 102)) := zH
  refine (cV.out _ g0).mono ?_
  rintro e w2 ⟨rfl, hb2⟩
  have z0 := hK.lt
  have z2 := hb2.size
  have hK2 := hK.below hb2 (by omega)
  have g2 := g0.trans (hb2.mono (by omega))
  have hX := hK2.cell
  clear hK g0 hb2
  go_wp2_with fail
  refine (tu _ _ _ _ _ (by omega)).mono ?_
  rintro e w3 ⟨rfl, hb3⟩
  have z3 := hb3.size
  have hK3 := hK2.below hb3 (by omega)
  have g3 := g2.trans (hb3.mono (by omega))
  clear hX
  have hX := hK3.cell
  clear hK2 g2 hb3
  go_wp2_with fail
  refine (cL.out _ g3).mono ?_
  rintro e w4 ⟨rfl, hb4⟩
  have g4 := g3.trans (hb4.mono (by omega))
  go_wp2
  go_ret2
  exact ⟨hG.out.symm, g4⟩
 ·have hd : decide (fits K.o K.l K.m d) = false := decide_eq_false hf
  have hG : Hid (xx (uH K d) = .returned (.tuple #[sv [], .bool false])) := by show _ = _; unfold uH; rw [if_neg hf]; rfl
  clear hs hf
  generalize xx (uH K d) = G at *
  go_enter Tryz.func206, Tryz.ntmps206
  go_wp2_with fail
  have hK := Bk.new w (knC K A cap) 102
  have g0 : Below w.heap.size w (w.alloc (.cells (knC K A cap) 102)) := zH
  refine (cV.out _ g0).mono ?_
  rintro e w2 ⟨rfl, hb2⟩
  have z0 := hK.lt
  have z2 := hb2.size
  have hK2 := hK.below hb2 (by omega)
  have g2 := g0.trans (hb2.mono (by omega))
  have hX := hK2.cell
  clear hK g0 hb2
  go_wp2_with fail
  refine (tu _ _ _ _ _ (by omega)).mono ?_
  rintro e w3 ⟨rfl, hb3⟩
  have g3 := g2.trans (hb3.mono (by omega))
  go_wp2
  go_ret2
  exact ⟨hG.out.symm, g3⟩
theorem iE (o l m : Int) (dict d : Bs) (w : World) (hf : fits o l m dict) (hl : d.length ≤ 9223372036854775807) :
  Calls Tryz.prog 184 #[.agg #[.int .i64 o, .int .i64 l, .int .i64 m], .string ⟨dict.toArray⟩, .string ⟨d.toArray⟩] w fun e w' => e = xx (XE o l m dict d) ∧ Below w.heap.size w w' := by
 have cS : Hid (∀ w, Calls Tryz.prog 179 #[.agg #[.int .i64 o, .int .i64 l, .int .i64 m], .string ⟨dict.toArray⟩] w (jI (zI o l m dict) w)) := fun w => lh o l m dict w hf
 have hk := x9 hf
 unfold XE
 generalize zI o l m dict = K at *
 obtain ⟨R, hR⟩ : ∃ R, (uH K d).getD [] = R := ⟨_, rfl⟩
 obtain ⟨b, hbb⟩ : ∃ b, (uH K d).isSome = b := ⟨_, rfl⟩
 have hG : xx (uH K d) = .returned (.tuple #[sv R, .bool b]) := by unfold xx; rw [hR, hbb]
 have cC0 : Hid (∀ A cap w, Sl w A K.ps.length cap 2 (psV K.ps) → Calls Tryz.prog 206 #[knV K A cap, .string ⟨d.toArray⟩] w fun e w' => e = .returned (.tuple #[sv R, .bool b]) ∧ Below w.heap.size w w') := fun A cap w hs => by rw [← hG]; exact Yw K A cap d w hk hs hl
 rw [hG]
 clear hG hR hbb
 go_enter Tryz.func184, Tryz.ntmps184
 go_wp2_with fail
 refine (cS.out _).mono ?_
 rintro e w2 ⟨A, cap, rfl, o2, hb2⟩
 have z2 := hb2.size
 simp only [World.size_alloc] at z2
 have hK2 := Bk.new w2 (knC K A cap) 102
 have s2 := Sl.own (o2.alloc (.cells (knC K A cap) 102))
 have g0 : Below w.heap.size w (w.alloc (.cells #[.int .i64 o, .int .i64 l, .int .i64 m] 24)) := zH
 have g2 := (g0.trans (hb2.mono (by simp))).alloc (by omega) (.cells (knC K A cap) 102)
 have hX := hK2.cell
 have hF := hK2.free
 have cC := cC0.out A cap _ s2
 clear g0 hb2 o2 s2 cC0
 go_wp2_with fail
 refine cC.mono ?_
 rintro e w3 ⟨rfl, hb3⟩
 have g3 := g2.trans (hb3.mono (by simp; omega))
 go_wp2
 go_ret2
 exact ⟨rfl, g3⟩
def oW (o l m : Int) (dict : Bs) (n : Int) (d : Bs) : Blk := match XE o l m dict d with
 | some s => if s.length < d.length then ⟨n, false, d.length, s⟩ else ⟨n, true, d.length, d⟩
 | none => ⟨n, true, d.length, d⟩
theorem PX (o l m : Int) (dict : Bs) (n : Int) (d : Bs) (h0 : 0 ≤ n) (h1 : n ≤ 65535) (hd : d.length ≤ 65535) : (oW o l m dict n d).sm := by
 unfold oW Blk.sm
 split
 ·split <;> simp only <;> omega
 ·simp only; omega
theorem XO (o l m : Int) (dict : Bs) (n : Int) (d : Bs) : (oW o l m dict n d).text.length ≤ 10 + d.length := by
 rw [Blk.nI]
 unfold oW
 split
 ·split <;> simp only <;> omega
 ·simp only; omega
theorem qm (o l m : Int) (dict : Bs) (n : Int) (d : Bs) (w : World) (hf : fits o l m dict) (hl : d.length ≤ 9223372036854775807) :
    Calls Tryz.prog 150 #[.agg #[.int .i64 o, .int .i64 l, .int .i64 m], .string ⟨dict.toArray⟩, .int .i64 n, .string ⟨d.toArray⟩] w fun e w' => e = .returned (bkV (oW o l m dict n d)) ∧ Below w.heap.size w w' := by
  have cC : Hid (∀ w, Calls Tryz.prog 184 #[.agg #[.int .i64 o, .int .i64 l, .int .i64 m], .string ⟨dict.toArray⟩, .string ⟨d.toArray⟩] w fun e w' => e = xx (XE o l m dict d) ∧ Below w.heap.size w w') := fun w => iE o l m dict d w hf hl
  unfold oW
  clear hf
  generalize XE o l m dict d = O at *
  go_enter Tryz.func150, Tryz.ntmps150
  go_wp2_with fail
  have hI : Bk ((w.alloc (.cells #[.int .i64 o, .int .i64 l, .int .i64 m] 24)).alloc (.cells xI 138)) (w.heap.size + 1) 138 xI := tBk
  have g0 : Below w.heap.size w ((w.alloc (.cells #[.int .i64 o, .int .i64 l, .int .i64 m] 24)).alloc (.cells xI 138)) := zH
  refine (cC.out _).mono ?_
  generalize (w.alloc (.cells #[.int .i64 o, .int .i64 l, .int .i64 m] 24)).alloc (.cells xI 138) = w0 at *
  rintro e w2 ⟨rfl, hb2⟩
  have z0 := hI.lt
  have hI2 := hI.below hb2 (by omega)
  have g2 := g0.trans (hb2.mono (by omega))
  have hX := hI2.cell
  have hF := hI2.free
  clear cC hb2 hI g0
  cases O with
  | none =>
    unfold xx
    go_wp2
    have Q := ((((hI2.set 0 (.int .i64 n)).set 1 (.bool true)).set 2 (.int .i64 (d.length : Int))).set 3 (.string ⟨d.toArray⟩)).cell
    exact bodyPost_ret (v := bkV ⟨n, true, d.length, d⟩) (by simp [results, Tryz.results150, go_sem, Q]) rfl ⟨rfl, zH⟩
  | some s =>
    unfold xx
    by_cases hc : s.length < d.length
    · have hc' : (s.length : Int) < d.length := by omega
      simp only [if_pos hc]
      go_wp2
      have Q := ((((hI2.set 0 (.int .i64 n)).set 1 (.bool false)).set 2 (.int .i64 (d.length : Int))).set 3 (.string ⟨s.toArray⟩)).cell
      exact bodyPost_ret (v := bkV ⟨n, false, d.length, s⟩) (by simp [results, Tryz.results150, go_sem, Q]) rfl ⟨rfl, zH⟩
    · have hc' : ¬ (s.length : Int) < d.length := by omega
      simp only [if_neg hc]
      go_wp2
      have Q := ((((hI2.set 0 (.int .i64 n)).set 1 (.bool true)).set 2 (.int .i64 (d.length : Int))).set 3 (.string ⟨d.toArray⟩)).cell
      exact bodyPost_ret (v := bkV ⟨n, true, d.length, d⟩) (by simp [results, Tryz.results150, go_sem, Q]) rfl ⟨rfl, zH⟩
def XB : Value → Nat
 | .string b => b.data.size
 | _ => 0
def Za (o l m : Int) (dict : Bs) (size : Nat) : Nat → Nat → Bs → Bs
 | 0, _, _ => []
 | n + 1, f, d => if d = [] then [] else (oW o l m dict (f : Int) (d.take size)).text ++ Za o l m dict size n (f + 1) (d.drop size)
theorem jM (o l m : Int) (dict : Bs) (size n f : Nat) : Za o l m dict size n f [] = [] := by
 cases n with
 | zero => rfl
 | succ n => unfold Za; rw [if_pos rfl]
theorem Us (o l m : Int) (dict : Bs) (size n f : Nat) (d : Bs) (h : d ≠ []) : Za o l m dict size (n + 1) f d = (oW o l m dict (f : Int) (d.take size)).text ++ Za o l m dict size n (f + 1) (d.drop size) := by
 rw [Za, if_neg h]
def mkB (o l m : Int) (dict : Bs) (size : Nat) (f : Nat) (d : Bs) : Bs := Za o l m dict size d.length f d
theorem W9 (o l m : Int) (dict : Bs) (size f : Nat) (d : Bs) (w : World) (hf : fits o l m dict) (hs1 : 1 ≤ size) (hs2 : size ≤ 64) (hd : d.length ≤ 2000) (hf0 : f ≤ 1000) :
  Calls Tryz.prog 144 #[.agg #[.int .i64 o, .int .i64 l, .int .i64 m], .string ⟨dict.toArray⟩, .int .i64 (f : Int), sv d, .int .i64 (size : Int)] w fun e w' => e = .returned (sv (mkB o l m dict size f d)) ∧ Below w.heap.size w w' := by
 have cB : Hid (∀ (n : Nat) (x : Bs) w, x.length ≤ 2000 → Calls Tryz.prog 150 #[.agg #[.int .i64 o, .int .i64 l, .int .i64 m], .string ⟨dict.toArray⟩, .int .i64 (n : Int), .string ⟨x.toArray⟩] w fun e w' => e = .returned (bkV (oW o l m dict n x)) ∧ Below w.heap.size w w') := fun n x w h => qm o l m dict n x w hf (by omega)
 have cT : Hid (∀ (n : Nat) (x : Bs) w, n ≤ 4000 → x.length ≤ 2000 → Calls Tryz.prog 132 #[bkV (oW o l m dict n x)] w fun e w' => e = .returned (.string ⟨(oW o l m dict n x).text.toArray⟩) ∧ Below w.heap.size w w') := fun n x w h1 h2 => kK _ w (PX o l m dict n x (by omega) (by omega) (by omega))
 have hG : Hid (mkB o l m dict size f d = Za o l m dict size d.length f d) := rfl
 generalize mkB o l m dict size f d = G at *
 clear hf
 go_enter Tryz.func144, Tryz.ntmps144
 go_wp2
 have hI := Bk.new w #[.int .i64 o, .int .i64 l, .int .i64 m] 24
 have g0 : Below w.heap.size w (w.alloc (.cells #[.int .i64 o, .int .i64 l, .int .i64 m] 24)) := zH
 go_loopw [2, 3, 11] (fun a b c wr => ∃ (D X : Bs) (q k : Nat), a = .int .i64 (q : Int) ∧ b = sv D ∧ c = sv X ∧ q + D.length ≤ 3000 ∧ D.length ≤ k ∧ X.length + 11 * D.length ≤ 22000 ∧ D.length ≤ 2000 ∧ Hid (G = X ++ Za o l m dict size k q D) ∧ Bk wr w.heap.size 24 #[.int .i64 o, .int .i64 l, .int .i64 m] ∧ Below w.heap.size w wr) (fun _ b _ _ => XB b)
 case atStart => exact ⟨d, [], f, d.length, rfl, rfl, rfl, by omega, Nat.le_refl _, by simp; omega, hd, by show _ = _; rw [hG.out]; rfl, hI, g0⟩
 case round =>
  obtain ⟨D, X, q, k, rfl, rfl, rfl, hq, hk, hX, hD, HG, hK, g⟩ := hrel
  clear hI g0 hG
  have hz := hK.lt
  by_cases hne : D = []
  ·subst hne
   have hE : Hid (G = X) := by show _ = _; rw [HG.out, jM, List.append_nil]
   go_wp2
   go_ret
   exact ⟨by rw [hE.out]; rfl, g⟩
  ·have hl1 := List.length_pos_iff.2 hne
   have hte : (decide (D = [])) = false := by simpa using hne
   have hte2 : (D != []) = true := by simpa using hne
   obtain ⟨k', rfl⟩ : ∃ k', k = k' + 1 := ⟨k - 1, by omega⟩
   have HG2 := Go.Lib.hid (HG.out.trans (by rw [Us _ _ _ _ _ _ _ _ hne]))
   by_cases hsz : D.length < size
   ·have etk : D.take size = D := List.take_of_length_le (by omega)
    have edr : D.drop size = [] := List.drop_eq_nil_of_le (by omega)
    rw [etk, edr, jM, List.append_nil] at HG2
    have cB1 := fun w => cB.out q D w (by omega)
    have cT1 := fun w => cT.out q D w (by omega) (by omega)
    have hbl := XO o l m dict (q : Int) D
    have hq1 : ¬ 9223372036854775807 < X.length + (oW o l m dict (q : Int) D).text.length := by omega
    clear etk edr hne HG
    have hY := hK.cell
    go_wp2_with fail
    refine wp_region_held_drew (S := (fun w' => w'.cell? ⟨w.heap.size, 0, none⟩ = some (.int .i64 o) ∧ w'.cell? ⟨w.heap.size, 1, none⟩ = some (.int .i64 l) ∧ w'.cell? ⟨w.heap.size, 2, none⟩ = some (.int .i64 m))) (by kernel_rfl) ?_ (fun hSS => ?_)
    focus ((refine ⟨?_, ?_, ?_⟩; all_goals first | (simp [hY9]; done) | (simp [hY8]; done) | (simp [hY]; done)))
    refine tk 0 ?_
    try simp only [Act.put, u2, u3, u4]
    refine tk 1 ?_
    try simp only [Act.put, u2, u3, u4]
    refine tk 2 ?_
    try simp only [Act.put, u2, u3, u4]
    refine tk 3 ?_
    try simp only [Act.put, u2, u3, u4]
    refine tk 4 ?_
    try simp only [Act.put, u2, u3, u4]
    refine tk 5 ?_
    try simp only [Act.put, u2, u3, u4]
    refine tk 6 ?_
    try simp only [Act.put, u2, u3, u4]
    refine rd1 7 fun KK hKK => ?_
    go_simp
    (go_at_call 150; refine (cB1 _).mono ?_; rintro e w8 ⟨rfl, hb8⟩; have hb8 : Below wr.heap.size wr w8 := zL hb8; have z8 := hb8.size; have hK8 := hK.below hb8 (by omega); have g8 := g.trans (hb8.mono (by omega)); have hY8 := hK8.cell)
    refine hKK.out _ _ (by (refine ⟨?_, ?_, ?_⟩; all_goals first | (simp [hY9]; done) | (simp [hY8]; done) | (simp [hY]; done))) fun hSS => ?_
    try simp only [Act.put, u2, u3, u4]
    refine rd1 8 fun KK hKK => ?_
    go_simp
    (go_at_call 132; refine (cT1 _).mono ?_; rintro e w9 ⟨rfl, hb9⟩; have z9 := hb9.size; have hK9 := hK8.below hb9 (by omega); have g9 := g8.trans (hb9.mono (by omega)); have hY9 := hK9.cell)
    refine hKK.out _ _ (by (refine ⟨?_, ?_, ?_⟩; all_goals first | (simp [hY9]; done) | (simp [hY8]; done) | (simp [hY]; done))) fun hSS => ?_
    try simp only [Act.put, u2, u3, u4]
    refine tk 9 ?_
    try simp only [Act.put, u2, u3, u4]
    refine tk 10 ?_
    try simp only [Act.put, u2, u3, u4]
    refine wpAnyH_done (by kernel_rfl) ?_ _
    simp only [List.getElem_toArray, List.getElem_cons_succ, List.getElem_cons_zero, Act.put, u2, u3, u4]
    go_wp2
    go_roundw
    case rel => exact ⟨[], X ++ (oW o l m dict (q : Int) D).text, q + 1, k', by go_num, by first | rfl | (simp; done), by first | rfl | (simp [sv]; done), by simp; omega, by simp, by simp; omega, by simp, by show _ = _; rw [HG2.out, jM, List.append_nil], hK9, g9⟩
    case measure => simp [XB]; omega
   ·have htl : (D.take size).length = size := by simp; omega
    have hdl : (D.drop size).length = D.length - size := by simp
    have cB1 := fun w => cB.out q (D.take size) w (by omega)
    have cT1 := fun w => cT.out q (D.take size) w (by omega) (by omega)
    have hbl := XO o l m dict (q : Int) (D.take size)
    have hq1 : ¬ 9223372036854775807 < X.length + (oW o l m dict (q : Int) (D.take size)).text.length := by omega
    have hsz2 : size ≤ D.length := by omega
    clear hne HG
    have hY := hK.cell
    go_wp2_with fail
    refine wp_region_held_drew (S := (fun w' => w'.cell? ⟨w.heap.size, 0, none⟩ = some (.int .i64 o) ∧ w'.cell? ⟨w.heap.size, 1, none⟩ = some (.int .i64 l) ∧ w'.cell? ⟨w.heap.size, 2, none⟩ = some (.int .i64 m))) (by kernel_rfl) ?_ (fun hSS => ?_)
    focus ((refine ⟨?_, ?_, ?_⟩; all_goals first | (simp [hY9]; done) | (simp [hY8]; done) | (simp [hY]; done)))
    refine tk 0 ?_
    try simp only [Act.put, u2, u3, u4]
    refine tk 1 ?_
    try simp only [Act.put, u2, u3, u4]
    refine tk 2 ?_
    try simp only [Act.put, u2, u3, u4]
    refine tk 3 ?_
    try simp only [Act.put, u2, u3, u4]
    refine tk 4 ?_
    try simp only [Act.put, u2, u3, u4]
    refine tk 5 ?_
    try simp only [Act.put, u2, u3, u4]
    refine tk 6 ?_
    try simp only [Act.put, u2, u3, u4]
    refine rd1 7 fun KK hKK => ?_
    go_simp
    (go_at_call 150; refine (cB1 _).mono ?_; rintro e w8 ⟨rfl, hb8⟩; have hb8 : Below wr.heap.size wr w8 := zL hb8; have z8 := hb8.size; have hK8 := hK.below hb8 (by omega); have g8 := g.trans (hb8.mono (by omega)); have hY8 := hK8.cell)
    refine hKK.out _ _ (by (refine ⟨?_, ?_, ?_⟩; all_goals first | (simp [hY9]; done) | (simp [hY8]; done) | (simp [hY]; done))) fun hSS => ?_
    try simp only [Act.put, u2, u3, u4]
    refine rd1 8 fun KK hKK => ?_
    go_simp
    (go_at_call 132; refine (cT1 _).mono ?_; rintro e w9 ⟨rfl, hb9⟩; have z9 := hb9.size; have hK9 := hK8.below hb9 (by omega); have g9 := g8.trans (hb9.mono (by omega)); have hY9 := hK9.cell)
    refine hKK.out _ _ (by (refine ⟨?_, ?_, ?_⟩; all_goals first | (simp [hY9]; done) | (simp [hY8]; done) | (simp [hY]; done))) fun hSS => ?_
    try simp only [Act.put, u2, u3, u4]
    refine tk 9 ?_
    try simp only [Act.put, u2, u3, u4]
    refine tk 10 ?_
    try simp only [Act.put, u2, u3, u4]
    refine wpAnyH_done (by kernel_rfl) ?_ _
    simp only [List.getElem_toArray, List.getElem_cons_succ, List.getElem_cons_zero, Act.put, u2, u3, u4]
    go_wp2
    go_roundw
    case rel => exact ⟨D.drop size, X ++ (oW o l m dict (q : Int) (D.take size)).text, q + 1, k', by go_num, by first | rfl | (simp; done), by first | rfl | (simp [sv]; done), by simp; omega, by simp; omega, by simp; omega, by simp; omega, by show _ = _; rw [HG2.out, List.append_assoc], hK9, g9⟩
    case measure => simp [XB]; omega
def mkC (o l m : Int) (dict d : Bs) (size : Int) : Option Bs := if fits o l m dict ∧ 1 ≤ size ∧ size ≤ 64 ∧ (d.length : Int) ≤ size * 40 ∧ d.length ≤ 2000 then some (mkB o l m dict size.toNat 0 d) else none
theorem jw (o l m : Int) (dict d : Bs) (size : Int) (w : World) (hl : dict.length ≤ 9223372036854775807) (hd : d.length ≤ 9223372036854775807) (hs0 : -1000000 ≤ size) (hs1 : size ≤ 1000000) :
  Calls Tryz.prog 114 #[.agg #[.int .i64 o, .int .i64 l, .int .i64 m], .string ⟨dict.toArray⟩, sv d, .int .i64 size] w fun e w' => e = xx (mkC o l m dict d size) ∧ Below w.heap.size w w' := by
 have cR : Hid (∀ w, Calls Tryz.prog 80 #[.agg #[.int .i64 o, .int .i64 l, .int .i64 m], .string ⟨dict.toArray⟩] w fun e w' => e = .returned (.bool (decide (fits o l m dict))) ∧ Below w.heap.size w w') := fun w => tY o l m dict w hl
 have g0 : Below w.heap.size w (w.alloc (.cells #[.int .i64 o, .int .i64 l, .int .i64 m] 24)) := zH
 have hNO : Hid (¬ (fits o l m dict ∧ 1 ≤ size ∧ size ≤ 64 ∧ (d.length : Int) ≤ size * 40 ∧ d.length ≤ 2000) → xx (mkC o l m dict d size) = .returned (.tuple #[sv [], .bool false])) := fun h => by unfold mkC; rw [if_neg h]; rfl
 have hYES : Hid ((fits o l m dict ∧ 1 ≤ size ∧ size ≤ 64 ∧ (d.length : Int) ≤ size * 40 ∧ d.length ≤ 2000) → xx (mkC o l m dict d size) = .returned (.tuple #[sv (mkB o l m dict size.toNat 0 d), .bool true])) := fun h => by unfold mkC; rw [if_pos h]; rfl
 generalize xx (mkC o l m dict d size) = G at *
 by_cases h1 : fits o l m dict
 case neg =>
  have hN := Go.Lib.hid (hNO.out (fun h => h1 h.1))
  have hdf : decide (fits o l m dict) = false := decide_eq_false h1
  clear h1 hNO hYES
  go_enter Tryz.func114, Tryz.ntmps114
  go_wp2_with fail
  refine (cR.out _).mono ?_
  rintro e w2 ⟨rfl, hb2⟩
  have g2 := g0.trans (hb2.mono (by simp))
  go_wp2
  go_ret2
  exact ⟨hN.out.symm, g2⟩
 have hdf : decide (fits o l m dict) = true := decide_eq_true h1
 by_cases h2 : 1 ≤ size ∧ size ≤ 64
 case neg =>
  have hN := Go.Lib.hid (hNO.out (fun h => h2 ⟨h.2.1, h.2.2.1⟩))
  have hdi : decide (1 ≤ size ∧ size ≤ 64) = false := decide_eq_false h2
  clear h1 hNO hYES
  go_enter Tryz.func114, Tryz.ntmps114
  go_wp2_with fail
  refine (cR.out _).mono ?_
  rintro e w2 ⟨rfl, hb2⟩
  have g2 := g0.trans (hb2.mono (by simp))
  go_wp2_with (go_at_call 73; refine (vF _ _ _ _).mono ?_; rintro e w' ⟨rfl, rfl⟩)
  go_ret2
  exact ⟨hN.out.symm, g2⟩
 have hdi : decide (1 ≤ size ∧ size ≤ 64) = true := decide_eq_true h2
 obtain ⟨h2a, h2b⟩ := h2
 obtain ⟨n, rfl⟩ := Int.eq_ofNat_of_zero_le (by omega : 0 ≤ size)
 by_cases h3 : (d.length : Int) ≤ (n : Int) * 40
 case neg =>
  have hN := Go.Lib.hid (hNO.out (fun h => h3 h.2.2.2.1))
  have h3' : (n : Int) * 40 < d.length := by omega
  clear h1 hNO hYES
  go_enter Tryz.func114, Tryz.ntmps114
  go_wp2_with fail
  refine (cR.out _).mono ?_
  rintro e w2 ⟨rfl, hb2⟩
  have g2 := g0.trans (hb2.mono (by simp))
  go_wp2_with (go_at_call 73; refine (vF _ _ _ _).mono ?_; rintro e w' ⟨rfl, rfl⟩)
  go_ret2
  exact ⟨hN.out.symm, g2⟩
 have h3' : ¬ (n : Int) * 40 < d.length := by omega
 by_cases h4 : d.length ≤ 2000
 case neg =>
  have hN := Go.Lib.hid (hNO.out (fun h => h4 h.2.2.2.2))
  have h4' : (2000 : Int) < d.length := by omega
  clear h1 hNO hYES
  go_enter Tryz.func114, Tryz.ntmps114
  go_wp2_with fail
  refine (cR.out _).mono ?_
  rintro e w2 ⟨rfl, hb2⟩
  have g2 := g0.trans (hb2.mono (by simp))
  go_wp2_with (go_at_call 73; refine (vF _ _ _ _).mono ?_; rintro e w' ⟨rfl, rfl⟩)
  go_ret2
  exact ⟨hN.out.symm, g2⟩
 have h4' : ¬ (2000 : Int) < d.length := by omega
 have hY := Go.Lib.hid (hYES.out ⟨h1, h2a, h2b, h3, h4⟩)
 have cM : Hid (∀ w, Calls Tryz.prog 144 #[.agg #[.int .i64 o, .int .i64 l, .int .i64 m], .string ⟨dict.toArray⟩, .int .i64 0, sv d, .int .i64 (n : Int)] w fun e w' => e = .returned (sv (mkB o l m dict n 0 d)) ∧ Below w.heap.size w w') := fun w => W9 o l m dict n 0 d w h1 (by omega) (by omega) h4 (by omega)
 rw [Int.toNat_natCast] at hY
 clear h1 hNO hYES
 generalize mkB o l m dict n 0 d = R at *
 go_enter Tryz.func114, Tryz.ntmps114
 go_wp2_with fail
 have hI := Bk.new w #[.int .i64 o, .int .i64 l, .int .i64 m] 24
 refine (cR.out _).mono ?_
 rintro e w2 ⟨rfl, hb2⟩
 have g2 := g0.trans (hb2.mono (by simp))
 have hX := (hI.below hb2 (by simp)).cell
 go_wp2_with (first | (go_at_call 73; refine (vF _ _ _ _).mono ?_; rintro e w' ⟨rfl, rfl⟩) | (go_at_call 144; refine (cM.out _).mono ?_; rintro e w4 ⟨rfl, hb4⟩; have z4 := hb4.size))
 go_ret2
 exact ⟨hY.out.symm, g2.trans (hb4.mono (by have := hb2.size; simp at this; omega))⟩
end Go.Proofs.YtinncdollpajkaaGreat
