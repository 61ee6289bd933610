import Derived.Test.YtinncdollpajkaaGreatKS28
import Derived.Test.YtinncdollpajkaaGreatKGU4
import Derived.Test.YtinncdollpajkaaGreatKGW
import Derived.Deep.Cut
import Derived.Test.YtinncdollpajkaaGreatKJ30
import Derived.Test.YtinncdollpajkaaGreatKJ29
import Derived.Test.YtinncdollpajkaaGreatKQ14
set_option linter.unusedVariables false
set_option linter.unusedSimpArgs false
set_option maxHeartbeats 8000000
namespace Go.Proofs.YtinncdollpajkaaGreat
open Go.RowKit
set_option maxRecDepth 100000
attribute [local go_sem high] zy zx zu zS zK yc zA zk zl zq zi zo yO zF yl zD
theorem Xf {S T : Sto} {x : OpR} (h : apO S x = some T) : apT S x = (T, true) := by
  unfold apO at h
  unfold apT
  by_cases h4 : x.k = 4
  · rw [if_pos h4] at h ⊢
    split at h
    · rename_i hi
      injection h with h
      rw [h, hi]
    · cases h
  · rw [if_neg h4] at h ⊢
    have hc : ((if x.k = 0 then mkC S.o S.l S.m S.dict x.d x.s else (xI S.fs x.nm).bind fun i => chO S x (S.fs[i]?.getD ([], [])).2)) = chS S x := rfl
    rw [hc] at h
    cases hR : chS S x with
    | none => rw [hR] at h; cases h
    | some X =>
      rw [hR, Option.bind_some] at h
      split at h
      · rename_i hl
        injection h with h
        simp only [Option.getD_some, Option.isSome_some, Bool.true_and]
        rw [h, decide_eq_true hl]
      · cases h
theorem SE {S : Sto} {x : OpR} (h : apO S x = none) : (apT S x).2 = false := by
  unfold apO at h
  unfold apT
  by_cases h4 : x.k = 4
  · rw [if_pos h4] at h ⊢
    split at h
    · cases h
    · rename_i hi; simpa using hi
  · rw [if_neg h4] at h ⊢
    have hc : ((if x.k = 0 then mkC S.o S.l S.m S.dict x.d x.s else (xI S.fs x.nm).bind fun i => chO S x (S.fs[i]?.getD ([], [])).2)) = chS S x := rfl
    rw [hc] at h
    cases hR : chS S x with
    | none => simp
    | some X =>
      rw [hR, Option.bind_some] at h
      split at h
      · cases h
      · rename_i hl
        simp only [Option.getD_some, Option.isSome_some, Bool.true_and]
        simpa using hl
theorem V3 {o l m : Int} {dict t x : Bs} (h : cdB o l m dict t = some x) : t.length ≤ 2960 := by
 unfold cdB at h
 split at h
 ·cases hb : zM t with
  | none => rw [hb] at h; cases h
  | some bs => exact (xh hb).1
 ·cases h
theorem Sto.ok.bd {S : Sto} (h : S.ok) : StB S := by
 refine ⟨by have := h.1.2.1; omega, by have := h.2.1; omega, fun f hf => ?_⟩
 obtain ⟨i, hi, rfl⟩ := List.mem_iff_getElem.1 hf
 obtain ⟨h1, h2, _⟩ := h.2.2 i hi
 have := Zp h1
 obtain ⟨d, hd⟩ := Option.isSome_iff_exists.1 h2
 have := V3 hd
 exact ⟨by omega, by omega⟩
theorem OpR.ok.bd {x : OpR} (h : x.ok) : OpB x := by
 obtain ⟨h1, h2, h3⟩ := h
 have := Zp h1
 unfold OpB
 rcases h3 with ⟨h4 | h4, _, _, _, _⟩ | ⟨h4, _, _, _, _⟩ | ⟨h4, _, _, _, _⟩ | ⟨h4, _, _, _, _⟩ <;> (refine ⟨?_, ?_, ?_, ?_, ?_, ?_, ?_, ?_, ?_, ?_⟩ <;> omega)
noncomputable def aoO (S : Sto) (x : OpR) : Option Sto := if S.okB = true ∧ lJ x.k x.nm x.f x.t x.s x.d then apO S x else none
theorem Qg {S : Sto} {x : OpR} (hS : S.ok) (hx : x.ok) : aoO S x = apO S x := by
 unfold aoO
 rw [if_pos ⟨(Sto.jl S).2 hS, hx⟩]
def wB : Sto := ⟨0, 0, 0, [], []⟩
theorem rZ {w : World} {b : Nat} {t : TypeId} {x0 x1 x2 x3 x4 : Value} (h : Bk w b t #[x0, x1, x2, x3, x4]) :
  Bk (((((w.setCell ⟨b, 0, none⟩ (.int .i64 0)).setCell ⟨b, 1, none⟩ (.int .i64 0)).setCell ⟨b, 2, none⟩ (.int .i64 0)).setCell ⟨b, 3, none⟩ (.string ⟨#[]⟩)).setCell ⟨b, 4, none⟩ (.slice none 0 0)) b t yV := wX h ⟨0, 0, 0, [], []⟩ none 0
theorem WN (S : Sto) (x : OpR) (A : Option Addr) (cap : Nat) (w : World) (hs : Sl w A S.fs.length cap 2 (zQ S.fs)) (hS : S.dict.length ≤ 1500000 ∧ S.fs.length ≤ 1500000 ∧ ∀ f ∈ S.fs, f.1.length ≤ 1500000 ∧ f.2.length ≤ 1500000) (hx : x.nm.length ≤ 1500000 ∧ x.d.length ≤ 1500000) :
    Calls Tryz.prog 24 #[S.V A cap, x.val] w (StO ((aoO S x).getD wB) (aoO S x).isSome w) := by
  have hl := hS.2.1
  have hcap := hs.1
  have hcap2 := hs.2.1
  have cV : Hid (∀ wr, Below w.heap.size w wr → Calls Tryz.prog 46 #[S.V A cap] wr fun e w' => e = .returned (.bool S.okB) ∧ Below wr.heap.size wr w') := fun wr h => gB S A cap wr (hs.below h) hS.1 (by omega) hS.2.2
  have cO : Hid (∀ wr, Calls Tryz.prog 53 #[x.val] wr fun e w' => e = .returned (.bool (decide (lJ x.k x.nm x.f x.t x.s x.d))) ∧ Below wr.heap.size wr w') := fun wr => Yl x.k x.f x.t x.s x.nm x.d wr (by omega) (by omega)
  have cP : Hid (S.okB = true → decide (lJ x.k x.nm x.f x.t x.s x.d) = true → ∀ wr, Below w.heap.size w wr → Calls Tryz.prog 54 #[S.V A cap, x.val] wr (StO (apT S x).1 (apT S x).2 wr)) := fun h1 hok wr h => YN S x A cap wr (hs.below h) (Sto.ok.bd ((Sto.jl S).1 h1)) (OpR.ok.bd (of_decide_eq_true hok))
  clear hs hS hx
  obtain ⟨bv, hbv⟩ : ∃ b, S.okB = b := ⟨_, rfl⟩
  obtain ⟨ov, hov⟩ : ∃ b, decide (lJ x.k x.nm x.f x.t x.s x.d) = b := ⟨_, rfl⟩
  obtain ⟨T, hT⟩ : ∃ T, apT S x = T := ⟨_, rfl⟩
  rw [hbv] at cV
  rw [hov] at cO
  rw [hT, hov, hbv] at cP
  obtain ⟨R, hR⟩ : ∃ R, aoO S x = R := ⟨_, rfl⟩
  have HN : Hid ((bv = false ∨ ov = false ∨ T.2 = false) → R = none) := by
    intro h
    rw [← hR]
    unfold aoO
    split
    · rename_i hh
      cases ha : apO S x with
      | none => rfl
      | some U =>
        have := Xf ha
        rw [hT] at this
        rw [hbv] at hh
        rcases h with h | h | h
        · rw [h] at hh; simp at hh
        · rw [h] at hov; exact absurd hh.2 (by simpa using hov)
        · rw [this] at h; cases h
    · rfl
  have HY : Hid (bv = true → ov = true → T.2 = true → R = some T.1) := by
    intro h1 h2 h3
    rw [← hR]
    unfold aoO
    rw [if_pos ⟨hbv.trans h1, by rw [h2] at hov; simpa using hov⟩]
    cases ha : apO S x with
    | none => have := SE ha; rw [hT] at this; rw [this] at h3; cases h3
    | some U => have := Xf ha; rw [hT] at this; rw [this]
  rw [hR]
  clear hbv hov hT hR
  obtain ⟨T, tb⟩ := T
  obtain ⟨o, l, m, dict, fs⟩ := S
  obtain ⟨k, f, t, s, nm, d⟩ := x
  simp only at *
  unfold StO
  go_enter Tryz.func24, Tryz.ntmps24
  have hA : Bk (((w.alloc (.cells (Sto.C ⟨o, l, m, dict, fs⟩ A cap) 27)).alloc (.cells (OpR.cells ⟨k, f, t, s, nm, d⟩) 54)).alloc (.cells yV 27)) w.heap.size 27 (Sto.C ⟨o, l, m, dict, fs⟩ A cap) := tBk
  have hO : Bk (((w.alloc (.cells (Sto.C ⟨o, l, m, dict, fs⟩ A cap) 27)).alloc (.cells (OpR.cells ⟨k, f, t, s, nm, d⟩) 54)).alloc (.cells yV 27)) (w.heap.size + 1) 54 (OpR.cells ⟨k, f, t, s, nm, d⟩) := tBk
  have hB : Bk (((w.alloc (.cells (Sto.C ⟨o, l, m, dict, fs⟩ A cap) 27)).alloc (.cells (OpR.cells ⟨k, f, t, s, nm, d⟩) 54)).alloc (.cells yV 27)) (w.heap.size + 1 + 1) 27 yV := tBk
  have g0 : Below w.heap.size w (((w.alloc (.cells (Sto.C ⟨o, l, m, dict, fs⟩ A cap) 27)).alloc (.cells (OpR.cells ⟨k, f, t, s, nm, d⟩) 54)).alloc (.cells yV 27)) := zG
  simp only [Sto.C, OpR.cells] at hA hO hB g0
  go_upto_region 1 with (fail)
  generalize ((w.alloc (.cells #[.int .i64 o, .int .i64 l, .int .i64 m, .string ⟨dict.toArray⟩, .slice A fs.length cap] 27)).alloc (.cells #[.int .i64 k, .string ⟨nm.toArray⟩, .int .i64 f, .int .i64 t, .int .i64 s, .string ⟨d.toArray⟩] 54)).alloc (.cells yV 27) = w0 at *
  have z0 := g0.size
  have la := hA.lt
  have lo := hO.lt
  have lb := hB.lt
  have hXA := hA.cell
  have hXO := hO.cell
  go_wp2_with fail
  refine (cV.out _ g0).mono ?_
  rintro e w1 ⟨rfl, b1⟩
  have z1 := b1.size
  have hA1 := hA.below b1 la
  have hO1 := hO.below b1 lo
  have hB1 := hB.below b1 lb
  have g1 := g0.trans (b1.mono (by omega))
  have hXA1 := hA1.cell
  have hXO1 := hO1.cell
  have hXB1 := hB1.cell
  have hFB1 := hB1.free
  clear hA hO hB hXA hXO b1 g0 cV
  cases bv with
  | false =>
    have hR := HN.out (.inl rfl)
    subst hR
    clear HN HY cO cP
    go_wp2
    have Q := (rZ hB1).cell
    have gg := yD g1 (b := w.heap.size + 1 + 1) (by omega) wB none 0
    exact bodyPost_ret (v := .tuple #[Sto.V wB none 0, .bool false]) (by simp [results, Tryz.results24, go_sem, Q, Sto.V, wB]) rfl ⟨none, 0, rfl, ⟨rfl, .inl ⟨rfl, rfl⟩⟩, gg⟩
  | true =>
  go_wp2_with fail
  refine (cO.out _).mono ?_
  rintro e w2 ⟨rfl, b2⟩
  have z2 := b2.size
  have hA2 := hA1.below b2 (by omega)
  have hO2 := hO1.below b2 (by omega)
  have hB2 := hB1.below b2 (by omega)
  have g2 := g1.trans (b2.mono (by omega))
  have hXA2 := hA2.cell
  have hXO2 := hO2.cell
  have hXB2 := hB2.cell
  have hFB2 := hB2.free
  clear hA1 hO1 hB1 hXA1 hXO1 hXB1 hFB1 b2 g1 cO
  cases ov with
  | false =>
    have hR := HN.out (.inr (.inl rfl))
    subst hR
    clear HN HY cP
    go_wp2
    have Q := (rZ hB2).cell
    have gg := yD g2 (b := w.heap.size + 1 + 1) (by omega) wB none 0
    exact bodyPost_ret (v := .tuple #[Sto.V wB none 0, .bool false]) (by simp [results, Tryz.results24, go_sem, Q, Sto.V, wB]) rfl ⟨none, 0, rfl, ⟨rfl, .inl ⟨rfl, rfl⟩⟩, gg⟩
  | true =>
  go_wp2_with fail
  refine (cP.out (by first | exact rfl | exact trivial) (by first | exact rfl | exact trivial) _ g2).mono ?_
  rintro e w3 ⟨A3, c3, rfl, o3, b3⟩
  have z3 := b3.size
  have o3 := zC (B' := w.heap.size + 3) o3 (by omega)
  have hB3 := hB2.below b3 (by omega)
  have g3 := g2.trans (b3.mono (by omega))
  clear hA2 hO2 hB2 hXA2 hXO2 hXB2 hFB2 b3 g2 cP
  obtain ⟨To, Tl, Tm, Td, P⟩ := T
  simp only at o3
  have hB4 := hB3.alloc (.cells #[.int .i64 To, .int .i64 Tl, .int .i64 Tm, .string ⟨Td.toArray⟩, .slice A3 P.length c3] 27)
  have o4 := World.ownsRow.alloc o3 (.cells #[.int .i64 To, .int .i64 Tl, .int .i64 Tm, .string ⟨Td.toArray⟩, .slice A3 P.length c3] 27)
  have g4 := g3.alloc (by omega) (.cells #[.int .i64 To, .int .i64 Tl, .int .i64 Tm, .string ⟨Td.toArray⟩, .slice A3 P.length c3] 27)
  have hD4 : Bk (w3.alloc (.cells #[.int .i64 To, .int .i64 Tl, .int .i64 Tm, .string ⟨Td.toArray⟩, .slice A3 P.length c3] 27)) w3.heap.size 27 #[.int .i64 To, .int .i64 Tl, .int .i64 Tm, .string ⟨Td.toArray⟩, .slice A3 P.length c3] := Bk.new w3 #[.int .i64 To, .int .i64 Tl, .int .i64 Tm, .string ⟨Td.toArray⟩, .slice A3 P.length c3] 27
  have hXB := hB4.cell
  have hFB := hB4.free
  have hXD := hD4.cell
  go_upto_region 4 with (fail)
  clear hB3 o3 g3
  generalize (w3.alloc (.cells #[.int .i64 To, .int .i64 Tl, .int .i64 Tm, .string ⟨Td.toArray⟩, .slice A3 P.length c3] 27)) = w4 at *
  generalize w3.heap.size = q at *
  cases tb with
  | false =>
    have hR := HN.out (.inr (.inr rfl))
    subst hR
    clear HN HY
    go_wp2
    have Q := (rZ hB4).cell
    have gg := yD g4 (b := w.heap.size + 1 + 1) (by omega) wB none 0
    exact bodyPost_ret (v := .tuple #[Sto.V wB none 0, .bool false]) (by simp [results, Tryz.results24, go_sem, Q, Sto.V, wB]) rfl ⟨none, 0, rfl, ⟨rfl, .inl ⟨rfl, rfl⟩⟩, gg⟩
  | true =>
    have hR := HY.out (by first | exact rfl | exact trivial) (by first | exact rfl | exact trivial) (by first | exact rfl | exact trivial)
    subst hR
    clear HN HY
    go_wp2
    have Q := (wX hB4 ⟨To, Tl, Tm, Td, P⟩ A3 c3).cell
    have o9 := zC (B' := w.heap.size) (lM o4 (b := w.heap.size + 1 + 1) (by omega) ⟨To, Tl, Tm, Td, P⟩ A3 c3) (by omega)
    have gg := yD g4 (b := w.heap.size + 1 + 1) (by omega) ⟨To, Tl, Tm, Td, P⟩ A3 c3
    exact bodyPost_ret (v := .tuple #[Sto.V ⟨To, Tl, Tm, Td, P⟩ A3 c3, .bool true]) (by simp [results, Tryz.results24, go_sem, Q]) rfl ⟨A3, c3, rfl, o9, gg⟩
end Go.Proofs.YtinncdollpajkaaGreat
namespace Go.Proofs.YtinncdollpajkaaGreat
open Go.RowKit
set_option maxRecDepth 100000
attribute [local go_sem high] zy zx zu zS zK yc zA zk zl zq zi zo yO zF yl zD
attribute [local go_sem high] tV tu
theorem Ye (S : Sto) (n : Bs) (A : Option Addr) (cap : Nat) (w : World) (hok : S.ok) (hs : Sl w A S.fs.length cap 2 (zQ S.fs)) :
  Calls Tryz.prog 41 #[S.V A cap, sv n] w fun e w' => e = .returned (.tuple #[.int .i64 (vV S.fs n : Int), .bool (xI S.fs n).isSome]) ∧ Below w.heap.size w w' := by
 have hcap := hs.1
 have hcap2 := hs.2.1
 have hl := hok.2.1
 have HSL : Hid (∀ wr, Below w.heap.size w wr → Sl wr A S.fs.length cap 2 (zQ S.fs)) := fun wr h => hs.below h
 have HF : Hid (∀ (k : Nat) (hk : k < S.fs.length), (∀ (j : Nat) (h : j < S.fs.length), j < k → Op.bytesLess S.fs[j].1 n = true) → Op.bytesLess S.fs[k].1 n = false → xI S.fs n = (if S.fs[k].1 = n then some k else none) ∧ vV S.fs n = k) := fun k hk hA h => ⟨Uy hok hk hA h, Zx (by omega) (fun j hj => hA j (by omega) hj) (fun _ => h)⟩
 have HE : Hid (∀ k, S.fs.length ≤ k → (∀ (j : Nat) (h : j < S.fs.length), j < k → Op.bytesLess S.fs[j].1 n = true) → xI S.fs n = none ∧ vV S.fs n = S.fs.length) := fun k hk hA => ⟨TR hk hA, Zx (Nat.le_refl _) (fun j hj => hA j hj (by omega)) (fun h => by omega)⟩
 clear hs hok
 generalize xI S.fs n = R at *
 generalize vV S.fs n = X at *
 obtain ⟨o, l, m, dict, fs⟩ := S
 simp only at *
 go_enter Tryz.func41, Tryz.ntmps41
 have hK0 : Bk (w.alloc (.cells #[.int .i64 o, .int .i64 l, .int .i64 m, .string ⟨dict.toArray⟩, .slice A fs.length cap] 27)) w.heap.size 27 #[.int .i64 o, .int .i64 l, .int .i64 m, .string ⟨dict.toArray⟩, .slice A fs.length cap] := tBk
 have g0 : Below w.heap.size w (w.alloc (.cells #[.int .i64 o, .int .i64 l, .int .i64 m, .string ⟨dict.toArray⟩, .slice A fs.length cap] 27)) := zG
 go_upto_region 1 with (fail)
 generalize w.alloc (.cells #[.int .i64 o, .int .i64 l, .int .i64 m, .string ⟨dict.toArray⟩, .slice A fs.length cap] 27) = w0 at *
 have hX0 := hK0.cell
 go_wp2
 go_loopw [11] (fun i wr => ∃ k : Nat, i = .int .i64 (k : Int) ∧ k ≤ fs.length ∧ Hid (∀ (j : Nat) (h : j < fs.length), j < k → Op.bytesLess fs[j].1 n = true) ∧ Bk wr w.heap.size 27 #[.int .i64 o, .int .i64 l, .int .i64 m, .string ⟨dict.toArray⟩, .slice A fs.length cap] ∧ Below w.heap.size w wr) (fun i _ => fs.length - (intOf i).toNat)
 case atStart => exact ⟨0, rfl, by omega, fun j h hj => by omega, hK0, g0⟩
 case round =>
  obtain ⟨k, rfl, hk, HA, hK, hb⟩ := hrel
  clear hK0 g0 hX0
  have hz := hb.size
  by_cases hlt : k < fs.length
  ·have hki : (k : Int) < fs.length := by omega
   obtain ⟨g, off, rfl, hg, c0, c1⟩ := (HSL.out _ hb).fl hlt
   by_cases hls : Op.bytesLess fs[k].1 n = true
   ·have HA2 := Go.Lib.hid (Ui hlt HA.out hls)
    have hK2 := hK.alloc (.cells #[.string ⟨fs[k].1.toArray⟩, .string ⟨fs[k].2.toArray⟩] 40)
    generalize fs[k].1 = a at *
    generalize fs[k].2 = b at *
    go_wp2
    go_roundw
    case rel => exact ⟨k + 1, by go_num, by omega, HA2, hK2, zG⟩
    case measure => simp [intOf]; omega
   ·have hls2 : Op.bytesLess fs[k].1 n = false := by simpa using hls
    obtain ⟨hR, hX⟩ := HF.out k hlt HA.out hls2
    have hX := hX.symm
    subst hX
    have hN2 := (Bk.new wr #[.string ⟨fs[k].1.toArray⟩, .string ⟨fs[k].2.toArray⟩] 40)
    have hY := hN2.cell
    have hG := zI hY hN2.lt
    clear HF HE hls HA
    generalize fs[k].1 = a at *
    generalize fs[k].2 = b at *
    by_cases he : a = n
    ·have hd : decide (a = n) = true := by simpa using he
     rw [if_pos he] at hR
     subst hR
     clear he
     go_wp2_with fail
     refine wp_region_quiet_below (by kernel_rfl) (by kernel_rfl) ?_
     repeat (go_big_quiet_step ((fail)))
     refine wpQuiet_nil ?_
     intro w3 hw2
     have hb3 : Below _ _ w3 := zh hw2
     clear hw2
     go_wp2
     exact bodyPost_ret (v := .tuple #[.int .i64 (k : Int), .bool true]) (by simp [results, Tryz.results41, go_sem]) rfl ⟨rfl, (hb.alloc hz _).trans (hb3.mono (by simp; omega))⟩
    ·have hd : decide (a = n) = false := by simpa using he
     rw [if_neg he] at hR
     subst hR
     clear he
     go_wp2_with fail
     refine wp_region_quiet_below (by kernel_rfl) (by kernel_rfl) ?_
     repeat (go_big_quiet_step ((fail)))
     refine wpQuiet_nil ?_
     intro w3 hw2
     have hb3 : Below _ _ w3 := zh hw2
     clear hw2
     go_wp2
     exact bodyPost_ret (v := .tuple #[.int .i64 (k : Int), .bool false]) (by simp [results, Tryz.results41, go_sem]) rfl ⟨rfl, (hb.alloc hz _).trans (hb3.mono (by simp; omega))⟩
  ·have hki : ¬ (k : Int) < fs.length := by omega
   obtain ⟨hR, hX⟩ := HE.out k (by omega) HA.out
   subst hR hX
   have hX := hK.cell
   go_wp2
   exact bodyPost_ret (v := .tuple #[.int .i64 (fs.length : Int), .bool false]) (by simp [results, Tryz.results41, go_sem]) rfl ⟨rfl, hb⟩
theorem kG (S : Sto) (x : OpR) (X : Bs) (A : Option Addr) (cap : Nat) (w : World) (hd : S.dict.length ≤ 1500000) (hx : OpB x) (hX : X.length ≤ 1500000) :
  Calls Tryz.prog 94 #[S.V A cap, x.val, sv X] w fun e w' => e = yf (chO S x X) ∧ Below w.heap.size w w' := by
 obtain ⟨b1, b2, b3, b4, b5, b6, b7, b8, b9, b10⟩ := hx
 obtain ⟨o, l, m, dict, fs⟩ := S
 obtain ⟨k, f, t, s, nm, d⟩ := x
 obtain ⟨R, hR⟩ : ∃ R, chO ⟨o, l, m, dict, fs⟩ ⟨k, f, t, s, nm, d⟩ X = R := ⟨_, rfl⟩
 rw [hR]
 unfold chO at hR
 simp only at *
 have HR := Go.Lib.hid hR
 clear hR
 go_enter Tryz.func94, Tryz.ntmps94
 have hA : Bk ((w.alloc (.cells (Sto.C ⟨o, l, m, dict, fs⟩ A cap) 27)).alloc (.cells (OpR.cells ⟨k, f, t, s, nm, d⟩) 54)) w.heap.size 27 (Sto.C ⟨o, l, m, dict, fs⟩ A cap) := tBk
 have hO : Bk ((w.alloc (.cells (Sto.C ⟨o, l, m, dict, fs⟩ A cap) 27)).alloc (.cells (OpR.cells ⟨k, f, t, s, nm, d⟩) 54)) (w.heap.size + 1) 54 (OpR.cells ⟨k, f, t, s, nm, d⟩) := tBk
 have g0 : Below w.heap.size w ((w.alloc (.cells (Sto.C ⟨o, l, m, dict, fs⟩ A cap) 27)).alloc (.cells (OpR.cells ⟨k, f, t, s, nm, d⟩) 54)) := zG
 simp only [Sto.C, OpR.cells] at hA hO g0
 go_upto_region 1 with (fail)
 generalize (w.alloc (.cells #[.int .i64 o, .int .i64 l, .int .i64 m, .string ⟨dict.toArray⟩, .slice A fs.length cap] 27)).alloc (.cells #[.int .i64 k, .string ⟨nm.toArray⟩, .int .i64 f, .int .i64 t, .int .i64 s, .string ⟨d.toArray⟩] 54) = w0 at *
 have hXA := hA.cell
 have hXO := hO.cell
 have hlo := hO.lt
 by_cases h0 : k = 0
 ·have hE : mkC o l m dict d s = R := by rw [← HR.out, if_pos h0]
  have cM := fun w => lG o l m dict d s w (by omega) (by omega) (by omega) (by omega)
  rw [hE] at cM
  clear hE HR
  subst h0
  go_wp2_with fail
  refine (cM _).mono ?_
  rintro e w1 ⟨rfl, c1⟩
  have g1 := g0.trans (c1.mono (by omega))
  unfold yf
  go_wp2
  exact bodyPost_ret (v := .tuple #[sv (R.getD []), .bool R.isSome]) (by simp [results, Tryz.results94, go_sem]) rfl ⟨rfl, g1⟩
 have hk0 : (k == 0) = false := by simpa using h0
 by_cases h1 : k = 1
 ·have hE : apD o l m dict X d s = R := by rw [← HR.out, if_neg h0, if_pos h1]
  have cM := fun w => iU o l m dict X d s w (by omega) (by omega) (by omega) (by omega) (by omega)
  rw [hE] at cM
  clear hE HR h0 hk0
  subst h1
  go_wp2_with fail
  refine (cM _).mono ?_
  rintro e w1 ⟨rfl, c1⟩
  have g1 := g0.trans (c1.mono (by omega))
  unfold yf
  go_wp2
  exact bodyPost_ret (v := .tuple #[sv (R.getD []), .bool R.isSome]) (by simp [results, Tryz.results94, go_sem]) rfl ⟨rfl, g1⟩
 have hk1 : (k == 1) = false := by simpa using h1
 by_cases h2 : k = 2
 ·have hE : rpD o l m dict X f t d s = R := by rw [← HR.out, if_neg h0, if_neg h1, if_pos h2]
  have cM := fun w => jy o l m dict X f t d s w (by omega) (by omega) (by omega) (by omega) (by omega) (by omega) (by omega) (by omega) (by omega)
  rw [hE] at cM
  clear hE HR h0 hk0 h1 hk1
  subst h2
  go_wp2_with fail
  refine (cM _).mono ?_
  rintro e w1 ⟨rfl, c1⟩
  have g1 := g0.trans (c1.mono (by omega))
  unfold yf
  go_wp2
  exact bodyPost_ret (v := .tuple #[sv (R.getD []), .bool R.isSome]) (by simp [results, Tryz.results94, go_sem]) rfl ⟨rfl, g1⟩
 have hk2 : (k == 2) = false := by simpa using h2
 have hE : mgD o l m dict X s = R := by rw [← HR.out, if_neg h0, if_neg h1, if_neg h2]
 have cM := fun w => jS o l m dict X s w (by omega) (by omega) (by omega) (by omega)
 rw [hE] at cM
 clear hE HR h0 h1 h2
 go_wp2_with fail
 refine (cM _).mono ?_
 rintro e w1 ⟨rfl, c1⟩
 have g1 := g0.trans (c1.mono (by omega))
 unfold yf
 go_wp2
 exact bodyPost_ret (v := .tuple #[sv (R.getD []), .bool R.isSome]) (by simp [results, Tryz.results94, go_sem]) rfl ⟨rfl, g1⟩
end Go.Proofs.YtinncdollpajkaaGreat
