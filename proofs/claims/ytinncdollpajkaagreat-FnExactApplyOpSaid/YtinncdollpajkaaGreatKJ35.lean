import Derived.Test.YtinncdollpajkaaGreatKJ34
import Derived.Deep.Cut
import Derived.Test.YtinncdollpajkaaGreatKW9
import Derived.Test.YtinncdollpajkaaGreatKGU4
set_option linter.unusedVariables false
set_option linter.unusedSimpArgs false
set_option maxHeartbeats 8000000
namespace Go.Proofs.YtinncdollpajkaaGreat
open Go.RowKit
set_option maxRecDepth 100000
attribute [local go_sem high] zy zx zu zS zK yc zA zk zl zq zi zo yO zF yl zD
theorem ZQ (S : Sto) (x : OpR) (A : Option Addr) (cap : Nat) (w : World) (hs : Sl w A S.fs.length cap 2 (zQ S.fs)) (hS : S.dict.length ≤ 1500000 ∧ S.fs.length ≤ 1500000 ∧ ∀ f ∈ S.fs, f.1.length ≤ 1500000 ∧ f.2.length ≤ 1500000) (hx : x.nm.length ≤ 1500000 ∧ x.d.length ≤ 1500000) :
    Calls Tryz.prog 27 #[S.V A cap, x.val] w (StP ((aoO S x).getD wB) (aoO S x).isSome w) := by
  have hl := hS.2.1
  have hcap := hs.1
  have hcap2 := hs.2.1
  have cV : Hid (∀ wr, Below w.heap.size w wr → Calls Tryz.prog 18 #[S.V A cap] wr fun e w' => e = .returned (.bool S.okB) ∧ Below wr.heap.size wr w') := fun wr h => bg S A cap wr (hs.below h) hS.1 (by omega) hS.2.2
  have cO : Hid (∀ wr, Calls Tryz.prog 57 #[x.val] wr fun e w' => e = .returned (.bool (decide (lJ x.k x.nm x.f x.t x.s x.d))) ∧ Below wr.heap.size wr w') := fun wr => Y2 x.k x.f x.t x.s x.nm x.d wr (by omega) (by omega)
  have cP : Hid (S.okB = true → decide (lJ x.k x.nm x.f x.t x.s x.d) = true → ∀ wr, Below w.heap.size w wr → Calls Tryz.prog 58 #[S.V A cap, x.val] wr (StP ((aoO S x).getD wB) (aoO S x).isSome wr)) := fun h1 h2 wr h => by
    have h1' := (Sto.jl S).1 h1
    have h2' : x.ok := of_decide_eq_true h2
    rw [Qg h1' h2']
    exact Um S x A cap wr (hs.below h) h1' h2'
  have HN : Hid ((S.okB = false ∨ decide (lJ x.k x.nm x.f x.t x.s x.d) = false) → aoO S x = none) := fun h => by
    unfold aoO
    rw [if_neg]
    rintro ⟨h1, h2⟩
    rcases h with h | h
    · rw [h] at h1; cases h1
    · exact of_decide_eq_false h h2
  clear hs hS hx
  generalize S.okB = bv at *
  generalize decide (lJ x.k x.nm x.f x.t x.s x.d) = ov at *
  generalize aoO S x = R at *
  obtain ⟨o, l, m, dict, fs⟩ := S
  obtain ⟨k, f, t, s, nm, d⟩ := x
  simp only at *
  go_enter Tryz.func27, Tryz.ntmps27
  have hA : Bk (((w.alloc (.cells (Sto.C ⟨o, l, m, dict, fs⟩ A cap) 27)).alloc (.cells (OpR.cells ⟨k, f, t, s, nm, d⟩) 54)).alloc (.cells yV 27)) w.heap.size 27 (Sto.C ⟨o, l, m, dict, fs⟩ A cap) := tBk
  have hO : Bk (((w.alloc (.cells (Sto.C ⟨o, l, m, dict, fs⟩ A cap) 27)).alloc (.cells (OpR.cells ⟨k, f, t, s, nm, d⟩) 54)).alloc (.cells yV 27)) (w.heap.size + 1) 54 (OpR.cells ⟨k, f, t, s, nm, d⟩) := tBk
  have hB : Bk (((w.alloc (.cells (Sto.C ⟨o, l, m, dict, fs⟩ A cap) 27)).alloc (.cells (OpR.cells ⟨k, f, t, s, nm, d⟩) 54)).alloc (.cells yV 27)) (w.heap.size + 1 + 1) 27 yV := tBk
  have g0 : Below w.heap.size w (((w.alloc (.cells (Sto.C ⟨o, l, m, dict, fs⟩ A cap) 27)).alloc (.cells (OpR.cells ⟨k, f, t, s, nm, d⟩) 54)).alloc (.cells yV 27)) := zG
  simp only [Sto.C, OpR.cells] at hA hO hB g0
  go_upto_region 1 with (fail)
  generalize ((w.alloc (.cells #[.int .i64 o, .int .i64 l, .int .i64 m, .string ⟨dict.toArray⟩, .slice A fs.length cap] 27)).alloc (.cells #[.int .i64 k, .string ⟨nm.toArray⟩, .int .i64 f, .int .i64 t, .int .i64 s, .string ⟨d.toArray⟩] 54)).alloc (.cells yV 27) = w0 at *
  have z0 := g0.size
  have la := hA.lt
  have lo := hO.lt
  have lb := hB.lt
  have hXA := hA.cell
  have hXO := hO.cell
  go_wp2_with fail
  refine (cV.out _ g0).mono ?_
  rintro e w1 ⟨rfl, b1⟩
  have z1 := b1.size
  have hA1 := hA.below b1 la
  have hO1 := hO.below b1 lo
  have hB1 := hB.below b1 lb
  have g1 := g0.trans (b1.mono (by omega))
  have hXA1 := hA1.cell
  have hXO1 := hO1.cell
  have hXB1 := hB1.cell
  have hFB1 := hB1.free
  clear hA hO hB hXA hXO b1 g0 cV
  cases bv with
  | false =>
    have hR := HN.out (.inl rfl)
    subst hR
    clear HN cO cP
    go_wp2
    have Q := (rZ hB1).cell
    have gg := yD g1 (b := w.heap.size + 1 + 1) (by omega) wB none 0
    exact bodyPost_ret (v := .tuple #[Sto.V wB none 0, .bool false]) (by simp [results, Tryz.results27, go_sem, Q, Sto.V, wB]) rfl (StP.not gg)
  | true =>
  go_wp2_with fail
  refine (cO.out _).mono ?_
  rintro e w2 ⟨rfl, b2⟩
  have z2 := b2.size
  have hA2 := hA1.below b2 (by omega)
  have hO2 := hO1.below b2 (by omega)
  have hB2 := hB1.below b2 (by omega)
  have g2 := g1.trans (b2.mono (by omega))
  have hXA2 := hA2.cell
  have hXO2 := hO2.cell
  have hXB2 := hB2.cell
  have hFB2 := hB2.free
  clear hA1 hO1 hB1 hXA1 hXO1 hXB1 hFB1 b2 g1 cO
  cases ov with
  | false =>
    have hR := HN.out (.inr rfl)
    subst hR
    clear HN cP
    go_wp2
    have Q := (rZ hB2).cell
    have gg := yD g2 (b := w.heap.size + 1 + 1) (by omega) wB none 0
    exact bodyPost_ret (v := .tuple #[Sto.V wB none 0, .bool false]) (by simp [results, Tryz.results27, go_sem, Q, Sto.V, wB]) rfl (StP.not gg)
  | true =>
  have cP2 := cP.out (by first | exact rfl | exact trivial) (by first | exact rfl | exact trivial)
  clear HN cP
  generalize R.getD wB = T at *
  generalize R.isSome = tb at *
  obtain ⟨To, Tl, Tm, Td, P⟩ := T
  go_wp2_with fail
  refine (cP2 _ g2).mono ?_
  rintro e w3 ⟨A3, c3, rfl, o3, hc3, b3⟩
  obtain ⟨hc3a, hc3b⟩ := hc3
  have z3 := b3.size
  have o3 := OwC.mono (B' := w.heap.size + 3) o3 (by omega)
  have hB3 := hB2.below b3 (by omega)
  have g3 := g2.trans (b3.mono (by omega))
  simp only at o3 hc3a
  have hXB3 := hB3.cell
  have hFB3 := hB3.free
  clear hA2 hO2 hB2 hXA2 hXO2 hXB2 hFB2 b3 g2 cP2
  go_wp2
  have Q := (wX hB3 ⟨To, Tl, Tm, Td, P⟩ A3 c3).cell
  have o9 := OwC.mono (B' := w.heap.size) (OwC.stW o3 (b := w.heap.size + 1 + 1) (by omega) ⟨To, Tl, Tm, Td, P⟩ A3 c3) (by omega)
  have gg := yD g3 (b := w.heap.size + 1 + 1) (by omega) ⟨To, Tl, Tm, Td, P⟩ A3 c3
  exact bodyPost_ret (v := .tuple #[Sto.V ⟨To, Tl, Tm, Td, P⟩ A3 c3, .bool tb]) (by simp [results, Tryz.results27, go_sem, Q]) rfl ⟨A3, c3, rfl, o9, ⟨hc3a, hc3b⟩, gg⟩
theorem grown_below {w w' : World} {row : Option Nat} {B : Nat} (h : w.grownBy w' row) (hr : ∀ k, row = some k → B ≤ k) (hB : B ≤ w.heap.size) : Below B w w' := (Below.refl B w).grown h hB hr
theorem UG {w w' : World} {row : Option Nat} {A : Option Addr} {B n size : Nat} {e : TypeId} {cs : List Value} (h : OwC w B e size A n cs) (hg : w.grownBy w' row) (hne : ∀ g, A = some ⟨g, 0, none⟩ → row ≠ some g) : OwC w' B e size A n cs :=
 h.keep fun g hA => hg.block g (h.lt hA).2 (Ne.symm (hne g hA))
theorem below_grown {w w' : World} (h : Below w.heap.size w w') (row : Option Nat) : w.grownBy w' row := ⟨h.os, h.tape, h.output, h.size, fun k hk _ => h.block k hk⟩
theorem nD {a w w' : World} {row : Option Nat} (h : a.grownBy w row) (h2 : w.grownBy w' row) : a.grownBy w' row := ⟨h2.os.trans h.os, h2.tape.trans h.tape, h2.output.trans h.output, Nat.le_trans h.size h2.size, fun k hk hr => (h2.block k (Nat.lt_of_lt_of_le hk h.size) hr).trans (h.block k hk hr)⟩
theorem Za {a w : World} {g : Nat} (h : a.grownBy w (some g)) (p : Addr) (hp : p.block = g) (u : Value) : a.grownBy (w.setCell p u) (some g) :=
 ⟨h.os, h.tape, h.output, by simpa [World.setCell] using h.size, fun k hk hr => (Below.heap_setCell w p u k (by rw [hp]; intro e; exact hr (by rw [e]))).trans (h.block k hk hr)⟩
theorem OwC.lt2 {w : World} {B n size : Nat} {e : TypeId} {A : Option Addr} {cs : List Value} (h : OwC w B e size A n cs) {g off : Nat} (hA : A = some ⟨g, off, none⟩) : B ≤ g := by
 rcases h.2 with ⟨h1, _⟩ | ⟨g', cur, h1, h2, _⟩
 ·rw [hA] at h1; cases h1
 ·rw [hA] at h1; injection h1 with h1; injection h1 with h1 _ _; omega
theorem OwC.lt3 {w : World} {B n size : Nat} {e : TypeId} {A : Option Addr} {cs : List Value} (h : OwC w B e size A n cs) {g off : Nat} (hA : A = some ⟨g, off, none⟩) : g < w.heap.size := by
 rcases h.2 with ⟨h1, _⟩ | ⟨g', cur, h1, h2, _⟩
 ·rw [hA] at h1; cases h1
 ·have h3 := (h.lt h1).2
  rw [hA] at h1; injection h1 with h1; injection h1 with h1 _ _; omega
theorem Sl.Sm {w : World} {A : Option Addr} {n cap size : Nat} {cs : List Value} (h : Sl w A n cap size cs) {p : Addr} (hp : ∀ g off, A = some ⟨g, off, none⟩ → g ≠ p.block) (u : Value) : Sl (w.setCell p u) A n cap size cs := by
 obtain ⟨h1, h2, h3, h4⟩ := h
 refine ⟨h1, h2, h3, fun hn => ?_⟩
 obtain ⟨g, off, rfl, hgl, hc⟩ := h4 hn
 have hb := Below.heap_setCell w p u g (hp g off rfl)
 exact ⟨g, off, rfl, by simpa [World.setCell] using hgl, fun j u hu => (World.cell?_of_block (a := ⟨g, off + j, none⟩) hb).trans (hc j u hu)⟩
theorem aP {w : World} {b : Nat} {A : Option Addr} {n cap size : Nat} {cs : List Value} (h : Sl w A n cap size cs) (hp : ∀ g off, A = some ⟨g, off, none⟩ → g ≠ b) (S : Sto) (A' : Option Addr) (cap' : Nat) : Sl (stW w b S A' cap') A n cap size cs :=
 ((((h.Sm (p := ⟨b, 0, none⟩) hp _).Sm (p := ⟨b, 1, none⟩) hp _).Sm (p := ⟨b, 2, none⟩) hp _).Sm (p := ⟨b, 3, none⟩) hp _).Sm (p := ⟨b, 4, none⟩) hp _
theorem OwC.stF {w : World} {b B n s : Nat} {e : TypeId} {A : Option Addr} {xs : List Value} (h : OwC w B e s A n xs) (hb : ∀ g, A = some ⟨g, 0, none⟩ → g ≠ b) (S : Sto) (A' : Option Addr) (cap : Nat) : OwC (Go.Proofs.YtinncdollpajkaaGreat.stW w b S A' cap) B e s A n xs :=
 ((((h.far (p := ⟨b, 0, none⟩) hb _).far (p := ⟨b, 1, none⟩) hb _).far (p := ⟨b, 2, none⟩) hb _).far (p := ⟨b, 3, none⟩) hb _).far (p := ⟨b, 4, none⟩) hb _
def mkF (k n : Nat) : List Fl := (List.range n).map fun i => (markT (k + 2 * i), markT (k + 2 * i + 1))
theorem qZ (k n : Nat) : (mkF k n).length = n := by simp [mkF]
theorem Rq (k n i : Nat) (h : i < (mkF k n).length) : (mkF k n)[i] = (markT (k + 2 * i), markT (k + 2 * i + 1)) := by simp [mkF]
theorem TA (k n : Nat) : mkF k (n + 1) = mkF k n ++ [(markT (k + 2 * n), markT (k + 2 * n + 1))] := by simp [mkF, List.range_succ]
def lD (fs : List Fl) (k j : Nat) : List Fl := mkF k j ++ fs.drop j
theorem UA (fs : List Fl) (k : Nat) : lD fs k 0 = fs := by simp [lD, mkF]
theorem VO (fs : List Fl) (k : Nat) : lD fs k fs.length = mkF k fs.length := by simp [lD]
theorem Xt (fs : List Fl) (k j : Nat) (h : j ≤ fs.length) : (lD fs k j).length = fs.length := by unfold lD; rw [List.length_append, qZ, List.length_drop]; omega
theorem U8 (fs : List Fl) (k j : Nat) (h : j < fs.length) : (lD fs k j).set j (markT (k + 2 * j), markT (k + 2 * j + 1)) = lD fs k (j + 1) := by
 unfold lD
 rw [List.set_append_right _ _ (by rw [qZ]; omega), qZ, Nat.sub_self, List.drop_eq_getElem_cons h, List.set_cons_zero, TA, List.append_assoc]; rfl
theorem Uc (fs : List Fl) (p : Nat) (hp : p < fs.length) (a b : Bs) : ((zQ fs).set (p * 2) (.string ⟨a.toArray⟩)).set (p * 2 + 1) (.string ⟨b.toArray⟩) = zQ (fs.set p (a, b)) := by
 have e : fs = fs.take p ++ (fs[p] :: fs.drop (p + 1)) := by rw [List.getElem_cons_drop, List.take_append_drop]
 have e2 : fs.set p (a, b) = fs.take p ++ ((a, b) :: fs.drop (p + 1)) := by rw [List.set_eq_take_append_cons_drop, if_pos hp]
 rw [e2]
 conv => lhs; rw [e]
 have hl : (zQ (fs.take p)).length = p * 2 := by rw [xn, List.length_take]; omega
 rw [tH, tH, List.set_append_right _ _ (by omega), hl, Nat.sub_self, List.set_append_right _ _ (by omega), hl, show p * 2 + 1 - p * 2 = 1 by omega]
 rfl
theorem az (fs : List Fl) (k : Nat) (A : Option Addr) (cap B : Nat) (w : World) (ho : OwC w B 40 2 A fs.length (zQ fs)) (hc : fs.length ≤ cap) (hc2 : cap ≤ 9223372036854775807) (hl : fs.length ≤ 1500000) (hk : k ≤ 1000) :
  Calls Tryz.prog 61 #[.slice A fs.length cap, .int .i64 (k : Int)] w fun e w' => e = .returned (.int .i64 ((k + 2 * fs.length : Nat) : Int)) ∧ OwC w' B 40 2 A fs.length (zQ (mkF k fs.length)) ∧ w.grownBy w' (Value.ownBlock (.slice A fs.length cap)) := by
 go_enter Tryz.func61, Tryz.ntmps61
 go_wp2
 go_loopw [1, 5] (fun a i wr => ∃ j : Nat, a = .int .i64 ((k + 2 * j : Nat) : Int) ∧ i = .int .i64 (j : Int) ∧ j ≤ fs.length ∧ OwC wr B 40 2 A fs.length (zQ (lD fs k j)) ∧ w.grownBy wr (Value.ownBlock (.slice A fs.length cap))) (fun _ i _ => fs.length - (intOf i).toNat)
 case atStart => exact ⟨0, by simp, rfl, by omega, by rw [UA]; exact ho, World.grownBy.refl w _⟩
 case round =>
  obtain ⟨j, rfl, rfl, hj, hown, hb⟩ := hrel
  have hz := hb.size
  by_cases hlt : j < fs.length
  ·have hji : (j : Int) < fs.length := by omega
   obtain ⟨q, rfl, hq1, hq2⟩ := hown.form (by omega)
   have hml := Xt fs k j hj
   have hat := nY (lD fs k j) j (by omega)
   have hst := Uc (lD fs k j) j (by omega) (markT (k + 2 * j)) (markT (k + 2 * j + 1))
   rw [U8 fs k j hlt] at hst
   have HST := Go.Lib.hid hst
   obtain ⟨u, hu⟩ : ∃ u, (zQ (lD fs k j))[j * 2 + 0]? = some u := ⟨_, hat.1⟩
   obtain ⟨v, hv⟩ : ∃ v, (zQ (lD fs k j))[j * 2 + 1]? = some v := ⟨_, hat.2⟩
   simp only [Nat.add_zero] at hu
   generalize zQ (lD fs k j) = M at *
   clear hst hat hml
   obtain ⟨kk, hkk⟩ : ∃ kk : Nat, k + 2 * j = kk := ⟨_, rfl⟩
   rw [hkk] at HST
   have hkb : kk ≤ 4000000 := by omega
   have cT := fun w => su kk w (by omega)
   have cT1 := fun w => su (kk + 1) w (by omega)
   have hkk1 : ((kk + 1 : Nat) : Int) = (kk : Int) + 1 := by omega
   rw [hkk1] at cT1
   rw [hkk]
   have HEND : Hid (((k + 2 * (j + 1) : Nat) : Int) = (kk : Int) + 2) := by show _ = _; omega
   generalize markT kk = T0 at *
   generalize markT (kk + 1) = T1 at *
   clear hkk hkk1
   go_wp2_with fail
   refine (cT _).mono ?_
   rintro e w2 ⟨rfl, hb2⟩
   have hz2 := hb2.size
   have o2 := hown.below hb2
   have b2 := nD hb (below_grown hb2 _)
   have c0 := o2.cell rfl (j * 2) u hu
   have f0 := o2.free rfl (j * 2)
   have o3 := o2.stored rfl (j * 2) (.string ⟨T0.toArray⟩)
   have b3 := Za b2 ⟨q, j * 2, none⟩ rfl (.string ⟨T0.toArray⟩)
   have hsz : (w2.setCell ⟨q, j * 2, none⟩ (.string ⟨T0.toArray⟩)).heap.size = w2.heap.size := by simp
   go_upto_region 5 with (fail)
   generalize w2.setCell ⟨q, j * 2, none⟩ (.string ⟨T0.toArray⟩) = W at *
   clear hown hb c0 f0 hu o2 b2 hb2 cT
   go_wp2_with fail
   refine (cT1 _).mono ?_
   rintro e w4 ⟨rfl, hb4⟩
   have hz4 := hb4.size
   have o4 := o3.below hb4
   have b4 := nD b3 (below_grown hb4 _)
   have hv2 : (M.set (j * 2) (.string ⟨T0.toArray⟩))[j * 2 + 1]? = some v := by rw [List.getElem?_set_ne (by omega)]; exact hv
   have c1 := o4.cell rfl (j * 2 + 1) v hv2
   have f1 := o4.free rfl (j * 2 + 1)
   have o5 := o4.stored rfl (j * 2 + 1) (.string ⟨T1.toArray⟩)
   rw [HST.out] at o5
   have b5 := Za b4 ⟨q, j * 2 + 1, none⟩ rfl (.string ⟨T1.toArray⟩)
   have HH := Go.Lib.hid (And.intro o5 b5)
   clear hb4 o3 o4 o5 b3 b4 b5 hv hv2 cT1
   go_wp2
   go_roundw
   case rel => exact ⟨j + 1, (by rw [HEND.out]; go_num), by go_num, by omega, HH.out.1, HH.out.2⟩
   case measure => simp [intOf]; omega
  ·have hji : ¬ (j : Int) < fs.length := by omega
   have e : j = fs.length := by omega
   subst e
   rw [VO] at hown
   go_wp2
   go_ret
   exact ⟨rfl, hown, hb⟩
theorem ag (n k : Nat) (A : Option Addr) (cap : Nat) (w : World) (hs : Sl w A n cap 2 (zQ (mkF k n))) (hn : n ≤ 1500000) (hk : k ≤ 1000) :
  Calls Tryz.prog 62 #[.slice A n cap, .int .i64 (k : Int)] w fun e w' => e = .returned (.int .i64 ((k + 2 * n : Nat) : Int)) ∧ Below w.heap.size w w' := by
 have hcap := hs.1
 have hcap2 := hs.2.1
 have hml := qZ k n
 have HS : Hid (∀ wr, Below w.heap.size w wr → Sl wr A (mkF k n).length cap 2 (zQ (mkF k n))) := fun wr h => by rw [hml]; exact hs.below h
 have HL := Go.Lib.hid hml
 clear hs hml
 go_enter Tryz.func62, Tryz.ntmps62
 go_wp2
 go_loopw [1, 5] (fun a i wr => ∃ j : Nat, a = .int .i64 ((k + 2 * j : Nat) : Int) ∧ i = .int .i64 (j : Int) ∧ j ≤ n ∧ Below w.heap.size w wr) (fun _ i _ => n - (intOf i).toNat)
 case atStart => exact ⟨0, by simp, rfl, by omega, Below.refl _ _⟩
 case round =>
  obtain ⟨j, rfl, rfl, hj, hb⟩ := hrel
  have hz := hb.size
  by_cases hlt : j < n
  ·have hji : (j : Int) < n := by omega
   have hlt2 : j < (mkF k n).length := by rw [HL.out]; exact hlt
   obtain ⟨g, off, rfl, hg, c0, c1⟩ := (HS.out wr hb).fl hlt2
   rw [Rq k n j hlt2] at c0 c1
   obtain ⟨kk, hkk⟩ : ∃ kk : Nat, k + 2 * j = kk := ⟨_, rfl⟩
   rw [hkk] at c0 c1
   have hkb : kk ≤ 4000000 := by omega
   have cT := fun w => su kk w (by omega)
   have cT1 := fun w => su (kk + 1) w (by omega)
   have hkk1 : ((kk + 1 : Nat) : Int) = (kk : Int) + 1 := by omega
   rw [hkk1] at cT1
   rw [hkk]
   have HEND : Hid (((k + 2 * (j + 1) : Nat) : Int) = (kk : Int) + 2) := by show _ = _; omega
   simp only at c0 c1
   generalize markT kk = T0 at *
   generalize markT (kk + 1) = T1 at *
   have C0 := fun d os => cell_regrown c0 d os
   clear hkk hkk1
   go_wp2_with fail
   refine wp_region_quiet_below (by kernel_rfl) (by kernel_rfl) ?_
   repeat (go_big_quiet_step ((go_at_call 97; exact Calls.regrown_of (cT _))))
   refine wpQuiet_nil ?_
   intro w2 hw2
   have hb2 : Below _ _ w2 := zh hw2
   clear hw2
   have hz2 := hb2.size
   have d1 := (hb2.cell (p := ⟨g, off + j * 2 + 1, none⟩) hg).trans c1
   have C1 := fun d os => cell_regrown d1 d os
   clear C0 c0 c1
   go_wp2_with fail
   refine wp_region_quiet_below (by kernel_rfl) (by kernel_rfl) ?_
   repeat (go_big_quiet_step ((go_at_call 97; exact Calls.regrown_of (cT1 _))))
   refine wpQuiet_nil ?_
   intro w3 hw2
   have hb3 : Below _ _ w3 := zh hw2
   clear hw2
   have g3 := (hb.trans (hb2.mono hz)).trans (hb3.mono (by omega))
   go_wp2
   go_roundw
   case rel => exact ⟨j + 1, (by rw [HEND.out]; go_num), by go_num, by omega, g3⟩
   case measure => simp [intOf]; omega
  ·have hji : ¬ (j : Int) < n := by omega
   have e : j = n := by omega
   subst e
   go_wp2
   go_ret
   exact ⟨rfl, hb⟩
theorem mF (o l m : Int) (dict : Bs) (fs : List Fl) (k : Nat) (A : Option Addr) (cap B : Nat) (w : World) (ho : OwC w B 40 2 A fs.length (zQ fs)) (hc : fs.length ≤ cap) (hc2 : cap ≤ 9223372036854775807) (hl : fs.length ≤ 1500000) (hk : k ≤ 1000) :
  Calls Tryz.prog 29 #[.agg #[.int .i64 o, .int .i64 l, .int .i64 m, .string ⟨dict.toArray⟩, .slice A fs.length cap], .int .i64 (k : Int)] w fun e w' => e = .returned (.int .i64 ((k + 2 * fs.length : Nat) : Int)) ∧ OwC w' B 40 2 A fs.length (zQ (mkF k fs.length)) ∧ w.grownBy w' (Value.ownBlock (.slice A fs.length cap)) := by
 have cM := fun wr h => az fs k A cap B wr h hc hc2 hl hk
 go_enter Tryz.func29, Tryz.ntmps29
 have o1 := ho.alloc (.cells #[.int .i64 o, .int .i64 l, .int .i64 m, .string ⟨dict.toArray⟩, .slice A fs.length cap] 27)
 go_wp2_with fail
 refine (cM _ o1).mono ?_
 rintro e w2 ⟨rfl, o2, g2⟩
 have g3 := nD (below_grown ((Below.refl w.heap.size w).alloc (Nat.le_refl _) (.cells #[.int .i64 o, .int .i64 l, .int .i64 m, .string ⟨dict.toArray⟩, .slice A fs.length cap] 27)) _) g2
 go_wp2
 go_ret
 exact ⟨rfl, o2, g3⟩
theorem bY (o l m : Int) (dict : Bs) (n k : Nat) (A : Option Addr) (cap : Nat) (w : World) (hs : Sl w A n cap 2 (zQ (mkF k n))) (hn : n ≤ 1500000) (hk : k ≤ 1000) :
  Calls Tryz.prog 30 #[.agg #[.int .i64 o, .int .i64 l, .int .i64 m, .string ⟨dict.toArray⟩, .slice A n cap], .int .i64 (k : Int)] w fun e w' => e = .returned (.int .i64 ((k + 2 * n : Nat) : Int)) ∧ Below w.heap.size w w' := by
 have cM := fun wr h => ag n k A cap wr h hn hk
 obtain ⟨q, hq⟩ : ∃ q : Nat, k + 2 * n = q := ⟨_, rfl⟩
 rw [hq] at cM ⊢
 have hq0 : ¬ (q : Int) < 0 := by omega
 clear hq
 go_enter Tryz.func30, Tryz.ntmps30
 have s1 := hs.alloc (.cells #[.int .i64 o, .int .i64 l, .int .i64 m, .string ⟨dict.toArray⟩, .slice A n cap] 27)
 have b1 : Below w.heap.size w (w.alloc (.cells #[.int .i64 o, .int .i64 l, .int .i64 m, .string ⟨dict.toArray⟩, .slice A n cap] 27)) := zG
 go_wp2_with fail
 refine (cM _ s1).mono ?_
 rintro e w2 ⟨rfl, b2⟩
 have b3 := b1.trans (b2.mono (by simp))
 go_wp2
 go_ret
 exact ⟨rfl, b3⟩
theorem Uz (k f t s : Int) (nm d : Bs) (n : Nat) (w : World) (hn0 : n ≤ 1048576) (hn : nm.length ≤ 9223372036854775807) (hd : d.length ≤ 9223372036854775807) :
  Calls Tryz.prog 23 #[.agg #[.int .i64 k, .string ⟨nm.toArray⟩, .int .i64 f, .int .i64 t, .int .i64 s, .string ⟨d.toArray⟩], .int .i64 (n : Int)] w fun e w' => (∃ r : Int, e = .returned (.int .i64 r) ∧ (0 ≤ r → nm.length ≤ 1048576 ∧ d.length ≤ 1048576)) ∧ Below w.heap.size w w' := by
 go_enter Tryz.func23, Tryz.ntmps23
 go_wp2
 all_goals go_ret
 all_goals refine ⟨⟨_, rfl, by intro h; first | (exfalso; omega) | omega⟩, (Below.refl _ _).alloc (Nat.le_refl _) _⟩
end Go.Proofs.YtinncdollpajkaaGreat
